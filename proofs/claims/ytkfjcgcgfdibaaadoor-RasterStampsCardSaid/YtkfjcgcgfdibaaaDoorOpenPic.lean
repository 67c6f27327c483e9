/- An argument that is a picture, or a row of pixels, opened. -/
import Derived.Test.YtkfjcgcgfdibaaaDoorPxs
import Derived.Test.YtkfjcgcgfdibaaaDoorOpen
import Derived.Lib.SmallJoins
namespace Go.Proofs.YtkfjcgcgfdibaaaDoor
open Go.ChangeShapes Go.WideShapes Go.RowKit Go.Deep Go.Joins
set_option maxRecDepth 100000
theorem pix_field {H : Type} {enc : TypeId × Value → H} {w : World} {base : Nat} {spare : Nat → Bool} {held : Bool} {n : Nat} {v : Value} {y : DataW H × List MemPlace} (h : DataW.trod enc Tryd.prog w base spare held n 5 [v] = some y) : ∃ k : Int, v = .int .u8 k ∧ Pix.Byte k := by
  obtain ⟨k, e, _, wf⟩ := DataW.trod_int Tryd.underlying5 h
  simp only [List.cons.injEq, and_true] at e
  exact ⟨k, e, bounds_u8 wf⟩
theorem open_pxs {H : Type} {enc : TypeId × Value → H} {w : World} {base : Nat} {spare : Nat → Bool} {held : Bool} {fuel : Nat} {cs : List Value} {x : DataW H × List MemPlace}
    (h : DataW.trod enc Tryd.prog w base spare held fuel 22 cs = some x) : ∃ (a : Option Addr) (n cap : Nat) (px : Nat → P4), cs = [.slice a n cap] ∧ n ≤ maxLen ∧ (a = none → cap = 0) ∧ Pxs w a n px := by
  rcases open_recs Tryd.underlying22 Tryd.underlying36 (by kernel_rfl) (show Tryd.prog.cellsOf 36 = _ by kernel_rfl) h with rfl | ⟨a, n, cap, rfl, hn, hc, hf⟩
  · exact ⟨none, 0, 0, fun _ => P4.zero, rfl, Nat.zero_le _, fun _ => rfl, fun _ => rfl, fun a h => by cases h⟩
  · have key : ∀ i, i < n → ∃ p : P4, w.cell? (a.add (i * 4)) = some (.int .u8 p.r) ∧ w.cell? ⟨(a.add (i * 4)).block, (a.add (i * 4)).off + 1, none⟩ = some (.int .u8 p.g) ∧ w.cell? ⟨(a.add (i * 4)).block, (a.add (i * 4)).off + 2, none⟩ = some (.int .u8 p.b) ∧ w.cell? ⟨(a.add (i * 4)).block, (a.add (i * 4)).off + 3, none⟩ = some (.int .u8 p.a) ∧ p.Ok := by
      intro i hi
      obtain ⟨v0, y0, n0, c0, t0⟩ := hf i hi 0 _ rfl
      obtain ⟨v1, y1, n1, c1, t1⟩ := hf i hi 1 _ rfl
      obtain ⟨v2, y2, n2, c2, t2⟩ := hf i hi 2 _ rfl
      obtain ⟨v3, y3, n3, c3, t3⟩ := hf i hi 3 _ rfl
      obtain ⟨k0, rfl, b0⟩ := pix_field t0
      obtain ⟨k1, rfl, b1⟩ := pix_field t1
      obtain ⟨k2, rfl, b2⟩ := pix_field t2
      obtain ⟨k3, rfl, b3⟩ := pix_field t3
      exact ⟨⟨k0, k1, k2, k3⟩, c0, cell_add (by decide) c1, cell_add (by decide) c2, cell_add (by decide) c3, ⟨b0, b1, b2, b3⟩⟩
    haveI : Inhabited P4 := ⟨P4.zero⟩
    obtain ⟨px, hpx⟩ := Go.Deep.choose_lt (α := P4) key
    exact ⟨some a, n, cap, px, rfl, by omega, (fun h => by cases h), (fun h => by cases h), fun a' ha i hi => by injection ha with ha; subst ha; exact hpx i hi⟩
theorem open_pic {H : Type} {enc : TypeId × Value → H} {w : World} {base b0 : Nat} {r : Reach} {spare : Nat → Bool} {held : Bool} {v : Value} {d : DataW H} {pl : List MemPlace}
    (hv : Value.okWide Tryd.prog w r b0 24 v) (h : DataW.Trod enc Tryd.prog w base spare held 24 v d pl) :
    ∃ (W Hh : Int) (a : Option Addr) (n cap : Nat) (px : Nat → P4), v = .agg #[.int .i64 W, .int .i64 Hh, .slice a n cap] ∧ (-9223372036854775808 ≤ W ∧ W ≤ 9223372036854775807) ∧ (-9223372036854775808 ≤ Hh ∧ Hh ≤ 9223372036854775807) ∧ n ≤ maxLen ∧ (a = none → cap = 0) ∧ Pxs w a n px := by
  obtain ⟨v0, v1, v2, y0, y1, y2, m, rfl, _, _, t0, t1, t2⟩ := open_agg3 Tryd.underlying24 (by kernel_rfl) (show Tryd.prog.cellsOf 24 = 3 by kernel_rfl) hv h
  obtain ⟨W, e0, _, w0⟩ := DataW.trod_int Tryd.underlying3 t0
  obtain ⟨Hh, e1, _, w1⟩ := DataW.trod_int Tryd.underlying3 t1
  obtain ⟨a, n, cap, px, e2, hn, hc, hp⟩ := open_pxs t2
  simp only [List.cons.injEq, and_true] at e0 e1 e2
  subst e0; subst e1; subst e2
  exact ⟨W, Hh, a, n, cap, px, rfl, bounds_i64 w0, bounds_i64 w1, hn, hc, hp⟩
end Go.Proofs.YtkfjcgcgfdibaaaDoor
