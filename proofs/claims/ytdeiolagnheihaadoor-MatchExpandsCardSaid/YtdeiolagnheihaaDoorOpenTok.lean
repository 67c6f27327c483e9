/- An argument that is a row of tokens, opened. -/
import Derived.Test.YtdeiolagnheihaaDoorExp
import Derived.Test.YtdeiolagnheihaaDoorOpen
import Derived.Lib.SmallJoins
namespace Go.Proofs.YtdeiolagnheihaaDoor
open Go.ChangeShapes Go.WideShapes Go.RowKit Go.Deep Go.Joins
set_option maxRecDepth 100000
theorem tok_byte {H : Type} {enc : TypeId × Value → H} {w : World} {base : Nat} {spare : Nat → Bool} {held : Bool} {n : Nat} {v : Value} {y : DataW H × List MemPlace} (h : DataW.trod enc Tryd.prog w base spare held n 5 [v] = some y) : ∃ b : UInt8, v = .int .u8 (b.toNat : Int) := by
  obtain ⟨k, e, _, wf⟩ := DataW.trod_int Tryd.underlying5 h
  simp only [List.cons.injEq, and_true] at e
  obtain ⟨h0, h1⟩ := bounds_u8 wf
  refine ⟨UInt8.ofNat k.toNat, ?_⟩
  rw [e, UInt8.toNat_ofNat']
  exact congrArg (Value.int .u8) (by omega)
theorem tok_int {H : Type} {enc : TypeId × Value → H} {w : World} {base : Nat} {spare : Nat → Bool} {held : Bool} {n : Nat} {v : Value} {y : DataW H × List MemPlace} (h : DataW.trod enc Tryd.prog w base spare held n 3 [v] = some y) : ∃ k : Int, v = .int .i64 k ∧ -9223372036854775808 ≤ k ∧ k ≤ 9223372036854775807 := by
  obtain ⟨k, e, _, wf⟩ := DataW.trod_int Tryd.underlying3 h
  simp only [List.cons.injEq, and_true] at e
  exact ⟨k, e, bounds_i64 wf⟩
theorem open_toks {H : Type} {enc : TypeId × Value → H} {w : World} {base : Nat} {spare : Nat → Bool} {held : Bool} {v : Value} {d : DataW H} {pl : List MemPlace}
    (h : DataW.Trod enc Tryd.prog w base spare held 46 v d pl) (hv : ∃ x len cap, v = .slice x len cap) :
    ∃ (a : Option Addr) (n cap : Nat) (tk : Nat → Tk), v = .slice a n cap ∧ n ≤ maxLen ∧ (a = none → cap = 0) ∧ Toks w a n tk := by
  obtain ⟨x, len, cap, rfl⟩ := hv
  obtain ⟨fuel, hf⟩ := h
  rcases open_recs Tryd.underlying46 Tryd.underlying57 (by kernel_rfl) (show Tryd.prog.cellsOf 57 = _ by kernel_rfl) hf with h0 | ⟨a, n, c, h0, hn, hc, hf⟩
  · simp [Value.cells] at h0
    obtain ⟨rfl, rfl, rfl⟩ := h0
    exact ⟨none, 0, 0, fun _ => ⟨0, 0, 0⟩, rfl, Nat.zero_le _, fun _ => rfl, fun _ => rfl, fun a h => by cases h⟩
  · simp [Value.cells] at h0
    obtain ⟨rfl, rfl, rfl⟩ := h0
    have key : ∀ i, i < len → ∃ p : Tk, w.cell? (a.add (i * 3)) = some (.int .u8 (p.b.toNat : Int)) ∧ w.cell? ⟨(a.add (i * 3)).block, (a.add (i * 3)).off + 1, none⟩ = some (.int .i64 p.l) ∧ w.cell? ⟨(a.add (i * 3)).block, (a.add (i * 3)).off + 2, none⟩ = some (.int .i64 p.d) ∧ p.Ok := by
      intro i hi
      obtain ⟨v0, y0, n0, c0, t0⟩ := hf i hi 0 _ rfl
      obtain ⟨v1, y1, n1, c1, t1⟩ := hf i hi 1 _ rfl
      obtain ⟨v2, y2, n2, c2, t2⟩ := hf i hi 2 _ rfl
      obtain ⟨k0, rfl⟩ := tok_byte t0
      obtain ⟨k1, rfl, b1⟩ := tok_int t1
      obtain ⟨k2, rfl, b2⟩ := tok_int t2
      exact ⟨⟨k0, k1, k2⟩, c0, cell_add (by decide) c1, cell_add (by decide) c2, ⟨b1, b2⟩⟩
    haveI : Inhabited Tk := ⟨⟨0, 0, 0⟩⟩
    obtain ⟨tk, htk⟩ := Go.Deep.choose_lt (α := Tk) key
    exact ⟨some a, len, cap, tk, rfl, by omega, (fun h => by cases h), (fun h => by cases h), fun a' ha i hi => by injection ha with ha; subst ha; exact htk i hi⟩
end Go.Proofs.YtdeiolagnheihaaDoor
