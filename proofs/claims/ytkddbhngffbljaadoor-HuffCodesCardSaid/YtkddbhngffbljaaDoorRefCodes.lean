/- The document's words of lengths. -/
import Derived.Test.YtkddbhngffbljaaDoorRefValid
import Derived.Test.YtkddbhngffbljaaDoorRefBits
import Derived.Test.YtkddbhngffbljaaDoorCellsV

namespace Go.Proofs.YtkddbhngffbljaaDoor
open Go.RowKit
set_option maxRecDepth 100000
theorem strinfo : (Tryd.prog.info? 9).map (fun i => (i.zero, i.size, i.bytes)) = some (some (.string ⟨#[]⟩), 1, 16) := by kernel_rfl
/-- where the document's count of words stands: at length n, element i, the last word had length l and number c -/
def CodeAt (f : Nat → Int) (len n i l c : Nat) : Prop :=
  l ≤ n ∧ c < 32768 ∧ (l = 0 → c = 0 ∧ first f len n + many f n i = 0) ∧ (0 < l → first f len n + many f n i = (c + 1) * 2 ^ (n - l))
theorem CodeAt.skip {f : Nat → Int} {len n i l c : Nat} (h : CodeAt f len n i l c) (hf : ¬ f i = n) : CodeAt f len n (i + 1) l c := by
  unfold CodeAt at *; rw [many_not f n i hf]; exact h
theorem CodeAt.next {f : Nat → Int} {len n l c : Nat} (h : CodeAt f len n len l c) (hn : 1 ≤ n) : CodeAt f len (n + 1) 0 l c := by
  obtain ⟨h1, h2, h3, h4⟩ := h
  refine ⟨by omega, h2, fun q => ?_, fun q => ?_⟩
  · obtain ⟨q1, q2⟩ := h3 q
    refine ⟨q1, ?_⟩
    rw [first_succ f len n hn, q2]; rfl
  · have q2 := h4 q
    rw [first_succ f len n hn, q2, show many f (n + 1) 0 = 0 from rfl, Nat.add_zero, show n + 1 - l = (n - l) + 1 by omega, Nat.pow_succ, Nat.mul_assoc]
theorem CodeAt.start (f : Nat → Int) (len : Nat) : CodeAt f len 1 0 0 0 := ⟨by omega, by omega, fun _ => ⟨rfl, rfl⟩, fun h => by omega⟩
/-- the word of element i, of length n -/
theorem CodeAt.hit {f : Nat → Int} {len n i l c : Nat} (_h : CodeAt f len n i l c) (hf : f i = n) (hn : 1 ≤ n) (hw : first f len n + many f n i < 32768) :
    CodeAt f len n (i + 1) n (first f len n + many f n i) ∧ word f len i = first f len n + many f n i := by
  refine ⟨⟨by omega, hw, fun q => by omega, fun _ => ?_⟩, ?_⟩
  · rw [many_at f n i hf, Nat.sub_self, Nat.pow_zero]; omega
  · unfold word; rw [if_pos (by omega), hf]; rfl
def outAt (f : Nat → Int) (len n i j : Nat) : Value := if 1 ≤ f j ∧ (f j < n ∨ (f j = n ∧ j < i)) then .string (bs (Bts.high (word f len j) (f j).toNat)) else .string (bs [])
set_option maxHeartbeats 4000000 in
theorem codesOf_any (x : Option Addr) (len cap : Nat) (f : Nat → Int) (w : World) (hx : Ints w x len f) (hb : inBounds f len) (hc : complete f len) :
    Calls Tryd.prog 37 #[.slice x len cap] w fun e w' => (∃ B, w.heap.size ≤ B ∧ e = .returned (.slice (some ⟨B, 0, none⟩) len len) ∧ Cv w' B len (fun i => .string (bs (Bts.high (word f len i) (f i).toNat)))) ∧ Ext w w' := by
  have hl := hb.1
  have HX := Lib.hid hx
  have HB := Lib.hid hb
  have HC := Lib.hid hc
  have hmk := fun w => run_make_row' (P := Tryd.prog) 55 9 (.string ⟨#[]⟩) 16 Tryd.underlying55 strinfo rfl .i64 .i64 len (by omega) (by omega) w
  clear hx hb hc
  go_enter Tryd.func37, Tryd.ntmps37
  go_wp2_with fail
  clear hmk
  have HR0 : Hid (Cv (w.alloc (.cells (madeCells #[.string ⟨#[]⟩] len) 9)) w.heap.size len (outAt f len 1 0)) := Lib.hid ((Cv.made w len _ _).congr (fun j hj => by
    unfold outAt
    rw [if_neg (by omega)]
    exact congrArg Value.string bs_nil.symm))
  have HX0 : Hid (Ext w (w.alloc (.cells (madeCells #[.string ⟨#[]⟩] len) 9))) := Lib.hid ((Ext.refl w).alloc _)
  go_loopw [4, 5, 6] (fun u v q wr => ∃ n l c : Nat, 1 ≤ n ∧ n ≤ 16 ∧ q = .int .i64 n ∧ v = .int .i64 l ∧ u = .int .u32 c ∧ Hid (CodeAt f len n 0 l c) ∧ Hid (Cv wr w.heap.size len (outAt f len n 0)) ∧ Hid (Ext w wr)) (fun _ _ q _ => 16 - (intOf q).toNat)
  case atStart => exact ⟨1, 0, 0, by omega, by omega, rfl, rfl, rfl, Lib.hid (CodeAt.start f len), HR0, HX0⟩
  case round =>
    obtain ⟨n, l, c, hn1, hn2, rfl, rfl, rfl, HCA, HR, HE⟩ := hrel
    by_cases hlt : n < 16
    · have tn : decide ((n : Int) ≤ 15) = true := decide_eq_true (by omega)
      go_wp2_with fail
      go_loopw [4, 5, 7] (fun u v q wr => ∃ i l c : Nat, i ≤ len ∧ q = .int .i64 i ∧ v = .int .i64 l ∧ u = .int .u32 c ∧ Hid (CodeAt f len n i l c) ∧ Hid (Cv wr w.heap.size len (outAt f len n i)) ∧ Hid (Ext w wr)) (fun _ _ q _ => len - (intOf q).toNat)
      case atStart => exact ⟨0, l, c, by omega, rfl, rfl, rfl, HCA, HR, HE⟩
      case round =>
        clear HCA HR HE
        obtain ⟨i, l, c, hi, rfl, rfl, rfl, HCA, HR, HE⟩ := hrel
        by_cases hil : i < len
        · obtain ⟨a, rfl⟩ : ∃ a, x = some a := by
            cases x with
            | none => have := HX.out.1 rfl; omega
            | some a => exact ⟨a, rfl⟩
          obtain ⟨hcell, f1, f2⟩ := (HX.out.ext HE.out).2 a rfl i hil
          by_cases hfn : f i = n
          · have hwl := word_lt f len HC.out i n hil hfn hn1 (by omega)
            obtain ⟨W, hW⟩ : ∃ W, first f len n + many f n i = W := ⟨_, rfl⟩
            have hW15 : W < 32768 := by omega
            have hhit := CodeAt.hit HCA.out hfn hn1 (by omega)
            rw [hW] at hhit
            have HCA2 := Lib.hid hhit.1
            have HW := Lib.hid hhit.2
            have hln := HCA.out.1
            have hc15 := HCA.out.2.1
            have HR2 : Hid (∀ wz, Cv wz w.heap.size len (outAt f len n i) → Cv (wz.setCell ⟨w.heap.size, i, none⟩ (.string (bs (Bts.high W n)))) w.heap.size len (outAt f len n (i + 1))) := Lib.hid (fun wz hz => hz.put i _ _ hil (fun j _ => by
              unfold outAt
              by_cases hj : j = i
              · subst hj; rw [if_pos (by omega), if_pos rfl, HW.out, hfn]; rfl
              · rw [if_neg hj]
                by_cases h2 : 1 ≤ f j ∧ (f j < n ∨ (f j = n ∧ j < i))
                · rw [if_pos h2, if_pos (by omega)]
                · rw [if_neg h2, if_neg (by omega)]))
            have t1 : ((f i) != (n : Int)) = false := by rw [hfn]; simp
            rw [hfn] at hcell t1
            by_cases hl0 : l = 0
            · have hW0 : W = 0 := by rw [← hW]; exact (HCA.out.2.2.1 hl0).2
              have hc0 : c = 0 := (HCA.out.2.2.1 hl0).1
              obtain rfl : W = c := by omega
              have t2 : decide ((0 : Int) < (l : Int)) = false := decide_eq_false (by omega)
              have hlz : l ≤ 0 := by omega
              clear hwl hW hfn hhit f1 f2 hl0 hc0 hW0
              go_wp2_with fail
              refine (high_any W n (by omega) (by omega) _).mono ?_
              rintro e w5 ⟨rfl, h5⟩
              have HE5 := Lib.hid (HE.out.trans h5)
              have HR5 := Lib.hid (HR.out.ext h5)
              obtain ⟨c5, z5⟩ := HR5.out i hil
              clear h5 hcell
              go_wp2_with fail
              go_roundw
              case rel => exact ⟨i + 1, n, W, by omega, by go_num, rfl, rfl, HCA2, Lib.hid (HR2.out _ HR5.out), Lib.hid (Below.setCell HE5.out (by simp) _)⟩
              case measure => first | (simp [intOf]; done) | (simp [intOf]; omega)
            · have hWe : W = (c + 1) * 2 ^ (n - l) := by rw [← hW]; exact HCA.out.2.2.2 (by omega)
              obtain ⟨d, hd⟩ : ∃ d, n - l = d := ⟨_, rfl⟩
              have hd2 : (n : Int) - (l : Int) = (d : Int) := by omega
              rw [hd] at hWe
              have hm : ((c : Int) + 1) * 2 ^ d = (W : Int) := by rw [hWe]; simp
              have hlp : 0 < l := by omega
              clear hwl hW hfn hhit f1 f2 hd hWe hl0
              go_wp2_with fail
              refine (high_any W n (by omega) (by omega) _).mono ?_
              rintro e w5 ⟨rfl, h5⟩
              have HE5 := Lib.hid (HE.out.trans h5)
              have HR5 := Lib.hid (HR.out.ext h5)
              obtain ⟨c5, z5⟩ := HR5.out i hil
              clear h5 hcell
              go_wp2_with fail
              go_roundw
              case rel => exact ⟨i + 1, n, W, by omega, by go_num, rfl, rfl, HCA2, Lib.hid (HR2.out _ HR5.out), Lib.hid (Below.setCell HE5.out (by simp) _)⟩
              case measure => first | (simp [intOf]; done) | (simp [intOf]; omega)
          · have t1 : ((f i) != (n : Int)) = true := by rw [bne_iff_ne]; exact hfn
            have HCA2 := Lib.hid (HCA.out.skip hfn)
            have HR2 : Hid (Cv wr w.heap.size len (outAt f len n (i + 1))) := Lib.hid (HR.out.congr (fun j _ => by
              unfold outAt
              by_cases h2 : 1 ≤ f j ∧ (f j < n ∨ (f j = n ∧ j < i))
              · rw [if_pos h2, if_pos (by omega)]
              · rw [if_neg h2, if_neg (by intro h3; apply h2; refine ⟨h3.1, ?_⟩; rcases h3.2 with q | ⟨q1, q2⟩; exact .inl q; right; refine ⟨q1, ?_⟩; rcases Nat.lt_succ_iff_lt_or_eq.1 q2 with q3 | q3; exact q3; subst q3; exact absurd q1 hfn)]))
            clear hfn
            go_wp2_with fail
            go_roundw
            case rel => exact ⟨i + 1, l, c, by omega, by go_num, rfl, rfl, HCA2, HR2, HE⟩
            case measure => simp [intOf]; omega
        · obtain rfl : i = len := by omega
          have HCA2 := Lib.hid (HCA.out.next hn1)
          have HR2 : Hid (Cv wr w.heap.size i (outAt f i (n + 1) 0)) := Lib.hid (HR.out.congr (fun j hj => by
            unfold outAt
            by_cases h2 : 1 ≤ f j ∧ (f j < n ∨ (f j = n ∧ j < i))
            · rw [if_pos h2, if_pos (by omega)]
            · rw [if_neg h2, if_neg (by omega)]))
          go_wp2_with fail
          go_roundw
          case rel => exact ⟨n + 1, l, c, by omega, by omega, by go_num, rfl, rfl, HCA2, HR2, HE⟩
          case measure => simp [intOf]; omega
    · obtain rfl : n = 16 := by omega
      go_wp2_with fail
      go_ret
      refine ⟨⟨w.heap.size, Nat.le_refl _, rfl, HR.out.congr (fun j hj => ?_)⟩, HE.out⟩
      have q := HB.out.2 j hj
      unfold outAt
      by_cases h2 : 1 ≤ f j
      · rw [if_pos (by omega)]
      · have h0 : f j = 0 := by omega
        rw [if_neg (by omega), h0]; rfl
end Go.Proofs.YtkddbhngffbljaaDoor
