/- faulted: an error's number and place. -/
import Derived.Test.YtdeiolagnheihaaDoorErrs
namespace Go.Proofs.YtdeiolagnheihaaDoor
open Go.RowKit
set_option maxRecDepth 100000
theorem faulted_any (w : World) (E : Nat → Addr) (hE : Errs w E) (v : Value) (c a n b : Int) (h : ErrV w E v c a) : Calls Tryd.prog 16 #[v, .agg #[.int .i64 n, .int .i64 b]] w fun e w' => e = .returned (.bool (decide (c = n ∧ (c = 0 ∨ a = b)))) ∧ Ext w w' := by
  have h' := h.ext ((Ext.refl w).alloc (.cells #[.int .i64 n, .int .i64 b] 32))
  have hE' := hE.ext ((Ext.refl w).alloc (.cells #[.int .i64 n, .int .i64 b] 32))
  have HH := Lib.hid h'
  have HE := Lib.hid hE'
  clear h h' hE hE'
  have fin : ∀ w2, Ext (w.alloc (.cells #[.int .i64 n, .int .i64 b] 32)) w2 → Ext w w2 ∧ w2.cell? ⟨w.heap.size, 0, none⟩ = some (.int .i64 n) ∧ w2.cell? ⟨w.heap.size, 1, none⟩ = some (.int .i64 b) := by
    intro w2 h2
    refine ⟨((Ext.refl w).alloc _).trans h2, (h2.cell (p := ⟨w.heap.size, 0, none⟩) (by simp)).trans (by simp), (h2.cell (p := ⟨w.heap.size, 1, none⟩) (by simp)).trans (by simp)⟩
  have FIN := Lib.hid fin
  clear fin
  by_cases hc : c = n
  · subst hc
    by_cases h0 : c = 0
    · have t0 : (c == 0) = true := beq_iff_eq.2 h0
      have H0 := Lib.hid h0
      clear h0
      go_enter Tryd.func16, Tryd.ntmps16
      go_wp2_with fail
      refine (code_any _ E HE.out _ _ _ HH.out).mono ?_
      rintro e w2 ⟨rfl, h2⟩
      obtain ⟨f1, f2, f3⟩ := FIN.out _ h2
      have F1 := Lib.hid f1
      clear f1 h2
      go_wp2_with fail
      go_ret
      exact ⟨ret_bool (by rw [Bool.eq_iff_iff]; simp [H0.out]), F1.out⟩
    · have t0 : (c == 0) = false := beq_eq_false_iff_ne.2 h0
      go_enter Tryd.func16, Tryd.ntmps16
      go_wp2_with fail
      refine (code_any _ E HE.out _ _ _ HH.out).mono ?_
      rintro e w2 ⟨rfl, h2⟩
      obtain ⟨f1, f2, f3⟩ := FIN.out _ h2
      have F1 := Lib.hid f1
      clear f1 h2
      go_wp2_with fail
      go_ret
      exact ⟨ret_bool (by rw [Bool.eq_iff_iff]; simp [h0]), F1.out⟩
  · have t1 : (c == n) = false := beq_eq_false_iff_ne.2 hc
    go_enter Tryd.func16, Tryd.ntmps16
    go_wp2_with fail
    refine (code_any _ E HE.out _ _ _ HH.out).mono ?_
    rintro e w2 ⟨rfl, h2⟩
    obtain ⟨f1, f2, f3⟩ := FIN.out _ h2
    have F1 := Lib.hid f1
    clear f1 h2
    go_wp2_with fail
    go_ret
    exact ⟨ret_bool (by rw [Bool.eq_iff_iff]; simp [hc]), F1.out⟩
end Go.Proofs.YtdeiolagnheihaaDoor
