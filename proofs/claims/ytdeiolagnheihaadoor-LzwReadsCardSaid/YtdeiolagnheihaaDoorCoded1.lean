/- coded: an error's number, without a place. -/
import Derived.Test.YtdeiolagnheihaaDoorErrs
namespace Go.Proofs.YtdeiolagnheihaaDoor
open Go.RowKit
set_option maxRecDepth 100000
theorem coded_any (w : World) (E : Nat → Addr) (hE : Errs w E) (v : Value) (c a n : Int) (h : ErrV w E v c a) : Calls Tryd.prog 22 #[v, .int .i64 n] w fun e w' => e = .returned (.bool (decide (c = n ∧ a = -1))) ∧ Ext w w' := by
  by_cases hc : c = n
  · subst hc
    go_enter Tryd.func22, Tryd.ntmps22
    go_wp2_with fail
    refine (code_any _ E hE _ _ _ h).mono ?_
    rintro e w2 ⟨rfl, h2⟩
    go_wp2_with fail
    go_ret
    exact ⟨ret_bool (by rw [Bool.eq_iff_iff]; simp), h2⟩
  · have t1 : (c == n) = false := beq_eq_false_iff_ne.2 hc
    go_enter Tryd.func22, Tryd.ntmps22
    go_wp2_with fail
    refine (code_any _ E hE _ _ _ h).mono ?_
    rintro e w2 ⟨rfl, h2⟩
    go_wp2_with fail
    go_ret
    exact ⟨ret_bool (by rw [Bool.eq_iff_iff]; simp [hc]), h2⟩
end Go.Proofs.YtdeiolagnheihaaDoor
