/- Contracts of the document's answer for one pixel over another one. -/
import Derived.Test.YtkfjcgcgfdibaaaDoorPixOverAll
namespace Go.Proofs.YtkfjcgcgfdibaaaDoor
open Go.RowKit
set_option maxRecDepth 100000
theorem isMode_any (m : Int) (w : World) : Calls Tryd.prog 38 #[.int .i64 m] w fun e w' => e = .returned (.bool (decide (0 ≤ m ∧ m < 6))) ∧ w = w' := by
  by_cases h : 0 ≤ m
  · go_enter Tryd.func38, Tryd.ntmps38
    go_wp2
    go_ret
    exact ⟨ret_bool (by rw [Bool.eq_iff_iff]; simp; omega), rfl⟩
  · have h' : decide (0 ≤ m) = false := decide_eq_false h
    go_enter Tryd.func38, Tryd.ntmps38
    go_wp2
    go_ret
    exact ⟨ret_bool (by first | rfl | (symm; rw [decide_eq_false_iff_not]; omega)), rfl⟩
theorem rounded_any (n d : Int) (w : World) (h0 : 0 ≤ n) (h1 : n ≤ 1000000000000) (d0 : 1 ≤ d) (d1 : d ≤ 1000000000000) :
    Calls Tryd.prog 103 #[.int .i64 n, .int .i64 d] w fun e w' => e = .returned (.int .i64 ((2 * n + d) / (2 * d))) ∧ w = w' := by
  have e1 : 0 ≤ n / d * d := Int.mul_nonneg (Int.ediv_nonneg h0 (by omega)) (by omega)
  have e2 : n / d * d ≤ n := Int.ediv_mul_le n (by omega)
  have e3 : n < n / d * d + d := by have := Int.lt_ediv_add_one_mul_self n (show 0 < d by omega); rw [Int.add_mul, Int.one_mul] at this; exact this
  have e4 : 0 ≤ n / d := Int.ediv_nonneg h0 (by omega)
  have e5 : n / d ≤ n := Int.ediv_le_self _ h0
  have lo : ¬ d ≤ 2 * (n - n / d * d) → (2 * n + d) / (2 * d) = n / d := by
    intro h
    have q1 : (2 * n + d) / (2 * d) ≤ n / d := by
      have : (2 * n + d) / (2 * d) < n / d + 1 := Int.ediv_lt_of_lt_mul (by omega) (by rw [Int.add_mul, show n / d * (2 * d) = 2 * (n / d * d) by rw [← Int.mul_assoc, Int.mul_comm (n / d) 2, Int.mul_assoc]]; omega)
      omega
    have q2 : n / d ≤ (2 * n + d) / (2 * d) := (Int.le_ediv_iff_mul_le (by omega)).2 (by rw [show n / d * (2 * d) = 2 * (n / d * d) by rw [← Int.mul_assoc, Int.mul_comm (n / d) 2, Int.mul_assoc]]; omega)
    omega
  have hi : d ≤ 2 * (n - n / d * d) → (2 * n + d) / (2 * d) = n / d + 1 := by
    intro h
    have q1 : (2 * n + d) / (2 * d) ≤ n / d + 1 := by
      have : (2 * n + d) / (2 * d) < n / d + 1 + 1 := Int.ediv_lt_of_lt_mul (by omega) (by rw [Int.add_mul, Int.add_mul, show n / d * (2 * d) = 2 * (n / d * d) by rw [← Int.mul_assoc, Int.mul_comm (n / d) 2, Int.mul_assoc]]; omega)
      omega
    have q2 : n / d + 1 ≤ (2 * n + d) / (2 * d) := (Int.le_ediv_iff_mul_le (by omega)).2 (by rw [Int.add_mul, show n / d * (2 * d) = 2 * (n / d * d) by rw [← Int.mul_assoc, Int.mul_comm (n / d) 2, Int.mul_assoc]]; omega)
    omega
  have LO := Lib.hid lo
  have HI := Lib.hid hi
  clear lo hi
  by_cases h : d ≤ 2 * (n - n / d * d)
  · have HH := Lib.hid (HI.out h)
    go_enter Tryd.func103, Tryd.ntmps103
    go_wp2
    go_ret
    exact ⟨ret_int HH.out.symm, rfl⟩
  · have HH := Lib.hid (LO.out h)
    go_enter Tryd.func103, Tryd.ntmps103
    go_wp2
    go_ret
    exact ⟨ret_int HH.out.symm, rfl⟩
theorem refBlend_any (m s d : Int) (w : World) (hm : 0 ≤ m ∧ m < 6) (hs : Pix.Byte s) (hd : Pix.Byte d) : Calls Tryd.prog 102 #[.int .i64 m, .int .i64 s, .int .i64 d] w fun e w' => e = .returned (.int .i64 (Pix.blend m s d)) ∧ w = w' := by
  obtain ⟨s0, s1⟩ := hs
  obtain ⟨d0, d1⟩ := hd
  have h := Pix.mul_bd s0 s1 d0 d1
  rcases (show m = 0 ∨ m = 1 ∨ m = 2 ∨ m = 3 ∨ m = 4 ∨ m = 5 by omega) with q | q | q | q | q | q <;> subst q <;> clear hm
  all_goals
    go_enter Tryd.func102, Tryd.ntmps102
    go_wp2
  all_goals (go_ret; exact ⟨ret_int (by simp [Pix.blend]; try omega), rfl⟩)
end Go.Proofs.YtkfjcgcgfdibaaaDoor
