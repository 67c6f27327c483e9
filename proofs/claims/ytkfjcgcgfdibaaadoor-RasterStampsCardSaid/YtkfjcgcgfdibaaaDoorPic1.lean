/- Pictures: small functions. -/
import Derived.Test.YtkfjcgcgfdibaaaDoorPxs
import Derived.Test.YtkfjcgcgfdibaaaDoorErrs
namespace Go.Proofs.YtkfjcgcgfdibaaaDoor
open Go.RowKit
set_option maxRecDepth 100000
def sideB (n : Int) : Bool := decide (1 ≤ n ∧ n ≤ 256)
theorem sideB_yes {n : Int} (h : sideB n = true) : 1 ≤ n ∧ n ≤ 256 := of_decide_eq_true h
theorem sideB_no {n : Int} (h : sideB n = false) : ¬ (1 ≤ n ∧ n ≤ 256) := of_decide_eq_false h
theorem side_any (n : Int) (w : World) : Calls Tryd.prog 60 #[.int .i64 n] w fun e w' => e = .returned (.bool (sideB n)) ∧ w = w' := by
  by_cases h1 : 1 ≤ n
  · by_cases h2 : n ≤ 256
    · go_enter Tryd.func60, Tryd.ntmps60
      go_wp2_with fail
      go_ret
      exact ⟨ret_bool (by unfold sideB; simp; omega), rfl⟩
    · go_enter Tryd.func60, Tryd.ntmps60
      go_wp2_with fail
      go_ret
      exact ⟨ret_bool (by unfold sideB; simp; omega), rfl⟩
  · go_enter Tryd.func60, Tryd.ntmps60
    go_wp2_with fail
    go_ret
    exact ⟨ret_bool (by unfold sideB; simp; omega), rfl⟩
theorem refSide_any (n : Int) (w : World) : Calls Tryd.prog 21 #[.int .i64 n] w fun e w' => e = .returned (.bool (sideB n)) ∧ w = w' := by
  by_cases h1 : 1 ≤ n
  · by_cases h2 : n ≤ 256
    · go_enter Tryd.func21, Tryd.ntmps21
      go_wp2_with fail
      go_ret
      exact ⟨ret_bool (by unfold sideB; simp; omega), rfl⟩
    · go_enter Tryd.func21, Tryd.ntmps21
      go_wp2_with fail
      go_ret
      exact ⟨ret_bool (by unfold sideB; simp; omega), rfl⟩
  · go_enter Tryd.func21, Tryd.ntmps21
    go_wp2_with fail
    go_ret
    exact ⟨ret_bool (by unfold sideB; simp; omega), rfl⟩
def rightB (W H : Int) (n : Nat) : Bool := sideB W && sideB H && decide ((n : Int) = W * H)
theorem rightB_yes {W H : Int} {n : Nat} (h : rightB W H n = true) : ∃ a b : Nat, W = a ∧ H = b ∧ 1 ≤ a ∧ a ≤ 256 ∧ 1 ≤ b ∧ b ≤ 256 ∧ n = a * b := by
  unfold rightB at h
  simp only [Bool.and_eq_true, decide_eq_true_eq] at h
  obtain ⟨⟨h1, h2⟩, h3⟩ := h
  have q1 := sideB_yes h1
  have q2 := sideB_yes h2
  refine ⟨W.toNat, H.toNat, by omega, by omega, by omega, by omega, by omega, by omega, ?_⟩
  have e : ((W.toNat * H.toNat : Nat) : Int) = W * H := by rw [Int.natCast_mul, Int.toNat_of_nonneg (by omega), Int.toNat_of_nonneg (by omega)]
  omega
theorem prod_bd {W H : Int} (h1 : sideB W = true) (h2 : sideB H = true) : 0 ≤ W * H ∧ W * H ≤ 65536 := by
  have q1 := sideB_yes h1
  have q2 := sideB_yes h2
  exact ⟨Int.mul_nonneg (by omega) (by omega), Int.le_trans (Int.mul_le_mul q1.2 q2.2 (by omega) (by omega)) (by decide)⟩
theorem right_any (W H : Int) (x : Option Addr) (n cap : Nat) (w : World) :
    Calls Tryd.prog 70 #[.agg #[.int .i64 W, .int .i64 H, .slice x n cap]] w fun e w' => e = .returned (.bool (rightB W H n)) ∧ Ext w w' := by
  have hX : Ext w (w.alloc (.cells #[.int .i64 W, .int .i64 H, .slice x n cap] 24)) := (Ext.refl _).alloc _
  have HX := Lib.hid hX
  clear hX
  by_cases h1 : sideB W = true
  · by_cases h2 : sideB H = true
    · obtain ⟨p1, p2⟩ := prod_bd h1 h2
      have H12 := Lib.hid (show sideB W = true ∧ sideB H = true from ⟨h1, h2⟩)
      go_enter Tryd.func70, Tryd.ntmps70
      go_wp2_with fail
      refine (side_any W _).mono ?_
      rintro e w2 ⟨rfl, rfl⟩
      go_wp2_with fail
      refine (side_any H _).mono ?_
      rintro e w2 ⟨rfl, rfl⟩
      go_wp2_with fail
      go_ret
      refine ⟨ret_bool ?_, HX.out⟩
      unfold rightB; rw [H12.out.1, H12.out.2]
      simp only [Bool.true_and]
      rw [Bool.eq_iff_iff]; simp
    · have h2' : sideB H = false := by simpa using h2
      clear h2
      have H12 := Lib.hid (show sideB W = true ∧ sideB H = false from ⟨h1, h2'⟩)
      go_enter Tryd.func70, Tryd.ntmps70
      go_wp2_with fail
      refine (side_any W _).mono ?_
      rintro e w2 ⟨rfl, rfl⟩
      go_wp2_with fail
      refine (side_any H _).mono ?_
      rintro e w2 ⟨rfl, rfl⟩
      go_wp2_with fail
      go_ret
      refine ⟨ret_bool ?_, HX.out⟩
      unfold rightB; rw [H12.out.1, H12.out.2]; rfl
  · have h1' : sideB W = false := by simpa using h1
    clear h1
    have H12 := Lib.hid h1'
    go_enter Tryd.func70, Tryd.ntmps70
    go_wp2_with fail
    refine (side_any W _).mono ?_
    rintro e w2 ⟨rfl, rfl⟩
    go_wp2_with fail
    go_ret
    refine ⟨ret_bool ?_, HX.out⟩
    unfold rightB; rw [H12.out]; rfl
theorem refRight_any (W H : Int) (x : Option Addr) (n cap : Nat) (w : World) :
    Calls Tryd.prog 15 #[.agg #[.int .i64 W, .int .i64 H, .slice x n cap]] w fun e w' => e = .returned (.bool (rightB W H n)) ∧ Ext w w' := by
  have hX : Ext w (w.alloc (.cells #[.int .i64 W, .int .i64 H, .slice x n cap] 24)) := (Ext.refl _).alloc _
  have HX := Lib.hid hX
  clear hX
  by_cases h1 : sideB W = true
  · by_cases h2 : sideB H = true
    · obtain ⟨p1, p2⟩ := prod_bd h1 h2
      have H12 := Lib.hid (show sideB W = true ∧ sideB H = true from ⟨h1, h2⟩)
      go_enter Tryd.func15, Tryd.ntmps15
      go_wp2_with fail
      refine (refSide_any W _).mono ?_
      rintro e w2 ⟨rfl, rfl⟩
      go_wp2_with fail
      refine (refSide_any H _).mono ?_
      rintro e w2 ⟨rfl, rfl⟩
      go_wp2_with fail
      go_ret
      refine ⟨ret_bool ?_, HX.out⟩
      unfold rightB; rw [H12.out.1, H12.out.2]
      simp only [Bool.true_and]
      rw [Bool.eq_iff_iff]; simp
    · have h2' : sideB H = false := by simpa using h2
      clear h2
      have H12 := Lib.hid (show sideB W = true ∧ sideB H = false from ⟨h1, h2'⟩)
      go_enter Tryd.func15, Tryd.ntmps15
      go_wp2_with fail
      refine (refSide_any W _).mono ?_
      rintro e w2 ⟨rfl, rfl⟩
      go_wp2_with fail
      refine (refSide_any H _).mono ?_
      rintro e w2 ⟨rfl, rfl⟩
      go_wp2_with fail
      go_ret
      refine ⟨ret_bool ?_, HX.out⟩
      unfold rightB; rw [H12.out.1, H12.out.2]; rfl
  · have h1' : sideB W = false := by simpa using h1
    clear h1
    have H12 := Lib.hid h1'
    go_enter Tryd.func15, Tryd.ntmps15
    go_wp2_with fail
    refine (refSide_any W _).mono ?_
    rintro e w2 ⟨rfl, rfl⟩
    go_wp2_with fail
    go_ret
    refine ⟨ret_bool ?_, HX.out⟩
    unfold rightB; rw [H12.out]; rfl
theorem small_any (W H : Int) (x : Option Addr) (n cap : Nat) (w : World) (hn : n ≤ maxLen) :
    Calls Tryd.prog 14 #[.agg #[.int .i64 W, .int .i64 H, .slice x n cap]] w fun e w' => e = .returned (.bool (decide (n ≤ 3000))) ∧ Ext w w' := by
  unfold maxLen at hn
  go_enter Tryd.func14, Tryd.ntmps14
  go_wp2_with fail
  go_ret
  exact ⟨ret_bool (by simp; omega), (Ext.refl _).alloc _⟩
def sentE (a : Addr) : Value := .iface 171 (.pointer (some a))
/-- what 'check' says -/
theorem check_shape (W H : Int) (x : Option Addr) (n cap : Nat) (b : Bool) (w : World) (E : Nat → Addr) (hE : Errs w E) (h : rightB W H n = false) :
    Calls Tryd.prog 55 #[.agg #[.int .i64 W, .int .i64 H, .slice x n cap], .bool b] w fun e w' => e = .returned (.iface 171 (.pointer (some (E 2)))) ∧ Ext w w' := by
  have HE := Lib.hid hE
  have HH := Lib.hid h
  clear hE h
  go_enter Tryd.func55, Tryd.ntmps55
  go_wp2_with fail
  refine (right_any W H x n cap _).mono ?_
  rintro e w2 ⟨rfl, h2⟩
  have X2 := Lib.hid (Ext.trans (Ext.alloc (Ext.refl w) _) h2)
  clear h2
  rw [HH.out]
  have hv := (HE.out.ext X2.out).var 2 (by decide)
  simp only [gk, sentV] at hv
  go_wp2_with fail
  go_ret
  exact ⟨rfl, X2.out⟩
theorem check_bound (W H : Int) (x : Option Addr) (n cap : Nat) (w : World) (E : Nat → Addr) (hE : Errs w E) (h : rightB W H n = true) :
    Calls Tryd.prog 55 #[.agg #[.int .i64 W, .int .i64 H, .slice x n cap], .bool false] w fun e w' => e = .returned (.iface 171 (.pointer (some (E 1)))) ∧ Ext w w' := by
  have HE := Lib.hid hE
  have HH := Lib.hid h
  clear hE h
  go_enter Tryd.func55, Tryd.ntmps55
  go_wp2_with fail
  refine (right_any W H x n cap _).mono ?_
  rintro e w2 ⟨rfl, h2⟩
  have X2 := Lib.hid (Ext.trans (Ext.alloc (Ext.refl w) _) h2)
  clear h2
  rw [HH.out]
  have hv := (HE.out.ext X2.out).var 1 (by decide)
  simp only [gk, sentV] at hv
  go_wp2_with fail
  go_ret
  exact ⟨rfl, X2.out⟩
theorem check_ok (W H : Int) (x : Option Addr) (n cap : Nat) (w : World) (h : rightB W H n = true) :
    Calls Tryd.prog 55 #[.agg #[.int .i64 W, .int .i64 H, .slice x n cap], .bool true] w fun e w' => e = .returned .nilIface ∧ Ext w w' := by
  have HH := Lib.hid h
  clear h
  go_enter Tryd.func55, Tryd.ntmps55
  go_wp2_with fail
  refine (right_any W H x n cap _).mono ?_
  rintro e w2 ⟨rfl, h2⟩
  have X2 := Lib.hid (Ext.trans (Ext.alloc (Ext.refl w) _) h2)
  clear h2
  rw [HH.out]
  go_wp2_with fail
  go_ret
  exact ⟨rfl, X2.out⟩
end Go.Proofs.YtkfjcgcgfdibaaaDoor
