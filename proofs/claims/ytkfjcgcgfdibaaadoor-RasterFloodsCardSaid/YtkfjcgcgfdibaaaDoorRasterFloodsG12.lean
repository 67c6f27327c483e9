/-
  Contracts of the document's answer for one pixel over another one.
  raster.Stamp where it cannot.
  raster.Scale's closure.
  raster.Scale where it can.
-/
import Derived.Test.YtkfjcgcgfdibaaaDoorRasterFloodsG11
import Derived.Test.YtkfjcgcgfdibaaaDoorRasterFloodsG5
import Derived.Test.YtkfjcgcgfdibaaaDoorRasterFloodsG10
import Derived.Deep.DeepCutAuto
import Derived.Test.YtkfjcgcgfdibaaaDoorRasterFloodsG3
namespace Go.Proofs.YtkfjcgcgfdibaaaDoor
open Go.RowKit
set_option maxRecDepth 100000
theorem isMode_any (m : Int) (w : World) : Calls Tryd.prog 38 #[.int .i64 m] w fun e w' => e = .returned (.bool (decide (0 ≤ m ∧ m < 6))) ∧ w = w' := by
  by_cases h : 0 ≤ m
  · go_enter Tryd.func38, Tryd.ntmps38
    go_wp2
    go_ret
    exact ⟨ret_bool (by rw [Bool.eq_iff_iff]; simp; omega), rfl⟩
  · have h' : decide (0 ≤ m) = false := decide_eq_false h
    go_enter Tryd.func38, Tryd.ntmps38
    go_wp2
    go_ret
    exact ⟨ret_bool (by first | rfl | (symm; rw [decide_eq_false_iff_not]; omega)), rfl⟩
theorem rounded_any (n d : Int) (w : World) (h0 : 0 ≤ n) (h1 : n ≤ 1000000000000) (d0 : 1 ≤ d) (d1 : d ≤ 1000000000000) :
    Calls Tryd.prog 103 #[.int .i64 n, .int .i64 d] w fun e w' => e = .returned (.int .i64 ((2 * n + d) / (2 * d))) ∧ w = w' := by
  have e1 : 0 ≤ n / d * d := Int.mul_nonneg (Int.ediv_nonneg h0 (by omega)) (by omega)
  have e2 : n / d * d ≤ n := Int.ediv_mul_le n (by omega)
  have e3 : n < n / d * d + d := by have := Int.lt_ediv_add_one_mul_self n (show 0 < d by omega); rw [Int.add_mul, Int.one_mul] at this; exact this
  have e4 : 0 ≤ n / d := Int.ediv_nonneg h0 (by omega)
  have e5 : n / d ≤ n := Int.ediv_le_self _ h0
  have lo : ¬ d ≤ 2 * (n - n / d * d) → (2 * n + d) / (2 * d) = n / d := by
    intro h
    have q1 : (2 * n + d) / (2 * d) ≤ n / d := by
      have : (2 * n + d) / (2 * d) < n / d + 1 := Int.ediv_lt_of_lt_mul (by omega) (by rw [Int.add_mul, show n / d * (2 * d) = 2 * (n / d * d) by rw [← Int.mul_assoc, Int.mul_comm (n / d) 2, Int.mul_assoc]]; omega)
      omega
    have q2 : n / d ≤ (2 * n + d) / (2 * d) := (Int.le_ediv_iff_mul_le (by omega)).2 (by rw [show n / d * (2 * d) = 2 * (n / d * d) by rw [← Int.mul_assoc, Int.mul_comm (n / d) 2, Int.mul_assoc]]; omega)
    omega
  have hi : d ≤ 2 * (n - n / d * d) → (2 * n + d) / (2 * d) = n / d + 1 := by
    intro h
    have q1 : (2 * n + d) / (2 * d) ≤ n / d + 1 := by
      have : (2 * n + d) / (2 * d) < n / d + 1 + 1 := Int.ediv_lt_of_lt_mul (by omega) (by rw [Int.add_mul, Int.add_mul, show n / d * (2 * d) = 2 * (n / d * d) by rw [← Int.mul_assoc, Int.mul_comm (n / d) 2, Int.mul_assoc]]; omega)
      omega
    have q2 : n / d + 1 ≤ (2 * n + d) / (2 * d) := (Int.le_ediv_iff_mul_le (by omega)).2 (by rw [Int.add_mul, show n / d * (2 * d) = 2 * (n / d * d) by rw [← Int.mul_assoc, Int.mul_comm (n / d) 2, Int.mul_assoc]]; omega)
    omega
  have LO := Lib.hid lo
  have HI := Lib.hid hi
  clear lo hi
  by_cases h : d ≤ 2 * (n - n / d * d)
  · have HH := Lib.hid (HI.out h)
    go_enter Tryd.func103, Tryd.ntmps103
    go_wp2
    go_ret
    exact ⟨ret_int HH.out.symm, rfl⟩
  · have HH := Lib.hid (LO.out h)
    go_enter Tryd.func103, Tryd.ntmps103
    go_wp2
    go_ret
    exact ⟨ret_int HH.out.symm, rfl⟩
theorem refBlend_any (m s d : Int) (w : World) (hm : 0 ≤ m ∧ m < 6) (hs : Pix.Byte s) (hd : Pix.Byte d) : Calls Tryd.prog 102 #[.int .i64 m, .int .i64 s, .int .i64 d] w fun e w' => e = .returned (.int .i64 (Pix.blend m s d)) ∧ w = w' := by
  obtain ⟨s0, s1⟩ := hs
  obtain ⟨d0, d1⟩ := hd
  have h := Pix.mul_bd s0 s1 d0 d1
  rcases (show m = 0 ∨ m = 1 ∨ m = 2 ∨ m = 3 ∨ m = 4 ∨ m = 5 by omega) with q | q | q | q | q | q <;> subst q <;> clear hm
  all_goals
    go_enter Tryd.func102, Tryd.ntmps102
    go_wp2
  all_goals (go_ret; exact ⟨ret_int (by simp [Pix.blend]; try omega), rfl⟩)
end Go.Proofs.YtkfjcgcgfdibaaaDoor
namespace Go.Proofs.YtkfjcgcgfdibaaaDoor
open Go.RowKit
set_option maxRecDepth 100000
def rn (X Y : Int) : Nat → Int
  | 0 => X
  | _ => Y
theorem rn_born (w : World) (X Y : Int) (t : TypeId) : ∀ i, i < 2 → (w.alloc (.cells #[.int .i64 X, .int .i64 Y] t)).cell? ⟨w.heap.size, i, none⟩ = some (.int .i64 (rn X Y i)) := by
  intro i hi
  rw [World.cell?_alloc_at _ _ _ _ rfl]
  match i, hi with
  | 0, _ => rfl
  | 1, _ => rfl
theorem rn_near {X Y : Int} (hx : -10000 ≤ X ∧ X ≤ 10000) (hy : -10000 ≤ Y ∧ Y ≤ 10000) : nearAll (rn X Y) 2 = true :=
  (nearAll_iff _ 2).2 fun j hj => match j, hj with
    | 0, _ => decide_eq_true hx
    | 1, _ => decide_eq_true hy
theorem right_of {W H : Nat} (hW : 1 ≤ W ∧ W ≤ 256) (hH : 1 ≤ H ∧ H ≤ 256) : rightB (W : Int) (H : Int) (W * H) = true := by
  unfold rightB sideB
  simp only [Bool.and_eq_true, decide_eq_true_eq]
  exact ⟨⟨by omega, by omega⟩, by simp⟩
set_option linter.unusedSimpArgs false in
set_option maxHeartbeats 4000000 in
theorem stamp_shape_p (W H QW QH X Y m : Int) (xa xb : Option Addr) (n c k d : Nat) (E : Nat → Addr) (w : World) (hE : Errs w E) (hr : rightB W H n = false) :
    Calls Tryd.prog 37 #[.agg #[(.int .i64 W), (.int .i64 H), (.slice xa n c)], .agg #[(.int .i64 QW), (.int .i64 QH), (.slice xb k d)], .int .i64 X, .int .i64 Y, .int .i64 m] w fun e w' => e = .returned (.tuple #[.agg #[.int .i64 0, .int .i64 0, .slice none 0 0], .iface 171 (.pointer (some (E 2)))]) ∧ Ext w w' := by
  have HE := Lib.hid hE
  have HR := Lib.hid hr
  clear hE hr
  go_enter Tryd.func37, Tryd.ntmps37
  go_wp2_with fail
  refine calls_world (fun wz => Ext w wz ∧ wz.heap.size = w.heap.size + 1 + 1 + 1 ∧ Bk wz (w.heap.size) #[(.int .i64 W), (.int .i64 H), (.slice xa n c)] ∧ Bk wz (w.heap.size + 1) #[(.int .i64 QW), (.int .i64 QH), (.slice xb k d)] ∧ Bk wz (w.heap.size + 1 + 1) #[.int .i64 0, .int .i64 0, .slice none 0 0]) ⟨by repeat (first | exact Ext.refl _ | refine Ext.alloc ?_ _), by simp, by repeat (first | exact Bk.at (by simp) | refine Bk.old ?_), by repeat (first | exact Bk.at (by simp) | refine Bk.old ?_), by repeat (first | exact Bk.at (by simp) | refine Bk.old ?_)⟩ ?_
  rintro w1 ⟨hX, hZ, hB0, hB1, hB2⟩
  have X_1 := Lib.hid (hX)
  have P_1 := Lib.hid (hB0)
  have Q_1 := Lib.hid (hB1)
  have R_1 := Lib.hid (hB2)
  clear hX hZ hB0 hB1 hB2
  refine (right_any _ _ _ _ _ _).mono ?_
  rintro e w2 ⟨rfl, h⟩
  have X_2 := Lib.hid (X_1.out.trans h)
  have P_2 := Lib.hid (P_1.out.ext h)
  have Q_2 := Lib.hid (Q_1.out.ext h)
  have R_2 := Lib.hid (R_1.out.ext h)
  clear h X_1 P_1 Q_1 R_1
  rw [HR.out]
  have hv := (HE.out.ext X_2.out).var 2 (by decide)
  simp only [gk, sentV] at hv
  have d0 := R_2.out.cell 0
  have e0 := R_2.out.frozen 0
  have d1 := R_2.out.cell 1
  have e1 := R_2.out.frozen 1
  have d2 := R_2.out.cell 2
  have e2 := R_2.out.frozen 2
  have FR := Lib.hid (show Ext w _ from X_2.out.set3 (b := w.heap.size + 1 + 1) (by omega) (.int .i64 0) (.int .i64 0) (.slice none 0 0))
  have PR := Lib.hid (R_2.out.pic.set (W' := 0) (H' := 0) (v' := .slice none 0 0))
  go_wp2_with fail
  go_region
  all_goals go_wp2_with fail
  all_goals
    obtain ⟨k0, k1, k2⟩ := PR.out
    exact bodyPost_ret (v := .tuple #[.agg #[.int .i64 0, .int .i64 0, .slice none 0 0], .iface 171 (.pointer (some (E 2)))]) (by simp [results, Tryd.results37, go_sem, k0, k1, k2]) rfl ⟨rfl, FR.out.drew⟩
set_option linter.unusedSimpArgs false in
set_option maxHeartbeats 4000000 in
theorem stamp_shape_q (W H QW QH X Y m : Int) (xa xb : Option Addr) (n c k d : Nat) (E : Nat → Addr) (w : World) (hE : Errs w E) (hr : rightB W H n = true) (hs : rightB QW QH k = false) :
    Calls Tryd.prog 37 #[.agg #[(.int .i64 W), (.int .i64 H), (.slice xa n c)], .agg #[(.int .i64 QW), (.int .i64 QH), (.slice xb k d)], .int .i64 X, .int .i64 Y, .int .i64 m] w fun e w' => e = .returned (.tuple #[.agg #[.int .i64 0, .int .i64 0, .slice none 0 0], .iface 171 (.pointer (some (E 2)))]) ∧ Ext w w' := by
  have HE := Lib.hid hE
  have HR := Lib.hid hr
  have HS := Lib.hid hs
  clear hE hr hs
  go_enter Tryd.func37, Tryd.ntmps37
  go_wp2_with fail
  refine calls_world (fun wz => Ext w wz ∧ wz.heap.size = w.heap.size + 1 + 1 + 1 ∧ Bk wz (w.heap.size) #[(.int .i64 W), (.int .i64 H), (.slice xa n c)] ∧ Bk wz (w.heap.size + 1) #[(.int .i64 QW), (.int .i64 QH), (.slice xb k d)] ∧ Bk wz (w.heap.size + 1 + 1) #[.int .i64 0, .int .i64 0, .slice none 0 0]) ⟨by repeat (first | exact Ext.refl _ | refine Ext.alloc ?_ _), by simp, by repeat (first | exact Bk.at (by simp) | refine Bk.old ?_), by repeat (first | exact Bk.at (by simp) | refine Bk.old ?_), by repeat (first | exact Bk.at (by simp) | refine Bk.old ?_)⟩ ?_
  rintro w1 ⟨hX, hZ, hB0, hB1, hB2⟩
  have X_1 := Lib.hid (hX)
  have P_1 := Lib.hid (hB0)
  have Q_1 := Lib.hid (hB1)
  have R_1 := Lib.hid (hB2)
  clear hX hZ hB0 hB1 hB2
  refine (right_any _ _ _ _ _ _).mono ?_
  rintro e w2 ⟨rfl, h⟩
  have X_2 := Lib.hid (X_1.out.trans h)
  have P_2 := Lib.hid (P_1.out.ext h)
  have Q_2 := Lib.hid (Q_1.out.ext h)
  have R_2 := Lib.hid (R_1.out.ext h)
  clear h X_1 P_1 Q_1 R_1
  rw [HR.out]
  have k0 := Q_2.out.cell 0
  have k1 := Q_2.out.cell 1
  have k2 := Q_2.out.cell 2
  go_wp2_with fail
  refine (right_any _ _ _ _ _ _).mono ?_
  rintro e w3 ⟨rfl, h⟩
  have X_3 := Lib.hid (X_2.out.trans h)
  have P_3 := Lib.hid (P_2.out.ext h)
  have Q_3 := Lib.hid (Q_2.out.ext h)
  have R_3 := Lib.hid (R_2.out.ext h)
  clear h X_2 P_2 Q_2 R_2
  clear k0 k1 k2
  rw [HS.out]
  have hv := (HE.out.ext X_3.out).var 2 (by decide)
  simp only [gk, sentV] at hv
  have d0 := R_3.out.cell 0
  have e0 := R_3.out.frozen 0
  have d1 := R_3.out.cell 1
  have e1 := R_3.out.frozen 1
  have d2 := R_3.out.cell 2
  have e2 := R_3.out.frozen 2
  have FR := Lib.hid (show Ext w _ from X_3.out.set3 (b := w.heap.size + 1 + 1) (by omega) (.int .i64 0) (.int .i64 0) (.slice none 0 0))
  have PR := Lib.hid (R_3.out.pic.set (W' := 0) (H' := 0) (v' := .slice none 0 0))
  go_wp2_with fail
  go_region
  all_goals go_wp2_with fail
  all_goals
    obtain ⟨k0, k1, k2⟩ := PR.out
    exact bodyPost_ret (v := .tuple #[.agg #[.int .i64 0, .int .i64 0, .slice none 0 0], .iface 171 (.pointer (some (E 2)))]) (by simp [results, Tryd.results37, go_sem, k0, k1, k2]) rfl ⟨rfl, FR.out.drew⟩
set_option linter.unusedSimpArgs false in
set_option maxHeartbeats 4000000 in
theorem stamp_bound_near (W H QW QH X Y m : Int) (xa xb : Option Addr) (n c k d : Nat) (E : Nat → Addr) (w : World) (hE : Errs w E) (hr : rightB W H n = true) (hs : rightB QW QH k = true) (hN : nearAll (rn X Y) 2 = false) :
    Calls Tryd.prog 37 #[.agg #[(.int .i64 W), (.int .i64 H), (.slice xa n c)], .agg #[(.int .i64 QW), (.int .i64 QH), (.slice xb k d)], .int .i64 X, .int .i64 Y, .int .i64 m] w fun e w' => e = .returned (.tuple #[.agg #[.int .i64 0, .int .i64 0, .slice none 0 0], .iface 171 (.pointer (some (E 1)))]) ∧ Ext w w' := by
  have HE := Lib.hid hE
  have HR := Lib.hid hr
  have HS := Lib.hid hs
  have HN := Lib.hid hN
  clear hE hr hs hN
  go_enter Tryd.func37, Tryd.ntmps37
  go_wp2_with fail
  refine calls_world (fun wz => Ext w wz ∧ wz.heap.size = w.heap.size + 1 + 1 + 1 ∧ Bk wz (w.heap.size) #[(.int .i64 W), (.int .i64 H), (.slice xa n c)] ∧ Bk wz (w.heap.size + 1) #[(.int .i64 QW), (.int .i64 QH), (.slice xb k d)] ∧ Bk wz (w.heap.size + 1 + 1) #[.int .i64 0, .int .i64 0, .slice none 0 0]) ⟨by repeat (first | exact Ext.refl _ | refine Ext.alloc ?_ _), by simp, by repeat (first | exact Bk.at (by simp) | refine Bk.old ?_), by repeat (first | exact Bk.at (by simp) | refine Bk.old ?_), by repeat (first | exact Bk.at (by simp) | refine Bk.old ?_)⟩ ?_
  rintro w1 ⟨hX, hZ, hB0, hB1, hB2⟩
  have X_1 := Lib.hid (hX)
  have P_1 := Lib.hid (hB0)
  have Q_1 := Lib.hid (hB1)
  have R_1 := Lib.hid (hB2)
  clear hX hZ hB0 hB1 hB2
  refine (right_any _ _ _ _ _ _).mono ?_
  rintro e w2 ⟨rfl, h⟩
  have X_2 := Lib.hid (X_1.out.trans h)
  have P_2 := Lib.hid (P_1.out.ext h)
  have Q_2 := Lib.hid (Q_1.out.ext h)
  have R_2 := Lib.hid (R_1.out.ext h)
  clear h X_1 P_1 Q_1 R_1
  rw [HR.out]
  have k0 := Q_2.out.cell 0
  have k1 := Q_2.out.cell 1
  have k2 := Q_2.out.cell 2
  go_wp2_with fail
  refine (right_any _ _ _ _ _ _).mono ?_
  rintro e w3 ⟨rfl, h⟩
  have X_3 := Lib.hid (X_2.out.trans h)
  have P_3 := Lib.hid (P_2.out.ext h)
  have Q_3 := Lib.hid (Q_2.out.ext h)
  have R_3 := Lib.hid (R_2.out.ext h)
  clear h X_2 P_2 Q_2 R_2
  clear k0 k1 k2
  rw [HS.out]
  go_wp2_with fail
  refine (near_any _ 2 2 (rn X Y) _ (rn_born w3 X Y _) (by decide)).mono ?_
  rintro e w4 ⟨rfl, hw⟩
  have h : Ext w3 w4 := by rw [← hw]; exact Ext.alloc (Ext.refl _) _
  have X_4 := Lib.hid (X_3.out.trans h)
  have P_4 := Lib.hid (P_3.out.ext h)
  have Q_4 := Lib.hid (Q_3.out.ext h)
  have R_4 := Lib.hid (R_3.out.ext h)
  clear h hw X_3 P_3 Q_3 R_3
  rw [HN.out]
  have hv := (HE.out.ext X_4.out).var 1 (by decide)
  simp only [gk, sentV] at hv
  have d0 := R_4.out.cell 0
  have e0 := R_4.out.frozen 0
  have d1 := R_4.out.cell 1
  have e1 := R_4.out.frozen 1
  have d2 := R_4.out.cell 2
  have e2 := R_4.out.frozen 2
  have FR := Lib.hid (show Ext w _ from X_4.out.set3 (b := w.heap.size + 1 + 1) (by omega) (.int .i64 0) (.int .i64 0) (.slice none 0 0))
  have PR := Lib.hid (R_4.out.pic.set (W' := 0) (H' := 0) (v' := .slice none 0 0))
  go_wp2_with fail
  go_region
  all_goals go_wp2_with fail
  all_goals
    obtain ⟨k0, k1, k2⟩ := PR.out
    exact bodyPost_ret (v := .tuple #[.agg #[.int .i64 0, .int .i64 0, .slice none 0 0], .iface 171 (.pointer (some (E 1)))]) (by simp [results, Tryd.results37, go_sem, k0, k1, k2]) rfl ⟨rfl, FR.out.drew⟩
set_option linter.unusedSimpArgs false in
set_option maxHeartbeats 4000000 in
theorem stamp_bound_mode (W H QW QH X Y m : Int) (xa xb : Option Addr) (n c k d : Nat) (E : Nat → Addr) (w : World) (hE : Errs w E) (hr : rightB W H n = true) (hs : rightB QW QH k = true) (hN : nearAll (rn X Y) 2 = true) (hm : (decide (0 ≤ m) && decide (m < 6)) = false) :
    Calls Tryd.prog 37 #[.agg #[(.int .i64 W), (.int .i64 H), (.slice xa n c)], .agg #[(.int .i64 QW), (.int .i64 QH), (.slice xb k d)], .int .i64 X, .int .i64 Y, .int .i64 m] w fun e w' => e = .returned (.tuple #[.agg #[.int .i64 0, .int .i64 0, .slice none 0 0], .iface 171 (.pointer (some (E 1)))]) ∧ Ext w w' := by
  have HE := Lib.hid hE
  have HR := Lib.hid hr
  have HS := Lib.hid hs
  have HN := Lib.hid hN
  have HM := Lib.hid hm
  clear hE hr hs hN hm
  go_enter Tryd.func37, Tryd.ntmps37
  go_wp2_with fail
  refine calls_world (fun wz => Ext w wz ∧ wz.heap.size = w.heap.size + 1 + 1 + 1 ∧ Bk wz (w.heap.size) #[(.int .i64 W), (.int .i64 H), (.slice xa n c)] ∧ Bk wz (w.heap.size + 1) #[(.int .i64 QW), (.int .i64 QH), (.slice xb k d)] ∧ Bk wz (w.heap.size + 1 + 1) #[.int .i64 0, .int .i64 0, .slice none 0 0]) ⟨by repeat (first | exact Ext.refl _ | refine Ext.alloc ?_ _), by simp, by repeat (first | exact Bk.at (by simp) | refine Bk.old ?_), by repeat (first | exact Bk.at (by simp) | refine Bk.old ?_), by repeat (first | exact Bk.at (by simp) | refine Bk.old ?_)⟩ ?_
  rintro w1 ⟨hX, hZ, hB0, hB1, hB2⟩
  have X_1 := Lib.hid (hX)
  have P_1 := Lib.hid (hB0)
  have Q_1 := Lib.hid (hB1)
  have R_1 := Lib.hid (hB2)
  clear hX hZ hB0 hB1 hB2
  refine (right_any _ _ _ _ _ _).mono ?_
  rintro e w2 ⟨rfl, h⟩
  have X_2 := Lib.hid (X_1.out.trans h)
  have P_2 := Lib.hid (P_1.out.ext h)
  have Q_2 := Lib.hid (Q_1.out.ext h)
  have R_2 := Lib.hid (R_1.out.ext h)
  clear h X_1 P_1 Q_1 R_1
  rw [HR.out]
  have k0 := Q_2.out.cell 0
  have k1 := Q_2.out.cell 1
  have k2 := Q_2.out.cell 2
  go_wp2_with fail
  refine (right_any _ _ _ _ _ _).mono ?_
  rintro e w3 ⟨rfl, h⟩
  have X_3 := Lib.hid (X_2.out.trans h)
  have P_3 := Lib.hid (P_2.out.ext h)
  have Q_3 := Lib.hid (Q_2.out.ext h)
  have R_3 := Lib.hid (R_2.out.ext h)
  clear h X_2 P_2 Q_2 R_2
  clear k0 k1 k2
  rw [HS.out]
  go_wp2_with fail
  refine (near_any _ 2 2 (rn X Y) _ (rn_born w3 X Y _) (by decide)).mono ?_
  rintro e w4 ⟨rfl, hw⟩
  have h : Ext w3 w4 := by rw [← hw]; exact Ext.alloc (Ext.refl _) _
  have X_4 := Lib.hid (X_3.out.trans h)
  have P_4 := Lib.hid (P_3.out.ext h)
  have Q_4 := Lib.hid (Q_3.out.ext h)
  have R_4 := Lib.hid (R_3.out.ext h)
  clear h hw X_3 P_3 Q_3 R_3
  rw [HN.out]
  go_wp2_with fail
  refine (mode_any m _).mono ?_
  rintro e w9 ⟨rfl, rfl⟩
  rw [HM.out]
  have hv := (HE.out.ext X_4.out).var 1 (by decide)
  simp only [gk, sentV] at hv
  have d0 := R_4.out.cell 0
  have e0 := R_4.out.frozen 0
  have d1 := R_4.out.cell 1
  have e1 := R_4.out.frozen 1
  have d2 := R_4.out.cell 2
  have e2 := R_4.out.frozen 2
  have FR := Lib.hid (show Ext w _ from X_4.out.set3 (b := w.heap.size + 1 + 1) (by omega) (.int .i64 0) (.int .i64 0) (.slice none 0 0))
  have PR := Lib.hid (R_4.out.pic.set (W' := 0) (H' := 0) (v' := .slice none 0 0))
  go_wp2_with fail
  go_region
  all_goals go_wp2_with fail
  all_goals
    obtain ⟨k0, k1, k2⟩ := PR.out
    exact bodyPost_ret (v := .tuple #[.agg #[.int .i64 0, .int .i64 0, .slice none 0 0], .iface 171 (.pointer (some (E 1)))]) (by simp [results, Tryd.results37, go_sem, k0, k1, k2]) rfl ⟨rfl, FR.out.drew⟩
end Go.Proofs.YtkfjcgcgfdibaaaDoor
namespace Go.Proofs.YtkfjcgcgfdibaaaDoor
open Go.RowKit
set_option maxRecDepth 100000
theorem scale_in {x W ww : Nat} (h : x < ww) : x * W / ww < W ∨ W = 0 := by
  rcases Nat.eq_zero_or_pos W with h0 | h0
  · exact .inr h0
  · left
    rw [Nat.div_lt_iff_lt_mul (by omega), Nat.mul_comm W ww]
    exact Nat.mul_lt_mul_of_pos_right h h0
theorem set4b {w wr : World} {T : Nat} {x y z u x' y' z' u' : Value} (hE : Ext w wr) (hT : w.heap.size ≤ T) (hB : Bk wr T #[x, y, z, u]) :
    Ext w ((((wr.setCell ⟨T, 0, none⟩ x').setCell ⟨T, 1, none⟩ y').setCell ⟨T, 2, none⟩ z').setCell ⟨T, 3, none⟩ u') ∧ Bk ((((wr.setCell ⟨T, 0, none⟩ x').setCell ⟨T, 1, none⟩ y').setCell ⟨T, 2, none⟩ z').setCell ⟨T, 3, none⟩ u') T #[x', y', z', u'] ∧ Keeps (fun k => k = T) wr ((((wr.setCell ⟨T, 0, none⟩ x').setCell ⟨T, 1, none⟩ y').setCell ⟨T, 2, none⟩ z').setCell ⟨T, 3, none⟩ u') :=
  ⟨Below.setCell (Below.setCell (Below.setCell (Below.setCell hE (by exact hT) _) (by exact hT) _) (by exact hT) _) (by exact hT) _, (((hB.set_ 0 x').set_ 1 y').set_ 2 z').set_ 3 u', (((((Keeps.refl (fun k => k = T) wr).setCell (.inl rfl) _).setCell (.inl rfl) _).setCell (.inl rfl) _).setCell (.inl rfl) _)⟩
set_option linter.unusedSimpArgs false in
set_option maxHeartbeats 2000000 in
set_option linter.unusedSimpArgs false in
set_option maxHeartbeats 2000000 in
set_option linter.unusedSimpArgs false in
set_option maxHeartbeats 2000000 in
theorem scale1_any (x y W H ww hh : Nat) (a : Addr) (c P A B : Nat) (px : Nat → P4) (w : World) (hP : PicAt w P (W : Int) (H : Int) (.slice (some a) (W * H) c)) (hA : Bk w A #[.int .i64 (hh : Int)]) (hB : Bk w B #[.int .i64 (ww : Int)]) (hx : Pxs w (some a) (W * H) px) (hW : 1 ≤ W ∧ W ≤ 256) (hH : 1 ≤ H ∧ H ≤ 256) (hww : x < ww ∧ ww ≤ 256) (hhh : y < hh ∧ hh ≤ 256) :
    Calls Tryd.prog 76 #[.int .i64 (x : Int), .int .i64 (y : Int), .pointer (some ⟨P, 0, none⟩), .pointer (some ⟨A, 0, none⟩), .pointer (some ⟨B, 0, none⟩)] w fun e w' => e = .returned (.agg #[.int .u8 (px (y * H / hh * W + x * W / ww)).r, .int .u8 (px (y * H / hh * W + x * W / ww)).g, .int .u8 (px (y * H / hh * W + x * W / ww)).b, .int .u8 (px (y * H / hh * W + x * W / ww)).a]) ∧ Ext w w' := by
  have hU : x * W / ww < W := by rcases scale_in (W := W) hww.1 with h | h <;> omega
  have hV : y * H / hh < H := by rcases scale_in (W := H) hhh.1 with h | h <;> omega
  have hi : y * H / hh * W + x * W / ww < W * H := mul_lt_of hV hU
  have hX0 : Ext w (w.alloc (.cells #[.int .u8 0, .int .u8 0, .int .u8 0, .int .u8 0] 36)) := (Ext.refl w).alloc _
  obtain ⟨M1, hM1⟩ : ∃ M, y * H = M := ⟨_, rfl⟩
  obtain ⟨M3, hM3⟩ : ∃ M, x * W = M := ⟨_, rfl⟩
  have b1 : M1 ≤ 65536 := by rw [← hM1]; exact Nat.mul_le_mul (show y ≤ 256 by omega) hH.2
  have b3 : M3 ≤ 65536 := by rw [← hM3]; exact Nat.mul_le_mul (show x ≤ 256 by omega) hW.2
  have e1 : (y : Int) * (H : Int) = (M1 : Int) := by rw [← hM1]; simp
  have e3 : (x : Int) * (W : Int) = (M3 : Int) := by rw [← hM3]; simp
  rw [hM1] at hV hi ⊢
  rw [hM3] at hU hi ⊢
  obtain ⟨V, hVV⟩ : ∃ V, M1 / hh = V := ⟨_, rfl⟩
  obtain ⟨U, hUU⟩ : ∃ U, M3 / ww = U := ⟨_, rfl⟩
  have d1 : (M1 : Int) / (hh : Int) = (V : Int) := by rw [← hVV]; simp
  have d3 : (M3 : Int) / (ww : Int) = (U : Int) := by rw [← hUU]; simp
  rw [hVV] at hV hi ⊢
  rw [hUU] at hU hi ⊢
  obtain ⟨M2, hM2⟩ : ∃ M, V * W = M := ⟨_, rfl⟩
  have b2 : M2 ≤ 65536 := by rw [← hM2]; exact Nat.mul_le_mul (show V ≤ 256 by omega) hW.2
  have e2 : (V : Int) * (W : Int) = (M2 : Int) := by rw [← hM2]; simp
  rw [hM2] at hi ⊢
  have z1 : ((hh : Int) == 0) = false := beq_eq_false_iff_ne.2 (by omega)
  have z3 : ((ww : Int) == 0) = false := beq_eq_false_iff_ne.2 (by omega)
  have HI := Lib.hid hi
  have hNl : W * H ≤ 65536 := Nat.mul_le_mul hW.2 hH.2
  obtain ⟨N, hN⟩ : ∃ N, W * H = N := ⟨_, rfl⟩
  rw [hN] at hNl
  have hi2 : M2 + U < N := by rw [← hN]; exact hi
  have hu : U ≤ 256 := by omega
  have hv : V ≤ 256 := by omega
  have hhp : 0 < hh := by omega
  have hwp : 0 < ww := by omega
  have v0 : IntKind.i64.wrap ((V : Int)) = (V : Int) := by unfold IntKind.wrap; simp [IntKind.bits, IntKind.signed]; omega
  have v1 : IntKind.i64.wrap ((M1 : Int)) = (M1 : Int) := by unfold IntKind.wrap; simp [IntKind.bits, IntKind.signed]; omega
  have v2 : IntKind.i64.wrap ((M2 : Int)) = (M2 : Int) := by unfold IntKind.wrap; simp [IntKind.bits, IntKind.signed]; omega
  have v3 : IntKind.i64.wrap ((M3 : Int)) = (M3 : Int) := by unfold IntKind.wrap; simp [IntKind.bits, IntKind.signed]; omega
  have v5 : IntKind.i64.wrap ((U : Int)) = (U : Int) := by unfold IntKind.wrap; simp [IntKind.bits, IntKind.signed]; omega
  have v4 : IntKind.i64.wrap ((M2 : Int) + (U : Int)) = (M2 : Int) + (U : Int) := by unfold IntKind.wrap; simp [IntKind.bits, IntKind.signed]; omega
  have t1 : (M1 : Int).tdiv (hh : Int) = (V : Int) := by rw [Int.tdiv_eq_ediv_of_nonneg (by omega)]; exact d1
  have t3 : (M3 : Int).tdiv (ww : Int) = (U : Int) := by rw [Int.tdiv_eq_ediv_of_nonneg (by omega)]; exact d3
  have n1 : ¬ hh = 0 := by omega
  have n3 : ¬ ww = 0 := by omega
  have n5 : ((M2 : Int) + (U : Int)).toNat = M2 + U := by omega
  have n6 : (M2 : Int) + (U : Int) < (N : Int) := by omega
  have n7 : 0 ≤ (M2 : Int) + (U : Int) := by omega
  clear d1 d3 z1 z3
  have HPP := Lib.hid hP
  have HA := Lib.hid hA
  have HB := Lib.hid hB
  have HX := Lib.hid hx
  have MM := Lib.hid (And.intro hM1 (And.intro hM2 (And.intro hM3 (And.intro hVV hUU))))
  rw [hN] at HPP
  clear hX0 hP hA hB hx hM1 hM2 hM3 hVV hUU hU hV hi hN
  go_enter Tryd.func76, Tryd.ntmps76
  go_wp2_with fail
  have HLT : Hid (P < w.heap.size ∧ A < w.heap.size ∧ B < w.heap.size ∧ (a.add ((M2 + U) * 4)).block < w.heap.size) := Lib.hid ⟨World.block_lt_of_cell? w _ HPP.out.c0, HA.out.lt, HB.out.lt, World.block_lt_of_cell? w _ (HX.out.2 a rfl (M2 + U) HI.out).1⟩
  refine wp_world (fun wz => Ext w wz ∧ Bk wz w.heap.size #[.int .u8 0, .int .u8 0, .int .u8 0, .int .u8 0]) ⟨(Ext.refl w).alloc _, Bk.at rfl⟩ ?_
  rintro wr ⟨hX, hR⟩
  have R_0 := Lib.hid hR
  have X_0 := Lib.hid hX
  have P_0 := Lib.hid (HPP.out.ext hX)
  have A_0 := Lib.hid (HA.out.ext hX)
  have B_0 := Lib.hid (HB.out.ext hX)
  have Q_0 := Lib.hid (HX.out.ext hX)
  clear hX hR HPP HA HB HX
  refine wp_region_held_drew (S := fun w' => w'.cell? ⟨P, 0, none⟩ = some (.int .i64 (W : Int)) ∧ w'.cell? ⟨P, 1, none⟩ = some (.int .i64 (H : Int)) ∧ w'.cell? ⟨P, 2, none⟩ = some (.slice (some a) N c) ∧ w'.cell? (a.add ((M2 + U) * 4)) = some (.int .u8 (px (M2 + U)).r) ∧ w'.cell? ⟨(a.add ((M2 + U) * 4)).block, (a.add ((M2 + U) * 4)).off + 1, none⟩ = some (.int .u8 (px (M2 + U)).g) ∧ w'.cell? ⟨(a.add ((M2 + U) * 4)).block, (a.add ((M2 + U) * 4)).off + 2, none⟩ = some (.int .u8 (px (M2 + U)).b) ∧ w'.cell? ⟨(a.add ((M2 + U) * 4)).block, (a.add ((M2 + U) * 4)).off + 3, none⟩ = some (.int .u8 (px (M2 + U)).a) ∧ w'.cell? ⟨A, 0, none⟩ = some (.int .i64 (hh : Int)) ∧ w'.cell? ⟨B, 0, none⟩ = some (.int .i64 (ww : Int))) (by kernel_rfl) ⟨P_0.out.c0, P_0.out.c1, P_0.out.c2, (Q_0.out.2 a rfl (M2 + U) HI.out).1, (Q_0.out.2 a rfl (M2 + U) HI.out).2.1, (Q_0.out.2 a rfl (M2 + U) HI.out).2.2.1, (Q_0.out.2 a rfl (M2 + U) HI.out).2.2.2.1, A_0.out.cell 0, B_0.out.cell 0⟩ (fun hHeld => ?_)
  clear hHeld
  refine anyH_world (fun wz => Ext wr wz) (show Ext wr wr.drew from Below.drew (Ext.refl wr)) ?_
  rintro v_1 h
  have X_1 := Lib.hid (X_0.out.trans h)
  have P_1 := Lib.hid (P_0.out.ext h)
  have A_1 := Lib.hid (A_0.out.ext h)
  have B_1 := Lib.hid (B_0.out.ext h)
  have Q_1 := Lib.hid (Q_0.out.ext h)
  have R_1 := Lib.hid (R_0.out.ext h)
  clear h X_0 P_0 A_0 B_0 Q_0 R_0
  have hHeld : v_1.cell? ⟨P, 0, none⟩ = some (.int .i64 (W : Int)) ∧ v_1.cell? ⟨P, 1, none⟩ = some (.int .i64 (H : Int)) ∧ v_1.cell? ⟨P, 2, none⟩ = some (.slice (some a) N c) ∧ v_1.cell? (a.add ((M2 + U) * 4)) = some (.int .u8 (px (M2 + U)).r) ∧ v_1.cell? ⟨(a.add ((M2 + U) * 4)).block, (a.add ((M2 + U) * 4)).off + 1, none⟩ = some (.int .u8 (px (M2 + U)).g) ∧ v_1.cell? ⟨(a.add ((M2 + U) * 4)).block, (a.add ((M2 + U) * 4)).off + 2, none⟩ = some (.int .u8 (px (M2 + U)).b) ∧ v_1.cell? ⟨(a.add ((M2 + U) * 4)).block, (a.add ((M2 + U) * 4)).off + 3, none⟩ = some (.int .u8 (px (M2 + U)).a) ∧ v_1.cell? ⟨A, 0, none⟩ = some (.int .i64 (hh : Int)) ∧ v_1.cell? ⟨B, 0, none⟩ = some (.int .i64 (ww : Int)) := ⟨P_1.out.c0, P_1.out.c1, P_1.out.c2, (Q_1.out.2 a rfl (M2 + U) HI.out).1, (Q_1.out.2 a rfl (M2 + U) HI.out).2.1, (Q_1.out.2 a rfl (M2 + U) HI.out).2.2.1, (Q_1.out.2 a rfl (M2 + U) HI.out).2.2.2.1, A_1.out.cell 0, B_1.out.cell 0⟩
  refine wpAnyH_take (i := 0) (v := ?_) rfl (by kernel_rfl) (by kernel_rfl) (by kernel_rfl) (fun _ _ _ h => h) (Or.inl ⟨by kernel_rfl, ?_⟩) hHeld ?_
  rotate_left
  · intro w hSw
    (try dsimp only at hSw)
    go_split_ands
    go_simp
    (try with_reducible rfl)
  try simp only [Act.put, List.getElem_toArray, List.getElem_cons_succ, List.getElem_cons_zero, List.setIfInBounds_toArray, List.set_cons_zero, List.set_cons_succ]
  refine wpAnyH_take (i := 1) (v := ?_) rfl (by kernel_rfl) (by kernel_rfl) (by kernel_rfl) (fun _ _ _ h => h) (Or.inl ⟨by kernel_rfl, ?_⟩) hHeld ?_
  rotate_left
  · intro w hSw
    (try dsimp only at hSw)
    go_split_ands
    go_simp
    (try with_reducible rfl)
  try simp only [Act.put, List.getElem_toArray, List.getElem_cons_succ, List.getElem_cons_zero, List.setIfInBounds_toArray, List.set_cons_zero, List.set_cons_succ]
  refine wpAnyH_take (i := 2) (v := ?_) rfl (by kernel_rfl) (by kernel_rfl) (by kernel_rfl) (fun _ _ _ h => h) (Or.inl ⟨by kernel_rfl, ?_⟩) hHeld ?_
  rotate_left
  · intro w hSw
    (try dsimp only at hSw)
    go_split_ands
    go_simp
    (try with_reducible rfl)
  try simp only [Act.put, List.getElem_toArray, List.getElem_cons_succ, List.getElem_cons_zero, List.setIfInBounds_toArray, List.set_cons_zero, List.set_cons_succ]
  refine wpAnyH_take (i := 3) (v := ?_) rfl (by kernel_rfl) (by kernel_rfl) (by kernel_rfl) (fun _ _ _ h => h) (Or.inl ⟨by kernel_rfl, ?_⟩) hHeld ?_
  rotate_left
  · intro w hSw
    (try dsimp only at hSw)
    go_split_ands
    go_simp
    (try with_reducible rfl)
  try simp only [Act.put, List.getElem_toArray, List.getElem_cons_succ, List.getElem_cons_zero, List.setIfInBounds_toArray, List.set_cons_zero, List.set_cons_succ]
  refine wpAnyH_take (i := 4) (v := ?_) rfl (by kernel_rfl) (by kernel_rfl) (by kernel_rfl) (fun _ _ _ h => h) (Or.inl ⟨by kernel_rfl, ?_⟩) hHeld ?_
  rotate_left
  · intro w hSw
    (try dsimp only at hSw)
    go_split_ands
    go_simp
    (try with_reducible rfl)
  try simp only [Act.put, List.getElem_toArray, List.getElem_cons_succ, List.getElem_cons_zero, List.setIfInBounds_toArray, List.set_cons_zero, List.set_cons_succ]
  refine wpAnyH_take (i := 5) (v := ?_) rfl (by kernel_rfl) (by kernel_rfl) (by kernel_rfl) (fun _ _ _ h => h) (Or.inl ⟨by kernel_rfl, ?_⟩) hHeld ?_
  rotate_left
  · intro w hSw
    (try dsimp only at hSw)
    go_split_ands
    go_simp
    (try with_reducible rfl)
  try simp only [Act.put, List.getElem_toArray, List.getElem_cons_succ, List.getElem_cons_zero, List.setIfInBounds_toArray, List.set_cons_zero, List.set_cons_succ]
  refine wpAnyH_take (i := 6) (v := ?_) rfl (by kernel_rfl) (by kernel_rfl) (by kernel_rfl) (fun _ _ _ h => h) (Or.inl ⟨by kernel_rfl, ?_⟩) hHeld ?_
  rotate_left
  · intro w hSw
    (try dsimp only at hSw)
    go_split_ands
    go_simp
    (try with_reducible rfl)
  try simp only [Act.put, List.getElem_toArray, List.getElem_cons_succ, List.getElem_cons_zero, List.setIfInBounds_toArray, List.set_cons_zero, List.set_cons_succ]
  refine wpAnyH_take (i := 7) (v := ?_) rfl (by kernel_rfl) (by kernel_rfl) (by kernel_rfl) (fun _ _ _ h => h) (Or.inl ⟨by kernel_rfl, ?_⟩) hHeld ?_
  rotate_left
  · intro w hSw
    (try dsimp only at hSw)
    go_split_ands
    go_simp
    (try with_reducible rfl)
  try simp only [Act.put, List.getElem_toArray, List.getElem_cons_succ, List.getElem_cons_zero, List.setIfInBounds_toArray, List.set_cons_zero, List.set_cons_succ]
  refine wpAnyH_take (i := 8) (v := ?_) rfl (by kernel_rfl) (by kernel_rfl) (by kernel_rfl) (fun _ _ _ h => h) (Or.inl ⟨by kernel_rfl, ?_⟩) hHeld ?_
  rotate_left
  · intro w hSw
    (try dsimp only at hSw)
    go_split_ands
    go_simp
    (try with_reducible rfl)
  try simp only [Act.put, List.getElem_toArray, List.getElem_cons_succ, List.getElem_cons_zero, List.setIfInBounds_toArray, List.set_cons_zero, List.set_cons_succ]
  refine wpAnyH_take (i := 9) (v := ?_) rfl (by kernel_rfl) (by kernel_rfl) (by kernel_rfl) (fun _ _ _ h => h) (Or.inl ⟨by kernel_rfl, ?_⟩) hHeld ?_
  rotate_left
  · intro w hSw
    (try dsimp only at hSw)
    go_split_ands
    go_simp
    (try with_reducible rfl)
  try simp only [Act.put, List.getElem_toArray, List.getElem_cons_succ, List.getElem_cons_zero, List.setIfInBounds_toArray, List.set_cons_zero, List.set_cons_succ]
  refine wpAnyH_take (i := 10) (v := ?_) rfl (by kernel_rfl) (by kernel_rfl) (by kernel_rfl) (fun _ _ _ h => h) (Or.inl ⟨by kernel_rfl, ?_⟩) hHeld ?_
  rotate_left
  · intro w hSw
    (try dsimp only at hSw)
    go_split_ands
    go_simp
    (try with_reducible rfl)
  try simp only [Act.put, List.getElem_toArray, List.getElem_cons_succ, List.getElem_cons_zero, List.setIfInBounds_toArray, List.set_cons_zero, List.set_cons_succ]
  refine wpAnyH_take (i := 11) (v := ?_) rfl (by kernel_rfl) (by kernel_rfl) (by kernel_rfl) (fun _ _ _ h => h) (Or.inl ⟨by kernel_rfl, ?_⟩) hHeld ?_
  rotate_left
  · intro w hSw
    (try dsimp only at hSw)
    go_split_ands
    go_simp
    (try with_reducible rfl)
  try simp only [Act.put, List.getElem_toArray, List.getElem_cons_succ, List.getElem_cons_zero, List.setIfInBounds_toArray, List.set_cons_zero, List.set_cons_succ]
  refine wpAnyH_take (i := 12) (v := ?_) rfl (by kernel_rfl) (by kernel_rfl) (by kernel_rfl) (fun _ _ _ h => h) (Or.inl ⟨by kernel_rfl, ?_⟩) hHeld ?_
  rotate_left
  · intro w hSw
    (try dsimp only at hSw)
    go_split_ands
    go_simp
    (try with_reducible rfl)
  try simp only [Act.put, List.getElem_toArray, List.getElem_cons_succ, List.getElem_cons_zero, List.setIfInBounds_toArray, List.set_cons_zero, List.set_cons_succ]
  refine wpAnyH_take (i := 13) (v := ?_) rfl (by kernel_rfl) (by kernel_rfl) (by kernel_rfl) (fun _ _ _ h => h) (Or.inl ⟨by kernel_rfl, ?_⟩) hHeld ?_
  rotate_left
  · intro w hSw
    (try dsimp only at hSw)
    go_split_ands
    go_simp
    (try with_reducible rfl)
  try simp only [Act.put, List.getElem_toArray, List.getElem_cons_succ, List.getElem_cons_zero, List.setIfInBounds_toArray, List.set_cons_zero, List.set_cons_succ]
  refine wpAnyH_take (i := 14) (v := ?_) rfl (by kernel_rfl) (by kernel_rfl) (by kernel_rfl) (fun _ _ _ h => h) (Or.inl ⟨by kernel_rfl, ?_⟩) hHeld ?_
  rotate_left
  · intro w hSw
    (try dsimp only at hSw)
    go_split_ands
    go_simp
    (try with_reducible rfl)
  try simp only [Act.put, List.getElem_toArray, List.getElem_cons_succ, List.getElem_cons_zero, List.setIfInBounds_toArray, List.set_cons_zero, List.set_cons_succ]
  refine wpAnyH_take (i := 15) (v := ?_) rfl (by kernel_rfl) (by kernel_rfl) (by kernel_rfl) (fun _ _ _ h => h) (Or.inl ⟨by kernel_rfl, ?_⟩) hHeld ?_
  rotate_left
  · intro w hSw
    (try dsimp only at hSw)
    go_split_ands
    go_simp
    (try with_reducible rfl)
  try simp only [Act.put, List.getElem_toArray, List.getElem_cons_succ, List.getElem_cons_zero, List.setIfInBounds_toArray, List.set_cons_zero, List.set_cons_succ]
  refine wpAnyH_take (i := 16) (v := ?_) rfl (by kernel_rfl) (by kernel_rfl) (by kernel_rfl) (fun _ _ _ h => h) (Or.inl ⟨by kernel_rfl, ?_⟩) hHeld ?_
  rotate_left
  · intro w hSw
    (try dsimp only at hSw)
    go_split_ands
    go_simp
    (try with_reducible rfl)
  try simp only [Act.put, List.getElem_toArray, List.getElem_cons_succ, List.getElem_cons_zero, List.setIfInBounds_toArray, List.set_cons_zero, List.set_cons_succ]
  refine wpAnyH_take (i := 17) (v := ?_) rfl (by kernel_rfl) (by kernel_rfl) (by kernel_rfl) (fun _ _ _ h => h) (Or.inl ⟨by kernel_rfl, ?_⟩) hHeld ?_
  rotate_left
  · intro w hSw
    (try dsimp only at hSw)
    go_split_ands
    go_simp
    (try with_reducible rfl)
  try simp only [Act.put, List.getElem_toArray, List.getElem_cons_succ, List.getElem_cons_zero, List.setIfInBounds_toArray, List.set_cons_zero, List.set_cons_succ]
  refine wpAnyH_take (i := 18) (v := ?_) rfl (by kernel_rfl) (by kernel_rfl) (by kernel_rfl) (fun _ _ _ h => h) (Or.inl ⟨by kernel_rfl, ?_⟩) hHeld ?_
  rotate_left
  · intro w hSw
    (try dsimp only at hSw)
    go_split_ands
    go_simp
    (try with_reducible rfl)
  try simp only [Act.put, List.getElem_toArray, List.getElem_cons_succ, List.getElem_cons_zero, List.setIfInBounds_toArray, List.set_cons_zero, List.set_cons_succ]
  refine wpAnyH_take (i := 19) (v := ?_) rfl (by kernel_rfl) (by kernel_rfl) (by kernel_rfl) (fun _ _ _ h => h) (Or.inl ⟨by kernel_rfl, ?_⟩) hHeld ?_
  rotate_left
  · intro w hSw
    (try dsimp only at hSw)
    go_split_ands
    go_simp
    (try with_reducible rfl)
  try simp only [Act.put, List.getElem_toArray, List.getElem_cons_succ, List.getElem_cons_zero, List.setIfInBounds_toArray, List.set_cons_zero, List.set_cons_succ]
  refine wpAnyH_ready (rs := [20]) (by kernel_rfl) (by simp) ?_
  refine AllReadyH.cons rfl (fun KK hK => ?_) AllReadyH.nil
  clear hHeld
  have t0 := R_1.out.cell 0
  have f0 := R_1.out.frozen 0
  have t1 := R_1.out.cell 1
  have f1 := R_1.out.frozen 1
  have t2 := R_1.out.cell 2
  have f2 := R_1.out.frozen 2
  have t3 := R_1.out.cell 3
  have f3 := R_1.out.frozen 3
  have SF := Lib.hid (set4b (x' := (.int .u8 (px (M2 + U)).r)) (y' := (.int .u8 (px (M2 + U)).g)) (z' := (.int .u8 (px (M2 + U)).b)) (u' := (.int .u8 (px (M2 + U)).a)) X_1.out (Nat.le_refl _) R_1.out)
  obtain ⟨l1, l2, l3, l4⟩ := HLT.out
  have e1_ := X_1.out.size
  have KS := Lib.hid (show _ ∧ _ ∧ _ ∧ _ ∧ _ ∧ _ ∧ _ ∧ _ ∧ _ from ⟨((SF.out.2.2.cell (p := ⟨P, 0, none⟩) (Nat.lt_of_lt_of_le l1 e1_) (Nat.ne_of_lt l1)).trans P_1.out.c0), ((SF.out.2.2.cell (p := ⟨P, 1, none⟩) (Nat.lt_of_lt_of_le l1 e1_) (Nat.ne_of_lt l1)).trans P_1.out.c1), ((SF.out.2.2.cell (p := ⟨P, 2, none⟩) (Nat.lt_of_lt_of_le l1 e1_) (Nat.ne_of_lt l1)).trans P_1.out.c2), ((SF.out.2.2.cell (p := (a.add ((M2 + U) * 4))) (Nat.lt_of_lt_of_le l4 e1_) (Nat.ne_of_lt l4)).trans (Q_1.out.2 a rfl (M2 + U) HI.out).1), ((SF.out.2.2.cell (p := ⟨(a.add ((M2 + U) * 4)).block, (a.add ((M2 + U) * 4)).off + 1, none⟩) (Nat.lt_of_lt_of_le l4 e1_) (Nat.ne_of_lt l4)).trans (Q_1.out.2 a rfl (M2 + U) HI.out).2.1), ((SF.out.2.2.cell (p := ⟨(a.add ((M2 + U) * 4)).block, (a.add ((M2 + U) * 4)).off + 2, none⟩) (Nat.lt_of_lt_of_le l4 e1_) (Nat.ne_of_lt l4)).trans (Q_1.out.2 a rfl (M2 + U) HI.out).2.2.1), ((SF.out.2.2.cell (p := ⟨(a.add ((M2 + U) * 4)).block, (a.add ((M2 + U) * 4)).off + 3, none⟩) (Nat.lt_of_lt_of_le l4 e1_) (Nat.ne_of_lt l4)).trans (Q_1.out.2 a rfl (M2 + U) HI.out).2.2.2.1), ((SF.out.2.2.cell (p := ⟨A, 0, none⟩) (Nat.lt_of_lt_of_le l2 e1_) (Nat.ne_of_lt l2)).trans (A_1.out.cell 0)), ((SF.out.2.2.cell (p := ⟨B, 0, none⟩) (Nat.lt_of_lt_of_le l3 e1_) (Nat.ne_of_lt l3)).trans (B_1.out.cell 0))⟩)
  clear l1 l2 l3 l4 e1_
  go_simp
  clear t0 t1 t2 t3 f0 f1 f2 f3
  refine hK.out _ _ KS.out (fun hHeld => ?_)
  clear hK KK
  try simp only [Act.put, List.getElem_toArray, List.getElem_cons_succ, List.getElem_cons_zero, List.setIfInBounds_toArray, List.set_cons_zero, List.set_cons_succ]
  refine wpAnyH_done (by kernel_rfl) ?_ _
  clear hHeld
  clear KS
  have b0 := SF.out.2.1.cell 0
  have b1 := SF.out.2.1.cell 1
  have b2 := SF.out.2.1.cell 2
  have b3 := SF.out.2.1.cell 3
  go_wp2_with fail
  exact bodyPost_ret (v := .agg #[.int .u8 (px (M2 + U)).r, .int .u8 (px (M2 + U)).g, .int .u8 (px (M2 + U)).b, .int .u8 (px (M2 + U)).a]) (by simp [results, Tryd.results76, go_sem, b0, b1, b2, b3]) rfl ⟨rfl, SF.out.1⟩
end Go.Proofs.YtkfjcgcgfdibaaaDoor
namespace Go.Proofs.YtkfjcgcgfdibaaaDoor
open Go.RowKit
set_option maxRecDepth 100000
theorem enters_scale1 : ∀ (args : Array Value) (w : World), (callFunc 76 args).run Tryd.prog w = .ok (.enter 76 args) w := enters_fn Tryd.func76 (by kernel_rfl) rfl
def scaleP (W H ww hh : Nat) (px : Nat → P4) : Nat → P4 := lin ww fun x y => px (y * H / hh * W + x * W / ww)
set_option linter.unusedSimpArgs false in
set_option maxHeartbeats 4000000 in
theorem scale_good (W H ww hh : Nat) (a : Addr) (c : Nat) (px : Nat → P4) (w : World) (hW : 1 ≤ W ∧ W ≤ 256) (hH : 1 ≤ H ∧ H ≤ 256) (h2 : 1 ≤ ww ∧ ww ≤ 256) (h3 : 1 ≤ hh ∧ hh ≤ 256) (hx : Pxs w (some a) (W * H) px) :
    Calls Tryd.prog 41 #[.agg #[.int .i64 (W : Int), .int .i64 (H : Int), .slice (some a) (W * H) c], .int .i64 (ww : Int), .int .i64 (hh : Int)] w fun e w' => (∃ v, e = .returned (.tuple #[.agg #[.int .i64 (ww : Int), .int .i64 (hh : Int), v], .nilIface]) ∧ w'.ownsRow w.heap.size 36 4 v (ww * hh) (pxV (ww * hh) (scaleP W H ww hh px))) ∧ Ext w w' := by
  have HR := Lib.hid (right_of hW hH)
  have HX := Lib.hid hx
  have HWH := Lib.hid (And.intro hW hH)
  have HS1 : Hid (sideB (ww : Int) = true) := Lib.hid (decide_eq_true (by omega))
  have HS2 : Hid (sideB (hh : Int) = true) := Lib.hid (decide_eq_true (by omega))
  clear hx hW hH
  go_enter Tryd.func41, Tryd.ntmps41
  go_wp2_with fail
  refine wp_world (fun wz => Ext w wz ∧ wz.heap.size = w.heap.size + 1 + 1 + 1 + 1 ∧ Bk wz (w.heap.size) #[.int .i64 (W : Int), .int .i64 (H : Int), .slice (some a) (W * H) c] ∧ Bk wz (w.heap.size + 1) #[.int .i64 (ww : Int)] ∧ Bk wz (w.heap.size + 1 + 1) #[.int .i64 (hh : Int)] ∧ Bk wz (w.heap.size + 1 + 1 + 1) #[.int .i64 0, .int .i64 0, .slice none 0 0]) ⟨by repeat (first | exact Ext.refl _ | refine Ext.alloc ?_ _), by simp, by repeat (first | exact Bk.at (by simp) | refine Bk.old ?_), by repeat (first | exact Bk.at (by simp) | refine Bk.old ?_), by repeat (first | exact Bk.at (by simp) | refine Bk.old ?_), by repeat (first | exact Bk.at (by simp) | refine Bk.old ?_)⟩ ?_
  rintro wr ⟨hX, hZ, hB0, hB1, hB2, hB3⟩
  have ZA := Lib.hid hZ
  have X_0 := Lib.hid hX
  have P_0 := Lib.hid hB0
  have A_0 := Lib.hid hB1
  have B_0 := Lib.hid hB2
  have Z_0 := Lib.hid hB3
  clear hX hZ hB0 hB1 hB2 hB3
  refine wp_region_held_drew (S := fun w' => w'.cell? ⟨w.heap.size, 0, none⟩ = some (.int .i64 (W : Int)) ∧ w'.cell? ⟨w.heap.size, 1, none⟩ = some (.int .i64 (H : Int)) ∧ w'.cell? ⟨w.heap.size, 2, none⟩ = some (.slice (some a) (W * H) c) ∧ w'.cell? ⟨w.heap.size + 1, 0, none⟩ = some (.int .i64 (ww : Int)) ∧ w'.cell? ⟨w.heap.size + 1 + 1, 0, none⟩ = some (.int .i64 (hh : Int))) (by kernel_rfl) ⟨P_0.out.cell 0, P_0.out.cell 1, P_0.out.cell 2, A_0.out.cell 0, B_0.out.cell 0⟩ (fun hHeld => ?_)
  clear hHeld
  refine anyH_world (fun wz => Ext wr wz) (show Ext wr wr.drew from Below.drew (Ext.refl wr)) ?_
  rintro v1 h
  have X_1 := Lib.hid (X_0.out.trans h)
  have P_1 := Lib.hid (P_0.out.ext h)
  have A_1 := Lib.hid (A_0.out.ext h)
  have B_1 := Lib.hid (B_0.out.ext h)
  have Z_1 := Lib.hid (Z_0.out.ext h)
  clear h X_0 P_0 A_0 B_0 Z_0
  have hHeld : v1.cell? ⟨w.heap.size, 0, none⟩ = some (.int .i64 (W : Int)) ∧ v1.cell? ⟨w.heap.size, 1, none⟩ = some (.int .i64 (H : Int)) ∧ v1.cell? ⟨w.heap.size, 2, none⟩ = some (.slice (some a) (W * H) c) ∧ v1.cell? ⟨w.heap.size + 1, 0, none⟩ = some (.int .i64 (ww : Int)) ∧ v1.cell? ⟨w.heap.size + 1 + 1, 0, none⟩ = some (.int .i64 (hh : Int)) := ⟨P_1.out.cell 0, P_1.out.cell 1, P_1.out.cell 2, A_1.out.cell 0, B_1.out.cell 0⟩
  refine wpAnyH_take (i := 0) (v := ?_) rfl (by kernel_rfl) (by kernel_rfl) (by kernel_rfl) (fun _ _ _ h => h) (Or.inl ⟨by kernel_rfl, ?_⟩) hHeld ?_
  rotate_left
  · intro w hSw
    (try dsimp only at hSw)
    go_split_ands
    go_simp
    (try with_reducible rfl)
  try simp only [Act.put, List.getElem_toArray, List.getElem_cons_succ, List.getElem_cons_zero, List.setIfInBounds_toArray, List.set_cons_zero, List.set_cons_succ]
  refine wpAnyH_take (i := 1) (v := ?_) rfl (by kernel_rfl) (by kernel_rfl) (by kernel_rfl) (fun _ _ _ h => h) (Or.inl ⟨by kernel_rfl, ?_⟩) hHeld ?_
  rotate_left
  · intro w hSw
    (try dsimp only at hSw)
    go_split_ands
    go_simp
    (try with_reducible rfl)
  try simp only [Act.put, List.getElem_toArray, List.getElem_cons_succ, List.getElem_cons_zero, List.setIfInBounds_toArray, List.set_cons_zero, List.set_cons_succ]
  refine wpAnyH_ready (rs := [2]) (by kernel_rfl) (by simp) ?_
  refine AllReadyH.cons rfl (fun KK hK => ?_) AllReadyH.nil
  clear hHeld
  go_simp
  refine (side_any ww _).mono ?_
  rintro e w9 ⟨rfl, rfl⟩
  rw [HS1.out]
  go_simp
  refine hK.out _ _ ⟨P_1.out.cell 0, P_1.out.cell 1, P_1.out.cell 2, A_1.out.cell 0, B_1.out.cell 0⟩ (fun hHeld => ?_)
  clear hK KK
  try simp only [Act.put, List.getElem_toArray, List.getElem_cons_succ, List.getElem_cons_zero, List.setIfInBounds_toArray, List.set_cons_zero, List.set_cons_succ]
  refine wpAnyH_take (i := 3) (v := ?_) rfl (by kernel_rfl) (by kernel_rfl) (by kernel_rfl) (fun _ _ _ h => h) (Or.inl ⟨by kernel_rfl, ?_⟩) hHeld ?_
  rotate_left
  · intro w hSw
    (try dsimp only at hSw)
    go_split_ands
    go_simp
    (try with_reducible rfl)
  try simp only [Act.put, List.getElem_toArray, List.getElem_cons_succ, List.getElem_cons_zero, List.setIfInBounds_toArray, List.set_cons_zero, List.set_cons_succ]
  refine wpAnyH_take (i := 4) (v := ?_) rfl (by kernel_rfl) (by kernel_rfl) (by kernel_rfl) (fun _ _ _ h => h) (Or.inl ⟨by kernel_rfl, ?_⟩) hHeld ?_
  rotate_left
  · intro w hSw
    (try dsimp only at hSw)
    go_split_ands
    go_simp
    (try with_reducible rfl)
  try simp only [Act.put, List.getElem_toArray, List.getElem_cons_succ, List.getElem_cons_zero, List.setIfInBounds_toArray, List.set_cons_zero, List.set_cons_succ]
  refine wpAnyH_ready (rs := [5]) (by kernel_rfl) (by simp) ?_
  refine AllReadyH.cons rfl (fun KK hK => ?_) AllReadyH.nil
  clear hHeld
  go_simp
  refine (side_any hh _).mono ?_
  rintro e w9 ⟨rfl, rfl⟩
  rw [HS2.out]
  go_simp
  refine hK.out _ _ ⟨P_1.out.cell 0, P_1.out.cell 1, P_1.out.cell 2, A_1.out.cell 0, B_1.out.cell 0⟩ (fun hHeld => ?_)
  clear hK KK
  try simp only [Act.put, List.getElem_toArray, List.getElem_cons_succ, List.getElem_cons_zero, List.setIfInBounds_toArray, List.set_cons_zero, List.set_cons_succ]
  refine wpAnyH_take (i := 6) (v := ?_) rfl (by kernel_rfl) (by kernel_rfl) (by kernel_rfl) (fun _ _ _ h => h) (Or.inl ⟨by kernel_rfl, ?_⟩) hHeld ?_
  rotate_left
  · intro w hSw
    (try dsimp only at hSw)
    go_split_ands
    go_simp
    (try with_reducible rfl)
  try simp only [Act.put, List.getElem_toArray, List.getElem_cons_succ, List.getElem_cons_zero, List.setIfInBounds_toArray, List.set_cons_zero, List.set_cons_succ]
  refine wpAnyH_ready (rs := [7]) (by kernel_rfl) (by simp) ?_
  refine AllReadyH.cons rfl (fun KK hK => ?_) AllReadyH.nil
  clear hHeld
  go_simp
  refine (check_ok _ _ _ _ _ _ HR.out).mono ?_
  rintro e v2 ⟨rfl, h⟩
  have X_2 := Lib.hid (X_1.out.trans h)
  have P_2 := Lib.hid (P_1.out.ext h)
  have A_2 := Lib.hid (A_1.out.ext h)
  have B_2 := Lib.hid (B_1.out.ext h)
  have Z_2 := Lib.hid (Z_1.out.ext h)
  clear h X_1 P_1 A_1 B_1 Z_1
  go_simp
  refine hK.out _ _ ⟨P_2.out.cell 0, P_2.out.cell 1, P_2.out.cell 2, A_2.out.cell 0, B_2.out.cell 0⟩ (fun hHeld => ?_)
  clear hK KK
  try simp only [Act.put, List.getElem_toArray, List.getElem_cons_succ, List.getElem_cons_zero, List.setIfInBounds_toArray, List.set_cons_zero, List.set_cons_succ]
  refine wpAnyH_take (i := 8) (v := ?_) rfl (by kernel_rfl) (by kernel_rfl) (by kernel_rfl) (fun _ _ _ h => h) (Or.inl ⟨by kernel_rfl, ?_⟩) hHeld ?_
  rotate_left
  · intro w hSw
    (try dsimp only at hSw)
    go_split_ands
    go_simp
    (try with_reducible rfl)
  try simp only [Act.put, List.getElem_toArray, List.getElem_cons_succ, List.getElem_cons_zero, List.setIfInBounds_toArray, List.set_cons_zero, List.set_cons_succ]
  refine wpAnyH_done (by kernel_rfl) ?_ _
  clear hHeld
  have a0 := A_2.out.cell 0
  have b0 := B_2.out.cell 0
  have hzb : w.heap.size + 1 + 1 + 1 < v2.heap.size := Z_2.out.lt
  go_wp2_with fail
  refine (each_any 76 #[.pointer (some ⟨w.heap.size, 0, none⟩), .pointer (some ⟨w.heap.size + 1 + 1, 0, none⟩), .pointer (some ⟨w.heap.size + 1, 0, none⟩)] ww hh (fun x y => px (y * H / hh * W + x * W / ww)) v2 (by omega) (by omega) enters_scale1 (fun x y w1 h1 hxW hyH => scale1_any x y W H ww hh a c w.heap.size (w.heap.size + 1 + 1) (w.heap.size + 1) px w1 (P_2.out.ext h1).pic (B_2.out.ext h1) (A_2.out.ext h1) (HX.out.ext (X_2.out.trans h1)) HWH.out.1 HWH.out.2 ⟨hxW, h2.2⟩ ⟨hyH, h3.2⟩)).mono ?_
  rintro e w3 ⟨⟨v, rfl, own⟩, h⟩
  have X3 := Lib.hid h
  have OWN := Lib.hid own
  clear h own a0 b0
  obtain ⟨x, c', rfl⟩ := own_slice OWN.out
  have B3 := Z_2.out.ext X3.out
  have d0 := B3.cell 0
  have d1 := B3.cell 1
  have d2 := B3.cell 2
  have e0 := B3.frozen 0
  have e1 := B3.frozen 1
  have e2 := B3.frozen 2
  have FR := Lib.hid (fill_res (W := (ww : Int)) (H := (hh : Int)) (X_2.out.trans X3.out) (by omega : w.heap.size ≤ w.heap.size + 1 + 1 + 1) B3.pic OWN.out hzb)
  clear B3
  go_wp2_with fail
  obtain ⟨Pk, own, hX⟩ := FR.out
  have k0 := Pk.c0
  have k1 := Pk.c1
  have k2 := Pk.c2
  exact bodyPost_ret (v := .tuple #[.agg #[.int .i64 (ww : Int), .int .i64 (hh : Int), .slice x (ww * hh) c'], .nilIface]) (by simp [results, Tryd.results41, go_sem, k0, k1, k2]) rfl ⟨⟨_, rfl, owns_based own (by have := ZA.out; have := X_2.out.size; omega)⟩, hX⟩
end Go.Proofs.YtkfjcgcgfdibaaaDoor
