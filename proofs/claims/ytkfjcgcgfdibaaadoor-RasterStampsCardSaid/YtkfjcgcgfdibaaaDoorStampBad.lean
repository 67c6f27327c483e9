/- raster.Stamp where it cannot. -/
import Derived.Test.YtkfjcgcgfdibaaaDoorStampLaw
import Derived.Test.YtkfjcgcgfdibaaaDoorLineLaw
import Derived.Test.YtkfjcgcgfdibaaaDoorPixRef
import Derived.Deep.DeepCutAuto
namespace Go.Proofs.YtkfjcgcgfdibaaaDoor
open Go.RowKit
set_option maxRecDepth 100000
def rn (X Y : Int) : Nat → Int
  | 0 => X
  | _ => Y
theorem rn_born (w : World) (X Y : Int) (t : TypeId) : ∀ i, i < 2 → (w.alloc (.cells #[.int .i64 X, .int .i64 Y] t)).cell? ⟨w.heap.size, i, none⟩ = some (.int .i64 (rn X Y i)) := by
  intro i hi
  rw [World.cell?_alloc_at _ _ _ _ rfl]
  match i, hi with
  | 0, _ => rfl
  | 1, _ => rfl
theorem rn_near {X Y : Int} (hx : -10000 ≤ X ∧ X ≤ 10000) (hy : -10000 ≤ Y ∧ Y ≤ 10000) : nearAll (rn X Y) 2 = true :=
  (nearAll_iff _ 2).2 fun j hj => match j, hj with
    | 0, _ => decide_eq_true hx
    | 1, _ => decide_eq_true hy
theorem right_of {W H : Nat} (hW : 1 ≤ W ∧ W ≤ 256) (hH : 1 ≤ H ∧ H ≤ 256) : rightB (W : Int) (H : Int) (W * H) = true := by
  unfold rightB sideB
  simp only [Bool.and_eq_true, decide_eq_true_eq]
  exact ⟨⟨by omega, by omega⟩, by simp⟩
theorem anyH_world {P : Program} {md : Region.Mode} {ops : Array Oper} {Q : Exit → Act → World → Prop} {S : World → Prop} {fuel : Nat} {listed : Array Bool} {a : Act} {W : World} (F : World → Prop) (h1 : F W) (h2 : ∀ wz, F wz → wpAnyH P md ops Q S fuel listed a wz) : wpAnyH P md ops Q S fuel listed a W := h2 W h1
set_option linter.unusedSimpArgs false in
set_option maxHeartbeats 4000000 in
theorem stamp_shape_p (W H QW QH X Y m : Int) (xa xb : Option Addr) (n c k d : Nat) (E : Nat → Addr) (w : World) (hE : Errs w E) (hr : rightB W H n = false) :
    Calls Tryd.prog 37 #[.agg #[(.int .i64 W), (.int .i64 H), (.slice xa n c)], .agg #[(.int .i64 QW), (.int .i64 QH), (.slice xb k d)], .int .i64 X, .int .i64 Y, .int .i64 m] w fun e w' => e = .returned (.tuple #[.agg #[.int .i64 0, .int .i64 0, .slice none 0 0], .iface 171 (.pointer (some (E 2)))]) ∧ Ext w w' := by
  have HE := Lib.hid hE
  have HR := Lib.hid hr
  clear hE hr
  go_enter Tryd.func37, Tryd.ntmps37
  go_wp2_with fail
  refine calls_world (fun wz => Ext w wz ∧ wz.heap.size = w.heap.size + 1 + 1 + 1 ∧ Bk wz (w.heap.size) #[(.int .i64 W), (.int .i64 H), (.slice xa n c)] ∧ Bk wz (w.heap.size + 1) #[(.int .i64 QW), (.int .i64 QH), (.slice xb k d)] ∧ Bk wz (w.heap.size + 1 + 1) #[.int .i64 0, .int .i64 0, .slice none 0 0]) ⟨by repeat (first | exact Ext.refl _ | refine Ext.alloc ?_ _), by simp, by repeat (first | exact Bk.at (by simp) | refine Bk.old ?_), by repeat (first | exact Bk.at (by simp) | refine Bk.old ?_), by repeat (first | exact Bk.at (by simp) | refine Bk.old ?_)⟩ ?_
  rintro w1 ⟨hX, hZ, hB0, hB1, hB2⟩
  have X_1 := Lib.hid (hX)
  have P_1 := Lib.hid (hB0)
  have Q_1 := Lib.hid (hB1)
  have R_1 := Lib.hid (hB2)
  clear hX hZ hB0 hB1 hB2
  refine (right_any _ _ _ _ _ _).mono ?_
  rintro e w2 ⟨rfl, h⟩
  have X_2 := Lib.hid (X_1.out.trans h)
  have P_2 := Lib.hid (P_1.out.ext h)
  have Q_2 := Lib.hid (Q_1.out.ext h)
  have R_2 := Lib.hid (R_1.out.ext h)
  clear h X_1 P_1 Q_1 R_1
  rw [HR.out]
  have hv := (HE.out.ext X_2.out).var 2 (by decide)
  simp only [gk, sentV] at hv
  have d0 := R_2.out.cell 0
  have e0 := R_2.out.frozen 0
  have d1 := R_2.out.cell 1
  have e1 := R_2.out.frozen 1
  have d2 := R_2.out.cell 2
  have e2 := R_2.out.frozen 2
  have FR := Lib.hid (show Ext w _ from X_2.out.set3 (b := w.heap.size + 1 + 1) (by omega) (.int .i64 0) (.int .i64 0) (.slice none 0 0))
  have PR := Lib.hid (R_2.out.pic.set (W' := 0) (H' := 0) (v' := .slice none 0 0))
  go_wp2_with fail
  go_region
  all_goals go_wp2_with fail
  all_goals
    obtain ⟨k0, k1, k2⟩ := PR.out
    exact bodyPost_ret (v := .tuple #[.agg #[.int .i64 0, .int .i64 0, .slice none 0 0], .iface 171 (.pointer (some (E 2)))]) (by simp [results, Tryd.results37, go_sem, k0, k1, k2]) rfl ⟨rfl, FR.out.drew⟩
set_option linter.unusedSimpArgs false in
set_option maxHeartbeats 4000000 in
theorem stamp_shape_q (W H QW QH X Y m : Int) (xa xb : Option Addr) (n c k d : Nat) (E : Nat → Addr) (w : World) (hE : Errs w E) (hr : rightB W H n = true) (hs : rightB QW QH k = false) :
    Calls Tryd.prog 37 #[.agg #[(.int .i64 W), (.int .i64 H), (.slice xa n c)], .agg #[(.int .i64 QW), (.int .i64 QH), (.slice xb k d)], .int .i64 X, .int .i64 Y, .int .i64 m] w fun e w' => e = .returned (.tuple #[.agg #[.int .i64 0, .int .i64 0, .slice none 0 0], .iface 171 (.pointer (some (E 2)))]) ∧ Ext w w' := by
  have HE := Lib.hid hE
  have HR := Lib.hid hr
  have HS := Lib.hid hs
  clear hE hr hs
  go_enter Tryd.func37, Tryd.ntmps37
  go_wp2_with fail
  refine calls_world (fun wz => Ext w wz ∧ wz.heap.size = w.heap.size + 1 + 1 + 1 ∧ Bk wz (w.heap.size) #[(.int .i64 W), (.int .i64 H), (.slice xa n c)] ∧ Bk wz (w.heap.size + 1) #[(.int .i64 QW), (.int .i64 QH), (.slice xb k d)] ∧ Bk wz (w.heap.size + 1 + 1) #[.int .i64 0, .int .i64 0, .slice none 0 0]) ⟨by repeat (first | exact Ext.refl _ | refine Ext.alloc ?_ _), by simp, by repeat (first | exact Bk.at (by simp) | refine Bk.old ?_), by repeat (first | exact Bk.at (by simp) | refine Bk.old ?_), by repeat (first | exact Bk.at (by simp) | refine Bk.old ?_)⟩ ?_
  rintro w1 ⟨hX, hZ, hB0, hB1, hB2⟩
  have X_1 := Lib.hid (hX)
  have P_1 := Lib.hid (hB0)
  have Q_1 := Lib.hid (hB1)
  have R_1 := Lib.hid (hB2)
  clear hX hZ hB0 hB1 hB2
  refine (right_any _ _ _ _ _ _).mono ?_
  rintro e w2 ⟨rfl, h⟩
  have X_2 := Lib.hid (X_1.out.trans h)
  have P_2 := Lib.hid (P_1.out.ext h)
  have Q_2 := Lib.hid (Q_1.out.ext h)
  have R_2 := Lib.hid (R_1.out.ext h)
  clear h X_1 P_1 Q_1 R_1
  rw [HR.out]
  have k0 := Q_2.out.cell 0
  have k1 := Q_2.out.cell 1
  have k2 := Q_2.out.cell 2
  go_wp2_with fail
  refine (right_any _ _ _ _ _ _).mono ?_
  rintro e w3 ⟨rfl, h⟩
  have X_3 := Lib.hid (X_2.out.trans h)
  have P_3 := Lib.hid (P_2.out.ext h)
  have Q_3 := Lib.hid (Q_2.out.ext h)
  have R_3 := Lib.hid (R_2.out.ext h)
  clear h X_2 P_2 Q_2 R_2
  clear k0 k1 k2
  rw [HS.out]
  have hv := (HE.out.ext X_3.out).var 2 (by decide)
  simp only [gk, sentV] at hv
  have d0 := R_3.out.cell 0
  have e0 := R_3.out.frozen 0
  have d1 := R_3.out.cell 1
  have e1 := R_3.out.frozen 1
  have d2 := R_3.out.cell 2
  have e2 := R_3.out.frozen 2
  have FR := Lib.hid (show Ext w _ from X_3.out.set3 (b := w.heap.size + 1 + 1) (by omega) (.int .i64 0) (.int .i64 0) (.slice none 0 0))
  have PR := Lib.hid (R_3.out.pic.set (W' := 0) (H' := 0) (v' := .slice none 0 0))
  go_wp2_with fail
  go_region
  all_goals go_wp2_with fail
  all_goals
    obtain ⟨k0, k1, k2⟩ := PR.out
    exact bodyPost_ret (v := .tuple #[.agg #[.int .i64 0, .int .i64 0, .slice none 0 0], .iface 171 (.pointer (some (E 2)))]) (by simp [results, Tryd.results37, go_sem, k0, k1, k2]) rfl ⟨rfl, FR.out.drew⟩
set_option linter.unusedSimpArgs false in
set_option maxHeartbeats 4000000 in
theorem stamp_bound_near (W H QW QH X Y m : Int) (xa xb : Option Addr) (n c k d : Nat) (E : Nat → Addr) (w : World) (hE : Errs w E) (hr : rightB W H n = true) (hs : rightB QW QH k = true) (hN : nearAll (rn X Y) 2 = false) :
    Calls Tryd.prog 37 #[.agg #[(.int .i64 W), (.int .i64 H), (.slice xa n c)], .agg #[(.int .i64 QW), (.int .i64 QH), (.slice xb k d)], .int .i64 X, .int .i64 Y, .int .i64 m] w fun e w' => e = .returned (.tuple #[.agg #[.int .i64 0, .int .i64 0, .slice none 0 0], .iface 171 (.pointer (some (E 1)))]) ∧ Ext w w' := by
  have HE := Lib.hid hE
  have HR := Lib.hid hr
  have HS := Lib.hid hs
  have HN := Lib.hid hN
  clear hE hr hs hN
  go_enter Tryd.func37, Tryd.ntmps37
  go_wp2_with fail
  refine calls_world (fun wz => Ext w wz ∧ wz.heap.size = w.heap.size + 1 + 1 + 1 ∧ Bk wz (w.heap.size) #[(.int .i64 W), (.int .i64 H), (.slice xa n c)] ∧ Bk wz (w.heap.size + 1) #[(.int .i64 QW), (.int .i64 QH), (.slice xb k d)] ∧ Bk wz (w.heap.size + 1 + 1) #[.int .i64 0, .int .i64 0, .slice none 0 0]) ⟨by repeat (first | exact Ext.refl _ | refine Ext.alloc ?_ _), by simp, by repeat (first | exact Bk.at (by simp) | refine Bk.old ?_), by repeat (first | exact Bk.at (by simp) | refine Bk.old ?_), by repeat (first | exact Bk.at (by simp) | refine Bk.old ?_)⟩ ?_
  rintro w1 ⟨hX, hZ, hB0, hB1, hB2⟩
  have X_1 := Lib.hid (hX)
  have P_1 := Lib.hid (hB0)
  have Q_1 := Lib.hid (hB1)
  have R_1 := Lib.hid (hB2)
  clear hX hZ hB0 hB1 hB2
  refine (right_any _ _ _ _ _ _).mono ?_
  rintro e w2 ⟨rfl, h⟩
  have X_2 := Lib.hid (X_1.out.trans h)
  have P_2 := Lib.hid (P_1.out.ext h)
  have Q_2 := Lib.hid (Q_1.out.ext h)
  have R_2 := Lib.hid (R_1.out.ext h)
  clear h X_1 P_1 Q_1 R_1
  rw [HR.out]
  have k0 := Q_2.out.cell 0
  have k1 := Q_2.out.cell 1
  have k2 := Q_2.out.cell 2
  go_wp2_with fail
  refine (right_any _ _ _ _ _ _).mono ?_
  rintro e w3 ⟨rfl, h⟩
  have X_3 := Lib.hid (X_2.out.trans h)
  have P_3 := Lib.hid (P_2.out.ext h)
  have Q_3 := Lib.hid (Q_2.out.ext h)
  have R_3 := Lib.hid (R_2.out.ext h)
  clear h X_2 P_2 Q_2 R_2
  clear k0 k1 k2
  rw [HS.out]
  go_wp2_with fail
  refine (near_any _ 2 2 (rn X Y) _ (rn_born w3 X Y _) (by decide)).mono ?_
  rintro e w4 ⟨rfl, hw⟩
  have h : Ext w3 w4 := by rw [← hw]; exact Ext.alloc (Ext.refl _) _
  have X_4 := Lib.hid (X_3.out.trans h)
  have P_4 := Lib.hid (P_3.out.ext h)
  have Q_4 := Lib.hid (Q_3.out.ext h)
  have R_4 := Lib.hid (R_3.out.ext h)
  clear h hw X_3 P_3 Q_3 R_3
  rw [HN.out]
  have hv := (HE.out.ext X_4.out).var 1 (by decide)
  simp only [gk, sentV] at hv
  have d0 := R_4.out.cell 0
  have e0 := R_4.out.frozen 0
  have d1 := R_4.out.cell 1
  have e1 := R_4.out.frozen 1
  have d2 := R_4.out.cell 2
  have e2 := R_4.out.frozen 2
  have FR := Lib.hid (show Ext w _ from X_4.out.set3 (b := w.heap.size + 1 + 1) (by omega) (.int .i64 0) (.int .i64 0) (.slice none 0 0))
  have PR := Lib.hid (R_4.out.pic.set (W' := 0) (H' := 0) (v' := .slice none 0 0))
  go_wp2_with fail
  go_region
  all_goals go_wp2_with fail
  all_goals
    obtain ⟨k0, k1, k2⟩ := PR.out
    exact bodyPost_ret (v := .tuple #[.agg #[.int .i64 0, .int .i64 0, .slice none 0 0], .iface 171 (.pointer (some (E 1)))]) (by simp [results, Tryd.results37, go_sem, k0, k1, k2]) rfl ⟨rfl, FR.out.drew⟩
set_option linter.unusedSimpArgs false in
set_option maxHeartbeats 4000000 in
theorem stamp_bound_mode (W H QW QH X Y m : Int) (xa xb : Option Addr) (n c k d : Nat) (E : Nat → Addr) (w : World) (hE : Errs w E) (hr : rightB W H n = true) (hs : rightB QW QH k = true) (hN : nearAll (rn X Y) 2 = true) (hm : (decide (0 ≤ m) && decide (m < 6)) = false) :
    Calls Tryd.prog 37 #[.agg #[(.int .i64 W), (.int .i64 H), (.slice xa n c)], .agg #[(.int .i64 QW), (.int .i64 QH), (.slice xb k d)], .int .i64 X, .int .i64 Y, .int .i64 m] w fun e w' => e = .returned (.tuple #[.agg #[.int .i64 0, .int .i64 0, .slice none 0 0], .iface 171 (.pointer (some (E 1)))]) ∧ Ext w w' := by
  have HE := Lib.hid hE
  have HR := Lib.hid hr
  have HS := Lib.hid hs
  have HN := Lib.hid hN
  have HM := Lib.hid hm
  clear hE hr hs hN hm
  go_enter Tryd.func37, Tryd.ntmps37
  go_wp2_with fail
  refine calls_world (fun wz => Ext w wz ∧ wz.heap.size = w.heap.size + 1 + 1 + 1 ∧ Bk wz (w.heap.size) #[(.int .i64 W), (.int .i64 H), (.slice xa n c)] ∧ Bk wz (w.heap.size + 1) #[(.int .i64 QW), (.int .i64 QH), (.slice xb k d)] ∧ Bk wz (w.heap.size + 1 + 1) #[.int .i64 0, .int .i64 0, .slice none 0 0]) ⟨by repeat (first | exact Ext.refl _ | refine Ext.alloc ?_ _), by simp, by repeat (first | exact Bk.at (by simp) | refine Bk.old ?_), by repeat (first | exact Bk.at (by simp) | refine Bk.old ?_), by repeat (first | exact Bk.at (by simp) | refine Bk.old ?_)⟩ ?_
  rintro w1 ⟨hX, hZ, hB0, hB1, hB2⟩
  have X_1 := Lib.hid (hX)
  have P_1 := Lib.hid (hB0)
  have Q_1 := Lib.hid (hB1)
  have R_1 := Lib.hid (hB2)
  clear hX hZ hB0 hB1 hB2
  refine (right_any _ _ _ _ _ _).mono ?_
  rintro e w2 ⟨rfl, h⟩
  have X_2 := Lib.hid (X_1.out.trans h)
  have P_2 := Lib.hid (P_1.out.ext h)
  have Q_2 := Lib.hid (Q_1.out.ext h)
  have R_2 := Lib.hid (R_1.out.ext h)
  clear h X_1 P_1 Q_1 R_1
  rw [HR.out]
  have k0 := Q_2.out.cell 0
  have k1 := Q_2.out.cell 1
  have k2 := Q_2.out.cell 2
  go_wp2_with fail
  refine (right_any _ _ _ _ _ _).mono ?_
  rintro e w3 ⟨rfl, h⟩
  have X_3 := Lib.hid (X_2.out.trans h)
  have P_3 := Lib.hid (P_2.out.ext h)
  have Q_3 := Lib.hid (Q_2.out.ext h)
  have R_3 := Lib.hid (R_2.out.ext h)
  clear h X_2 P_2 Q_2 R_2
  clear k0 k1 k2
  rw [HS.out]
  go_wp2_with fail
  refine (near_any _ 2 2 (rn X Y) _ (rn_born w3 X Y _) (by decide)).mono ?_
  rintro e w4 ⟨rfl, hw⟩
  have h : Ext w3 w4 := by rw [← hw]; exact Ext.alloc (Ext.refl _) _
  have X_4 := Lib.hid (X_3.out.trans h)
  have P_4 := Lib.hid (P_3.out.ext h)
  have Q_4 := Lib.hid (Q_3.out.ext h)
  have R_4 := Lib.hid (R_3.out.ext h)
  clear h hw X_3 P_3 Q_3 R_3
  rw [HN.out]
  go_wp2_with fail
  refine (mode_any m _).mono ?_
  rintro e w9 ⟨rfl, rfl⟩
  rw [HM.out]
  have hv := (HE.out.ext X_4.out).var 1 (by decide)
  simp only [gk, sentV] at hv
  have d0 := R_4.out.cell 0
  have e0 := R_4.out.frozen 0
  have d1 := R_4.out.cell 1
  have e1 := R_4.out.frozen 1
  have d2 := R_4.out.cell 2
  have e2 := R_4.out.frozen 2
  have FR := Lib.hid (show Ext w _ from X_4.out.set3 (b := w.heap.size + 1 + 1) (by omega) (.int .i64 0) (.int .i64 0) (.slice none 0 0))
  have PR := Lib.hid (R_4.out.pic.set (W' := 0) (H' := 0) (v' := .slice none 0 0))
  go_wp2_with fail
  go_region
  all_goals go_wp2_with fail
  all_goals
    obtain ⟨k0, k1, k2⟩ := PR.out
    exact bodyPost_ret (v := .tuple #[.agg #[.int .i64 0, .int .i64 0, .slice none 0 0], .iface 171 (.pointer (some (E 1)))]) (by simp [results, Tryd.results37, go_sem, k0, k1, k2]) rfl ⟨rfl, FR.out.drew⟩
end Go.Proofs.YtkfjcgcgfdibaaaDoor
