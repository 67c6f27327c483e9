/- RasterNew's walk. -/
import Derived.Test.YtkfjcgcgfdibaaaDoorRAt
import Derived.StillTailTactics
namespace Go.Proofs.YtkfjcgcgfdibaaaDoor
open Go.RowKit
set_option maxRecDepth 100000
theorem rnew_good_A1 (wide high : Nat) (r g b a : Int) (W H : Int) (x : Option Addr) (n cap : Nat) (u v : Int) (px : Nat → P4) (w : World) (E : Nat → Addr) (hE : Errs w E)  (hw : 1 ≤ wide ∧ wide ≤ 256) (hh : 1 ≤ high ∧ high ≤ 256) (hp : (P4.mk r g b a).Ok) (hx : Pxs w x n px) (hx0 : x = none → cap = 0) (hn : n ≤ 3000) (hr : rightB W H n = false) (hi : inB W H u v = false) :
    Calls Tryd.prog 4 #[.int .i64 (wide : Int), .int .i64 (high : Int), .agg #[.int .u8 r, .int .u8 g, .int .u8 b, .int .u8 a], .agg #[.int .i64 W, .int .i64 H, .slice x n cap], .int .i64 u, .int .i64 v] w fun e w' => e = .returned (.bool true) ∧ Ext w w' := by
  have HE := Lib.hid hE
  have HX := Lib.hid hx
  have HD := Lib.hid (decide_eq_true hn)
  have HR := Lib.hid hr
  have HI := Lib.hid hi
  have HX0 := Lib.hid hx0
  have HP := Lib.hid hp
  have HWH := Lib.hid (And.intro hw hh)
  have HS1 : Hid (sideB (wide : Int) = true) := Lib.hid (decide_eq_true (by omega))
  have HS2 : Hid (sideB (high : Int) = true) := Lib.hid (decide_eq_true (by omega))
  clear hp hw hh
  clear hE hx hx0 hr hi
  go_enter Tryd.func4, Tryd.ntmps4
  go_wp2_with fail
  refine calls_world (fun wz => Ext w wz ∧ wz.heap.size = w.heap.size + 1 + 1 ∧ Bk wz (w.heap.size) #[.int .u8 r, .int .u8 g, .int .u8 b, .int .u8 a] ∧ Bk wz (w.heap.size + 1) #[.int .i64 W, .int .i64 H, .slice x n cap]) ⟨by repeat (first | exact Ext.refl _ | refine Ext.alloc ?_ _), by simp, by repeat (first | exact Bk.at (by simp) | refine Bk.old ?_), by repeat (first | exact Bk.at (by simp) | refine Bk.old ?_)⟩ ?_
  rintro w1 ⟨hX, hZ, hB0, hB1⟩
  have X_1 := Lib.hid hX
  have Q_1 := Lib.hid hB0
  have B_1 := Lib.hid hB1
  clear hX hZ hB0 hB1
  refine (plainly_any _).mono ?_
  rintro e w2 ⟨rfl, h⟩
  have X_2 := Lib.hid (X_1.out.trans h)
  have Q_2 := Lib.hid (Q_1.out.ext h)
  have B_2 := Lib.hid (B_1.out.ext h)
  clear h
  clear X_1 Q_1 B_1
  have k0 := B_2.out.cell 0
  have k1 := B_2.out.cell 1
  have k2 := B_2.out.cell 2
  go_wp2_with fail
  refine (small_any _ _ _ _ _ _ (by unfold maxLen; omega)).mono ?_
  rintro e w3 ⟨rfl, h⟩
  have X_3 := Lib.hid (X_2.out.trans h)
  have Q_3 := Lib.hid (Q_2.out.ext h)
  have B_3 := Lib.hid (B_2.out.ext h)
  clear h
  clear X_2 Q_2 B_2
  clear k0 k1 k2
  rw [HD.out]
  have k0 := Q_3.out.cell 0
  have k1 := Q_3.out.cell 1
  have k2 := Q_3.out.cell 2
  have k3 := Q_3.out.cell 3
  go_wp2_with fail
  refine (new_good wide high ⟨r, g, b, a⟩ _ HWH.out.1 HWH.out.2).mono ?_
  rintro e w4 ⟨⟨nv, rfl, hown⟩, h⟩
  have X_4 := Lib.hid (X_3.out.trans h)
  have Q_4 := Lib.hid (Q_3.out.ext h)
  have B_4 := Lib.hid (B_3.out.ext h)
  have O_4 := Lib.hid (hown)
  clear h hown
  clear X_3 Q_3 B_3
  clear k0 k1 k2 k3
  obtain ⟨nx, nc, rfl, hnp, _⟩ := Pxs.of_own O_4.out (fun _ _ => HP.out)
  have N_4 := Lib.hid hnp
  clear hnp O_4
  have E_ := (Ext.refl w4).alloc (.cells #[.int .i64 (wide : Int), .int .i64 (high : Int), .slice nx (wide * high) nc] 24)
  have EE := Lib.hid E_
  clear E_
  go_wp2_with fail
  refine calls_world (fun wz => Ext w4 wz ∧ Bk wz w4.heap.size #[.int .i64 (wide : Int), .int .i64 (high : Int), .slice nx (wide * high) nc]) ⟨EE.out, Bk.at rfl⟩ ?_
  clear EE
  have NE_Q_NV := Lib.hid (Nat.ne_of_lt (show w.heap.size < w4.heap.size from Q_4.out.lt))
  have NE_B_NV := Lib.hid (Nat.ne_of_lt (show w.heap.size + 1 < w4.heap.size from B_4.out.lt))
  have GE_NV := Lib.hid (X_4.out.size)
  rintro w5 ⟨hX, hB0⟩
  have X_5 := Lib.hid (X_4.out.trans hX)
  have Q_5 := Lib.hid (Q_4.out.ext hX)
  have B_5 := Lib.hid (B_4.out.ext hX)
  have N_5 := Lib.hid (N_4.out.ext hX)
  have NV_5 := Lib.hid (hB0)
  clear hX hB0 X_4 Q_4 B_4 N_4
  refine (refSide_any _ _).mono ?_
  rintro e w99 ⟨rfl, rfl⟩
  rw [HS1.out]
  go_wp2_with fail
  refine (refSide_any _ _).mono ?_
  rintro e w99 ⟨rfl, rfl⟩
  rw [HS2.out]
  have k0 := NV_5.out.cell 0
  have k1 := NV_5.out.cell 1
  have k2 := NV_5.out.cell 2
  have k3 := Q_5.out.cell 0
  have k4 := Q_5.out.cell 1
  have k5 := Q_5.out.cell 2
  have k6 := Q_5.out.cell 3
  go_wp2_with fail
  go_region_held3 (fun w' => w'.cell? ⟨w4.heap.size, 0, none⟩ = some (.int .i64 (wide : Int)) ∧ w'.cell? ⟨w4.heap.size, 1, none⟩ = some (.int .i64 (high : Int)) ∧ w'.cell? ⟨w4.heap.size, 2, none⟩ = some (.slice nx (wide * high) nc) ∧ w'.cell? ⟨w.heap.size, 0, none⟩ = some (.int .u8 r) ∧ w'.cell? ⟨w.heap.size, 1, none⟩ = some (.int .u8 g) ∧ w'.cell? ⟨w.heap.size, 2, none⟩ = some (.int .u8 b) ∧ w'.cell? ⟨w.heap.size, 3, none⟩ = some (.int .u8 a)) (first | exact ⟨k0, k1, k2, k3, k4, k5, k6⟩ | exact ⟨(NV_5.out.ext hb).cell 0, (NV_5.out.ext hb).cell 1, (NV_5.out.ext hb).cell 2, (Q_5.out.ext hb).cell 0, (Q_5.out.ext hb).cell 1, (Q_5.out.ext hb).cell 2, (Q_5.out.ext hb).cell 3⟩ | exact ⟨(NV_5.out.ext ha).cell 0, (NV_5.out.ext ha).cell 1, (NV_5.out.ext ha).cell 2, (Q_5.out.ext ha).cell 0, (Q_5.out.ext ha).cell 1, (Q_5.out.ext ha).cell 2, (Q_5.out.ext ha).cell 3⟩)
    (first
      | ((go_at_call 23; refine (blank_any wide high ⟨r, g, b, a⟩ _ HWH.out.1 HWH.out.2).mono ?_; rintro e wa ⟨⟨gg, rfl, hpo, _⟩, hx⟩; have ha : Ext w5 wa := ⟨hx.os, hx.tape, hx.output, hx.size, hx.block⟩; clear hx))
      | ((go_at_call 22; refine (told_ok _ _ _ _ _ _ _ (fun _ => ⟨r, g, b, a⟩) _ (N_5.out.ext ha) (hpo.pxs (fun _ _ => HP.out)) (Nat.le_trans (Nat.mul_le_mul HWH.out.1.2 HWH.out.2.2) (by decide))).mono ?_; rintro e wb ⟨rfl, hx⟩; have hb : Ext w5 wb := Ext.trans ha hx; clear hx)))
  clear k0 k1 k2 k3 k4 k5 k6 hpo ha
  have X_6 := Lib.hid (X_5.out.trans hb)
  have Q_6 := Lib.hid (Q_5.out.ext hb)
  have B_6 := Lib.hid (B_5.out.ext hb)
  have N_6 := Lib.hid (N_5.out.ext hb)
  have NV_6 := Lib.hid (NV_5.out.ext hb)
  clear hb X_5 Q_5 B_5 N_5 NV_5
  clear N_6
  clear NV_6
  clear Q_6
  have k0 := B_6.out.cell 0
  have k1 := B_6.out.cell 1
  have k2 := B_6.out.cell 2
  go_wp2_with fail
  refine (own_x _ _ x n cap px _ (HX.out.ext X_6.out) HX0.out (by omega)).mono ?_
  rintro e w7 ⟨⟨ox, oc, rfl, hx, _⟩, h⟩
  have X_7 := Lib.hid (X_6.out.trans h)
  have B_7 := Lib.hid (B_6.out.ext h)
  have O_7 := Lib.hid (hx)
  clear h hx
  clear X_6 B_6
  clear k0 k1 k2
  go_wp2_with fail
  refine (at_shape _ _ _ _ _ _ _ _ E (HE.out.ext X_7.out) HR.out).mono ?_
  rintro e w8 ⟨rfl, h⟩
  have X_8 := Lib.hid (X_7.out.trans h)
  have B_8 := Lib.hid (B_7.out.ext h)
  have O_8 := Lib.hid (O_7.out.ext h)
  clear h
  clear X_7 B_7 O_7
  clear O_8
  have E_ := (Ext.refl w8).alloc (.cells #[.int .u8 0, .int .u8 0, .int .u8 0, .int .u8 0] 36)
  have k0 := (B_8.out.ext E_).cell 0
  have k1 := (B_8.out.ext E_).cell 1
  have k2 := (B_8.out.ext E_).cell 2
  have EE := Lib.hid E_
  clear E_
  go_wp2_with fail
  clear k0 k1 k2
  refine calls_world (fun wz => Ext w8 wz ∧ Bk wz w8.heap.size #[.int .u8 0, .int .u8 0, .int .u8 0, .int .u8 0]) ⟨EE.out, Bk.at rfl⟩ ?_
  clear EE
  have NE_B_Z := Lib.hid (Nat.ne_of_lt (show w.heap.size + 1 < w8.heap.size from B_8.out.lt))
  have GE_Z := Lib.hid (X_8.out.size)
  rintro w9 ⟨hX, hB0⟩
  have X_9 := Lib.hid (X_8.out.trans hX)
  have B_9 := Lib.hid (B_8.out.ext hX)
  have Z_9 := Lib.hid (hB0)
  clear hX hB0 X_8 B_8
  refine (refIn_any _ _ _ _ _ _ ⟨_, _, _, rfl⟩).mono ?_
  rintro e w10 ⟨rfl, h⟩
  have X_10 := Lib.hid (X_9.out.trans h)
  have B_10 := Lib.hid (B_9.out.ext h)
  have Z_10 := Lib.hid (Z_9.out.ext h)
  clear h
  clear X_9 B_9 Z_9
  rw [HI.out]
  have k0 := B_10.out.cell 0
  have k1 := B_10.out.cell 1
  have k2 := B_10.out.cell 2
  go_wp2_with fail
  refine (refRight_any _ _ _ _ _ _).mono ?_
  rintro e w11 ⟨rfl, h⟩
  have X_11 := Lib.hid (X_10.out.trans h)
  have B_11 := Lib.hid (B_10.out.ext h)
  have Z_11 := Lib.hid (Z_10.out.ext h)
  clear h
  clear X_10 B_10 Z_10
  clear k0 k1 k2
  rw [HR.out]
  have z0 := Z_11.out.cell 0
  have z1 := Z_11.out.cell 1
  have z2 := Z_11.out.cell 2
  have z3 := Z_11.out.cell 3
  go_wp2_with fail
  refine (coded_any _ E (HE.out.ext X_11.out) _ _ _ 3 (.sent 2 (by decide))).mono ?_
  rintro e w12 ⟨he, h⟩
  have X_12 := Lib.hid (X_11.out.trans h)
  have B_12 := Lib.hid (B_11.out.ext h)
  have Z_12 := Lib.hid (Z_11.out.ext h)
  clear h
  clear X_11 B_11 Z_11
  obtain rfl : e = .returned (.bool true) := by rw [he]; exact ret_bool (by simp)
  clear he z0 z1 z2 z3
  have z0 := Z_12.out.cell 0
  have z1 := Z_12.out.cell 1
  have z2 := Z_12.out.cell 2
  have z3 := Z_12.out.cell 3
  go_wp2_with fail
  go_ret
  exact ⟨rfl, X_12.out⟩

theorem rnew_good_A2 (wide high : Nat) (r g b a : Int) (W H : Int) (x : Option Addr) (n cap : Nat) (u v : Int) (px : Nat → P4) (w : World) (E : Nat → Addr) (hE : Errs w E)  (hw : 1 ≤ wide ∧ wide ≤ 256) (hh : 1 ≤ high ∧ high ≤ 256) (hp : (P4.mk r g b a).Ok) (hx : Pxs w x n px) (hx0 : x = none → cap = 0) (hn : n ≤ 3000) (hr : rightB W H n = false) (hi : inB W H u v = true) :
    Calls Tryd.prog 4 #[.int .i64 (wide : Int), .int .i64 (high : Int), .agg #[.int .u8 r, .int .u8 g, .int .u8 b, .int .u8 a], .agg #[.int .i64 W, .int .i64 H, .slice x n cap], .int .i64 u, .int .i64 v] w fun e w' => e = .returned (.bool true) ∧ Ext w w' := by
  have HE := Lib.hid hE
  have HX := Lib.hid hx
  have HD := Lib.hid (decide_eq_true hn)
  have HR := Lib.hid hr
  have HI := Lib.hid hi
  have HX0 := Lib.hid hx0
  have HP := Lib.hid hp
  have HWH := Lib.hid (And.intro hw hh)
  have HS1 : Hid (sideB (wide : Int) = true) := Lib.hid (decide_eq_true (by omega))
  have HS2 : Hid (sideB (high : Int) = true) := Lib.hid (decide_eq_true (by omega))
  clear hp hw hh
  clear hE hx hx0 hr hi
  go_enter Tryd.func4, Tryd.ntmps4
  go_wp2_with fail
  refine calls_world (fun wz => Ext w wz ∧ wz.heap.size = w.heap.size + 1 + 1 ∧ Bk wz (w.heap.size) #[.int .u8 r, .int .u8 g, .int .u8 b, .int .u8 a] ∧ Bk wz (w.heap.size + 1) #[.int .i64 W, .int .i64 H, .slice x n cap]) ⟨by repeat (first | exact Ext.refl _ | refine Ext.alloc ?_ _), by simp, by repeat (first | exact Bk.at (by simp) | refine Bk.old ?_), by repeat (first | exact Bk.at (by simp) | refine Bk.old ?_)⟩ ?_
  rintro w1 ⟨hX, hZ, hB0, hB1⟩
  have X_1 := Lib.hid hX
  have Q_1 := Lib.hid hB0
  have B_1 := Lib.hid hB1
  clear hX hZ hB0 hB1
  refine (plainly_any _).mono ?_
  rintro e w2 ⟨rfl, h⟩
  have X_2 := Lib.hid (X_1.out.trans h)
  have Q_2 := Lib.hid (Q_1.out.ext h)
  have B_2 := Lib.hid (B_1.out.ext h)
  clear h
  clear X_1 Q_1 B_1
  have k0 := B_2.out.cell 0
  have k1 := B_2.out.cell 1
  have k2 := B_2.out.cell 2
  go_wp2_with fail
  refine (small_any _ _ _ _ _ _ (by unfold maxLen; omega)).mono ?_
  rintro e w3 ⟨rfl, h⟩
  have X_3 := Lib.hid (X_2.out.trans h)
  have Q_3 := Lib.hid (Q_2.out.ext h)
  have B_3 := Lib.hid (B_2.out.ext h)
  clear h
  clear X_2 Q_2 B_2
  clear k0 k1 k2
  rw [HD.out]
  have k0 := Q_3.out.cell 0
  have k1 := Q_3.out.cell 1
  have k2 := Q_3.out.cell 2
  have k3 := Q_3.out.cell 3
  go_wp2_with fail
  refine (new_good wide high ⟨r, g, b, a⟩ _ HWH.out.1 HWH.out.2).mono ?_
  rintro e w4 ⟨⟨nv, rfl, hown⟩, h⟩
  have X_4 := Lib.hid (X_3.out.trans h)
  have Q_4 := Lib.hid (Q_3.out.ext h)
  have B_4 := Lib.hid (B_3.out.ext h)
  have O_4 := Lib.hid (hown)
  clear h hown
  clear X_3 Q_3 B_3
  clear k0 k1 k2 k3
  obtain ⟨nx, nc, rfl, hnp, _⟩ := Pxs.of_own O_4.out (fun _ _ => HP.out)
  have N_4 := Lib.hid hnp
  clear hnp O_4
  have E_ := (Ext.refl w4).alloc (.cells #[.int .i64 (wide : Int), .int .i64 (high : Int), .slice nx (wide * high) nc] 24)
  have EE := Lib.hid E_
  clear E_
  go_wp2_with fail
  refine calls_world (fun wz => Ext w4 wz ∧ Bk wz w4.heap.size #[.int .i64 (wide : Int), .int .i64 (high : Int), .slice nx (wide * high) nc]) ⟨EE.out, Bk.at rfl⟩ ?_
  clear EE
  have NE_Q_NV := Lib.hid (Nat.ne_of_lt (show w.heap.size < w4.heap.size from Q_4.out.lt))
  have NE_B_NV := Lib.hid (Nat.ne_of_lt (show w.heap.size + 1 < w4.heap.size from B_4.out.lt))
  have GE_NV := Lib.hid (X_4.out.size)
  rintro w5 ⟨hX, hB0⟩
  have X_5 := Lib.hid (X_4.out.trans hX)
  have Q_5 := Lib.hid (Q_4.out.ext hX)
  have B_5 := Lib.hid (B_4.out.ext hX)
  have N_5 := Lib.hid (N_4.out.ext hX)
  have NV_5 := Lib.hid (hB0)
  clear hX hB0 X_4 Q_4 B_4 N_4
  refine (refSide_any _ _).mono ?_
  rintro e w99 ⟨rfl, rfl⟩
  rw [HS1.out]
  go_wp2_with fail
  refine (refSide_any _ _).mono ?_
  rintro e w99 ⟨rfl, rfl⟩
  rw [HS2.out]
  have k0 := NV_5.out.cell 0
  have k1 := NV_5.out.cell 1
  have k2 := NV_5.out.cell 2
  have k3 := Q_5.out.cell 0
  have k4 := Q_5.out.cell 1
  have k5 := Q_5.out.cell 2
  have k6 := Q_5.out.cell 3
  go_wp2_with fail
  go_region_held3 (fun w' => w'.cell? ⟨w4.heap.size, 0, none⟩ = some (.int .i64 (wide : Int)) ∧ w'.cell? ⟨w4.heap.size, 1, none⟩ = some (.int .i64 (high : Int)) ∧ w'.cell? ⟨w4.heap.size, 2, none⟩ = some (.slice nx (wide * high) nc) ∧ w'.cell? ⟨w.heap.size, 0, none⟩ = some (.int .u8 r) ∧ w'.cell? ⟨w.heap.size, 1, none⟩ = some (.int .u8 g) ∧ w'.cell? ⟨w.heap.size, 2, none⟩ = some (.int .u8 b) ∧ w'.cell? ⟨w.heap.size, 3, none⟩ = some (.int .u8 a)) (first | exact ⟨k0, k1, k2, k3, k4, k5, k6⟩ | exact ⟨(NV_5.out.ext hb).cell 0, (NV_5.out.ext hb).cell 1, (NV_5.out.ext hb).cell 2, (Q_5.out.ext hb).cell 0, (Q_5.out.ext hb).cell 1, (Q_5.out.ext hb).cell 2, (Q_5.out.ext hb).cell 3⟩ | exact ⟨(NV_5.out.ext ha).cell 0, (NV_5.out.ext ha).cell 1, (NV_5.out.ext ha).cell 2, (Q_5.out.ext ha).cell 0, (Q_5.out.ext ha).cell 1, (Q_5.out.ext ha).cell 2, (Q_5.out.ext ha).cell 3⟩)
    (first
      | ((go_at_call 23; refine (blank_any wide high ⟨r, g, b, a⟩ _ HWH.out.1 HWH.out.2).mono ?_; rintro e wa ⟨⟨gg, rfl, hpo, _⟩, hx⟩; have ha : Ext w5 wa := ⟨hx.os, hx.tape, hx.output, hx.size, hx.block⟩; clear hx))
      | ((go_at_call 22; refine (told_ok _ _ _ _ _ _ _ (fun _ => ⟨r, g, b, a⟩) _ (N_5.out.ext ha) (hpo.pxs (fun _ _ => HP.out)) (Nat.le_trans (Nat.mul_le_mul HWH.out.1.2 HWH.out.2.2) (by decide))).mono ?_; rintro e wb ⟨rfl, hx⟩; have hb : Ext w5 wb := Ext.trans ha hx; clear hx)))
  clear k0 k1 k2 k3 k4 k5 k6 hpo ha
  have X_6 := Lib.hid (X_5.out.trans hb)
  have Q_6 := Lib.hid (Q_5.out.ext hb)
  have B_6 := Lib.hid (B_5.out.ext hb)
  have N_6 := Lib.hid (N_5.out.ext hb)
  have NV_6 := Lib.hid (NV_5.out.ext hb)
  clear hb X_5 Q_5 B_5 N_5 NV_5
  clear N_6
  clear NV_6
  clear Q_6
  have k0 := B_6.out.cell 0
  have k1 := B_6.out.cell 1
  have k2 := B_6.out.cell 2
  go_wp2_with fail
  refine (own_x _ _ x n cap px _ (HX.out.ext X_6.out) HX0.out (by omega)).mono ?_
  rintro e w7 ⟨⟨ox, oc, rfl, hx, _⟩, h⟩
  have X_7 := Lib.hid (X_6.out.trans h)
  have B_7 := Lib.hid (B_6.out.ext h)
  have O_7 := Lib.hid (hx)
  clear h hx
  clear X_6 B_6
  clear k0 k1 k2
  go_wp2_with fail
  refine (at_shape _ _ _ _ _ _ _ _ E (HE.out.ext X_7.out) HR.out).mono ?_
  rintro e w8 ⟨rfl, h⟩
  have X_8 := Lib.hid (X_7.out.trans h)
  have B_8 := Lib.hid (B_7.out.ext h)
  have O_8 := Lib.hid (O_7.out.ext h)
  clear h
  clear X_7 B_7 O_7
  clear O_8
  have E_ := (Ext.refl w8).alloc (.cells #[.int .u8 0, .int .u8 0, .int .u8 0, .int .u8 0] 36)
  have k0 := (B_8.out.ext E_).cell 0
  have k1 := (B_8.out.ext E_).cell 1
  have k2 := (B_8.out.ext E_).cell 2
  have EE := Lib.hid E_
  clear E_
  go_wp2_with fail
  clear k0 k1 k2
  refine calls_world (fun wz => Ext w8 wz ∧ Bk wz w8.heap.size #[.int .u8 0, .int .u8 0, .int .u8 0, .int .u8 0]) ⟨EE.out, Bk.at rfl⟩ ?_
  clear EE
  have NE_B_Z := Lib.hid (Nat.ne_of_lt (show w.heap.size + 1 < w8.heap.size from B_8.out.lt))
  have GE_Z := Lib.hid (X_8.out.size)
  rintro w9 ⟨hX, hB0⟩
  have X_9 := Lib.hid (X_8.out.trans hX)
  have B_9 := Lib.hid (B_8.out.ext hX)
  have Z_9 := Lib.hid (hB0)
  clear hX hB0 X_8 B_8
  refine (refIn_any _ _ _ _ _ _ ⟨_, _, _, rfl⟩).mono ?_
  rintro e w10 ⟨rfl, h⟩
  have X_10 := Lib.hid (X_9.out.trans h)
  have B_10 := Lib.hid (B_9.out.ext h)
  have Z_10 := Lib.hid (Z_9.out.ext h)
  clear h
  clear X_9 B_9 Z_9
  rw [HI.out]
  have k0 := B_10.out.cell 0
  have k1 := B_10.out.cell 1
  have k2 := B_10.out.cell 2
  go_wp2_with fail
  refine (refRight_any _ _ _ _ _ _).mono ?_
  rintro e w11 ⟨rfl, h⟩
  have X_11 := Lib.hid (X_10.out.trans h)
  have B_11 := Lib.hid (B_10.out.ext h)
  have Z_11 := Lib.hid (Z_10.out.ext h)
  clear h
  clear X_10 B_10 Z_10
  clear k0 k1 k2
  rw [HR.out]
  have z0 := Z_11.out.cell 0
  have z1 := Z_11.out.cell 1
  have z2 := Z_11.out.cell 2
  have z3 := Z_11.out.cell 3
  go_wp2_with fail
  refine (coded_any _ E (HE.out.ext X_11.out) _ _ _ 3 (.sent 2 (by decide))).mono ?_
  rintro e w12 ⟨he, h⟩
  have X_12 := Lib.hid (X_11.out.trans h)
  have B_12 := Lib.hid (B_11.out.ext h)
  have Z_12 := Lib.hid (Z_11.out.ext h)
  clear h
  clear X_11 B_11 Z_11
  obtain rfl : e = .returned (.bool true) := by rw [he]; exact ret_bool (by simp)
  clear he z0 z1 z2 z3
  have z0 := Z_12.out.cell 0
  have z1 := Z_12.out.cell 1
  have z2 := Z_12.out.cell 2
  have z3 := Z_12.out.cell 3
  go_wp2_with fail
  go_ret
  exact ⟨rfl, X_12.out⟩

theorem rnew_good_B (wide high : Nat) (r g b a : Int) (W H : Int) (x : Option Addr) (n cap : Nat) (u v : Int) (px : Nat → P4) (w : World) (E : Nat → Addr) (hE : Errs w E)  (hw : 1 ≤ wide ∧ wide ≤ 256) (hh : 1 ≤ high ∧ high ≤ 256) (hp : (P4.mk r g b a).Ok) (hx : Pxs w x n px) (hx0 : x = none → cap = 0) (hn : n ≤ 3000) (hr : rightB W H n = true) (hi : inB W H u v = false) :
    Calls Tryd.prog 4 #[.int .i64 (wide : Int), .int .i64 (high : Int), .agg #[.int .u8 r, .int .u8 g, .int .u8 b, .int .u8 a], .agg #[.int .i64 W, .int .i64 H, .slice x n cap], .int .i64 u, .int .i64 v] w fun e w' => e = .returned (.bool true) ∧ Ext w w' := by
  have HE := Lib.hid hE
  have HX := Lib.hid hx
  have HD := Lib.hid (decide_eq_true hn)
  have HR := Lib.hid hr
  have HI := Lib.hid hi
  have HX0 := Lib.hid hx0
  have HP := Lib.hid hp
  have HWH := Lib.hid (And.intro hw hh)
  have HS1 : Hid (sideB (wide : Int) = true) := Lib.hid (decide_eq_true (by omega))
  have HS2 : Hid (sideB (high : Int) = true) := Lib.hid (decide_eq_true (by omega))
  clear hp hw hh
  clear hE hx hx0 hr hi
  go_enter Tryd.func4, Tryd.ntmps4
  go_wp2_with fail
  refine calls_world (fun wz => Ext w wz ∧ wz.heap.size = w.heap.size + 1 + 1 ∧ Bk wz (w.heap.size) #[.int .u8 r, .int .u8 g, .int .u8 b, .int .u8 a] ∧ Bk wz (w.heap.size + 1) #[.int .i64 W, .int .i64 H, .slice x n cap]) ⟨by repeat (first | exact Ext.refl _ | refine Ext.alloc ?_ _), by simp, by repeat (first | exact Bk.at (by simp) | refine Bk.old ?_), by repeat (first | exact Bk.at (by simp) | refine Bk.old ?_)⟩ ?_
  rintro w1 ⟨hX, hZ, hB0, hB1⟩
  have X_1 := Lib.hid hX
  have Q_1 := Lib.hid hB0
  have B_1 := Lib.hid hB1
  clear hX hZ hB0 hB1
  refine (plainly_any _).mono ?_
  rintro e w2 ⟨rfl, h⟩
  have X_2 := Lib.hid (X_1.out.trans h)
  have Q_2 := Lib.hid (Q_1.out.ext h)
  have B_2 := Lib.hid (B_1.out.ext h)
  clear h
  clear X_1 Q_1 B_1
  have k0 := B_2.out.cell 0
  have k1 := B_2.out.cell 1
  have k2 := B_2.out.cell 2
  go_wp2_with fail
  refine (small_any _ _ _ _ _ _ (by unfold maxLen; omega)).mono ?_
  rintro e w3 ⟨rfl, h⟩
  have X_3 := Lib.hid (X_2.out.trans h)
  have Q_3 := Lib.hid (Q_2.out.ext h)
  have B_3 := Lib.hid (B_2.out.ext h)
  clear h
  clear X_2 Q_2 B_2
  clear k0 k1 k2
  rw [HD.out]
  have k0 := Q_3.out.cell 0
  have k1 := Q_3.out.cell 1
  have k2 := Q_3.out.cell 2
  have k3 := Q_3.out.cell 3
  go_wp2_with fail
  refine (new_good wide high ⟨r, g, b, a⟩ _ HWH.out.1 HWH.out.2).mono ?_
  rintro e w4 ⟨⟨nv, rfl, hown⟩, h⟩
  have X_4 := Lib.hid (X_3.out.trans h)
  have Q_4 := Lib.hid (Q_3.out.ext h)
  have B_4 := Lib.hid (B_3.out.ext h)
  have O_4 := Lib.hid (hown)
  clear h hown
  clear X_3 Q_3 B_3
  clear k0 k1 k2 k3
  obtain ⟨nx, nc, rfl, hnp, _⟩ := Pxs.of_own O_4.out (fun _ _ => HP.out)
  have N_4 := Lib.hid hnp
  clear hnp O_4
  have E_ := (Ext.refl w4).alloc (.cells #[.int .i64 (wide : Int), .int .i64 (high : Int), .slice nx (wide * high) nc] 24)
  have EE := Lib.hid E_
  clear E_
  go_wp2_with fail
  refine calls_world (fun wz => Ext w4 wz ∧ Bk wz w4.heap.size #[.int .i64 (wide : Int), .int .i64 (high : Int), .slice nx (wide * high) nc]) ⟨EE.out, Bk.at rfl⟩ ?_
  clear EE
  have NE_Q_NV := Lib.hid (Nat.ne_of_lt (show w.heap.size < w4.heap.size from Q_4.out.lt))
  have NE_B_NV := Lib.hid (Nat.ne_of_lt (show w.heap.size + 1 < w4.heap.size from B_4.out.lt))
  have GE_NV := Lib.hid (X_4.out.size)
  rintro w5 ⟨hX, hB0⟩
  have X_5 := Lib.hid (X_4.out.trans hX)
  have Q_5 := Lib.hid (Q_4.out.ext hX)
  have B_5 := Lib.hid (B_4.out.ext hX)
  have N_5 := Lib.hid (N_4.out.ext hX)
  have NV_5 := Lib.hid (hB0)
  clear hX hB0 X_4 Q_4 B_4 N_4
  refine (refSide_any _ _).mono ?_
  rintro e w99 ⟨rfl, rfl⟩
  rw [HS1.out]
  go_wp2_with fail
  refine (refSide_any _ _).mono ?_
  rintro e w99 ⟨rfl, rfl⟩
  rw [HS2.out]
  have k0 := NV_5.out.cell 0
  have k1 := NV_5.out.cell 1
  have k2 := NV_5.out.cell 2
  have k3 := Q_5.out.cell 0
  have k4 := Q_5.out.cell 1
  have k5 := Q_5.out.cell 2
  have k6 := Q_5.out.cell 3
  go_wp2_with fail
  go_region_held3 (fun w' => w'.cell? ⟨w4.heap.size, 0, none⟩ = some (.int .i64 (wide : Int)) ∧ w'.cell? ⟨w4.heap.size, 1, none⟩ = some (.int .i64 (high : Int)) ∧ w'.cell? ⟨w4.heap.size, 2, none⟩ = some (.slice nx (wide * high) nc) ∧ w'.cell? ⟨w.heap.size, 0, none⟩ = some (.int .u8 r) ∧ w'.cell? ⟨w.heap.size, 1, none⟩ = some (.int .u8 g) ∧ w'.cell? ⟨w.heap.size, 2, none⟩ = some (.int .u8 b) ∧ w'.cell? ⟨w.heap.size, 3, none⟩ = some (.int .u8 a)) (first | exact ⟨k0, k1, k2, k3, k4, k5, k6⟩ | exact ⟨(NV_5.out.ext hb).cell 0, (NV_5.out.ext hb).cell 1, (NV_5.out.ext hb).cell 2, (Q_5.out.ext hb).cell 0, (Q_5.out.ext hb).cell 1, (Q_5.out.ext hb).cell 2, (Q_5.out.ext hb).cell 3⟩ | exact ⟨(NV_5.out.ext ha).cell 0, (NV_5.out.ext ha).cell 1, (NV_5.out.ext ha).cell 2, (Q_5.out.ext ha).cell 0, (Q_5.out.ext ha).cell 1, (Q_5.out.ext ha).cell 2, (Q_5.out.ext ha).cell 3⟩)
    (first
      | ((go_at_call 23; refine (blank_any wide high ⟨r, g, b, a⟩ _ HWH.out.1 HWH.out.2).mono ?_; rintro e wa ⟨⟨gg, rfl, hpo, _⟩, hx⟩; have ha : Ext w5 wa := ⟨hx.os, hx.tape, hx.output, hx.size, hx.block⟩; clear hx))
      | ((go_at_call 22; refine (told_ok _ _ _ _ _ _ _ (fun _ => ⟨r, g, b, a⟩) _ (N_5.out.ext ha) (hpo.pxs (fun _ _ => HP.out)) (Nat.le_trans (Nat.mul_le_mul HWH.out.1.2 HWH.out.2.2) (by decide))).mono ?_; rintro e wb ⟨rfl, hx⟩; have hb : Ext w5 wb := Ext.trans ha hx; clear hx)))
  clear k0 k1 k2 k3 k4 k5 k6 hpo ha
  have X_6 := Lib.hid (X_5.out.trans hb)
  have Q_6 := Lib.hid (Q_5.out.ext hb)
  have B_6 := Lib.hid (B_5.out.ext hb)
  have N_6 := Lib.hid (N_5.out.ext hb)
  have NV_6 := Lib.hid (NV_5.out.ext hb)
  clear hb X_5 Q_5 B_5 N_5 NV_5
  clear N_6
  clear NV_6
  clear Q_6
  have k0 := B_6.out.cell 0
  have k1 := B_6.out.cell 1
  have k2 := B_6.out.cell 2
  go_wp2_with fail
  refine (own_x _ _ x n cap px _ (HX.out.ext X_6.out) HX0.out (by omega)).mono ?_
  rintro e w7 ⟨⟨ox, oc, rfl, hx, _⟩, h⟩
  have X_7 := Lib.hid (X_6.out.trans h)
  have B_7 := Lib.hid (B_6.out.ext h)
  have O_7 := Lib.hid (hx)
  clear h hx
  clear X_6 B_6
  clear k0 k1 k2
  go_wp2_with fail
  refine (at_bound _ _ _ _ _ _ _ _ E (HE.out.ext X_7.out) HR.out HI.out).mono ?_
  rintro e w8 ⟨rfl, h⟩
  have X_8 := Lib.hid (X_7.out.trans h)
  have B_8 := Lib.hid (B_7.out.ext h)
  have O_8 := Lib.hid (O_7.out.ext h)
  clear h
  clear X_7 B_7 O_7
  clear O_8
  have E_ := (Ext.refl w8).alloc (.cells #[.int .u8 0, .int .u8 0, .int .u8 0, .int .u8 0] 36)
  have k0 := (B_8.out.ext E_).cell 0
  have k1 := (B_8.out.ext E_).cell 1
  have k2 := (B_8.out.ext E_).cell 2
  have EE := Lib.hid E_
  clear E_
  go_wp2_with fail
  clear k0 k1 k2
  refine calls_world (fun wz => Ext w8 wz ∧ Bk wz w8.heap.size #[.int .u8 0, .int .u8 0, .int .u8 0, .int .u8 0]) ⟨EE.out, Bk.at rfl⟩ ?_
  clear EE
  have NE_B_Z := Lib.hid (Nat.ne_of_lt (show w.heap.size + 1 < w8.heap.size from B_8.out.lt))
  have GE_Z := Lib.hid (X_8.out.size)
  rintro w9 ⟨hX, hB0⟩
  have X_9 := Lib.hid (X_8.out.trans hX)
  have B_9 := Lib.hid (B_8.out.ext hX)
  have Z_9 := Lib.hid (hB0)
  clear hX hB0 X_8 B_8
  refine (refIn_any _ _ _ _ _ _ ⟨_, _, _, rfl⟩).mono ?_
  rintro e w10 ⟨rfl, h⟩
  have X_10 := Lib.hid (X_9.out.trans h)
  have B_10 := Lib.hid (B_9.out.ext h)
  have Z_10 := Lib.hid (Z_9.out.ext h)
  clear h
  clear X_9 B_9 Z_9
  rw [HI.out]
  have k0 := B_10.out.cell 0
  have k1 := B_10.out.cell 1
  have k2 := B_10.out.cell 2
  go_wp2_with fail
  refine (refRight_any _ _ _ _ _ _).mono ?_
  rintro e w11 ⟨rfl, h⟩
  have X_11 := Lib.hid (X_10.out.trans h)
  have B_11 := Lib.hid (B_10.out.ext h)
  have Z_11 := Lib.hid (Z_10.out.ext h)
  clear h
  clear X_10 B_10 Z_10
  clear k0 k1 k2
  rw [HR.out]
  have z0 := Z_11.out.cell 0
  have z1 := Z_11.out.cell 1
  have z2 := Z_11.out.cell 2
  have z3 := Z_11.out.cell 3
  go_wp2_with fail
  refine (coded_any _ E (HE.out.ext X_11.out) _ _ _ 2 (.sent 1 (by decide))).mono ?_
  rintro e w12 ⟨he, h⟩
  have X_12 := Lib.hid (X_11.out.trans h)
  have B_12 := Lib.hid (B_11.out.ext h)
  have Z_12 := Lib.hid (Z_11.out.ext h)
  clear h
  clear X_11 B_11 Z_11
  obtain rfl : e = .returned (.bool true) := by rw [he]; exact ret_bool (by simp)
  clear he z0 z1 z2 z3
  have z0 := Z_12.out.cell 0
  have z1 := Z_12.out.cell 1
  have z2 := Z_12.out.cell 2
  have z3 := Z_12.out.cell 3
  go_wp2_with fail
  go_ret
  exact ⟨rfl, X_12.out⟩

theorem rnew_good_C (wide high : Nat) (r g b a : Int) (W H u v : Nat) (ad : Addr) (cap : Nat) (px : Nat → P4) (w : World) (E : Nat → Addr) (hE : Errs w E)  (hw : 1 ≤ wide ∧ wide ≤ 256) (hh : 1 ≤ high ∧ high ≤ 256) (hp : (P4.mk r g b a).Ok) (hr : rightB (W : Int) (H : Int) (W * H) = true) (hx : Pxs w (some ad) (W * H) px) (hu : u < W) (hv : v < H) (hn : W * H ≤ 3000) :
    Calls Tryd.prog 4 #[.int .i64 (wide : Int), .int .i64 (high : Int), .agg #[.int .u8 r, .int .u8 g, .int .u8 b, .int .u8 a], .agg #[.int .i64 (W : Int), .int .i64 (H : Int), .slice (some ad) (W * H) cap], .int .i64 (u : Int), .int .i64 (v : Int)] w fun e w' => e = .returned (.bool true) ∧ Ext w w' := by
  have HE := Lib.hid hE
  have HX := Lib.hid hx
  have HD := Lib.hid (decide_eq_true hn)
  have HR := Lib.hid hr
  have HI : Hid (inB (W : Int) (H : Int) (u : Int) (v : Int) = true) := Lib.hid (decide_eq_true ⟨by omega, by omega, by omega, by omega⟩)
  have HP := Lib.hid hp
  have HWH := Lib.hid (And.intro hw hh)
  have HS1 : Hid (sideB (wide : Int) = true) := Lib.hid (decide_eq_true (by omega))
  have HS2 : Hid (sideB (high : Int) = true) := Lib.hid (decide_eq_true (by omega))
  clear hp hw hh
  obtain ⟨W', H', q1, q2, hW1, hW2, hH1, hH2, _⟩ := rightB_yes hr
  obtain rfl : W' = W := by omega
  obtain rfl : H' = H := by omega
  clear q1 q2 hx hr
  clear hE
  go_enter Tryd.func4, Tryd.ntmps4
  go_wp2_with fail
  refine calls_world (fun wz => Ext w wz ∧ wz.heap.size = w.heap.size + 1 + 1 ∧ Bk wz (w.heap.size) #[.int .u8 r, .int .u8 g, .int .u8 b, .int .u8 a] ∧ Bk wz (w.heap.size + 1) #[.int .i64 (W' : Int), .int .i64 (H' : Int), .slice (some ad) (W' * H') cap]) ⟨by repeat (first | exact Ext.refl _ | refine Ext.alloc ?_ _), by simp, by repeat (first | exact Bk.at (by simp) | refine Bk.old ?_), by repeat (first | exact Bk.at (by simp) | refine Bk.old ?_)⟩ ?_
  rintro w1 ⟨hX, hZ, hB0, hB1⟩
  have X_1 := Lib.hid hX
  have Q_1 := Lib.hid hB0
  have B_1 := Lib.hid hB1
  clear hX hZ hB0 hB1
  refine (plainly_any _).mono ?_
  rintro e w2 ⟨rfl, h⟩
  have X_2 := Lib.hid (X_1.out.trans h)
  have Q_2 := Lib.hid (Q_1.out.ext h)
  have B_2 := Lib.hid (B_1.out.ext h)
  clear h
  clear X_1 Q_1 B_1
  have k0 := B_2.out.cell 0
  have k1 := B_2.out.cell 1
  have k2 := B_2.out.cell 2
  go_wp2_with fail
  refine (small_any _ _ _ _ _ _ (by unfold maxLen; omega)).mono ?_
  rintro e w3 ⟨rfl, h⟩
  have X_3 := Lib.hid (X_2.out.trans h)
  have Q_3 := Lib.hid (Q_2.out.ext h)
  have B_3 := Lib.hid (B_2.out.ext h)
  clear h
  clear X_2 Q_2 B_2
  clear k0 k1 k2
  rw [HD.out]
  have k0 := Q_3.out.cell 0
  have k1 := Q_3.out.cell 1
  have k2 := Q_3.out.cell 2
  have k3 := Q_3.out.cell 3
  go_wp2_with fail
  refine (new_good wide high ⟨r, g, b, a⟩ _ HWH.out.1 HWH.out.2).mono ?_
  rintro e w4 ⟨⟨nv, rfl, hown⟩, h⟩
  have X_4 := Lib.hid (X_3.out.trans h)
  have Q_4 := Lib.hid (Q_3.out.ext h)
  have B_4 := Lib.hid (B_3.out.ext h)
  have O_4 := Lib.hid (hown)
  clear h hown
  clear X_3 Q_3 B_3
  clear k0 k1 k2 k3
  obtain ⟨nx, nc, rfl, hnp, _⟩ := Pxs.of_own O_4.out (fun _ _ => HP.out)
  have N_4 := Lib.hid hnp
  clear hnp O_4
  have E_ := (Ext.refl w4).alloc (.cells #[.int .i64 (wide : Int), .int .i64 (high : Int), .slice nx (wide * high) nc] 24)
  have EE := Lib.hid E_
  clear E_
  go_wp2_with fail
  refine calls_world (fun wz => Ext w4 wz ∧ Bk wz w4.heap.size #[.int .i64 (wide : Int), .int .i64 (high : Int), .slice nx (wide * high) nc]) ⟨EE.out, Bk.at rfl⟩ ?_
  clear EE
  have NE_Q_NV := Lib.hid (Nat.ne_of_lt (show w.heap.size < w4.heap.size from Q_4.out.lt))
  have NE_B_NV := Lib.hid (Nat.ne_of_lt (show w.heap.size + 1 < w4.heap.size from B_4.out.lt))
  have GE_NV := Lib.hid (X_4.out.size)
  rintro w5 ⟨hX, hB0⟩
  have X_5 := Lib.hid (X_4.out.trans hX)
  have Q_5 := Lib.hid (Q_4.out.ext hX)
  have B_5 := Lib.hid (B_4.out.ext hX)
  have N_5 := Lib.hid (N_4.out.ext hX)
  have NV_5 := Lib.hid (hB0)
  clear hX hB0 X_4 Q_4 B_4 N_4
  refine (refSide_any _ _).mono ?_
  rintro e w99 ⟨rfl, rfl⟩
  rw [HS1.out]
  go_wp2_with fail
  refine (refSide_any _ _).mono ?_
  rintro e w99 ⟨rfl, rfl⟩
  rw [HS2.out]
  have k0 := NV_5.out.cell 0
  have k1 := NV_5.out.cell 1
  have k2 := NV_5.out.cell 2
  have k3 := Q_5.out.cell 0
  have k4 := Q_5.out.cell 1
  have k5 := Q_5.out.cell 2
  have k6 := Q_5.out.cell 3
  go_wp2_with fail
  go_region_held3 (fun w' => w'.cell? ⟨w4.heap.size, 0, none⟩ = some (.int .i64 (wide : Int)) ∧ w'.cell? ⟨w4.heap.size, 1, none⟩ = some (.int .i64 (high : Int)) ∧ w'.cell? ⟨w4.heap.size, 2, none⟩ = some (.slice nx (wide * high) nc) ∧ w'.cell? ⟨w.heap.size, 0, none⟩ = some (.int .u8 r) ∧ w'.cell? ⟨w.heap.size, 1, none⟩ = some (.int .u8 g) ∧ w'.cell? ⟨w.heap.size, 2, none⟩ = some (.int .u8 b) ∧ w'.cell? ⟨w.heap.size, 3, none⟩ = some (.int .u8 a)) (first | exact ⟨k0, k1, k2, k3, k4, k5, k6⟩ | exact ⟨(NV_5.out.ext hb).cell 0, (NV_5.out.ext hb).cell 1, (NV_5.out.ext hb).cell 2, (Q_5.out.ext hb).cell 0, (Q_5.out.ext hb).cell 1, (Q_5.out.ext hb).cell 2, (Q_5.out.ext hb).cell 3⟩ | exact ⟨(NV_5.out.ext ha).cell 0, (NV_5.out.ext ha).cell 1, (NV_5.out.ext ha).cell 2, (Q_5.out.ext ha).cell 0, (Q_5.out.ext ha).cell 1, (Q_5.out.ext ha).cell 2, (Q_5.out.ext ha).cell 3⟩)
    (first
      | ((go_at_call 23; refine (blank_any wide high ⟨r, g, b, a⟩ _ HWH.out.1 HWH.out.2).mono ?_; rintro e wa ⟨⟨gg, rfl, hpo, _⟩, hx⟩; have ha : Ext w5 wa := ⟨hx.os, hx.tape, hx.output, hx.size, hx.block⟩; clear hx))
      | ((go_at_call 22; refine (told_ok _ _ _ _ _ _ _ (fun _ => ⟨r, g, b, a⟩) _ (N_5.out.ext ha) (hpo.pxs (fun _ _ => HP.out)) (Nat.le_trans (Nat.mul_le_mul HWH.out.1.2 HWH.out.2.2) (by decide))).mono ?_; rintro e wb ⟨rfl, hx⟩; have hb : Ext w5 wb := Ext.trans ha hx; clear hx)))
  clear k0 k1 k2 k3 k4 k5 k6 hpo ha
  have X_6 := Lib.hid (X_5.out.trans hb)
  have Q_6 := Lib.hid (Q_5.out.ext hb)
  have B_6 := Lib.hid (B_5.out.ext hb)
  have N_6 := Lib.hid (N_5.out.ext hb)
  have NV_6 := Lib.hid (NV_5.out.ext hb)
  clear hb X_5 Q_5 B_5 N_5 NV_5
  clear N_6
  clear NV_6
  clear Q_6
  have k0 := B_6.out.cell 0
  have k1 := B_6.out.cell 1
  have k2 := B_6.out.cell 2
  go_wp2_with fail
  refine (own_x _ _ (some ad) _ cap px _ (HX.out.ext X_6.out) (fun h => by cases h) (by omega)).mono ?_
  rintro e w7 ⟨⟨ox, oc, rfl, hx, _⟩, h⟩
  have X_7 := Lib.hid (X_6.out.trans h)
  have B_7 := Lib.hid (B_6.out.ext h)
  have O_7 := Lib.hid (hx)
  clear h hx
  clear X_6 B_6
  clear k0 k1 k2
  obtain ⟨oa, rfl⟩ := O_7.out.isSome (Nat.mul_pos hW1 hH1)
  go_wp2_with fail
  refine (rat_ok W' H' u v oa oc px _ HR.out O_7.out hu hv).mono ?_
  rintro e w8 ⟨rfl, h⟩
  have X_8 := Lib.hid (X_7.out.trans h)
  have B_8 := Lib.hid (B_7.out.ext h)
  have O_8 := Lib.hid (O_7.out.ext h)
  clear h
  clear X_7 B_7 O_7
  clear O_8
  have E_ := (Ext.refl w8).alloc (.cells #[.int .u8 (px (v * W' + u)).r, .int .u8 (px (v * W' + u)).g, .int .u8 (px (v * W' + u)).b, .int .u8 (px (v * W' + u)).a] 36)
  have k0 := (B_8.out.ext E_).cell 0
  have k1 := (B_8.out.ext E_).cell 1
  have k2 := (B_8.out.ext E_).cell 2
  have EE := Lib.hid E_
  clear E_
  go_wp2_with fail
  clear k0 k1 k2
  refine calls_world (fun wz => Ext w8 wz ∧ Bk wz w8.heap.size #[.int .u8 (px (v * W' + u)).r, .int .u8 (px (v * W' + u)).g, .int .u8 (px (v * W' + u)).b, .int .u8 (px (v * W' + u)).a]) ⟨EE.out, Bk.at rfl⟩ ?_
  clear EE
  have NE_B_Z := Lib.hid (Nat.ne_of_lt (show w.heap.size + 1 < w8.heap.size from B_8.out.lt))
  have GE_Z := Lib.hid (X_8.out.size)
  rintro w9 ⟨hX, hB0⟩
  have X_9 := Lib.hid (X_8.out.trans hX)
  have B_9 := Lib.hid (B_8.out.ext hX)
  have Z_9 := Lib.hid (hB0)
  clear hX hB0 X_8 B_8
  refine (refIn_any _ _ _ _ _ _ ⟨_, _, _, rfl⟩).mono ?_
  rintro e w10 ⟨rfl, h⟩
  have X_10 := Lib.hid (X_9.out.trans h)
  have B_10 := Lib.hid (B_9.out.ext h)
  have Z_10 := Lib.hid (Z_9.out.ext h)
  clear h
  clear X_9 B_9 Z_9
  rw [HI.out]
  have k0 := B_10.out.cell 0
  have k1 := B_10.out.cell 1
  have k2 := B_10.out.cell 2
  go_wp2_with fail
  refine (refRight_any _ _ _ _ _ _).mono ?_
  rintro e w11 ⟨rfl, h⟩
  have X_11 := Lib.hid (X_10.out.trans h)
  have B_11 := Lib.hid (B_10.out.ext h)
  have Z_11 := Lib.hid (Z_10.out.ext h)
  clear h
  clear X_10 B_10 Z_10
  clear k0 k1 k2
  rw [HR.out]
  have z0 := Z_11.out.cell 0
  have z1 := Z_11.out.cell 1
  have z2 := Z_11.out.cell 2
  have z3 := Z_11.out.cell 3
  have k0 := B_11.out.cell 0
  have k1 := B_11.out.cell 1
  have k2 := B_11.out.cell 2
  have hi : v * W' + u < W' * H' := mul_lt_of hv hu
  obtain ⟨c0, c1, c2, c3, _⟩ := (HX.out.ext X_11.out).2 ad rfl (v * W' + u) hi
  obtain ⟨M, hM⟩ : ∃ M, v * W' = M := ⟨_, rfl⟩
  have hM1 : M ≤ 65536 := by rw [← hM]; exact Nat.mul_le_mul (show v ≤ 256 by omega) hW2
  have hMI : (v : Int) * (W' : Int) = (M : Int) := by rw [← hM]; simp
  rw [hM] at hi c0 c1 c2 c3 z0 z1 z2 z3
  have hN2 : W' * H' ≤ 65536 := Nat.mul_le_mul hW2 hH2
  clear hM
  go_wp2_with fail
  go_quiet (fail)
  go_wp2_with fail
  go_ret
  exact ⟨rfl, X_11.out.drewN _⟩

theorem rnew_S1_A1 (wide high : Int) (r g b a : Int) (W H : Int) (x : Option Addr) (n cap : Nat) (u v : Int) (px : Nat → P4) (w : World) (E : Nat → Addr) (hE : Errs w E)  (hs : sideB wide = false) (hx : Pxs w x n px) (hx0 : x = none → cap = 0) (hn : n ≤ 3000) (hr : rightB W H n = false) (hi : inB W H u v = false) :
    Calls Tryd.prog 4 #[.int .i64 wide, .int .i64 high, .agg #[.int .u8 r, .int .u8 g, .int .u8 b, .int .u8 a], .agg #[.int .i64 W, .int .i64 H, .slice x n cap], .int .i64 u, .int .i64 v] w fun e w' => e = .returned (.bool true) ∧ Ext w w' := by
  have HE := Lib.hid hE
  have HX := Lib.hid hx
  have HD := Lib.hid (decide_eq_true hn)
  have HR := Lib.hid hr
  have HI := Lib.hid hi
  have HX0 := Lib.hid hx0
  have HS : Hid (sideB wide = false ∨ sideB high = false) := Lib.hid (.inl hs)
  have HS1 := Lib.hid hs
  clear hs
  clear hE hx hx0 hr hi
  go_enter Tryd.func4, Tryd.ntmps4
  go_wp2_with fail
  refine calls_world (fun wz => Ext w wz ∧ wz.heap.size = w.heap.size + 1 + 1 ∧ Bk wz (w.heap.size) #[.int .u8 r, .int .u8 g, .int .u8 b, .int .u8 a] ∧ Bk wz (w.heap.size + 1) #[.int .i64 W, .int .i64 H, .slice x n cap]) ⟨by repeat (first | exact Ext.refl _ | refine Ext.alloc ?_ _), by simp, by repeat (first | exact Bk.at (by simp) | refine Bk.old ?_), by repeat (first | exact Bk.at (by simp) | refine Bk.old ?_)⟩ ?_
  rintro w1 ⟨hX, hZ, hB0, hB1⟩
  have X_1 := Lib.hid hX
  have Q_1 := Lib.hid hB0
  have B_1 := Lib.hid hB1
  clear hX hZ hB0 hB1
  refine (plainly_any _).mono ?_
  rintro e w2 ⟨rfl, h⟩
  have X_2 := Lib.hid (X_1.out.trans h)
  have Q_2 := Lib.hid (Q_1.out.ext h)
  have B_2 := Lib.hid (B_1.out.ext h)
  clear h
  clear X_1 Q_1 B_1
  have k0 := B_2.out.cell 0
  have k1 := B_2.out.cell 1
  have k2 := B_2.out.cell 2
  go_wp2_with fail
  refine (small_any _ _ _ _ _ _ (by unfold maxLen; omega)).mono ?_
  rintro e w3 ⟨rfl, h⟩
  have X_3 := Lib.hid (X_2.out.trans h)
  have Q_3 := Lib.hid (Q_2.out.ext h)
  have B_3 := Lib.hid (B_2.out.ext h)
  clear h
  clear X_2 Q_2 B_2
  clear k0 k1 k2
  rw [HD.out]
  have k0 := Q_3.out.cell 0
  have k1 := Q_3.out.cell 1
  have k2 := Q_3.out.cell 2
  have k3 := Q_3.out.cell 3
  go_wp2_with fail
  refine (new_bad wide high r g b a _ E (HE.out.ext X_3.out) HS.out).mono ?_
  rintro e w4 ⟨rfl, h⟩
  have X_4 := Lib.hid (X_3.out.trans h)
  have Q_4 := Lib.hid (Q_3.out.ext h)
  have B_4 := Lib.hid (B_3.out.ext h)
  clear h
  clear X_3 Q_3 B_3
  clear k0 k1 k2 k3
  have E_ := (Ext.refl w4).alloc (.cells #[.int .i64 0, .int .i64 0, .slice none 0 0] 24)
  have EE := Lib.hid E_
  clear E_
  go_wp2_with fail
  refine calls_world (fun wz => Ext w4 wz ∧ Bk wz w4.heap.size #[.int .i64 0, .int .i64 0, .slice none 0 0]) ⟨EE.out, Bk.at rfl⟩ ?_
  clear EE
  have NE_Q_NV := Lib.hid (Nat.ne_of_lt (show w.heap.size < w4.heap.size from Q_4.out.lt))
  have NE_B_NV := Lib.hid (Nat.ne_of_lt (show w.heap.size + 1 < w4.heap.size from B_4.out.lt))
  have GE_NV := Lib.hid (X_4.out.size)
  rintro w5 ⟨hX, hB0⟩
  have X_5 := Lib.hid (X_4.out.trans hX)
  have Q_5 := Lib.hid (Q_4.out.ext hX)
  have B_5 := Lib.hid (B_4.out.ext hX)
  have NV_5 := Lib.hid (hB0)
  clear hX hB0 X_4 Q_4 B_4
  refine (refSide_any _ _).mono ?_
  rintro e w99 ⟨rfl, rfl⟩
  rw [HS1.out]
  have k0 := NV_5.out.cell 0
  have k1 := NV_5.out.cell 1
  have k2 := NV_5.out.cell 2
  go_wp2_with fail
  refine (told_err _ 1 0 0 none 0 0 _ E (HE.out.ext X_5.out) (.sent 1 (by decide))).mono ?_
  rintro e w6 ⟨rfl, h⟩
  have X_6 := Lib.hid (X_5.out.trans h)
  have Q_6 := Lib.hid (Q_5.out.ext h)
  have B_6 := Lib.hid (B_5.out.ext h)
  have NV_6 := Lib.hid (NV_5.out.ext h)
  clear h
  clear X_5 Q_5 B_5 NV_5
  clear k0 k1 k2
  clear NV_6
  clear Q_6
  have k0 := B_6.out.cell 0
  have k1 := B_6.out.cell 1
  have k2 := B_6.out.cell 2
  go_wp2_with fail
  refine (own_x _ _ x n cap px _ (HX.out.ext X_6.out) HX0.out (by omega)).mono ?_
  rintro e w7 ⟨⟨ox, oc, rfl, hx, _⟩, h⟩
  have X_7 := Lib.hid (X_6.out.trans h)
  have B_7 := Lib.hid (B_6.out.ext h)
  have O_7 := Lib.hid (hx)
  clear h hx
  clear X_6 B_6
  clear k0 k1 k2
  go_wp2_with fail
  refine (at_shape _ _ _ _ _ _ _ _ E (HE.out.ext X_7.out) HR.out).mono ?_
  rintro e w8 ⟨rfl, h⟩
  have X_8 := Lib.hid (X_7.out.trans h)
  have B_8 := Lib.hid (B_7.out.ext h)
  have O_8 := Lib.hid (O_7.out.ext h)
  clear h
  clear X_7 B_7 O_7
  clear O_8
  have E_ := (Ext.refl w8).alloc (.cells #[.int .u8 0, .int .u8 0, .int .u8 0, .int .u8 0] 36)
  have k0 := (B_8.out.ext E_).cell 0
  have k1 := (B_8.out.ext E_).cell 1
  have k2 := (B_8.out.ext E_).cell 2
  have EE := Lib.hid E_
  clear E_
  go_wp2_with fail
  clear k0 k1 k2
  refine calls_world (fun wz => Ext w8 wz ∧ Bk wz w8.heap.size #[.int .u8 0, .int .u8 0, .int .u8 0, .int .u8 0]) ⟨EE.out, Bk.at rfl⟩ ?_
  clear EE
  have NE_B_Z := Lib.hid (Nat.ne_of_lt (show w.heap.size + 1 < w8.heap.size from B_8.out.lt))
  have GE_Z := Lib.hid (X_8.out.size)
  rintro w9 ⟨hX, hB0⟩
  have X_9 := Lib.hid (X_8.out.trans hX)
  have B_9 := Lib.hid (B_8.out.ext hX)
  have Z_9 := Lib.hid (hB0)
  clear hX hB0 X_8 B_8
  refine (refIn_any _ _ _ _ _ _ ⟨_, _, _, rfl⟩).mono ?_
  rintro e w10 ⟨rfl, h⟩
  have X_10 := Lib.hid (X_9.out.trans h)
  have B_10 := Lib.hid (B_9.out.ext h)
  have Z_10 := Lib.hid (Z_9.out.ext h)
  clear h
  clear X_9 B_9 Z_9
  rw [HI.out]
  have k0 := B_10.out.cell 0
  have k1 := B_10.out.cell 1
  have k2 := B_10.out.cell 2
  go_wp2_with fail
  refine (refRight_any _ _ _ _ _ _).mono ?_
  rintro e w11 ⟨rfl, h⟩
  have X_11 := Lib.hid (X_10.out.trans h)
  have B_11 := Lib.hid (B_10.out.ext h)
  have Z_11 := Lib.hid (Z_10.out.ext h)
  clear h
  clear X_10 B_10 Z_10
  clear k0 k1 k2
  rw [HR.out]
  have z0 := Z_11.out.cell 0
  have z1 := Z_11.out.cell 1
  have z2 := Z_11.out.cell 2
  have z3 := Z_11.out.cell 3
  go_wp2_with fail
  refine (coded_any _ E (HE.out.ext X_11.out) _ _ _ 3 (.sent 2 (by decide))).mono ?_
  rintro e w12 ⟨he, h⟩
  have X_12 := Lib.hid (X_11.out.trans h)
  have B_12 := Lib.hid (B_11.out.ext h)
  have Z_12 := Lib.hid (Z_11.out.ext h)
  clear h
  clear X_11 B_11 Z_11
  obtain rfl : e = .returned (.bool true) := by rw [he]; exact ret_bool (by simp)
  clear he z0 z1 z2 z3
  have z0 := Z_12.out.cell 0
  have z1 := Z_12.out.cell 1
  have z2 := Z_12.out.cell 2
  have z3 := Z_12.out.cell 3
  go_wp2_with fail
  go_ret
  exact ⟨rfl, X_12.out⟩

theorem rnew_S1_A2 (wide high : Int) (r g b a : Int) (W H : Int) (x : Option Addr) (n cap : Nat) (u v : Int) (px : Nat → P4) (w : World) (E : Nat → Addr) (hE : Errs w E)  (hs : sideB wide = false) (hx : Pxs w x n px) (hx0 : x = none → cap = 0) (hn : n ≤ 3000) (hr : rightB W H n = false) (hi : inB W H u v = true) :
    Calls Tryd.prog 4 #[.int .i64 wide, .int .i64 high, .agg #[.int .u8 r, .int .u8 g, .int .u8 b, .int .u8 a], .agg #[.int .i64 W, .int .i64 H, .slice x n cap], .int .i64 u, .int .i64 v] w fun e w' => e = .returned (.bool true) ∧ Ext w w' := by
  have HE := Lib.hid hE
  have HX := Lib.hid hx
  have HD := Lib.hid (decide_eq_true hn)
  have HR := Lib.hid hr
  have HI := Lib.hid hi
  have HX0 := Lib.hid hx0
  have HS : Hid (sideB wide = false ∨ sideB high = false) := Lib.hid (.inl hs)
  have HS1 := Lib.hid hs
  clear hs
  clear hE hx hx0 hr hi
  go_enter Tryd.func4, Tryd.ntmps4
  go_wp2_with fail
  refine calls_world (fun wz => Ext w wz ∧ wz.heap.size = w.heap.size + 1 + 1 ∧ Bk wz (w.heap.size) #[.int .u8 r, .int .u8 g, .int .u8 b, .int .u8 a] ∧ Bk wz (w.heap.size + 1) #[.int .i64 W, .int .i64 H, .slice x n cap]) ⟨by repeat (first | exact Ext.refl _ | refine Ext.alloc ?_ _), by simp, by repeat (first | exact Bk.at (by simp) | refine Bk.old ?_), by repeat (first | exact Bk.at (by simp) | refine Bk.old ?_)⟩ ?_
  rintro w1 ⟨hX, hZ, hB0, hB1⟩
  have X_1 := Lib.hid hX
  have Q_1 := Lib.hid hB0
  have B_1 := Lib.hid hB1
  clear hX hZ hB0 hB1
  refine (plainly_any _).mono ?_
  rintro e w2 ⟨rfl, h⟩
  have X_2 := Lib.hid (X_1.out.trans h)
  have Q_2 := Lib.hid (Q_1.out.ext h)
  have B_2 := Lib.hid (B_1.out.ext h)
  clear h
  clear X_1 Q_1 B_1
  have k0 := B_2.out.cell 0
  have k1 := B_2.out.cell 1
  have k2 := B_2.out.cell 2
  go_wp2_with fail
  refine (small_any _ _ _ _ _ _ (by unfold maxLen; omega)).mono ?_
  rintro e w3 ⟨rfl, h⟩
  have X_3 := Lib.hid (X_2.out.trans h)
  have Q_3 := Lib.hid (Q_2.out.ext h)
  have B_3 := Lib.hid (B_2.out.ext h)
  clear h
  clear X_2 Q_2 B_2
  clear k0 k1 k2
  rw [HD.out]
  have k0 := Q_3.out.cell 0
  have k1 := Q_3.out.cell 1
  have k2 := Q_3.out.cell 2
  have k3 := Q_3.out.cell 3
  go_wp2_with fail
  refine (new_bad wide high r g b a _ E (HE.out.ext X_3.out) HS.out).mono ?_
  rintro e w4 ⟨rfl, h⟩
  have X_4 := Lib.hid (X_3.out.trans h)
  have Q_4 := Lib.hid (Q_3.out.ext h)
  have B_4 := Lib.hid (B_3.out.ext h)
  clear h
  clear X_3 Q_3 B_3
  clear k0 k1 k2 k3
  have E_ := (Ext.refl w4).alloc (.cells #[.int .i64 0, .int .i64 0, .slice none 0 0] 24)
  have EE := Lib.hid E_
  clear E_
  go_wp2_with fail
  refine calls_world (fun wz => Ext w4 wz ∧ Bk wz w4.heap.size #[.int .i64 0, .int .i64 0, .slice none 0 0]) ⟨EE.out, Bk.at rfl⟩ ?_
  clear EE
  have NE_Q_NV := Lib.hid (Nat.ne_of_lt (show w.heap.size < w4.heap.size from Q_4.out.lt))
  have NE_B_NV := Lib.hid (Nat.ne_of_lt (show w.heap.size + 1 < w4.heap.size from B_4.out.lt))
  have GE_NV := Lib.hid (X_4.out.size)
  rintro w5 ⟨hX, hB0⟩
  have X_5 := Lib.hid (X_4.out.trans hX)
  have Q_5 := Lib.hid (Q_4.out.ext hX)
  have B_5 := Lib.hid (B_4.out.ext hX)
  have NV_5 := Lib.hid (hB0)
  clear hX hB0 X_4 Q_4 B_4
  refine (refSide_any _ _).mono ?_
  rintro e w99 ⟨rfl, rfl⟩
  rw [HS1.out]
  have k0 := NV_5.out.cell 0
  have k1 := NV_5.out.cell 1
  have k2 := NV_5.out.cell 2
  go_wp2_with fail
  refine (told_err _ 1 0 0 none 0 0 _ E (HE.out.ext X_5.out) (.sent 1 (by decide))).mono ?_
  rintro e w6 ⟨rfl, h⟩
  have X_6 := Lib.hid (X_5.out.trans h)
  have Q_6 := Lib.hid (Q_5.out.ext h)
  have B_6 := Lib.hid (B_5.out.ext h)
  have NV_6 := Lib.hid (NV_5.out.ext h)
  clear h
  clear X_5 Q_5 B_5 NV_5
  clear k0 k1 k2
  clear NV_6
  clear Q_6
  have k0 := B_6.out.cell 0
  have k1 := B_6.out.cell 1
  have k2 := B_6.out.cell 2
  go_wp2_with fail
  refine (own_x _ _ x n cap px _ (HX.out.ext X_6.out) HX0.out (by omega)).mono ?_
  rintro e w7 ⟨⟨ox, oc, rfl, hx, _⟩, h⟩
  have X_7 := Lib.hid (X_6.out.trans h)
  have B_7 := Lib.hid (B_6.out.ext h)
  have O_7 := Lib.hid (hx)
  clear h hx
  clear X_6 B_6
  clear k0 k1 k2
  go_wp2_with fail
  refine (at_shape _ _ _ _ _ _ _ _ E (HE.out.ext X_7.out) HR.out).mono ?_
  rintro e w8 ⟨rfl, h⟩
  have X_8 := Lib.hid (X_7.out.trans h)
  have B_8 := Lib.hid (B_7.out.ext h)
  have O_8 := Lib.hid (O_7.out.ext h)
  clear h
  clear X_7 B_7 O_7
  clear O_8
  have E_ := (Ext.refl w8).alloc (.cells #[.int .u8 0, .int .u8 0, .int .u8 0, .int .u8 0] 36)
  have k0 := (B_8.out.ext E_).cell 0
  have k1 := (B_8.out.ext E_).cell 1
  have k2 := (B_8.out.ext E_).cell 2
  have EE := Lib.hid E_
  clear E_
  go_wp2_with fail
  clear k0 k1 k2
  refine calls_world (fun wz => Ext w8 wz ∧ Bk wz w8.heap.size #[.int .u8 0, .int .u8 0, .int .u8 0, .int .u8 0]) ⟨EE.out, Bk.at rfl⟩ ?_
  clear EE
  have NE_B_Z := Lib.hid (Nat.ne_of_lt (show w.heap.size + 1 < w8.heap.size from B_8.out.lt))
  have GE_Z := Lib.hid (X_8.out.size)
  rintro w9 ⟨hX, hB0⟩
  have X_9 := Lib.hid (X_8.out.trans hX)
  have B_9 := Lib.hid (B_8.out.ext hX)
  have Z_9 := Lib.hid (hB0)
  clear hX hB0 X_8 B_8
  refine (refIn_any _ _ _ _ _ _ ⟨_, _, _, rfl⟩).mono ?_
  rintro e w10 ⟨rfl, h⟩
  have X_10 := Lib.hid (X_9.out.trans h)
  have B_10 := Lib.hid (B_9.out.ext h)
  have Z_10 := Lib.hid (Z_9.out.ext h)
  clear h
  clear X_9 B_9 Z_9
  rw [HI.out]
  have k0 := B_10.out.cell 0
  have k1 := B_10.out.cell 1
  have k2 := B_10.out.cell 2
  go_wp2_with fail
  refine (refRight_any _ _ _ _ _ _).mono ?_
  rintro e w11 ⟨rfl, h⟩
  have X_11 := Lib.hid (X_10.out.trans h)
  have B_11 := Lib.hid (B_10.out.ext h)
  have Z_11 := Lib.hid (Z_10.out.ext h)
  clear h
  clear X_10 B_10 Z_10
  clear k0 k1 k2
  rw [HR.out]
  have z0 := Z_11.out.cell 0
  have z1 := Z_11.out.cell 1
  have z2 := Z_11.out.cell 2
  have z3 := Z_11.out.cell 3
  go_wp2_with fail
  refine (coded_any _ E (HE.out.ext X_11.out) _ _ _ 3 (.sent 2 (by decide))).mono ?_
  rintro e w12 ⟨he, h⟩
  have X_12 := Lib.hid (X_11.out.trans h)
  have B_12 := Lib.hid (B_11.out.ext h)
  have Z_12 := Lib.hid (Z_11.out.ext h)
  clear h
  clear X_11 B_11 Z_11
  obtain rfl : e = .returned (.bool true) := by rw [he]; exact ret_bool (by simp)
  clear he z0 z1 z2 z3
  have z0 := Z_12.out.cell 0
  have z1 := Z_12.out.cell 1
  have z2 := Z_12.out.cell 2
  have z3 := Z_12.out.cell 3
  go_wp2_with fail
  go_ret
  exact ⟨rfl, X_12.out⟩

theorem rnew_S1_B (wide high : Int) (r g b a : Int) (W H : Int) (x : Option Addr) (n cap : Nat) (u v : Int) (px : Nat → P4) (w : World) (E : Nat → Addr) (hE : Errs w E)  (hs : sideB wide = false) (hx : Pxs w x n px) (hx0 : x = none → cap = 0) (hn : n ≤ 3000) (hr : rightB W H n = true) (hi : inB W H u v = false) :
    Calls Tryd.prog 4 #[.int .i64 wide, .int .i64 high, .agg #[.int .u8 r, .int .u8 g, .int .u8 b, .int .u8 a], .agg #[.int .i64 W, .int .i64 H, .slice x n cap], .int .i64 u, .int .i64 v] w fun e w' => e = .returned (.bool true) ∧ Ext w w' := by
  have HE := Lib.hid hE
  have HX := Lib.hid hx
  have HD := Lib.hid (decide_eq_true hn)
  have HR := Lib.hid hr
  have HI := Lib.hid hi
  have HX0 := Lib.hid hx0
  have HS : Hid (sideB wide = false ∨ sideB high = false) := Lib.hid (.inl hs)
  have HS1 := Lib.hid hs
  clear hs
  clear hE hx hx0 hr hi
  go_enter Tryd.func4, Tryd.ntmps4
  go_wp2_with fail
  refine calls_world (fun wz => Ext w wz ∧ wz.heap.size = w.heap.size + 1 + 1 ∧ Bk wz (w.heap.size) #[.int .u8 r, .int .u8 g, .int .u8 b, .int .u8 a] ∧ Bk wz (w.heap.size + 1) #[.int .i64 W, .int .i64 H, .slice x n cap]) ⟨by repeat (first | exact Ext.refl _ | refine Ext.alloc ?_ _), by simp, by repeat (first | exact Bk.at (by simp) | refine Bk.old ?_), by repeat (first | exact Bk.at (by simp) | refine Bk.old ?_)⟩ ?_
  rintro w1 ⟨hX, hZ, hB0, hB1⟩
  have X_1 := Lib.hid hX
  have Q_1 := Lib.hid hB0
  have B_1 := Lib.hid hB1
  clear hX hZ hB0 hB1
  refine (plainly_any _).mono ?_
  rintro e w2 ⟨rfl, h⟩
  have X_2 := Lib.hid (X_1.out.trans h)
  have Q_2 := Lib.hid (Q_1.out.ext h)
  have B_2 := Lib.hid (B_1.out.ext h)
  clear h
  clear X_1 Q_1 B_1
  have k0 := B_2.out.cell 0
  have k1 := B_2.out.cell 1
  have k2 := B_2.out.cell 2
  go_wp2_with fail
  refine (small_any _ _ _ _ _ _ (by unfold maxLen; omega)).mono ?_
  rintro e w3 ⟨rfl, h⟩
  have X_3 := Lib.hid (X_2.out.trans h)
  have Q_3 := Lib.hid (Q_2.out.ext h)
  have B_3 := Lib.hid (B_2.out.ext h)
  clear h
  clear X_2 Q_2 B_2
  clear k0 k1 k2
  rw [HD.out]
  have k0 := Q_3.out.cell 0
  have k1 := Q_3.out.cell 1
  have k2 := Q_3.out.cell 2
  have k3 := Q_3.out.cell 3
  go_wp2_with fail
  refine (new_bad wide high r g b a _ E (HE.out.ext X_3.out) HS.out).mono ?_
  rintro e w4 ⟨rfl, h⟩
  have X_4 := Lib.hid (X_3.out.trans h)
  have Q_4 := Lib.hid (Q_3.out.ext h)
  have B_4 := Lib.hid (B_3.out.ext h)
  clear h
  clear X_3 Q_3 B_3
  clear k0 k1 k2 k3
  have E_ := (Ext.refl w4).alloc (.cells #[.int .i64 0, .int .i64 0, .slice none 0 0] 24)
  have EE := Lib.hid E_
  clear E_
  go_wp2_with fail
  refine calls_world (fun wz => Ext w4 wz ∧ Bk wz w4.heap.size #[.int .i64 0, .int .i64 0, .slice none 0 0]) ⟨EE.out, Bk.at rfl⟩ ?_
  clear EE
  have NE_Q_NV := Lib.hid (Nat.ne_of_lt (show w.heap.size < w4.heap.size from Q_4.out.lt))
  have NE_B_NV := Lib.hid (Nat.ne_of_lt (show w.heap.size + 1 < w4.heap.size from B_4.out.lt))
  have GE_NV := Lib.hid (X_4.out.size)
  rintro w5 ⟨hX, hB0⟩
  have X_5 := Lib.hid (X_4.out.trans hX)
  have Q_5 := Lib.hid (Q_4.out.ext hX)
  have B_5 := Lib.hid (B_4.out.ext hX)
  have NV_5 := Lib.hid (hB0)
  clear hX hB0 X_4 Q_4 B_4
  refine (refSide_any _ _).mono ?_
  rintro e w99 ⟨rfl, rfl⟩
  rw [HS1.out]
  have k0 := NV_5.out.cell 0
  have k1 := NV_5.out.cell 1
  have k2 := NV_5.out.cell 2
  go_wp2_with fail
  refine (told_err _ 1 0 0 none 0 0 _ E (HE.out.ext X_5.out) (.sent 1 (by decide))).mono ?_
  rintro e w6 ⟨rfl, h⟩
  have X_6 := Lib.hid (X_5.out.trans h)
  have Q_6 := Lib.hid (Q_5.out.ext h)
  have B_6 := Lib.hid (B_5.out.ext h)
  have NV_6 := Lib.hid (NV_5.out.ext h)
  clear h
  clear X_5 Q_5 B_5 NV_5
  clear k0 k1 k2
  clear NV_6
  clear Q_6
  have k0 := B_6.out.cell 0
  have k1 := B_6.out.cell 1
  have k2 := B_6.out.cell 2
  go_wp2_with fail
  refine (own_x _ _ x n cap px _ (HX.out.ext X_6.out) HX0.out (by omega)).mono ?_
  rintro e w7 ⟨⟨ox, oc, rfl, hx, _⟩, h⟩
  have X_7 := Lib.hid (X_6.out.trans h)
  have B_7 := Lib.hid (B_6.out.ext h)
  have O_7 := Lib.hid (hx)
  clear h hx
  clear X_6 B_6
  clear k0 k1 k2
  go_wp2_with fail
  refine (at_bound _ _ _ _ _ _ _ _ E (HE.out.ext X_7.out) HR.out HI.out).mono ?_
  rintro e w8 ⟨rfl, h⟩
  have X_8 := Lib.hid (X_7.out.trans h)
  have B_8 := Lib.hid (B_7.out.ext h)
  have O_8 := Lib.hid (O_7.out.ext h)
  clear h
  clear X_7 B_7 O_7
  clear O_8
  have E_ := (Ext.refl w8).alloc (.cells #[.int .u8 0, .int .u8 0, .int .u8 0, .int .u8 0] 36)
  have k0 := (B_8.out.ext E_).cell 0
  have k1 := (B_8.out.ext E_).cell 1
  have k2 := (B_8.out.ext E_).cell 2
  have EE := Lib.hid E_
  clear E_
  go_wp2_with fail
  clear k0 k1 k2
  refine calls_world (fun wz => Ext w8 wz ∧ Bk wz w8.heap.size #[.int .u8 0, .int .u8 0, .int .u8 0, .int .u8 0]) ⟨EE.out, Bk.at rfl⟩ ?_
  clear EE
  have NE_B_Z := Lib.hid (Nat.ne_of_lt (show w.heap.size + 1 < w8.heap.size from B_8.out.lt))
  have GE_Z := Lib.hid (X_8.out.size)
  rintro w9 ⟨hX, hB0⟩
  have X_9 := Lib.hid (X_8.out.trans hX)
  have B_9 := Lib.hid (B_8.out.ext hX)
  have Z_9 := Lib.hid (hB0)
  clear hX hB0 X_8 B_8
  refine (refIn_any _ _ _ _ _ _ ⟨_, _, _, rfl⟩).mono ?_
  rintro e w10 ⟨rfl, h⟩
  have X_10 := Lib.hid (X_9.out.trans h)
  have B_10 := Lib.hid (B_9.out.ext h)
  have Z_10 := Lib.hid (Z_9.out.ext h)
  clear h
  clear X_9 B_9 Z_9
  rw [HI.out]
  have k0 := B_10.out.cell 0
  have k1 := B_10.out.cell 1
  have k2 := B_10.out.cell 2
  go_wp2_with fail
  refine (refRight_any _ _ _ _ _ _).mono ?_
  rintro e w11 ⟨rfl, h⟩
  have X_11 := Lib.hid (X_10.out.trans h)
  have B_11 := Lib.hid (B_10.out.ext h)
  have Z_11 := Lib.hid (Z_10.out.ext h)
  clear h
  clear X_10 B_10 Z_10
  clear k0 k1 k2
  rw [HR.out]
  have z0 := Z_11.out.cell 0
  have z1 := Z_11.out.cell 1
  have z2 := Z_11.out.cell 2
  have z3 := Z_11.out.cell 3
  go_wp2_with fail
  refine (coded_any _ E (HE.out.ext X_11.out) _ _ _ 2 (.sent 1 (by decide))).mono ?_
  rintro e w12 ⟨he, h⟩
  have X_12 := Lib.hid (X_11.out.trans h)
  have B_12 := Lib.hid (B_11.out.ext h)
  have Z_12 := Lib.hid (Z_11.out.ext h)
  clear h
  clear X_11 B_11 Z_11
  obtain rfl : e = .returned (.bool true) := by rw [he]; exact ret_bool (by simp)
  clear he z0 z1 z2 z3
  have z0 := Z_12.out.cell 0
  have z1 := Z_12.out.cell 1
  have z2 := Z_12.out.cell 2
  have z3 := Z_12.out.cell 3
  go_wp2_with fail
  go_ret
  exact ⟨rfl, X_12.out⟩

theorem rnew_S1_C (wide high : Int) (r g b a : Int) (W H u v : Nat) (ad : Addr) (cap : Nat) (px : Nat → P4) (w : World) (E : Nat → Addr) (hE : Errs w E)  (hs : sideB wide = false) (hr : rightB (W : Int) (H : Int) (W * H) = true) (hx : Pxs w (some ad) (W * H) px) (hu : u < W) (hv : v < H) (hn : W * H ≤ 3000) :
    Calls Tryd.prog 4 #[.int .i64 wide, .int .i64 high, .agg #[.int .u8 r, .int .u8 g, .int .u8 b, .int .u8 a], .agg #[.int .i64 (W : Int), .int .i64 (H : Int), .slice (some ad) (W * H) cap], .int .i64 (u : Int), .int .i64 (v : Int)] w fun e w' => e = .returned (.bool true) ∧ Ext w w' := by
  have HE := Lib.hid hE
  have HX := Lib.hid hx
  have HD := Lib.hid (decide_eq_true hn)
  have HR := Lib.hid hr
  have HI : Hid (inB (W : Int) (H : Int) (u : Int) (v : Int) = true) := Lib.hid (decide_eq_true ⟨by omega, by omega, by omega, by omega⟩)
  have HS : Hid (sideB wide = false ∨ sideB high = false) := Lib.hid (.inl hs)
  have HS1 := Lib.hid hs
  clear hs
  obtain ⟨W', H', q1, q2, hW1, hW2, hH1, hH2, _⟩ := rightB_yes hr
  obtain rfl : W' = W := by omega
  obtain rfl : H' = H := by omega
  clear q1 q2 hx hr
  clear hE
  go_enter Tryd.func4, Tryd.ntmps4
  go_wp2_with fail
  refine calls_world (fun wz => Ext w wz ∧ wz.heap.size = w.heap.size + 1 + 1 ∧ Bk wz (w.heap.size) #[.int .u8 r, .int .u8 g, .int .u8 b, .int .u8 a] ∧ Bk wz (w.heap.size + 1) #[.int .i64 (W' : Int), .int .i64 (H' : Int), .slice (some ad) (W' * H') cap]) ⟨by repeat (first | exact Ext.refl _ | refine Ext.alloc ?_ _), by simp, by repeat (first | exact Bk.at (by simp) | refine Bk.old ?_), by repeat (first | exact Bk.at (by simp) | refine Bk.old ?_)⟩ ?_
  rintro w1 ⟨hX, hZ, hB0, hB1⟩
  have X_1 := Lib.hid hX
  have Q_1 := Lib.hid hB0
  have B_1 := Lib.hid hB1
  clear hX hZ hB0 hB1
  refine (plainly_any _).mono ?_
  rintro e w2 ⟨rfl, h⟩
  have X_2 := Lib.hid (X_1.out.trans h)
  have Q_2 := Lib.hid (Q_1.out.ext h)
  have B_2 := Lib.hid (B_1.out.ext h)
  clear h
  clear X_1 Q_1 B_1
  have k0 := B_2.out.cell 0
  have k1 := B_2.out.cell 1
  have k2 := B_2.out.cell 2
  go_wp2_with fail
  refine (small_any _ _ _ _ _ _ (by unfold maxLen; omega)).mono ?_
  rintro e w3 ⟨rfl, h⟩
  have X_3 := Lib.hid (X_2.out.trans h)
  have Q_3 := Lib.hid (Q_2.out.ext h)
  have B_3 := Lib.hid (B_2.out.ext h)
  clear h
  clear X_2 Q_2 B_2
  clear k0 k1 k2
  rw [HD.out]
  have k0 := Q_3.out.cell 0
  have k1 := Q_3.out.cell 1
  have k2 := Q_3.out.cell 2
  have k3 := Q_3.out.cell 3
  go_wp2_with fail
  refine (new_bad wide high r g b a _ E (HE.out.ext X_3.out) HS.out).mono ?_
  rintro e w4 ⟨rfl, h⟩
  have X_4 := Lib.hid (X_3.out.trans h)
  have Q_4 := Lib.hid (Q_3.out.ext h)
  have B_4 := Lib.hid (B_3.out.ext h)
  clear h
  clear X_3 Q_3 B_3
  clear k0 k1 k2 k3
  have E_ := (Ext.refl w4).alloc (.cells #[.int .i64 0, .int .i64 0, .slice none 0 0] 24)
  have EE := Lib.hid E_
  clear E_
  go_wp2_with fail
  refine calls_world (fun wz => Ext w4 wz ∧ Bk wz w4.heap.size #[.int .i64 0, .int .i64 0, .slice none 0 0]) ⟨EE.out, Bk.at rfl⟩ ?_
  clear EE
  have NE_Q_NV := Lib.hid (Nat.ne_of_lt (show w.heap.size < w4.heap.size from Q_4.out.lt))
  have NE_B_NV := Lib.hid (Nat.ne_of_lt (show w.heap.size + 1 < w4.heap.size from B_4.out.lt))
  have GE_NV := Lib.hid (X_4.out.size)
  rintro w5 ⟨hX, hB0⟩
  have X_5 := Lib.hid (X_4.out.trans hX)
  have Q_5 := Lib.hid (Q_4.out.ext hX)
  have B_5 := Lib.hid (B_4.out.ext hX)
  have NV_5 := Lib.hid (hB0)
  clear hX hB0 X_4 Q_4 B_4
  refine (refSide_any _ _).mono ?_
  rintro e w99 ⟨rfl, rfl⟩
  rw [HS1.out]
  have k0 := NV_5.out.cell 0
  have k1 := NV_5.out.cell 1
  have k2 := NV_5.out.cell 2
  go_wp2_with fail
  refine (told_err _ 1 0 0 none 0 0 _ E (HE.out.ext X_5.out) (.sent 1 (by decide))).mono ?_
  rintro e w6 ⟨rfl, h⟩
  have X_6 := Lib.hid (X_5.out.trans h)
  have Q_6 := Lib.hid (Q_5.out.ext h)
  have B_6 := Lib.hid (B_5.out.ext h)
  have NV_6 := Lib.hid (NV_5.out.ext h)
  clear h
  clear X_5 Q_5 B_5 NV_5
  clear k0 k1 k2
  clear NV_6
  clear Q_6
  have k0 := B_6.out.cell 0
  have k1 := B_6.out.cell 1
  have k2 := B_6.out.cell 2
  go_wp2_with fail
  refine (own_x _ _ (some ad) _ cap px _ (HX.out.ext X_6.out) (fun h => by cases h) (by omega)).mono ?_
  rintro e w7 ⟨⟨ox, oc, rfl, hx, _⟩, h⟩
  have X_7 := Lib.hid (X_6.out.trans h)
  have B_7 := Lib.hid (B_6.out.ext h)
  have O_7 := Lib.hid (hx)
  clear h hx
  clear X_6 B_6
  clear k0 k1 k2
  obtain ⟨oa, rfl⟩ := O_7.out.isSome (Nat.mul_pos hW1 hH1)
  go_wp2_with fail
  refine (rat_ok W' H' u v oa oc px _ HR.out O_7.out hu hv).mono ?_
  rintro e w8 ⟨rfl, h⟩
  have X_8 := Lib.hid (X_7.out.trans h)
  have B_8 := Lib.hid (B_7.out.ext h)
  have O_8 := Lib.hid (O_7.out.ext h)
  clear h
  clear X_7 B_7 O_7
  clear O_8
  have E_ := (Ext.refl w8).alloc (.cells #[.int .u8 (px (v * W' + u)).r, .int .u8 (px (v * W' + u)).g, .int .u8 (px (v * W' + u)).b, .int .u8 (px (v * W' + u)).a] 36)
  have k0 := (B_8.out.ext E_).cell 0
  have k1 := (B_8.out.ext E_).cell 1
  have k2 := (B_8.out.ext E_).cell 2
  have EE := Lib.hid E_
  clear E_
  go_wp2_with fail
  clear k0 k1 k2
  refine calls_world (fun wz => Ext w8 wz ∧ Bk wz w8.heap.size #[.int .u8 (px (v * W' + u)).r, .int .u8 (px (v * W' + u)).g, .int .u8 (px (v * W' + u)).b, .int .u8 (px (v * W' + u)).a]) ⟨EE.out, Bk.at rfl⟩ ?_
  clear EE
  have NE_B_Z := Lib.hid (Nat.ne_of_lt (show w.heap.size + 1 < w8.heap.size from B_8.out.lt))
  have GE_Z := Lib.hid (X_8.out.size)
  rintro w9 ⟨hX, hB0⟩
  have X_9 := Lib.hid (X_8.out.trans hX)
  have B_9 := Lib.hid (B_8.out.ext hX)
  have Z_9 := Lib.hid (hB0)
  clear hX hB0 X_8 B_8
  refine (refIn_any _ _ _ _ _ _ ⟨_, _, _, rfl⟩).mono ?_
  rintro e w10 ⟨rfl, h⟩
  have X_10 := Lib.hid (X_9.out.trans h)
  have B_10 := Lib.hid (B_9.out.ext h)
  have Z_10 := Lib.hid (Z_9.out.ext h)
  clear h
  clear X_9 B_9 Z_9
  rw [HI.out]
  have k0 := B_10.out.cell 0
  have k1 := B_10.out.cell 1
  have k2 := B_10.out.cell 2
  go_wp2_with fail
  refine (refRight_any _ _ _ _ _ _).mono ?_
  rintro e w11 ⟨rfl, h⟩
  have X_11 := Lib.hid (X_10.out.trans h)
  have B_11 := Lib.hid (B_10.out.ext h)
  have Z_11 := Lib.hid (Z_10.out.ext h)
  clear h
  clear X_10 B_10 Z_10
  clear k0 k1 k2
  rw [HR.out]
  have z0 := Z_11.out.cell 0
  have z1 := Z_11.out.cell 1
  have z2 := Z_11.out.cell 2
  have z3 := Z_11.out.cell 3
  have k0 := B_11.out.cell 0
  have k1 := B_11.out.cell 1
  have k2 := B_11.out.cell 2
  have hi : v * W' + u < W' * H' := mul_lt_of hv hu
  obtain ⟨c0, c1, c2, c3, _⟩ := (HX.out.ext X_11.out).2 ad rfl (v * W' + u) hi
  obtain ⟨M, hM⟩ : ∃ M, v * W' = M := ⟨_, rfl⟩
  have hM1 : M ≤ 65536 := by rw [← hM]; exact Nat.mul_le_mul (show v ≤ 256 by omega) hW2
  have hMI : (v : Int) * (W' : Int) = (M : Int) := by rw [← hM]; simp
  rw [hM] at hi c0 c1 c2 c3 z0 z1 z2 z3
  have hN2 : W' * H' ≤ 65536 := Nat.mul_le_mul hW2 hH2
  clear hM
  go_wp2_with fail
  go_quiet (fail)
  go_wp2_with fail
  go_ret
  exact ⟨rfl, X_11.out.drewN _⟩

theorem rnew_S2_A1 (wide high : Int) (r g b a : Int) (W H : Int) (x : Option Addr) (n cap : Nat) (u v : Int) (px : Nat → P4) (w : World) (E : Nat → Addr) (hE : Errs w E)  (hs1 : sideB wide = true) (hs : sideB high = false) (hx : Pxs w x n px) (hx0 : x = none → cap = 0) (hn : n ≤ 3000) (hr : rightB W H n = false) (hi : inB W H u v = false) :
    Calls Tryd.prog 4 #[.int .i64 wide, .int .i64 high, .agg #[.int .u8 r, .int .u8 g, .int .u8 b, .int .u8 a], .agg #[.int .i64 W, .int .i64 H, .slice x n cap], .int .i64 u, .int .i64 v] w fun e w' => e = .returned (.bool true) ∧ Ext w w' := by
  have HE := Lib.hid hE
  have HX := Lib.hid hx
  have HD := Lib.hid (decide_eq_true hn)
  have HR := Lib.hid hr
  have HI := Lib.hid hi
  have HX0 := Lib.hid hx0
  have HS : Hid (sideB wide = false ∨ sideB high = false) := Lib.hid (.inr hs)
  have HS1 := Lib.hid hs1
  have HS2 := Lib.hid hs
  clear hs hs1
  clear hE hx hx0 hr hi
  go_enter Tryd.func4, Tryd.ntmps4
  go_wp2_with fail
  refine calls_world (fun wz => Ext w wz ∧ wz.heap.size = w.heap.size + 1 + 1 ∧ Bk wz (w.heap.size) #[.int .u8 r, .int .u8 g, .int .u8 b, .int .u8 a] ∧ Bk wz (w.heap.size + 1) #[.int .i64 W, .int .i64 H, .slice x n cap]) ⟨by repeat (first | exact Ext.refl _ | refine Ext.alloc ?_ _), by simp, by repeat (first | exact Bk.at (by simp) | refine Bk.old ?_), by repeat (first | exact Bk.at (by simp) | refine Bk.old ?_)⟩ ?_
  rintro w1 ⟨hX, hZ, hB0, hB1⟩
  have X_1 := Lib.hid hX
  have Q_1 := Lib.hid hB0
  have B_1 := Lib.hid hB1
  clear hX hZ hB0 hB1
  refine (plainly_any _).mono ?_
  rintro e w2 ⟨rfl, h⟩
  have X_2 := Lib.hid (X_1.out.trans h)
  have Q_2 := Lib.hid (Q_1.out.ext h)
  have B_2 := Lib.hid (B_1.out.ext h)
  clear h
  clear X_1 Q_1 B_1
  have k0 := B_2.out.cell 0
  have k1 := B_2.out.cell 1
  have k2 := B_2.out.cell 2
  go_wp2_with fail
  refine (small_any _ _ _ _ _ _ (by unfold maxLen; omega)).mono ?_
  rintro e w3 ⟨rfl, h⟩
  have X_3 := Lib.hid (X_2.out.trans h)
  have Q_3 := Lib.hid (Q_2.out.ext h)
  have B_3 := Lib.hid (B_2.out.ext h)
  clear h
  clear X_2 Q_2 B_2
  clear k0 k1 k2
  rw [HD.out]
  have k0 := Q_3.out.cell 0
  have k1 := Q_3.out.cell 1
  have k2 := Q_3.out.cell 2
  have k3 := Q_3.out.cell 3
  go_wp2_with fail
  refine (new_bad wide high r g b a _ E (HE.out.ext X_3.out) HS.out).mono ?_
  rintro e w4 ⟨rfl, h⟩
  have X_4 := Lib.hid (X_3.out.trans h)
  have Q_4 := Lib.hid (Q_3.out.ext h)
  have B_4 := Lib.hid (B_3.out.ext h)
  clear h
  clear X_3 Q_3 B_3
  clear k0 k1 k2 k3
  have E_ := (Ext.refl w4).alloc (.cells #[.int .i64 0, .int .i64 0, .slice none 0 0] 24)
  have EE := Lib.hid E_
  clear E_
  go_wp2_with fail
  refine calls_world (fun wz => Ext w4 wz ∧ Bk wz w4.heap.size #[.int .i64 0, .int .i64 0, .slice none 0 0]) ⟨EE.out, Bk.at rfl⟩ ?_
  clear EE
  have NE_Q_NV := Lib.hid (Nat.ne_of_lt (show w.heap.size < w4.heap.size from Q_4.out.lt))
  have NE_B_NV := Lib.hid (Nat.ne_of_lt (show w.heap.size + 1 < w4.heap.size from B_4.out.lt))
  have GE_NV := Lib.hid (X_4.out.size)
  rintro w5 ⟨hX, hB0⟩
  have X_5 := Lib.hid (X_4.out.trans hX)
  have Q_5 := Lib.hid (Q_4.out.ext hX)
  have B_5 := Lib.hid (B_4.out.ext hX)
  have NV_5 := Lib.hid (hB0)
  clear hX hB0 X_4 Q_4 B_4
  refine (refSide_any _ _).mono ?_
  rintro e w99 ⟨rfl, rfl⟩
  rw [HS1.out]
  go_wp2_with fail
  refine (refSide_any _ _).mono ?_
  rintro e w99 ⟨rfl, rfl⟩
  rw [HS2.out]
  have k0 := NV_5.out.cell 0
  have k1 := NV_5.out.cell 1
  have k2 := NV_5.out.cell 2
  go_wp2_with fail
  refine (told_err _ 1 0 0 none 0 0 _ E (HE.out.ext X_5.out) (.sent 1 (by decide))).mono ?_
  rintro e w6 ⟨rfl, h⟩
  have X_6 := Lib.hid (X_5.out.trans h)
  have Q_6 := Lib.hid (Q_5.out.ext h)
  have B_6 := Lib.hid (B_5.out.ext h)
  have NV_6 := Lib.hid (NV_5.out.ext h)
  clear h
  clear X_5 Q_5 B_5 NV_5
  clear k0 k1 k2
  clear NV_6
  clear Q_6
  have k0 := B_6.out.cell 0
  have k1 := B_6.out.cell 1
  have k2 := B_6.out.cell 2
  go_wp2_with fail
  refine (own_x _ _ x n cap px _ (HX.out.ext X_6.out) HX0.out (by omega)).mono ?_
  rintro e w7 ⟨⟨ox, oc, rfl, hx, _⟩, h⟩
  have X_7 := Lib.hid (X_6.out.trans h)
  have B_7 := Lib.hid (B_6.out.ext h)
  have O_7 := Lib.hid (hx)
  clear h hx
  clear X_6 B_6
  clear k0 k1 k2
  go_wp2_with fail
  refine (at_shape _ _ _ _ _ _ _ _ E (HE.out.ext X_7.out) HR.out).mono ?_
  rintro e w8 ⟨rfl, h⟩
  have X_8 := Lib.hid (X_7.out.trans h)
  have B_8 := Lib.hid (B_7.out.ext h)
  have O_8 := Lib.hid (O_7.out.ext h)
  clear h
  clear X_7 B_7 O_7
  clear O_8
  have E_ := (Ext.refl w8).alloc (.cells #[.int .u8 0, .int .u8 0, .int .u8 0, .int .u8 0] 36)
  have k0 := (B_8.out.ext E_).cell 0
  have k1 := (B_8.out.ext E_).cell 1
  have k2 := (B_8.out.ext E_).cell 2
  have EE := Lib.hid E_
  clear E_
  go_wp2_with fail
  clear k0 k1 k2
  refine calls_world (fun wz => Ext w8 wz ∧ Bk wz w8.heap.size #[.int .u8 0, .int .u8 0, .int .u8 0, .int .u8 0]) ⟨EE.out, Bk.at rfl⟩ ?_
  clear EE
  have NE_B_Z := Lib.hid (Nat.ne_of_lt (show w.heap.size + 1 < w8.heap.size from B_8.out.lt))
  have GE_Z := Lib.hid (X_8.out.size)
  rintro w9 ⟨hX, hB0⟩
  have X_9 := Lib.hid (X_8.out.trans hX)
  have B_9 := Lib.hid (B_8.out.ext hX)
  have Z_9 := Lib.hid (hB0)
  clear hX hB0 X_8 B_8
  refine (refIn_any _ _ _ _ _ _ ⟨_, _, _, rfl⟩).mono ?_
  rintro e w10 ⟨rfl, h⟩
  have X_10 := Lib.hid (X_9.out.trans h)
  have B_10 := Lib.hid (B_9.out.ext h)
  have Z_10 := Lib.hid (Z_9.out.ext h)
  clear h
  clear X_9 B_9 Z_9
  rw [HI.out]
  have k0 := B_10.out.cell 0
  have k1 := B_10.out.cell 1
  have k2 := B_10.out.cell 2
  go_wp2_with fail
  refine (refRight_any _ _ _ _ _ _).mono ?_
  rintro e w11 ⟨rfl, h⟩
  have X_11 := Lib.hid (X_10.out.trans h)
  have B_11 := Lib.hid (B_10.out.ext h)
  have Z_11 := Lib.hid (Z_10.out.ext h)
  clear h
  clear X_10 B_10 Z_10
  clear k0 k1 k2
  rw [HR.out]
  have z0 := Z_11.out.cell 0
  have z1 := Z_11.out.cell 1
  have z2 := Z_11.out.cell 2
  have z3 := Z_11.out.cell 3
  go_wp2_with fail
  refine (coded_any _ E (HE.out.ext X_11.out) _ _ _ 3 (.sent 2 (by decide))).mono ?_
  rintro e w12 ⟨he, h⟩
  have X_12 := Lib.hid (X_11.out.trans h)
  have B_12 := Lib.hid (B_11.out.ext h)
  have Z_12 := Lib.hid (Z_11.out.ext h)
  clear h
  clear X_11 B_11 Z_11
  obtain rfl : e = .returned (.bool true) := by rw [he]; exact ret_bool (by simp)
  clear he z0 z1 z2 z3
  have z0 := Z_12.out.cell 0
  have z1 := Z_12.out.cell 1
  have z2 := Z_12.out.cell 2
  have z3 := Z_12.out.cell 3
  go_wp2_with fail
  go_ret
  exact ⟨rfl, X_12.out⟩

theorem rnew_S2_A2 (wide high : Int) (r g b a : Int) (W H : Int) (x : Option Addr) (n cap : Nat) (u v : Int) (px : Nat → P4) (w : World) (E : Nat → Addr) (hE : Errs w E)  (hs1 : sideB wide = true) (hs : sideB high = false) (hx : Pxs w x n px) (hx0 : x = none → cap = 0) (hn : n ≤ 3000) (hr : rightB W H n = false) (hi : inB W H u v = true) :
    Calls Tryd.prog 4 #[.int .i64 wide, .int .i64 high, .agg #[.int .u8 r, .int .u8 g, .int .u8 b, .int .u8 a], .agg #[.int .i64 W, .int .i64 H, .slice x n cap], .int .i64 u, .int .i64 v] w fun e w' => e = .returned (.bool true) ∧ Ext w w' := by
  have HE := Lib.hid hE
  have HX := Lib.hid hx
  have HD := Lib.hid (decide_eq_true hn)
  have HR := Lib.hid hr
  have HI := Lib.hid hi
  have HX0 := Lib.hid hx0
  have HS : Hid (sideB wide = false ∨ sideB high = false) := Lib.hid (.inr hs)
  have HS1 := Lib.hid hs1
  have HS2 := Lib.hid hs
  clear hs hs1
  clear hE hx hx0 hr hi
  go_enter Tryd.func4, Tryd.ntmps4
  go_wp2_with fail
  refine calls_world (fun wz => Ext w wz ∧ wz.heap.size = w.heap.size + 1 + 1 ∧ Bk wz (w.heap.size) #[.int .u8 r, .int .u8 g, .int .u8 b, .int .u8 a] ∧ Bk wz (w.heap.size + 1) #[.int .i64 W, .int .i64 H, .slice x n cap]) ⟨by repeat (first | exact Ext.refl _ | refine Ext.alloc ?_ _), by simp, by repeat (first | exact Bk.at (by simp) | refine Bk.old ?_), by repeat (first | exact Bk.at (by simp) | refine Bk.old ?_)⟩ ?_
  rintro w1 ⟨hX, hZ, hB0, hB1⟩
  have X_1 := Lib.hid hX
  have Q_1 := Lib.hid hB0
  have B_1 := Lib.hid hB1
  clear hX hZ hB0 hB1
  refine (plainly_any _).mono ?_
  rintro e w2 ⟨rfl, h⟩
  have X_2 := Lib.hid (X_1.out.trans h)
  have Q_2 := Lib.hid (Q_1.out.ext h)
  have B_2 := Lib.hid (B_1.out.ext h)
  clear h
  clear X_1 Q_1 B_1
  have k0 := B_2.out.cell 0
  have k1 := B_2.out.cell 1
  have k2 := B_2.out.cell 2
  go_wp2_with fail
  refine (small_any _ _ _ _ _ _ (by unfold maxLen; omega)).mono ?_
  rintro e w3 ⟨rfl, h⟩
  have X_3 := Lib.hid (X_2.out.trans h)
  have Q_3 := Lib.hid (Q_2.out.ext h)
  have B_3 := Lib.hid (B_2.out.ext h)
  clear h
  clear X_2 Q_2 B_2
  clear k0 k1 k2
  rw [HD.out]
  have k0 := Q_3.out.cell 0
  have k1 := Q_3.out.cell 1
  have k2 := Q_3.out.cell 2
  have k3 := Q_3.out.cell 3
  go_wp2_with fail
  refine (new_bad wide high r g b a _ E (HE.out.ext X_3.out) HS.out).mono ?_
  rintro e w4 ⟨rfl, h⟩
  have X_4 := Lib.hid (X_3.out.trans h)
  have Q_4 := Lib.hid (Q_3.out.ext h)
  have B_4 := Lib.hid (B_3.out.ext h)
  clear h
  clear X_3 Q_3 B_3
  clear k0 k1 k2 k3
  have E_ := (Ext.refl w4).alloc (.cells #[.int .i64 0, .int .i64 0, .slice none 0 0] 24)
  have EE := Lib.hid E_
  clear E_
  go_wp2_with fail
  refine calls_world (fun wz => Ext w4 wz ∧ Bk wz w4.heap.size #[.int .i64 0, .int .i64 0, .slice none 0 0]) ⟨EE.out, Bk.at rfl⟩ ?_
  clear EE
  have NE_Q_NV := Lib.hid (Nat.ne_of_lt (show w.heap.size < w4.heap.size from Q_4.out.lt))
  have NE_B_NV := Lib.hid (Nat.ne_of_lt (show w.heap.size + 1 < w4.heap.size from B_4.out.lt))
  have GE_NV := Lib.hid (X_4.out.size)
  rintro w5 ⟨hX, hB0⟩
  have X_5 := Lib.hid (X_4.out.trans hX)
  have Q_5 := Lib.hid (Q_4.out.ext hX)
  have B_5 := Lib.hid (B_4.out.ext hX)
  have NV_5 := Lib.hid (hB0)
  clear hX hB0 X_4 Q_4 B_4
  refine (refSide_any _ _).mono ?_
  rintro e w99 ⟨rfl, rfl⟩
  rw [HS1.out]
  go_wp2_with fail
  refine (refSide_any _ _).mono ?_
  rintro e w99 ⟨rfl, rfl⟩
  rw [HS2.out]
  have k0 := NV_5.out.cell 0
  have k1 := NV_5.out.cell 1
  have k2 := NV_5.out.cell 2
  go_wp2_with fail
  refine (told_err _ 1 0 0 none 0 0 _ E (HE.out.ext X_5.out) (.sent 1 (by decide))).mono ?_
  rintro e w6 ⟨rfl, h⟩
  have X_6 := Lib.hid (X_5.out.trans h)
  have Q_6 := Lib.hid (Q_5.out.ext h)
  have B_6 := Lib.hid (B_5.out.ext h)
  have NV_6 := Lib.hid (NV_5.out.ext h)
  clear h
  clear X_5 Q_5 B_5 NV_5
  clear k0 k1 k2
  clear NV_6
  clear Q_6
  have k0 := B_6.out.cell 0
  have k1 := B_6.out.cell 1
  have k2 := B_6.out.cell 2
  go_wp2_with fail
  refine (own_x _ _ x n cap px _ (HX.out.ext X_6.out) HX0.out (by omega)).mono ?_
  rintro e w7 ⟨⟨ox, oc, rfl, hx, _⟩, h⟩
  have X_7 := Lib.hid (X_6.out.trans h)
  have B_7 := Lib.hid (B_6.out.ext h)
  have O_7 := Lib.hid (hx)
  clear h hx
  clear X_6 B_6
  clear k0 k1 k2
  go_wp2_with fail
  refine (at_shape _ _ _ _ _ _ _ _ E (HE.out.ext X_7.out) HR.out).mono ?_
  rintro e w8 ⟨rfl, h⟩
  have X_8 := Lib.hid (X_7.out.trans h)
  have B_8 := Lib.hid (B_7.out.ext h)
  have O_8 := Lib.hid (O_7.out.ext h)
  clear h
  clear X_7 B_7 O_7
  clear O_8
  have E_ := (Ext.refl w8).alloc (.cells #[.int .u8 0, .int .u8 0, .int .u8 0, .int .u8 0] 36)
  have k0 := (B_8.out.ext E_).cell 0
  have k1 := (B_8.out.ext E_).cell 1
  have k2 := (B_8.out.ext E_).cell 2
  have EE := Lib.hid E_
  clear E_
  go_wp2_with fail
  clear k0 k1 k2
  refine calls_world (fun wz => Ext w8 wz ∧ Bk wz w8.heap.size #[.int .u8 0, .int .u8 0, .int .u8 0, .int .u8 0]) ⟨EE.out, Bk.at rfl⟩ ?_
  clear EE
  have NE_B_Z := Lib.hid (Nat.ne_of_lt (show w.heap.size + 1 < w8.heap.size from B_8.out.lt))
  have GE_Z := Lib.hid (X_8.out.size)
  rintro w9 ⟨hX, hB0⟩
  have X_9 := Lib.hid (X_8.out.trans hX)
  have B_9 := Lib.hid (B_8.out.ext hX)
  have Z_9 := Lib.hid (hB0)
  clear hX hB0 X_8 B_8
  refine (refIn_any _ _ _ _ _ _ ⟨_, _, _, rfl⟩).mono ?_
  rintro e w10 ⟨rfl, h⟩
  have X_10 := Lib.hid (X_9.out.trans h)
  have B_10 := Lib.hid (B_9.out.ext h)
  have Z_10 := Lib.hid (Z_9.out.ext h)
  clear h
  clear X_9 B_9 Z_9
  rw [HI.out]
  have k0 := B_10.out.cell 0
  have k1 := B_10.out.cell 1
  have k2 := B_10.out.cell 2
  go_wp2_with fail
  refine (refRight_any _ _ _ _ _ _).mono ?_
  rintro e w11 ⟨rfl, h⟩
  have X_11 := Lib.hid (X_10.out.trans h)
  have B_11 := Lib.hid (B_10.out.ext h)
  have Z_11 := Lib.hid (Z_10.out.ext h)
  clear h
  clear X_10 B_10 Z_10
  clear k0 k1 k2
  rw [HR.out]
  have z0 := Z_11.out.cell 0
  have z1 := Z_11.out.cell 1
  have z2 := Z_11.out.cell 2
  have z3 := Z_11.out.cell 3
  go_wp2_with fail
  refine (coded_any _ E (HE.out.ext X_11.out) _ _ _ 3 (.sent 2 (by decide))).mono ?_
  rintro e w12 ⟨he, h⟩
  have X_12 := Lib.hid (X_11.out.trans h)
  have B_12 := Lib.hid (B_11.out.ext h)
  have Z_12 := Lib.hid (Z_11.out.ext h)
  clear h
  clear X_11 B_11 Z_11
  obtain rfl : e = .returned (.bool true) := by rw [he]; exact ret_bool (by simp)
  clear he z0 z1 z2 z3
  have z0 := Z_12.out.cell 0
  have z1 := Z_12.out.cell 1
  have z2 := Z_12.out.cell 2
  have z3 := Z_12.out.cell 3
  go_wp2_with fail
  go_ret
  exact ⟨rfl, X_12.out⟩

theorem rnew_S2_B (wide high : Int) (r g b a : Int) (W H : Int) (x : Option Addr) (n cap : Nat) (u v : Int) (px : Nat → P4) (w : World) (E : Nat → Addr) (hE : Errs w E)  (hs1 : sideB wide = true) (hs : sideB high = false) (hx : Pxs w x n px) (hx0 : x = none → cap = 0) (hn : n ≤ 3000) (hr : rightB W H n = true) (hi : inB W H u v = false) :
    Calls Tryd.prog 4 #[.int .i64 wide, .int .i64 high, .agg #[.int .u8 r, .int .u8 g, .int .u8 b, .int .u8 a], .agg #[.int .i64 W, .int .i64 H, .slice x n cap], .int .i64 u, .int .i64 v] w fun e w' => e = .returned (.bool true) ∧ Ext w w' := by
  have HE := Lib.hid hE
  have HX := Lib.hid hx
  have HD := Lib.hid (decide_eq_true hn)
  have HR := Lib.hid hr
  have HI := Lib.hid hi
  have HX0 := Lib.hid hx0
  have HS : Hid (sideB wide = false ∨ sideB high = false) := Lib.hid (.inr hs)
  have HS1 := Lib.hid hs1
  have HS2 := Lib.hid hs
  clear hs hs1
  clear hE hx hx0 hr hi
  go_enter Tryd.func4, Tryd.ntmps4
  go_wp2_with fail
  refine calls_world (fun wz => Ext w wz ∧ wz.heap.size = w.heap.size + 1 + 1 ∧ Bk wz (w.heap.size) #[.int .u8 r, .int .u8 g, .int .u8 b, .int .u8 a] ∧ Bk wz (w.heap.size + 1) #[.int .i64 W, .int .i64 H, .slice x n cap]) ⟨by repeat (first | exact Ext.refl _ | refine Ext.alloc ?_ _), by simp, by repeat (first | exact Bk.at (by simp) | refine Bk.old ?_), by repeat (first | exact Bk.at (by simp) | refine Bk.old ?_)⟩ ?_
  rintro w1 ⟨hX, hZ, hB0, hB1⟩
  have X_1 := Lib.hid hX
  have Q_1 := Lib.hid hB0
  have B_1 := Lib.hid hB1
  clear hX hZ hB0 hB1
  refine (plainly_any _).mono ?_
  rintro e w2 ⟨rfl, h⟩
  have X_2 := Lib.hid (X_1.out.trans h)
  have Q_2 := Lib.hid (Q_1.out.ext h)
  have B_2 := Lib.hid (B_1.out.ext h)
  clear h
  clear X_1 Q_1 B_1
  have k0 := B_2.out.cell 0
  have k1 := B_2.out.cell 1
  have k2 := B_2.out.cell 2
  go_wp2_with fail
  refine (small_any _ _ _ _ _ _ (by unfold maxLen; omega)).mono ?_
  rintro e w3 ⟨rfl, h⟩
  have X_3 := Lib.hid (X_2.out.trans h)
  have Q_3 := Lib.hid (Q_2.out.ext h)
  have B_3 := Lib.hid (B_2.out.ext h)
  clear h
  clear X_2 Q_2 B_2
  clear k0 k1 k2
  rw [HD.out]
  have k0 := Q_3.out.cell 0
  have k1 := Q_3.out.cell 1
  have k2 := Q_3.out.cell 2
  have k3 := Q_3.out.cell 3
  go_wp2_with fail
  refine (new_bad wide high r g b a _ E (HE.out.ext X_3.out) HS.out).mono ?_
  rintro e w4 ⟨rfl, h⟩
  have X_4 := Lib.hid (X_3.out.trans h)
  have Q_4 := Lib.hid (Q_3.out.ext h)
  have B_4 := Lib.hid (B_3.out.ext h)
  clear h
  clear X_3 Q_3 B_3
  clear k0 k1 k2 k3
  have E_ := (Ext.refl w4).alloc (.cells #[.int .i64 0, .int .i64 0, .slice none 0 0] 24)
  have EE := Lib.hid E_
  clear E_
  go_wp2_with fail
  refine calls_world (fun wz => Ext w4 wz ∧ Bk wz w4.heap.size #[.int .i64 0, .int .i64 0, .slice none 0 0]) ⟨EE.out, Bk.at rfl⟩ ?_
  clear EE
  have NE_Q_NV := Lib.hid (Nat.ne_of_lt (show w.heap.size < w4.heap.size from Q_4.out.lt))
  have NE_B_NV := Lib.hid (Nat.ne_of_lt (show w.heap.size + 1 < w4.heap.size from B_4.out.lt))
  have GE_NV := Lib.hid (X_4.out.size)
  rintro w5 ⟨hX, hB0⟩
  have X_5 := Lib.hid (X_4.out.trans hX)
  have Q_5 := Lib.hid (Q_4.out.ext hX)
  have B_5 := Lib.hid (B_4.out.ext hX)
  have NV_5 := Lib.hid (hB0)
  clear hX hB0 X_4 Q_4 B_4
  refine (refSide_any _ _).mono ?_
  rintro e w99 ⟨rfl, rfl⟩
  rw [HS1.out]
  go_wp2_with fail
  refine (refSide_any _ _).mono ?_
  rintro e w99 ⟨rfl, rfl⟩
  rw [HS2.out]
  have k0 := NV_5.out.cell 0
  have k1 := NV_5.out.cell 1
  have k2 := NV_5.out.cell 2
  go_wp2_with fail
  refine (told_err _ 1 0 0 none 0 0 _ E (HE.out.ext X_5.out) (.sent 1 (by decide))).mono ?_
  rintro e w6 ⟨rfl, h⟩
  have X_6 := Lib.hid (X_5.out.trans h)
  have Q_6 := Lib.hid (Q_5.out.ext h)
  have B_6 := Lib.hid (B_5.out.ext h)
  have NV_6 := Lib.hid (NV_5.out.ext h)
  clear h
  clear X_5 Q_5 B_5 NV_5
  clear k0 k1 k2
  clear NV_6
  clear Q_6
  have k0 := B_6.out.cell 0
  have k1 := B_6.out.cell 1
  have k2 := B_6.out.cell 2
  go_wp2_with fail
  refine (own_x _ _ x n cap px _ (HX.out.ext X_6.out) HX0.out (by omega)).mono ?_
  rintro e w7 ⟨⟨ox, oc, rfl, hx, _⟩, h⟩
  have X_7 := Lib.hid (X_6.out.trans h)
  have B_7 := Lib.hid (B_6.out.ext h)
  have O_7 := Lib.hid (hx)
  clear h hx
  clear X_6 B_6
  clear k0 k1 k2
  go_wp2_with fail
  refine (at_bound _ _ _ _ _ _ _ _ E (HE.out.ext X_7.out) HR.out HI.out).mono ?_
  rintro e w8 ⟨rfl, h⟩
  have X_8 := Lib.hid (X_7.out.trans h)
  have B_8 := Lib.hid (B_7.out.ext h)
  have O_8 := Lib.hid (O_7.out.ext h)
  clear h
  clear X_7 B_7 O_7
  clear O_8
  have E_ := (Ext.refl w8).alloc (.cells #[.int .u8 0, .int .u8 0, .int .u8 0, .int .u8 0] 36)
  have k0 := (B_8.out.ext E_).cell 0
  have k1 := (B_8.out.ext E_).cell 1
  have k2 := (B_8.out.ext E_).cell 2
  have EE := Lib.hid E_
  clear E_
  go_wp2_with fail
  clear k0 k1 k2
  refine calls_world (fun wz => Ext w8 wz ∧ Bk wz w8.heap.size #[.int .u8 0, .int .u8 0, .int .u8 0, .int .u8 0]) ⟨EE.out, Bk.at rfl⟩ ?_
  clear EE
  have NE_B_Z := Lib.hid (Nat.ne_of_lt (show w.heap.size + 1 < w8.heap.size from B_8.out.lt))
  have GE_Z := Lib.hid (X_8.out.size)
  rintro w9 ⟨hX, hB0⟩
  have X_9 := Lib.hid (X_8.out.trans hX)
  have B_9 := Lib.hid (B_8.out.ext hX)
  have Z_9 := Lib.hid (hB0)
  clear hX hB0 X_8 B_8
  refine (refIn_any _ _ _ _ _ _ ⟨_, _, _, rfl⟩).mono ?_
  rintro e w10 ⟨rfl, h⟩
  have X_10 := Lib.hid (X_9.out.trans h)
  have B_10 := Lib.hid (B_9.out.ext h)
  have Z_10 := Lib.hid (Z_9.out.ext h)
  clear h
  clear X_9 B_9 Z_9
  rw [HI.out]
  have k0 := B_10.out.cell 0
  have k1 := B_10.out.cell 1
  have k2 := B_10.out.cell 2
  go_wp2_with fail
  refine (refRight_any _ _ _ _ _ _).mono ?_
  rintro e w11 ⟨rfl, h⟩
  have X_11 := Lib.hid (X_10.out.trans h)
  have B_11 := Lib.hid (B_10.out.ext h)
  have Z_11 := Lib.hid (Z_10.out.ext h)
  clear h
  clear X_10 B_10 Z_10
  clear k0 k1 k2
  rw [HR.out]
  have z0 := Z_11.out.cell 0
  have z1 := Z_11.out.cell 1
  have z2 := Z_11.out.cell 2
  have z3 := Z_11.out.cell 3
  go_wp2_with fail
  refine (coded_any _ E (HE.out.ext X_11.out) _ _ _ 2 (.sent 1 (by decide))).mono ?_
  rintro e w12 ⟨he, h⟩
  have X_12 := Lib.hid (X_11.out.trans h)
  have B_12 := Lib.hid (B_11.out.ext h)
  have Z_12 := Lib.hid (Z_11.out.ext h)
  clear h
  clear X_11 B_11 Z_11
  obtain rfl : e = .returned (.bool true) := by rw [he]; exact ret_bool (by simp)
  clear he z0 z1 z2 z3
  have z0 := Z_12.out.cell 0
  have z1 := Z_12.out.cell 1
  have z2 := Z_12.out.cell 2
  have z3 := Z_12.out.cell 3
  go_wp2_with fail
  go_ret
  exact ⟨rfl, X_12.out⟩

theorem rnew_S2_C (wide high : Int) (r g b a : Int) (W H u v : Nat) (ad : Addr) (cap : Nat) (px : Nat → P4) (w : World) (E : Nat → Addr) (hE : Errs w E)  (hs1 : sideB wide = true) (hs : sideB high = false) (hr : rightB (W : Int) (H : Int) (W * H) = true) (hx : Pxs w (some ad) (W * H) px) (hu : u < W) (hv : v < H) (hn : W * H ≤ 3000) :
    Calls Tryd.prog 4 #[.int .i64 wide, .int .i64 high, .agg #[.int .u8 r, .int .u8 g, .int .u8 b, .int .u8 a], .agg #[.int .i64 (W : Int), .int .i64 (H : Int), .slice (some ad) (W * H) cap], .int .i64 (u : Int), .int .i64 (v : Int)] w fun e w' => e = .returned (.bool true) ∧ Ext w w' := by
  have HE := Lib.hid hE
  have HX := Lib.hid hx
  have HD := Lib.hid (decide_eq_true hn)
  have HR := Lib.hid hr
  have HI : Hid (inB (W : Int) (H : Int) (u : Int) (v : Int) = true) := Lib.hid (decide_eq_true ⟨by omega, by omega, by omega, by omega⟩)
  have HS : Hid (sideB wide = false ∨ sideB high = false) := Lib.hid (.inr hs)
  have HS1 := Lib.hid hs1
  have HS2 := Lib.hid hs
  clear hs hs1
  obtain ⟨W', H', q1, q2, hW1, hW2, hH1, hH2, _⟩ := rightB_yes hr
  obtain rfl : W' = W := by omega
  obtain rfl : H' = H := by omega
  clear q1 q2 hx hr
  clear hE
  go_enter Tryd.func4, Tryd.ntmps4
  go_wp2_with fail
  refine calls_world (fun wz => Ext w wz ∧ wz.heap.size = w.heap.size + 1 + 1 ∧ Bk wz (w.heap.size) #[.int .u8 r, .int .u8 g, .int .u8 b, .int .u8 a] ∧ Bk wz (w.heap.size + 1) #[.int .i64 (W' : Int), .int .i64 (H' : Int), .slice (some ad) (W' * H') cap]) ⟨by repeat (first | exact Ext.refl _ | refine Ext.alloc ?_ _), by simp, by repeat (first | exact Bk.at (by simp) | refine Bk.old ?_), by repeat (first | exact Bk.at (by simp) | refine Bk.old ?_)⟩ ?_
  rintro w1 ⟨hX, hZ, hB0, hB1⟩
  have X_1 := Lib.hid hX
  have Q_1 := Lib.hid hB0
  have B_1 := Lib.hid hB1
  clear hX hZ hB0 hB1
  refine (plainly_any _).mono ?_
  rintro e w2 ⟨rfl, h⟩
  have X_2 := Lib.hid (X_1.out.trans h)
  have Q_2 := Lib.hid (Q_1.out.ext h)
  have B_2 := Lib.hid (B_1.out.ext h)
  clear h
  clear X_1 Q_1 B_1
  have k0 := B_2.out.cell 0
  have k1 := B_2.out.cell 1
  have k2 := B_2.out.cell 2
  go_wp2_with fail
  refine (small_any _ _ _ _ _ _ (by unfold maxLen; omega)).mono ?_
  rintro e w3 ⟨rfl, h⟩
  have X_3 := Lib.hid (X_2.out.trans h)
  have Q_3 := Lib.hid (Q_2.out.ext h)
  have B_3 := Lib.hid (B_2.out.ext h)
  clear h
  clear X_2 Q_2 B_2
  clear k0 k1 k2
  rw [HD.out]
  have k0 := Q_3.out.cell 0
  have k1 := Q_3.out.cell 1
  have k2 := Q_3.out.cell 2
  have k3 := Q_3.out.cell 3
  go_wp2_with fail
  refine (new_bad wide high r g b a _ E (HE.out.ext X_3.out) HS.out).mono ?_
  rintro e w4 ⟨rfl, h⟩
  have X_4 := Lib.hid (X_3.out.trans h)
  have Q_4 := Lib.hid (Q_3.out.ext h)
  have B_4 := Lib.hid (B_3.out.ext h)
  clear h
  clear X_3 Q_3 B_3
  clear k0 k1 k2 k3
  have E_ := (Ext.refl w4).alloc (.cells #[.int .i64 0, .int .i64 0, .slice none 0 0] 24)
  have EE := Lib.hid E_
  clear E_
  go_wp2_with fail
  refine calls_world (fun wz => Ext w4 wz ∧ Bk wz w4.heap.size #[.int .i64 0, .int .i64 0, .slice none 0 0]) ⟨EE.out, Bk.at rfl⟩ ?_
  clear EE
  have NE_Q_NV := Lib.hid (Nat.ne_of_lt (show w.heap.size < w4.heap.size from Q_4.out.lt))
  have NE_B_NV := Lib.hid (Nat.ne_of_lt (show w.heap.size + 1 < w4.heap.size from B_4.out.lt))
  have GE_NV := Lib.hid (X_4.out.size)
  rintro w5 ⟨hX, hB0⟩
  have X_5 := Lib.hid (X_4.out.trans hX)
  have Q_5 := Lib.hid (Q_4.out.ext hX)
  have B_5 := Lib.hid (B_4.out.ext hX)
  have NV_5 := Lib.hid (hB0)
  clear hX hB0 X_4 Q_4 B_4
  refine (refSide_any _ _).mono ?_
  rintro e w99 ⟨rfl, rfl⟩
  rw [HS1.out]
  go_wp2_with fail
  refine (refSide_any _ _).mono ?_
  rintro e w99 ⟨rfl, rfl⟩
  rw [HS2.out]
  have k0 := NV_5.out.cell 0
  have k1 := NV_5.out.cell 1
  have k2 := NV_5.out.cell 2
  go_wp2_with fail
  refine (told_err _ 1 0 0 none 0 0 _ E (HE.out.ext X_5.out) (.sent 1 (by decide))).mono ?_
  rintro e w6 ⟨rfl, h⟩
  have X_6 := Lib.hid (X_5.out.trans h)
  have Q_6 := Lib.hid (Q_5.out.ext h)
  have B_6 := Lib.hid (B_5.out.ext h)
  have NV_6 := Lib.hid (NV_5.out.ext h)
  clear h
  clear X_5 Q_5 B_5 NV_5
  clear k0 k1 k2
  clear NV_6
  clear Q_6
  have k0 := B_6.out.cell 0
  have k1 := B_6.out.cell 1
  have k2 := B_6.out.cell 2
  go_wp2_with fail
  refine (own_x _ _ (some ad) _ cap px _ (HX.out.ext X_6.out) (fun h => by cases h) (by omega)).mono ?_
  rintro e w7 ⟨⟨ox, oc, rfl, hx, _⟩, h⟩
  have X_7 := Lib.hid (X_6.out.trans h)
  have B_7 := Lib.hid (B_6.out.ext h)
  have O_7 := Lib.hid (hx)
  clear h hx
  clear X_6 B_6
  clear k0 k1 k2
  obtain ⟨oa, rfl⟩ := O_7.out.isSome (Nat.mul_pos hW1 hH1)
  go_wp2_with fail
  refine (rat_ok W' H' u v oa oc px _ HR.out O_7.out hu hv).mono ?_
  rintro e w8 ⟨rfl, h⟩
  have X_8 := Lib.hid (X_7.out.trans h)
  have B_8 := Lib.hid (B_7.out.ext h)
  have O_8 := Lib.hid (O_7.out.ext h)
  clear h
  clear X_7 B_7 O_7
  clear O_8
  have E_ := (Ext.refl w8).alloc (.cells #[.int .u8 (px (v * W' + u)).r, .int .u8 (px (v * W' + u)).g, .int .u8 (px (v * W' + u)).b, .int .u8 (px (v * W' + u)).a] 36)
  have k0 := (B_8.out.ext E_).cell 0
  have k1 := (B_8.out.ext E_).cell 1
  have k2 := (B_8.out.ext E_).cell 2
  have EE := Lib.hid E_
  clear E_
  go_wp2_with fail
  clear k0 k1 k2
  refine calls_world (fun wz => Ext w8 wz ∧ Bk wz w8.heap.size #[.int .u8 (px (v * W' + u)).r, .int .u8 (px (v * W' + u)).g, .int .u8 (px (v * W' + u)).b, .int .u8 (px (v * W' + u)).a]) ⟨EE.out, Bk.at rfl⟩ ?_
  clear EE
  have NE_B_Z := Lib.hid (Nat.ne_of_lt (show w.heap.size + 1 < w8.heap.size from B_8.out.lt))
  have GE_Z := Lib.hid (X_8.out.size)
  rintro w9 ⟨hX, hB0⟩
  have X_9 := Lib.hid (X_8.out.trans hX)
  have B_9 := Lib.hid (B_8.out.ext hX)
  have Z_9 := Lib.hid (hB0)
  clear hX hB0 X_8 B_8
  refine (refIn_any _ _ _ _ _ _ ⟨_, _, _, rfl⟩).mono ?_
  rintro e w10 ⟨rfl, h⟩
  have X_10 := Lib.hid (X_9.out.trans h)
  have B_10 := Lib.hid (B_9.out.ext h)
  have Z_10 := Lib.hid (Z_9.out.ext h)
  clear h
  clear X_9 B_9 Z_9
  rw [HI.out]
  have k0 := B_10.out.cell 0
  have k1 := B_10.out.cell 1
  have k2 := B_10.out.cell 2
  go_wp2_with fail
  refine (refRight_any _ _ _ _ _ _).mono ?_
  rintro e w11 ⟨rfl, h⟩
  have X_11 := Lib.hid (X_10.out.trans h)
  have B_11 := Lib.hid (B_10.out.ext h)
  have Z_11 := Lib.hid (Z_10.out.ext h)
  clear h
  clear X_10 B_10 Z_10
  clear k0 k1 k2
  rw [HR.out]
  have z0 := Z_11.out.cell 0
  have z1 := Z_11.out.cell 1
  have z2 := Z_11.out.cell 2
  have z3 := Z_11.out.cell 3
  have k0 := B_11.out.cell 0
  have k1 := B_11.out.cell 1
  have k2 := B_11.out.cell 2
  have hi : v * W' + u < W' * H' := mul_lt_of hv hu
  obtain ⟨c0, c1, c2, c3, _⟩ := (HX.out.ext X_11.out).2 ad rfl (v * W' + u) hi
  obtain ⟨M, hM⟩ : ∃ M, v * W' = M := ⟨_, rfl⟩
  have hM1 : M ≤ 65536 := by rw [← hM]; exact Nat.mul_le_mul (show v ≤ 256 by omega) hW2
  have hMI : (v : Int) * (W' : Int) = (M : Int) := by rw [← hM]; simp
  rw [hM] at hi c0 c1 c2 c3 z0 z1 z2 z3
  have hN2 : W' * H' ≤ 65536 := Nat.mul_le_mul hW2 hH2
  clear hM
  go_wp2_with fail
  go_quiet (fail)
  go_wp2_with fail
  go_ret
  exact ⟨rfl, X_11.out.drewN _⟩

theorem rnew_small (wide high r g b a W H : Int) (x : Option Addr) (n cap : Nat) (u v : Int) (w : World) (hn : n ≤ maxLen) (h : 3000 < n) :
    Calls Tryd.prog 4 #[.int .i64 wide, .int .i64 high, .agg #[.int .u8 r, .int .u8 g, .int .u8 b, .int .u8 a], .agg #[.int .i64 W, .int .i64 H, .slice x n cap], .int .i64 u, .int .i64 v] w fun e w' => e = .returned (.bool true) ∧ Ext w w' := by
  have hd := Lib.hid (decide_eq_false (show ¬ n ≤ 3000 by omega))
  go_enter Tryd.func4, Tryd.ntmps4
  go_wp2_with fail
  refine calls_world (fun wz => Ext w wz ∧ wz.heap.size = w.heap.size + 1 + 1 ∧ Bk wz (w.heap.size) #[.int .u8 r, .int .u8 g, .int .u8 b, .int .u8 a] ∧ Bk wz (w.heap.size + 1) #[.int .i64 W, .int .i64 H, .slice x n cap]) ⟨by repeat (first | exact Ext.refl _ | refine Ext.alloc ?_ _), by simp, by repeat (first | exact Bk.at (by simp) | refine Bk.old ?_), by repeat (first | exact Bk.at (by simp) | refine Bk.old ?_)⟩ ?_
  rintro wa ⟨hX, hZ, hB0, hB1⟩
  refine (plainly_any _).mono ?_
  rintro e w2 ⟨rfl, h2⟩
  have X2 := Lib.hid (hX.trans h2)
  have B2 := Lib.hid (hB1.ext h2)
  clear h2
  have c0 := B2.out.cell 0
  have c1 := B2.out.cell 1
  have c2 := B2.out.cell 2
  go_wp2_with fail
  refine (small_any W H x n cap _ hn).mono ?_
  rintro e w3 ⟨rfl, h3⟩
  have X3 := Lib.hid (X2.out.trans h3)
  clear h3
  rw [hd.out]
  go_wp2_with fail
  go_ret
  exact ⟨rfl, X3.out⟩
theorem rnew_any (wide high r g b a W H : Int) (x : Option Addr) (n cap : Nat) (u v : Int) (px : Nat → P4) (w : World) (E : Nat → Addr) (hE : Errs w E) (hp : (P4.mk r g b a).Ok) (hx : Pxs w x n px) (hx0 : x = none → cap = 0) (hn : n ≤ maxLen) :
    Calls Tryd.prog 4 #[.int .i64 wide, .int .i64 high, .agg #[.int .u8 r, .int .u8 g, .int .u8 b, .int .u8 a], .agg #[.int .i64 W, .int .i64 H, .slice x n cap], .int .i64 u, .int .i64 v] w fun e w' => e = .returned (.bool true) ∧ Ext w w' := by
  by_cases h1 : 3000 < n
  · exact rnew_small wide high r g b a W H x n cap u v w hn h1
  have hn' : n ≤ 3000 := by omega
  cases hr : rightB W H n
  · cases hi : inB W H u v
    all_goals
      cases h1 : sideB wide
      · first | exact rnew_S1_A1 wide high r g b a W H x n cap u v px w E hE h1 hx hx0 hn' hr hi | exact rnew_S1_A2 wide high r g b a W H x n cap u v px w E hE h1 hx hx0 hn' hr hi
      · cases h2 : sideB high
        · first | exact rnew_S2_A1 wide high r g b a W H x n cap u v px w E hE h1 h2 hx hx0 hn' hr hi | exact rnew_S2_A2 wide high r g b a W H x n cap u v px w E hE h1 h2 hx hx0 hn' hr hi
        · obtain ⟨q1, q2⟩ := sideB_yes h1
          obtain ⟨q3, q4⟩ := sideB_yes h2
          obtain ⟨m, rfl⟩ : ∃ m : Nat, wide = m := ⟨wide.toNat, by omega⟩
          obtain ⟨k, rfl⟩ : ∃ m : Nat, high = m := ⟨high.toNat, by omega⟩
          first | exact rnew_good_A1 m k r g b a W H x n cap u v px w E hE ⟨by omega, by omega⟩ ⟨by omega, by omega⟩ hp hx hx0 hn' hr hi | exact rnew_good_A2 m k r g b a W H x n cap u v px w E hE ⟨by omega, by omega⟩ ⟨by omega, by omega⟩ hp hx hx0 hn' hr hi
  · cases hi : inB W H u v
    · cases h1 : sideB wide
      · exact rnew_S1_B wide high r g b a W H x n cap u v px w E hE h1 hx hx0 hn' hr hi
      · cases h2 : sideB high
        · exact rnew_S2_B wide high r g b a W H x n cap u v px w E hE h1 h2 hx hx0 hn' hr hi
        · obtain ⟨q1, q2⟩ := sideB_yes h1
          obtain ⟨q3, q4⟩ := sideB_yes h2
          obtain ⟨m, rfl⟩ : ∃ m : Nat, wide = m := ⟨wide.toNat, by omega⟩
          obtain ⟨k, rfl⟩ : ∃ m : Nat, high = m := ⟨high.toNat, by omega⟩
          exact rnew_good_B m k r g b a W H x n cap u v px w E hE ⟨by omega, by omega⟩ ⟨by omega, by omega⟩ hp hx hx0 hn' hr hi
    · obtain ⟨i1, i2, i3, i4⟩ := of_decide_eq_true hi
      obtain ⟨A, B, rfl, rfl, a1, a2, b1, b2, rfl⟩ := rightB_yes hr
      obtain ⟨ad, rfl⟩ := hx.isSome (Nat.mul_pos a1 b1)
      obtain ⟨u', rfl⟩ : ∃ m : Nat, u = m := ⟨u.toNat, by omega⟩
      obtain ⟨v', rfl⟩ : ∃ m : Nat, v = m := ⟨v.toNat, by omega⟩
      cases h1 : sideB wide
      · exact rnew_S1_C wide high r g b a A B u' v' ad cap px w E hE h1 hr hx (by omega) (by omega) hn'
      · cases h2 : sideB high
        · exact rnew_S2_C wide high r g b a A B u' v' ad cap px w E hE h1 h2 hr hx (by omega) (by omega) hn'
        · obtain ⟨q1, q2⟩ := sideB_yes h1
          obtain ⟨q3, q4⟩ := sideB_yes h2
          obtain ⟨m, rfl⟩ : ∃ m : Nat, wide = m := ⟨wide.toNat, by omega⟩
          obtain ⟨k, rfl⟩ : ∃ m : Nat, high = m := ⟨high.toNat, by omega⟩
          exact rnew_good_C m k r g b a A B u' v' ad cap px w E hE ⟨by omega, by omega⟩ ⟨by omega, by omega⟩ hp hr hx (by omega) (by omega) hn' 
end Go.Proofs.YtkfjcgcgfdibaaaDoor
