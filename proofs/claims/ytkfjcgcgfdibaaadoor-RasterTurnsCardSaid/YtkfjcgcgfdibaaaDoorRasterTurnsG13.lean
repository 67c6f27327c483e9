/-
  RasterTurns' walks.
-/
import Derived.Test.YtkfjcgcgfdibaaaDoorRasterTurnsG12
import Derived.Test.YtkfjcgcgfdibaaaDoorRasterTurnsG5
import Derived.Deep.RegionHeld3
namespace Go.Proofs.YtkfjcgcgfdibaaaDoor
open Go.RowKit
set_option maxRecDepth 100000
theorem Pxs.lt_blk {w : World} {x : Option Addr} {n : Nat} {px : Nat → P4} (h : Pxs w x n px) (hn : 0 < n) (q : Addr) (hq : x = some q) : q.block < w.heap.size :=
  World.block_lt_of_cell? w _ (h.2 q hq 0 hn).1
theorem sideB_of {n : Nat} (h : 1 ≤ n ∧ n ≤ 256) : sideB (n : Int) = true := decide_eq_true ⟨by omega, by omega⟩
set_option linter.unusedSimpArgs false in
set_option maxHeartbeats 4000000 in
theorem turns_shape (down : Bool) (q ww hh W H : Int) (x : Option Addr) (n c : Nat) (px : Nat → P4) (w : World) (E : Nat → Addr) (hE : Errs w E) (hx : Pxs w x n px) (hx0 : x = none → c = 0) (hn : n ≤ 3000) (hr : rightB W H n = false) :
    Calls Tryd.prog 9 #[.agg #[.int .i64 W, .int .i64 H, .slice x n c], .bool down, .int .i64 q, .int .i64 ww, .int .i64 hh] w fun e w' => e = .returned (.bool true) ∧ Ext w w' := by
  have HE := Lib.hid hE
  have HX := Lib.hid hx
  have HX0 := Lib.hid hx0
  have HD := Lib.hid (decide_eq_true hn)
  have HR := Lib.hid hr
  clear hE hx hx0 hr
  go_enter Tryd.func9, Tryd.ntmps9
  go_wp2_with fail
  refine calls_world (fun wz => Ext w wz ∧ wz.heap.size = w.heap.size + 1 ∧ Bk wz (w.heap.size) #[.int .i64 W, .int .i64 H, .slice x n c]) ⟨by repeat (first | exact Ext.refl _ | refine Ext.alloc ?_ _), by simp, by repeat (first | exact Bk.at (by simp) | refine Bk.old ?_)⟩ ?_
  rintro w1 ⟨hX, hZ, hB0⟩
  have X_1 := Lib.hid hX
  have B_1 := Lib.hid hB0
  clear hX hZ hB0
  refine (plainly_any _).mono ?_
  rintro e w2 ⟨rfl, h⟩
  have X_2 := Lib.hid (X_1.out.trans h)
  have B_2 := Lib.hid (B_1.out.ext h)
  clear h
  clear X_1 B_1
  have k0 := B_2.out.cell 0
  have k1 := B_2.out.cell 1
  have k2 := B_2.out.cell 2
  go_wp2_with fail
  refine (small_any _ _ _ _ _ _ (by unfold maxLen; omega)).mono ?_
  rintro e w3 ⟨rfl, h⟩
  have X_3 := Lib.hid (X_2.out.trans h)
  have B_3 := Lib.hid (B_2.out.ext h)
  clear h
  clear X_2 B_2
  clear k0 k1 k2
  rw [HD.out]
  have k0 := B_3.out.cell 0
  have k1 := B_3.out.cell 1
  have k2 := B_3.out.cell 2
  go_wp2_with fail
  refine (own_x W H x n c px _ (HX.out.ext X_3.out) HX0.out (by omega)).mono ?_
  rintro e w4 ⟨⟨oA, qA, rfl, _, _⟩, h⟩
  have X_4 := Lib.hid (X_3.out.trans h)
  have B_4 := Lib.hid (B_3.out.ext h)
  clear h
  clear X_3 B_3
  clear k0 k1 k2
  go_wp2_with fail
  refine (flip_shape down _ _ _ _ _ E _ (HE.out.ext X_4.out) HR.out).mono ?_
  rintro e w5 ⟨rfl, h⟩
  have X_5 := Lib.hid (X_4.out.trans h)
  have B_5 := Lib.hid (B_4.out.ext h)
  clear h
  clear X_4 B_4
  have E_ := (Ext.refl w5).alloc (.cells #[.int .i64 0, .int .i64 0, .slice none 0 0] 24)
  have k0 := (B_5.out.ext E_).cell 0
  have k1 := (B_5.out.ext E_).cell 1
  have k2 := (B_5.out.ext E_).cell 2
  have EE := Lib.hid E_
  clear E_
  go_wp2_with fail
  clear k0 k1 k2
  refine calls_world (fun wz => Ext w5 wz ∧ Bk wz w5.heap.size #[.int .i64 0, .int .i64 0, .slice none 0 0]) ⟨EE.out, Bk.at rfl⟩ ?_
  clear EE
  have NE_B_VA := Lib.hid (Nat.ne_of_lt (show w.heap.size < w5.heap.size from B_5.out.lt))
  have GE_VA := Lib.hid (X_5.out.size)
  rintro w6 ⟨hX, hB0⟩
  have X_6 := Lib.hid (X_5.out.trans hX)
  have B_6 := Lib.hid (B_5.out.ext hX)
  have VA_6 := Lib.hid (hB0)
  clear hX hB0 X_5 B_5
  refine (own_x W H x n c px _ (HX.out.ext X_6.out) HX0.out (by omega)).mono ?_
  rintro e w7 ⟨⟨oT, qT, rfl, _, _⟩, h⟩
  have X_7 := Lib.hid (X_6.out.trans h)
  have B_7 := Lib.hid (B_6.out.ext h)
  have VA_7 := Lib.hid (VA_6.out.ext h)
  clear h
  clear X_6 B_6 VA_6
  go_wp2_with fail
  refine (turn_shape q _ _ _ _ _ E _ (HE.out.ext X_7.out) HR.out).mono ?_
  rintro e w8 ⟨rfl, h⟩
  have X_8 := Lib.hid (X_7.out.trans h)
  have B_8 := Lib.hid (B_7.out.ext h)
  have VA_8 := Lib.hid (VA_7.out.ext h)
  clear h
  clear X_7 B_7 VA_7
  have E_ := (Ext.refl w8).alloc (.cells #[.int .i64 0, .int .i64 0, .slice none 0 0] 24)
  have k0 := (B_8.out.ext E_).cell 0
  have k1 := (B_8.out.ext E_).cell 1
  have k2 := (B_8.out.ext E_).cell 2
  have EE := Lib.hid E_
  clear E_
  go_wp2_with fail
  clear k0 k1 k2
  refine calls_world (fun wz => Ext w8 wz ∧ Bk wz w8.heap.size #[.int .i64 0, .int .i64 0, .slice none 0 0]) ⟨EE.out, Bk.at rfl⟩ ?_
  clear EE
  have NE_B_VT := Lib.hid (Nat.ne_of_lt (show w.heap.size < w8.heap.size from B_8.out.lt))
  have NE_VA_VT := Lib.hid (Nat.ne_of_lt (show w5.heap.size < w8.heap.size from VA_8.out.lt))
  have GE_VT := Lib.hid (X_8.out.size)
  rintro w9 ⟨hX, hB0⟩
  have X_9 := Lib.hid (X_8.out.trans hX)
  have B_9 := Lib.hid (B_8.out.ext hX)
  have VA_9 := Lib.hid (VA_8.out.ext hX)
  have VT_9 := Lib.hid (hB0)
  clear hX hB0 X_8 B_8 VA_8
  refine (own_x W H x n c px _ (HX.out.ext X_9.out) HX0.out (by omega)).mono ?_
  rintro e w10 ⟨⟨oC, qC, rfl, _, _⟩, h⟩
  have X_10 := Lib.hid (X_9.out.trans h)
  have B_10 := Lib.hid (B_9.out.ext h)
  have VA_10 := Lib.hid (VA_9.out.ext h)
  have VT_10 := Lib.hid (VT_9.out.ext h)
  clear h
  clear X_9 B_9 VA_9 VT_9
  go_wp2_with fail
  refine (half_shape _ _ _ _ _ E _ (HE.out.ext X_10.out) HR.out).mono ?_
  rintro e w11 ⟨rfl, h⟩
  have X_11 := Lib.hid (X_10.out.trans h)
  have B_11 := Lib.hid (B_10.out.ext h)
  have VA_11 := Lib.hid (VA_10.out.ext h)
  have VT_11 := Lib.hid (VT_10.out.ext h)
  clear h
  clear X_10 B_10 VA_10 VT_10
  have E_ := (Ext.refl w11).alloc (.cells #[.int .i64 0, .int .i64 0, .slice none 0 0] 24)
  have k0 := (B_11.out.ext E_).cell 0
  have k1 := (B_11.out.ext E_).cell 1
  have k2 := (B_11.out.ext E_).cell 2
  have EE := Lib.hid E_
  clear E_
  go_wp2_with fail
  clear k0 k1 k2
  refine calls_world (fun wz => Ext w11 wz ∧ Bk wz w11.heap.size #[.int .i64 0, .int .i64 0, .slice none 0 0]) ⟨EE.out, Bk.at rfl⟩ ?_
  clear EE
  have NE_B_VC := Lib.hid (Nat.ne_of_lt (show w.heap.size < w11.heap.size from B_11.out.lt))
  have NE_VA_VC := Lib.hid (Nat.ne_of_lt (show w5.heap.size < w11.heap.size from VA_11.out.lt))
  have NE_VT_VC := Lib.hid (Nat.ne_of_lt (show w8.heap.size < w11.heap.size from VT_11.out.lt))
  have GE_VC := Lib.hid (X_11.out.size)
  rintro w12 ⟨hX, hB0⟩
  have X_12 := Lib.hid (X_11.out.trans hX)
  have B_12 := Lib.hid (B_11.out.ext hX)
  have VA_12 := Lib.hid (VA_11.out.ext hX)
  have VT_12 := Lib.hid (VT_11.out.ext hX)
  have VC_12 := Lib.hid (hB0)
  clear hX hB0 X_11 B_11 VA_11 VT_11
  refine (own_x W H x n c px _ (HX.out.ext X_12.out) HX0.out (by omega)).mono ?_
  rintro e w13 ⟨⟨oD, qD, rfl, _, _⟩, h⟩
  have X_13 := Lib.hid (X_12.out.trans h)
  have B_13 := Lib.hid (B_12.out.ext h)
  have VA_13 := Lib.hid (VA_12.out.ext h)
  have VT_13 := Lib.hid (VT_12.out.ext h)
  have VC_13 := Lib.hid (VC_12.out.ext h)
  clear h
  clear X_12 B_12 VA_12 VT_12 VC_12
  go_wp2_with fail
  refine (scale_shape ww hh _ _ _ _ _ E _ (HE.out.ext X_13.out) HR.out).mono ?_
  rintro e w14 ⟨rfl, h⟩
  have X_14 := Lib.hid (X_13.out.trans h)
  have B_14 := Lib.hid (B_13.out.ext h)
  have VA_14 := Lib.hid (VA_13.out.ext h)
  have VT_14 := Lib.hid (VT_13.out.ext h)
  have VC_14 := Lib.hid (VC_13.out.ext h)
  clear h
  clear X_13 B_13 VA_13 VT_13 VC_13
  have E_ := (Ext.refl w14).alloc (.cells #[.int .i64 0, .int .i64 0, .slice none 0 0] 24)
  have k0 := (B_14.out.ext E_).cell 0
  have k1 := (B_14.out.ext E_).cell 1
  have k2 := (B_14.out.ext E_).cell 2
  have EE := Lib.hid E_
  clear E_
  go_wp2_with fail
  clear k0 k1 k2
  refine calls_world (fun wz => Ext w14 wz ∧ Bk wz w14.heap.size #[.int .i64 0, .int .i64 0, .slice none 0 0]) ⟨EE.out, Bk.at rfl⟩ ?_
  clear EE
  have NE_B_VD := Lib.hid (Nat.ne_of_lt (show w.heap.size < w14.heap.size from B_14.out.lt))
  have NE_VA_VD := Lib.hid (Nat.ne_of_lt (show w5.heap.size < w14.heap.size from VA_14.out.lt))
  have NE_VT_VD := Lib.hid (Nat.ne_of_lt (show w8.heap.size < w14.heap.size from VT_14.out.lt))
  have NE_VC_VD := Lib.hid (Nat.ne_of_lt (show w11.heap.size < w14.heap.size from VC_14.out.lt))
  have GE_VD := Lib.hid (X_14.out.size)
  rintro w15 ⟨hX, hB0⟩
  have X_15 := Lib.hid (X_14.out.trans hX)
  have B_15 := Lib.hid (B_14.out.ext hX)
  have VA_15 := Lib.hid (VA_14.out.ext hX)
  have VT_15 := Lib.hid (VT_14.out.ext hX)
  have VC_15 := Lib.hid (VC_14.out.ext hX)
  have VD_15 := Lib.hid (hB0)
  clear hX hB0 X_14 B_14 VA_14 VT_14 VC_14
  refine (refRight_any _ _ _ _ _ _).mono ?_
  rintro e w16 ⟨rfl, h⟩
  have X_16 := Lib.hid (X_15.out.trans h)
  have B_16 := Lib.hid (B_15.out.ext h)
  have VA_16 := Lib.hid (VA_15.out.ext h)
  have VT_16 := Lib.hid (VT_15.out.ext h)
  have VC_16 := Lib.hid (VC_15.out.ext h)
  have VD_16 := Lib.hid (VD_15.out.ext h)
  clear h
  clear X_15 B_15 VA_15 VT_15 VC_15 VD_15
  rw [HR.out]
  have k0 := VA_16.out.cell 0
  have k1 := VA_16.out.cell 1
  have k2 := VA_16.out.cell 2
  have k3 := B_16.out.cell 0
  have k4 := B_16.out.cell 1
  have k5 := B_16.out.cell 2
  go_wp2_with fail
  refine (told_err _ 2 _ _ _ _ _ _ E (HE.out.ext X_16.out) (.sent 2 (by decide))).mono ?_
  rintro e w17 ⟨rfl, h⟩
  have X_17 := Lib.hid (X_16.out.trans h)
  have B_17 := Lib.hid (B_16.out.ext h)
  have VA_17 := Lib.hid (VA_16.out.ext h)
  have VT_17 := Lib.hid (VT_16.out.ext h)
  have VC_17 := Lib.hid (VC_16.out.ext h)
  have VD_17 := Lib.hid (VD_16.out.ext h)
  clear h
  clear X_16 B_16 VA_16 VT_16 VC_16 VD_16
  clear k0 k1 k2 k3 k4 k5
  have k0 := VT_17.out.cell 0
  have k1 := VT_17.out.cell 1
  have k2 := VT_17.out.cell 2
  have k3 := B_17.out.cell 0
  have k4 := B_17.out.cell 1
  have k5 := B_17.out.cell 2
  go_wp2_with fail
  refine (told_err _ 2 _ _ _ _ _ _ E (HE.out.ext X_17.out) (.sent 2 (by decide))).mono ?_
  rintro e w18 ⟨rfl, h⟩
  have X_18 := Lib.hid (X_17.out.trans h)
  have B_18 := Lib.hid (B_17.out.ext h)
  have VA_18 := Lib.hid (VA_17.out.ext h)
  have VT_18 := Lib.hid (VT_17.out.ext h)
  have VC_18 := Lib.hid (VC_17.out.ext h)
  have VD_18 := Lib.hid (VD_17.out.ext h)
  clear h
  clear X_17 B_17 VA_17 VT_17 VC_17 VD_17
  clear k0 k1 k2 k3 k4 k5
  have k0 := VC_18.out.cell 0
  have k1 := VC_18.out.cell 1
  have k2 := VC_18.out.cell 2
  have k3 := B_18.out.cell 0
  have k4 := B_18.out.cell 1
  have k5 := B_18.out.cell 2
  go_wp2_with fail
  refine (told_err _ 2 _ _ _ _ _ _ E (HE.out.ext X_18.out) (.sent 2 (by decide))).mono ?_
  rintro e w19 ⟨rfl, h⟩
  have X_19 := Lib.hid (X_18.out.trans h)
  have B_19 := Lib.hid (B_18.out.ext h)
  have VA_19 := Lib.hid (VA_18.out.ext h)
  have VT_19 := Lib.hid (VT_18.out.ext h)
  have VC_19 := Lib.hid (VC_18.out.ext h)
  have VD_19 := Lib.hid (VD_18.out.ext h)
  clear h
  clear X_18 B_18 VA_18 VT_18 VC_18 VD_18
  clear k0 k1 k2 k3 k4 k5
  have k0 := VD_19.out.cell 0
  have k1 := VD_19.out.cell 1
  have k2 := VD_19.out.cell 2
  have k3 := B_19.out.cell 0
  have k4 := B_19.out.cell 1
  have k5 := B_19.out.cell 2
  go_wp2_with fail
  refine (told_err _ 2 _ _ _ _ _ _ E (HE.out.ext X_19.out) (.sent 2 (by decide))).mono ?_
  rintro e w20 ⟨rfl, h⟩
  have X_20 := Lib.hid (X_19.out.trans h)
  have B_20 := Lib.hid (B_19.out.ext h)
  have VA_20 := Lib.hid (VA_19.out.ext h)
  have VT_20 := Lib.hid (VT_19.out.ext h)
  have VC_20 := Lib.hid (VC_19.out.ext h)
  have VD_20 := Lib.hid (VD_19.out.ext h)
  clear h
  clear X_19 B_19 VA_19 VT_19 VC_19 VD_19
  clear k0 k1 k2 k3 k4 k5
  go_wp2_with fail
  go_ret
  exact ⟨rfl, X_20.out⟩
set_option linter.unusedSimpArgs false in
set_option maxHeartbeats 4000000 in
theorem turns_bound (down : Bool) (q : Int) (ww hh : Int) (p : Pc3) (a : Addr) (c : Nat) (w : World) (E : Nat → Addr) (hE : Errs w E) (hp : p.Ok) (hx : Pxs w (some a) (p.W * p.H) p.px) (hn : p.W * p.H ≤ 3000) (hq : -9223372036854775808 ≤ q ∧ q ≤ 9223372036854775807) (hb : (sideB ww && sideB hh) = false) :
    Calls Tryd.prog 9 #[.agg #[.int .i64 ((p).W : Int), .int .i64 ((p).H : Int), .slice (some a) ((p).W * (p).H) c], .bool down, .int .i64 q, .int .i64 ww, .int .i64 hh] w fun e w' => e = .returned (.bool true) ∧ Ext w w' := by
  have HE := Lib.hid hE
  have HX := Lib.hid hx
  have HP := Lib.hid hp
  have HD := Lib.hid (decide_eq_true hn)
  have HR := Lib.hid (Pc3.right hp)
  have HQ := Lib.hid hq
  have HB := Lib.hid hb
  clear hb
  clear hE hx hp hq
  go_enter Tryd.func9, Tryd.ntmps9
  go_wp2_with fail
  refine calls_world (fun wz => Ext w wz ∧ wz.heap.size = w.heap.size + 1 ∧ Bk wz (w.heap.size) #[.int .i64 ((p).W : Int), .int .i64 ((p).H : Int), .slice (some a) ((p).W * (p).H) c]) ⟨by repeat (first | exact Ext.refl _ | refine Ext.alloc ?_ _), by simp, by repeat (first | exact Bk.at (by simp) | refine Bk.old ?_)⟩ ?_
  rintro w1 ⟨hX, hZ, hB0⟩
  have X_1 := Lib.hid hX
  have B_1 := Lib.hid hB0
  clear hX hZ hB0
  refine (plainly_any _).mono ?_
  rintro e w2 ⟨rfl, h⟩
  have X_2 := Lib.hid (X_1.out.trans h)
  have B_2 := Lib.hid (B_1.out.ext h)
  clear h
  clear X_1 B_1
  have k0 := B_2.out.cell 0
  have k1 := B_2.out.cell 1
  have k2 := B_2.out.cell 2
  go_wp2_with fail
  refine (small_any _ _ _ _ _ _ (by unfold maxLen; omega)).mono ?_
  rintro e w3 ⟨rfl, h⟩
  have X_3 := Lib.hid (X_2.out.trans h)
  have B_3 := Lib.hid (B_2.out.ext h)
  clear h
  clear X_2 B_2
  clear k0 k1 k2
  rw [HD.out]
  have k0 := B_3.out.cell 0
  have k1 := B_3.out.cell 1
  have k2 := B_3.out.cell 2
  go_wp2_with fail
  refine (own_pc p a c _ HP.out (HX.out.ext X_3.out)).mono ?_
  rintro e w4 ⟨⟨oA, qA, rfl, hx, _⟩, h⟩
  have X_4 := Lib.hid (X_3.out.trans h)
  have B_4 := Lib.hid (B_3.out.ext h)
  have O_4 := Lib.hid (hx)
  clear h hx
  clear X_3 B_3
  clear k0 k1 k2
  go_wp2_with fail
  refine (flip_pc p down oA qA _ HP.out O_4.out).mono ?_
  rintro e w5 ⟨⟨aA, cA, rfl, hx, _⟩, h⟩
  have X_5 := Lib.hid (X_4.out.trans h)
  have B_5 := Lib.hid (B_4.out.ext h)
  have O_5 := Lib.hid (O_4.out.ext h)
  have RA_5 := Lib.hid (hx)
  clear h hx
  clear X_4 B_4 O_4
  clear O_5
  have E_ := (Ext.refl w5).alloc (.cells #[.int .i64 ((p).W : Int), .int .i64 ((p).H : Int), .slice (some aA) ((p).W * (p).H) cA] 24)
  have k0 := (B_5.out.ext E_).cell 0
  have k1 := (B_5.out.ext E_).cell 1
  have k2 := (B_5.out.ext E_).cell 2
  have EE := Lib.hid E_
  clear E_
  go_wp2_with fail
  clear k0 k1 k2
  refine calls_world (fun wz => Ext w5 wz ∧ Bk wz w5.heap.size #[.int .i64 ((p).W : Int), .int .i64 ((p).H : Int), .slice (some aA) ((p).W * (p).H) cA]) ⟨EE.out, Bk.at rfl⟩ ?_
  clear EE
  have NE_B_VA := Lib.hid (Nat.ne_of_lt (show w.heap.size < w5.heap.size from B_5.out.lt))
  have GE_VA := Lib.hid (X_5.out.size)
  rintro w6 ⟨hX, hB0⟩
  have X_6 := Lib.hid (X_5.out.trans hX)
  have B_6 := Lib.hid (B_5.out.ext hX)
  have RA_6 := Lib.hid (RA_5.out.ext hX)
  have VA_6 := Lib.hid (hB0)
  clear hX hB0 X_5 B_5 RA_5
  refine (own_pc p a c _ HP.out (HX.out.ext X_6.out)).mono ?_
  rintro e w7 ⟨⟨oT, qT, rfl, hx, _⟩, h⟩
  have X_7 := Lib.hid (X_6.out.trans h)
  have B_7 := Lib.hid (B_6.out.ext h)
  have RA_7 := Lib.hid (RA_6.out.ext h)
  have VA_7 := Lib.hid (VA_6.out.ext h)
  have O_7 := Lib.hid (hx)
  clear h hx
  clear X_6 B_6 RA_6 VA_6
  go_wp2_with fail
  refine (turn_pc p q oT qT _ HP.out O_7.out HQ.out).mono ?_
  rintro e w8 ⟨⟨aT, cT, rfl, hx, _⟩, h⟩
  have X_8 := Lib.hid (X_7.out.trans h)
  have B_8 := Lib.hid (B_7.out.ext h)
  have RA_8 := Lib.hid (RA_7.out.ext h)
  have VA_8 := Lib.hid (VA_7.out.ext h)
  have O_8 := Lib.hid (O_7.out.ext h)
  have RT_8 := Lib.hid (hx)
  clear h hx
  clear X_7 B_7 RA_7 VA_7 O_7
  clear O_8
  have E_ := (Ext.refl w8).alloc (.cells #[.int .i64 ((p.turns (quar q)).W : Int), .int .i64 ((p.turns (quar q)).H : Int), .slice (some aT) ((p.turns (quar q)).W * (p.turns (quar q)).H) cT] 24)
  have k0 := (B_8.out.ext E_).cell 0
  have k1 := (B_8.out.ext E_).cell 1
  have k2 := (B_8.out.ext E_).cell 2
  have EE := Lib.hid E_
  clear E_
  go_wp2_with fail
  clear k0 k1 k2
  refine calls_world (fun wz => Ext w8 wz ∧ Bk wz w8.heap.size #[.int .i64 ((p.turns (quar q)).W : Int), .int .i64 ((p.turns (quar q)).H : Int), .slice (some aT) ((p.turns (quar q)).W * (p.turns (quar q)).H) cT]) ⟨EE.out, Bk.at rfl⟩ ?_
  clear EE
  have NE_B_VT := Lib.hid (Nat.ne_of_lt (show w.heap.size < w8.heap.size from B_8.out.lt))
  have NE_VA_VT := Lib.hid (Nat.ne_of_lt (show w5.heap.size < w8.heap.size from VA_8.out.lt))
  have GE_VT := Lib.hid (X_8.out.size)
  rintro w9 ⟨hX, hB0⟩
  have X_9 := Lib.hid (X_8.out.trans hX)
  have B_9 := Lib.hid (B_8.out.ext hX)
  have RA_9 := Lib.hid (RA_8.out.ext hX)
  have VA_9 := Lib.hid (VA_8.out.ext hX)
  have RT_9 := Lib.hid (RT_8.out.ext hX)
  have VT_9 := Lib.hid (hB0)
  clear hX hB0 X_8 B_8 RA_8 VA_8 RT_8
  refine (own_pc p a c _ HP.out (HX.out.ext X_9.out)).mono ?_
  rintro e w10 ⟨⟨oC, qC, rfl, hx, _⟩, h⟩
  have X_10 := Lib.hid (X_9.out.trans h)
  have B_10 := Lib.hid (B_9.out.ext h)
  have RA_10 := Lib.hid (RA_9.out.ext h)
  have VA_10 := Lib.hid (VA_9.out.ext h)
  have RT_10 := Lib.hid (RT_9.out.ext h)
  have VT_10 := Lib.hid (VT_9.out.ext h)
  have O_10 := Lib.hid (hx)
  clear h hx
  clear X_9 B_9 RA_9 VA_9 RT_9 VT_9
  go_wp2_with fail
  refine (half_pc p oC qC _ HP.out O_10.out).mono ?_
  rintro e w11 ⟨⟨aC, cC, rfl, hx⟩, h⟩
  have X_11 := Lib.hid (X_10.out.trans h)
  have B_11 := Lib.hid (B_10.out.ext h)
  have RA_11 := Lib.hid (RA_10.out.ext h)
  have VA_11 := Lib.hid (VA_10.out.ext h)
  have RT_11 := Lib.hid (RT_10.out.ext h)
  have VT_11 := Lib.hid (VT_10.out.ext h)
  have O_11 := Lib.hid (O_10.out.ext h)
  have RC_11 := Lib.hid (hx)
  clear h hx
  clear X_10 B_10 RA_10 VA_10 RT_10 VT_10 O_10
  clear O_11
  have E_ := (Ext.refl w11).alloc (.cells #[.int .i64 ((p.half).W : Int), .int .i64 ((p.half).H : Int), .slice (some aC) ((p.half).W * (p.half).H) cC] 24)
  have k0 := (B_11.out.ext E_).cell 0
  have k1 := (B_11.out.ext E_).cell 1
  have k2 := (B_11.out.ext E_).cell 2
  have EE := Lib.hid E_
  clear E_
  go_wp2_with fail
  clear k0 k1 k2
  refine calls_world (fun wz => Ext w11 wz ∧ Bk wz w11.heap.size #[.int .i64 ((p.half).W : Int), .int .i64 ((p.half).H : Int), .slice (some aC) ((p.half).W * (p.half).H) cC]) ⟨EE.out, Bk.at rfl⟩ ?_
  clear EE
  have NE_B_VC := Lib.hid (Nat.ne_of_lt (show w.heap.size < w11.heap.size from B_11.out.lt))
  have NE_VA_VC := Lib.hid (Nat.ne_of_lt (show w5.heap.size < w11.heap.size from VA_11.out.lt))
  have NE_VT_VC := Lib.hid (Nat.ne_of_lt (show w8.heap.size < w11.heap.size from VT_11.out.lt))
  have GE_VC := Lib.hid (X_11.out.size)
  rintro w12 ⟨hX, hB0⟩
  have X_12 := Lib.hid (X_11.out.trans hX)
  have B_12 := Lib.hid (B_11.out.ext hX)
  have RA_12 := Lib.hid (RA_11.out.ext hX)
  have VA_12 := Lib.hid (VA_11.out.ext hX)
  have RT_12 := Lib.hid (RT_11.out.ext hX)
  have VT_12 := Lib.hid (VT_11.out.ext hX)
  have RC_12 := Lib.hid (RC_11.out.ext hX)
  have VC_12 := Lib.hid (hB0)
  clear hX hB0 X_11 B_11 RA_11 VA_11 RT_11 VT_11 RC_11
  refine (own_pc p a c _ HP.out (HX.out.ext X_12.out)).mono ?_
  rintro e w13 ⟨⟨oD, qD, rfl, hx, _⟩, h⟩
  have X_13 := Lib.hid (X_12.out.trans h)
  have B_13 := Lib.hid (B_12.out.ext h)
  have RA_13 := Lib.hid (RA_12.out.ext h)
  have VA_13 := Lib.hid (VA_12.out.ext h)
  have RT_13 := Lib.hid (RT_12.out.ext h)
  have VT_13 := Lib.hid (VT_12.out.ext h)
  have RC_13 := Lib.hid (RC_12.out.ext h)
  have VC_13 := Lib.hid (VC_12.out.ext h)
  have O_13 := Lib.hid (hx)
  clear h hx
  clear X_12 B_12 RA_12 VA_12 RT_12 VT_12 RC_12 VC_12
  go_wp2_with fail
  refine (scale_bound ww hh _ _ _ _ _ E _ (HE.out.ext X_13.out) HR.out HB.out).mono ?_
  rintro e w14 ⟨rfl, h⟩
  have X_14 := Lib.hid (X_13.out.trans h)
  have B_14 := Lib.hid (B_13.out.ext h)
  have RA_14 := Lib.hid (RA_13.out.ext h)
  have VA_14 := Lib.hid (VA_13.out.ext h)
  have RT_14 := Lib.hid (RT_13.out.ext h)
  have VT_14 := Lib.hid (VT_13.out.ext h)
  have RC_14 := Lib.hid (RC_13.out.ext h)
  have VC_14 := Lib.hid (VC_13.out.ext h)
  have O_14 := Lib.hid (O_13.out.ext h)
  clear h
  clear X_13 B_13 RA_13 VA_13 RT_13 VT_13 RC_13 VC_13 O_13
  clear O_14
  have E_ := (Ext.refl w14).alloc (.cells #[.int .i64 0, .int .i64 0, .slice none 0 0] 24)
  have k0 := (B_14.out.ext E_).cell 0
  have k1 := (B_14.out.ext E_).cell 1
  have k2 := (B_14.out.ext E_).cell 2
  have EE := Lib.hid E_
  clear E_
  go_wp2_with fail
  clear k0 k1 k2
  refine calls_world (fun wz => Ext w14 wz ∧ Bk wz w14.heap.size #[.int .i64 0, .int .i64 0, .slice none 0 0]) ⟨EE.out, Bk.at rfl⟩ ?_
  clear EE
  have NE_B_VD := Lib.hid (Nat.ne_of_lt (show w.heap.size < w14.heap.size from B_14.out.lt))
  have NE_VA_VD := Lib.hid (Nat.ne_of_lt (show w5.heap.size < w14.heap.size from VA_14.out.lt))
  have NE_VT_VD := Lib.hid (Nat.ne_of_lt (show w8.heap.size < w14.heap.size from VT_14.out.lt))
  have NE_VC_VD := Lib.hid (Nat.ne_of_lt (show w11.heap.size < w14.heap.size from VC_14.out.lt))
  have GE_VD := Lib.hid (X_14.out.size)
  rintro w15 ⟨hX, hB0⟩
  have X_15 := Lib.hid (X_14.out.trans hX)
  have B_15 := Lib.hid (B_14.out.ext hX)
  have RA_15 := Lib.hid (RA_14.out.ext hX)
  have VA_15 := Lib.hid (VA_14.out.ext hX)
  have RT_15 := Lib.hid (RT_14.out.ext hX)
  have VT_15 := Lib.hid (VT_14.out.ext hX)
  have RC_15 := Lib.hid (RC_14.out.ext hX)
  have VC_15 := Lib.hid (VC_14.out.ext hX)
  have VD_15 := Lib.hid (hB0)
  clear hX hB0 X_14 B_14 RA_14 VA_14 RT_14 VT_14 RC_14 VC_14
  refine (refRight_any _ _ _ _ _ _).mono ?_
  rintro e w16 ⟨rfl, h⟩
  have X_16 := Lib.hid (X_15.out.trans h)
  have B_16 := Lib.hid (B_15.out.ext h)
  have RA_16 := Lib.hid (RA_15.out.ext h)
  have VA_16 := Lib.hid (VA_15.out.ext h)
  have RT_16 := Lib.hid (RT_15.out.ext h)
  have VT_16 := Lib.hid (VT_15.out.ext h)
  have RC_16 := Lib.hid (RC_15.out.ext h)
  have VC_16 := Lib.hid (VC_15.out.ext h)
  have VD_16 := Lib.hid (VD_15.out.ext h)
  clear h
  clear X_15 B_15 RA_15 VA_15 RT_15 VT_15 RC_15 VC_15 VD_15
  rw [HR.out]
  have k0 := B_16.out.cell 0
  have k1 := B_16.out.cell 1
  have k2 := B_16.out.cell 2
  go_wp2_with fail
  refine (own_pc p a c _ HP.out (HX.out.ext X_16.out)).mono ?_
  rintro e w17 ⟨⟨oU, cU, rfl, hx, _⟩, h⟩
  have X_17 := Lib.hid (X_16.out.trans h)
  have B_17 := Lib.hid (B_16.out.ext h)
  have RA_17 := Lib.hid (RA_16.out.ext h)
  have VA_17 := Lib.hid (VA_16.out.ext h)
  have RT_17 := Lib.hid (RT_16.out.ext h)
  have VT_17 := Lib.hid (VT_16.out.ext h)
  have RC_17 := Lib.hid (RC_16.out.ext h)
  have VC_17 := Lib.hid (VC_16.out.ext h)
  have VD_17 := Lib.hid (VD_16.out.ext h)
  have RU_17 := Lib.hid (hx)
  clear h hx
  clear X_16 B_16 RA_16 VA_16 RT_16 VT_16 RC_16 VC_16 VD_16
  clear k0 k1 k2
  have LT_RA := Lib.hid (Pxs.lt_blk RA_17.out (Nat.mul_pos ((Pc3.flip_ok HP.out down)).w1 ((Pc3.flip_ok HP.out down)).h1) _ rfl)
  have LT_RT := Lib.hid (Pxs.lt_blk RT_17.out (Nat.mul_pos ((Pc3.turns_ok HP.out (quar q))).w1 ((Pc3.turns_ok HP.out (quar q))).h1) _ rfl)
  have LT_RC := Lib.hid (Pxs.lt_blk RC_17.out (Nat.mul_pos ((Pc3.half_ok HP.out)).w1 ((Pc3.half_ok HP.out)).h1) _ rfl)
  have LT_RU := Lib.hid (Pxs.lt_blk RU_17.out (Nat.mul_pos (HP.out).w1 (HP.out).h1) _ rfl)
  obtain ⟨TU, hTU⟩ : ∃ T, w17.heap.size = T := ⟨_, rfl⟩
  have E_ := (Ext.refl w17).alloc (.cells #[.int .i64 ((p).W : Int), .int .i64 ((p).H : Int), .slice (some oU) ((p).W * (p).H) cU] 24)
  have EE := Lib.hid E_
  clear E_
  go_wp2_with fail
  refine wp_world (fun wz => Ext w17 wz ∧ Bk wz w17.heap.size #[.int .i64 ((p).W : Int), .int .i64 ((p).H : Int), .slice (some oU) ((p).W * (p).H) cU]) ⟨EE.out, Bk.at rfl⟩ ?_
  clear EE
  have NE_B_VU := Lib.hid (Nat.ne_of_lt (show w.heap.size < w17.heap.size from B_17.out.lt))
  have NE_VA_VU := Lib.hid (Nat.ne_of_lt (show w5.heap.size < w17.heap.size from VA_17.out.lt))
  have NE_VT_VU := Lib.hid (Nat.ne_of_lt (show w8.heap.size < w17.heap.size from VT_17.out.lt))
  have NE_VC_VU := Lib.hid (Nat.ne_of_lt (show w11.heap.size < w17.heap.size from VC_17.out.lt))
  have NE_VD_VU := Lib.hid (Nat.ne_of_lt (show w14.heap.size < w17.heap.size from VD_17.out.lt))
  have GE_VU := Lib.hid (X_17.out.size)
  rintro w18 ⟨hX, hB0⟩
  have X_18 := Lib.hid (X_17.out.trans hX)
  have B_18 := Lib.hid (B_17.out.ext hX)
  have RA_18 := Lib.hid (RA_17.out.ext hX)
  have VA_18 := Lib.hid (VA_17.out.ext hX)
  have RT_18 := Lib.hid (RT_17.out.ext hX)
  have VT_18 := Lib.hid (VT_17.out.ext hX)
  have RC_18 := Lib.hid (RC_17.out.ext hX)
  have VC_18 := Lib.hid (VC_17.out.ext hX)
  have VD_18 := Lib.hid (VD_17.out.ext hX)
  have RU_18 := Lib.hid (RU_17.out.ext hX)
  have VU_18 := Lib.hid (hB0)
  clear hX hB0 X_17 B_17 RA_17 VA_17 RT_17 VT_17 RC_17 VC_17 VD_17 RU_17
  rw [hTU] at LT_RA LT_RT LT_RC LT_RU
  rw [hTU] at *
  clear hTU
  have GEU := Lib.hid GE_VU.out
  have NE_B := Lib.hid (show w.heap.size ≠ TU from NE_B_VU.out)
  have NE_VA := Lib.hid (show w5.heap.size ≠ TU from NE_VA_VU.out)
  have NE_VT := Lib.hid (show w8.heap.size ≠ TU from NE_VT_VU.out)
  have NE_VC := Lib.hid (show w11.heap.size ≠ TU from NE_VC_VU.out)
  have NE_VD := Lib.hid (show w14.heap.size ≠ TU from NE_VD_VU.out)
  have NE_RA := Lib.hid (show aA.block ≠ TU from Nat.ne_of_lt LT_RA.out)
  have NE_RT := Lib.hid (show aT.block ≠ TU from Nat.ne_of_lt LT_RT.out)
  have NE_RC := Lib.hid (show aC.block ≠ TU from Nat.ne_of_lt LT_RC.out)
  have LU_18 : Hid (oU.block ≠ TU) := Lib.hid (Nat.ne_of_lt LT_RU.out)
  go_loopw [22] (fun k wr => ∃ (K : Int) (m : Nat) (a3 : Addr) (c3 : Nat), k = .int .i64 K ∧ turnI q K m ∧ Hid (Ext w wr) ∧ Hid (Bk wr (w.heap.size) #[.int .i64 ((p).W : Int), .int .i64 ((p).H : Int), .slice (some a) ((p).W * (p).H) c]) ∧ Hid (Bk wr (w5.heap.size) #[.int .i64 ((p).W : Int), .int .i64 ((p).H : Int), .slice (some aA) ((p).W * (p).H) cA]) ∧ Hid (Bk wr (w8.heap.size) #[.int .i64 ((p.turns (quar q)).W : Int), .int .i64 ((p.turns (quar q)).H : Int), .slice (some aT) ((p.turns (quar q)).W * (p.turns (quar q)).H) cT]) ∧ Hid (Bk wr (w11.heap.size) #[.int .i64 ((p.half).W : Int), .int .i64 ((p.half).H : Int), .slice (some aC) ((p.half).W * (p.half).H) cC]) ∧ Hid (Bk wr (w14.heap.size) #[.int .i64 0, .int .i64 0, .slice none 0 0]) ∧ Hid (Pxs wr (some aA) ((p.flip down).W * (p.flip down).H) (p.flip down).px) ∧ Hid (Pxs wr (some aT) ((p.turns (quar q)).W * (p.turns (quar q)).H) (p.turns (quar q)).px) ∧ Hid (Pxs wr (some aC) ((p.half).W * (p.half).H) (p.half).px) ∧ Hid (Bk wr TU #[.int .i64 ((p.turns (3 * m)).W : Int), .int .i64 ((p.turns (3 * m)).H : Int), .slice (some a3) ((p.turns (3 * m)).W * (p.turns (3 * m)).H) c3]) ∧ Hid (Pxs wr (some a3) ((p.turns (3 * m)).W * (p.turns (3 * m)).H) (p.turns (3 * m)).px) ∧ Hid (a3.block ≠ TU)) (fun k _ => (if 0 < intOf k then 4 - intOf k else - intOf k).toNat)
  case atStart => exact ⟨_, 0, oU, cU, by rfl, turnI.start q, X_18, B_18, VA_18, VT_18, VC_18, VD_18, RA_18, RT_18, RC_18, VU_18, RU_18, LU_18⟩
  case round =>
    clear X_18 B_18 VA_18 VT_18 VC_18 VD_18 RA_18 RT_18 RC_18 VU_18 RU_18 LU_18
    obtain ⟨K, m, a3, c3, rfl, hI, X_50, B_50, VA_50, VT_50, VC_50, VD_50, RA_50, RT_50, RC_50, VU_50, RU_50, LU_50⟩ := hrel
    obtain ⟨hI0, hI1, hI2⟩ := id hI
    have HI := Lib.hid hI
    clear hI hI0
    by_cases hK : K = 0
    · subst hK
      have FS := Lib.hid (HI.out.fin p)
      clear HI hI1 hI2 LU_50
      go_upto_region 18 with fail
      have k0 := VA_50.out.cell 0
      have k1 := VA_50.out.cell 1
      have k2 := VA_50.out.cell 2
      have k3 := B_50.out.cell 0
      have k4 := B_50.out.cell 1
      have k5 := B_50.out.cell 2
      have k6 := VT_50.out.cell 0
      have k7 := VT_50.out.cell 1
      have k8 := VT_50.out.cell 2
      have k9 := VU_50.out.cell 0
      have k10 := VU_50.out.cell 1
      have k11 := VU_50.out.cell 2
      have k12 := VC_50.out.cell 0
      have k13 := VC_50.out.cell 1
      have k14 := VC_50.out.cell 2
      refine wp_region_held_drew (S := fun w' => w'.cell? ⟨w5.heap.size, 0, none⟩ = some (.int .i64 ((p).W : Int)) ∧ w'.cell? ⟨w5.heap.size, 1, none⟩ = some (.int .i64 ((p).H : Int)) ∧ w'.cell? ⟨w5.heap.size, 2, none⟩ = some (.slice (some aA) ((p).W * (p).H) cA) ∧ w'.cell? ⟨w.heap.size, 0, none⟩ = some (.int .i64 ((p).W : Int)) ∧ w'.cell? ⟨w.heap.size, 1, none⟩ = some (.int .i64 ((p).H : Int)) ∧ w'.cell? ⟨w.heap.size, 2, none⟩ = some (.slice (some a) ((p).W * (p).H) c) ∧ w'.cell? ⟨w8.heap.size, 0, none⟩ = some (.int .i64 ((p.turns (quar q)).W : Int)) ∧ w'.cell? ⟨w8.heap.size, 1, none⟩ = some (.int .i64 ((p.turns (quar q)).H : Int)) ∧ w'.cell? ⟨w8.heap.size, 2, none⟩ = some (.slice (some aT) ((p.turns (quar q)).W * (p.turns (quar q)).H) cT) ∧ w'.cell? ⟨TU, 0, none⟩ = some (.int .i64 ((p.turns (3 * m)).W : Int)) ∧ w'.cell? ⟨TU, 1, none⟩ = some (.int .i64 ((p.turns (3 * m)).H : Int)) ∧ w'.cell? ⟨TU, 2, none⟩ = some (.slice (some a3) ((p.turns (3 * m)).W * (p.turns (3 * m)).H) c3) ∧ w'.cell? ⟨w11.heap.size, 0, none⟩ = some (.int .i64 ((p.half).W : Int)) ∧ w'.cell? ⟨w11.heap.size, 1, none⟩ = some (.int .i64 ((p.half).H : Int)) ∧ w'.cell? ⟨w11.heap.size, 2, none⟩ = some (.slice (some aC) ((p.half).W * (p.half).H) cC)) (by kernel_rfl) ⟨VA_50.out.cell 0, VA_50.out.cell 1, VA_50.out.cell 2, B_50.out.cell 0, B_50.out.cell 1, B_50.out.cell 2, VT_50.out.cell 0, VT_50.out.cell 1, VT_50.out.cell 2, VU_50.out.cell 0, VU_50.out.cell 1, VU_50.out.cell 2, VC_50.out.cell 0, VC_50.out.cell 1, VC_50.out.cell 2⟩ (fun hHeld => ?_)
      clear hHeld
      clear k0 k1 k2 k3 k4 k5 k6 k7 k8 k9 k10 k11 k12 k13 k14
      refine anyH_world (fun wz => Ext wr wz) (show Ext wr wr.drew from Below.drew (Ext.refl wr)) ?_
      rintro w51 h
      have X_51 := Lib.hid (X_50.out.trans h)
      have B_51 := Lib.hid (B_50.out.ext h)
      have VA_51 := Lib.hid (VA_50.out.ext h)
      have VT_51 := Lib.hid (VT_50.out.ext h)
      have VC_51 := Lib.hid (VC_50.out.ext h)
      have VD_51 := Lib.hid (VD_50.out.ext h)
      have VU_51 := Lib.hid (VU_50.out.ext h)
      have RA_51 := Lib.hid (RA_50.out.ext h)
      have RT_51 := Lib.hid (RT_50.out.ext h)
      have RC_51 := Lib.hid (RC_50.out.ext h)
      have RU_51 := Lib.hid (RU_50.out.ext h)
      clear h X_50 B_50 VA_50 VT_50 VC_50 VD_50 VU_50 RA_50 RT_50 RC_50 RU_50
      have hHeld : w51.cell? ⟨w5.heap.size, 0, none⟩ = some (.int .i64 ((p).W : Int)) ∧ w51.cell? ⟨w5.heap.size, 1, none⟩ = some (.int .i64 ((p).H : Int)) ∧ w51.cell? ⟨w5.heap.size, 2, none⟩ = some (.slice (some aA) ((p).W * (p).H) cA) ∧ w51.cell? ⟨w.heap.size, 0, none⟩ = some (.int .i64 ((p).W : Int)) ∧ w51.cell? ⟨w.heap.size, 1, none⟩ = some (.int .i64 ((p).H : Int)) ∧ w51.cell? ⟨w.heap.size, 2, none⟩ = some (.slice (some a) ((p).W * (p).H) c) ∧ w51.cell? ⟨w8.heap.size, 0, none⟩ = some (.int .i64 ((p.turns (quar q)).W : Int)) ∧ w51.cell? ⟨w8.heap.size, 1, none⟩ = some (.int .i64 ((p.turns (quar q)).H : Int)) ∧ w51.cell? ⟨w8.heap.size, 2, none⟩ = some (.slice (some aT) ((p.turns (quar q)).W * (p.turns (quar q)).H) cT) ∧ w51.cell? ⟨TU, 0, none⟩ = some (.int .i64 ((p.turns (3 * m)).W : Int)) ∧ w51.cell? ⟨TU, 1, none⟩ = some (.int .i64 ((p.turns (3 * m)).H : Int)) ∧ w51.cell? ⟨TU, 2, none⟩ = some (.slice (some a3) ((p.turns (3 * m)).W * (p.turns (3 * m)).H) c3) ∧ w51.cell? ⟨w11.heap.size, 0, none⟩ = some (.int .i64 ((p.half).W : Int)) ∧ w51.cell? ⟨w11.heap.size, 1, none⟩ = some (.int .i64 ((p.half).H : Int)) ∧ w51.cell? ⟨w11.heap.size, 2, none⟩ = some (.slice (some aC) ((p.half).W * (p.half).H) cC) := ⟨VA_51.out.cell 0, VA_51.out.cell 1, VA_51.out.cell 2, B_51.out.cell 0, B_51.out.cell 1, B_51.out.cell 2, VT_51.out.cell 0, VT_51.out.cell 1, VT_51.out.cell 2, VU_51.out.cell 0, VU_51.out.cell 1, VU_51.out.cell 2, VC_51.out.cell 0, VC_51.out.cell 1, VC_51.out.cell 2⟩
      refine wpAnyH_take (i := 0) (v := ?_) rfl (by kernel_rfl) (by kernel_rfl) (by kernel_rfl) (fun _ _ _ h => h) (Or.inl ⟨by kernel_rfl, ?_⟩) hHeld ?_
      rotate_left
      · intro w hSw
        (try dsimp only at hSw)
        go_split_ands
        go_simp
        (try with_reducible rfl)
      try simp only [Act.put, List.getElem_toArray, List.getElem_cons_succ, List.getElem_cons_zero, List.setIfInBounds_toArray, List.set_cons_zero, List.set_cons_succ]
      refine wpAnyH_take (i := 1) (v := ?_) rfl (by kernel_rfl) (by kernel_rfl) (by kernel_rfl) (fun _ _ _ h => h) (Or.inl ⟨by kernel_rfl, ?_⟩) hHeld ?_
      rotate_left
      · intro w hSw
        (try dsimp only at hSw)
        go_split_ands
        go_simp
        (try with_reducible rfl)
      try simp only [Act.put, List.getElem_toArray, List.getElem_cons_succ, List.getElem_cons_zero, List.setIfInBounds_toArray, List.set_cons_zero, List.set_cons_succ]
      refine wpAnyH_take (i := 2) (v := ?_) rfl (by kernel_rfl) (by kernel_rfl) (by kernel_rfl) (fun _ _ _ h => h) (Or.inl ⟨by kernel_rfl, ?_⟩) hHeld ?_
      rotate_left
      · intro w hSw
        (try dsimp only at hSw)
        go_split_ands
        go_simp
        (try with_reducible rfl)
      try simp only [Act.put, List.getElem_toArray, List.getElem_cons_succ, List.getElem_cons_zero, List.setIfInBounds_toArray, List.set_cons_zero, List.set_cons_succ]
      refine wpAnyH_take (i := 3) (v := ?_) rfl (by kernel_rfl) (by kernel_rfl) (by kernel_rfl) (fun _ _ _ h => h) (Or.inl ⟨by kernel_rfl, ?_⟩) hHeld ?_
      rotate_left
      · intro w hSw
        (try dsimp only at hSw)
        go_split_ands
        go_simp
        (try with_reducible rfl)
      try simp only [Act.put, List.getElem_toArray, List.getElem_cons_succ, List.getElem_cons_zero, List.setIfInBounds_toArray, List.set_cons_zero, List.set_cons_succ]
      refine wpAnyH_ready (rs := [4]) (by kernel_rfl) (by simp) ?_
      refine AllReadyH.cons rfl (fun KK hK => ?_) AllReadyH.nil
      clear hHeld
      go_simp
      refine (flipOf_pc p down a c _ HP.out (HX.out.ext X_51.out)).mono ?_
      rintro e w52 ⟨⟨af, cf, rfl, hx⟩, h⟩
      have hxx := Lib.hid hx
      clear hx
      have X_52 := Lib.hid (X_51.out.trans h)
      have B_52 := Lib.hid (B_51.out.ext h)
      have VA_52 := Lib.hid (VA_51.out.ext h)
      have VT_52 := Lib.hid (VT_51.out.ext h)
      have VC_52 := Lib.hid (VC_51.out.ext h)
      have VD_52 := Lib.hid (VD_51.out.ext h)
      have VU_52 := Lib.hid (VU_51.out.ext h)
      have RA_52 := Lib.hid (RA_51.out.ext h)
      have RT_52 := Lib.hid (RT_51.out.ext h)
      have RC_52 := Lib.hid (RC_51.out.ext h)
      have RU_52 := Lib.hid (RU_51.out.ext h)
      clear h X_51 B_51 VA_51 VT_51 VC_51 VD_51 VU_51 RA_51 RT_51 RC_51 RU_51
      have RF_52 := Lib.hid (hxx.out)
      go_simp
      refine hK.out _ _ ⟨VA_52.out.cell 0, VA_52.out.cell 1, VA_52.out.cell 2, B_52.out.cell 0, B_52.out.cell 1, B_52.out.cell 2, VT_52.out.cell 0, VT_52.out.cell 1, VT_52.out.cell 2, VU_52.out.cell 0, VU_52.out.cell 1, VU_52.out.cell 2, VC_52.out.cell 0, VC_52.out.cell 1, VC_52.out.cell 2⟩ (fun hHeld => ?_)
      clear hK KK
      try simp only [Act.put, List.getElem_toArray, List.getElem_cons_succ, List.getElem_cons_zero, List.setIfInBounds_toArray, List.set_cons_zero, List.set_cons_succ]
      refine wpAnyH_ready (rs := [5]) (by kernel_rfl) (by simp) ?_
      refine AllReadyH.cons rfl (fun KK hK => ?_) AllReadyH.nil
      clear hHeld
      go_simp
      refine (told_pc (p.flip down) (p.flip down) aA af cA cf _ (Pc3.flip_ok HP.out down) (Pc3.Same.refl _) RA_52.out RF_52.out).mono ?_
      rintro e w53 ⟨rfl, h⟩
      have X_53 := Lib.hid (X_52.out.trans h)
      have B_53 := Lib.hid (B_52.out.ext h)
      have VA_53 := Lib.hid (VA_52.out.ext h)
      have VT_53 := Lib.hid (VT_52.out.ext h)
      have VC_53 := Lib.hid (VC_52.out.ext h)
      have VD_53 := Lib.hid (VD_52.out.ext h)
      have VU_53 := Lib.hid (VU_52.out.ext h)
      have RA_53 := Lib.hid (RA_52.out.ext h)
      have RT_53 := Lib.hid (RT_52.out.ext h)
      have RC_53 := Lib.hid (RC_52.out.ext h)
      have RU_53 := Lib.hid (RU_52.out.ext h)
      have RF_53 := Lib.hid (RF_52.out.ext h)
      clear h X_52 B_52 VA_52 VT_52 VC_52 VD_52 VU_52 RA_52 RT_52 RC_52 RU_52 RF_52
      go_simp
      refine hK.out _ _ ⟨VA_53.out.cell 0, VA_53.out.cell 1, VA_53.out.cell 2, B_53.out.cell 0, B_53.out.cell 1, B_53.out.cell 2, VT_53.out.cell 0, VT_53.out.cell 1, VT_53.out.cell 2, VU_53.out.cell 0, VU_53.out.cell 1, VU_53.out.cell 2, VC_53.out.cell 0, VC_53.out.cell 1, VC_53.out.cell 2⟩ (fun hHeld => ?_)
      clear hK KK
      try simp only [Act.put, List.getElem_toArray, List.getElem_cons_succ, List.getElem_cons_zero, List.setIfInBounds_toArray, List.set_cons_zero, List.set_cons_succ]
      refine wpAnyH_take (i := 6) (v := ?_) rfl (by kernel_rfl) (by kernel_rfl) (by kernel_rfl) (fun _ _ _ h => h) (Or.inl ⟨by kernel_rfl, ?_⟩) hHeld ?_
      rotate_left
      · intro w hSw
        (try dsimp only at hSw)
        go_split_ands
        go_simp
        (try with_reducible rfl)
      try simp only [Act.put, List.getElem_toArray, List.getElem_cons_succ, List.getElem_cons_zero, List.setIfInBounds_toArray, List.set_cons_zero, List.set_cons_succ]
      refine wpAnyH_take (i := 7) (v := ?_) rfl (by kernel_rfl) (by kernel_rfl) (by kernel_rfl) (fun _ _ _ h => h) (Or.inl ⟨by kernel_rfl, ?_⟩) hHeld ?_
      rotate_left
      · intro w hSw
        (try dsimp only at hSw)
        go_split_ands
        go_simp
        (try with_reducible rfl)
      try simp only [Act.put, List.getElem_toArray, List.getElem_cons_succ, List.getElem_cons_zero, List.setIfInBounds_toArray, List.set_cons_zero, List.set_cons_succ]
      refine wpAnyH_take (i := 8) (v := ?_) rfl (by kernel_rfl) (by kernel_rfl) (by kernel_rfl) (fun _ _ _ h => h) (Or.inl ⟨by kernel_rfl, ?_⟩) hHeld ?_
      rotate_left
      · intro w hSw
        (try dsimp only at hSw)
        go_split_ands
        go_simp
        (try with_reducible rfl)
      try simp only [Act.put, List.getElem_toArray, List.getElem_cons_succ, List.getElem_cons_zero, List.setIfInBounds_toArray, List.set_cons_zero, List.set_cons_succ]
      refine wpAnyH_take (i := 9) (v := ?_) rfl (by kernel_rfl) (by kernel_rfl) (by kernel_rfl) (fun _ _ _ h => h) (Or.inl ⟨by kernel_rfl, ?_⟩) hHeld ?_
      rotate_left
      · intro w hSw
        (try dsimp only at hSw)
        go_split_ands
        go_simp
        (try with_reducible rfl)
      try simp only [Act.put, List.getElem_toArray, List.getElem_cons_succ, List.getElem_cons_zero, List.setIfInBounds_toArray, List.set_cons_zero, List.set_cons_succ]
      refine wpAnyH_take (i := 10) (v := ?_) rfl (by kernel_rfl) (by kernel_rfl) (by kernel_rfl) (fun _ _ _ h => h) (Or.inl ⟨by kernel_rfl, ?_⟩) hHeld ?_
      rotate_left
      · intro w hSw
        (try dsimp only at hSw)
        go_split_ands
        go_simp
        (try with_reducible rfl)
      try simp only [Act.put, List.getElem_toArray, List.getElem_cons_succ, List.getElem_cons_zero, List.setIfInBounds_toArray, List.set_cons_zero, List.set_cons_succ]
      refine wpAnyH_ready (rs := [11]) (by kernel_rfl) (by simp) ?_
      refine AllReadyH.cons rfl (fun KK hK => ?_) AllReadyH.nil
      clear hHeld
      go_simp
      refine (told_pc (p.turns (quar q)) (p.turns (3 * m)) aT a3 cT c3 _ (Pc3.turns_ok HP.out _) FS.out RT_53.out RU_53.out).mono ?_
      rintro e w54 ⟨rfl, h⟩
      have X_54 := Lib.hid (X_53.out.trans h)
      have B_54 := Lib.hid (B_53.out.ext h)
      have VA_54 := Lib.hid (VA_53.out.ext h)
      have VT_54 := Lib.hid (VT_53.out.ext h)
      have VC_54 := Lib.hid (VC_53.out.ext h)
      have VD_54 := Lib.hid (VD_53.out.ext h)
      have VU_54 := Lib.hid (VU_53.out.ext h)
      have RA_54 := Lib.hid (RA_53.out.ext h)
      have RT_54 := Lib.hid (RT_53.out.ext h)
      have RC_54 := Lib.hid (RC_53.out.ext h)
      have RU_54 := Lib.hid (RU_53.out.ext h)
      have RF_54 := Lib.hid (RF_53.out.ext h)
      clear h X_53 B_53 VA_53 VT_53 VC_53 VD_53 VU_53 RA_53 RT_53 RC_53 RU_53 RF_53
      go_simp
      refine hK.out _ _ ⟨VA_54.out.cell 0, VA_54.out.cell 1, VA_54.out.cell 2, B_54.out.cell 0, B_54.out.cell 1, B_54.out.cell 2, VT_54.out.cell 0, VT_54.out.cell 1, VT_54.out.cell 2, VU_54.out.cell 0, VU_54.out.cell 1, VU_54.out.cell 2, VC_54.out.cell 0, VC_54.out.cell 1, VC_54.out.cell 2⟩ (fun hHeld => ?_)
      clear hK KK
      try simp only [Act.put, List.getElem_toArray, List.getElem_cons_succ, List.getElem_cons_zero, List.setIfInBounds_toArray, List.set_cons_zero, List.set_cons_succ]
      refine wpAnyH_take (i := 12) (v := ?_) rfl (by kernel_rfl) (by kernel_rfl) (by kernel_rfl) (fun _ _ _ h => h) (Or.inl ⟨by kernel_rfl, ?_⟩) hHeld ?_
      rotate_left
      · intro w hSw
        (try dsimp only at hSw)
        go_split_ands
        go_simp
        (try with_reducible rfl)
      try simp only [Act.put, List.getElem_toArray, List.getElem_cons_succ, List.getElem_cons_zero, List.setIfInBounds_toArray, List.set_cons_zero, List.set_cons_succ]
      refine wpAnyH_take (i := 13) (v := ?_) rfl (by kernel_rfl) (by kernel_rfl) (by kernel_rfl) (fun _ _ _ h => h) (Or.inl ⟨by kernel_rfl, ?_⟩) hHeld ?_
      rotate_left
      · intro w hSw
        (try dsimp only at hSw)
        go_split_ands
        go_simp
        (try with_reducible rfl)
      try simp only [Act.put, List.getElem_toArray, List.getElem_cons_succ, List.getElem_cons_zero, List.setIfInBounds_toArray, List.set_cons_zero, List.set_cons_succ]
      refine wpAnyH_take (i := 14) (v := ?_) rfl (by kernel_rfl) (by kernel_rfl) (by kernel_rfl) (fun _ _ _ h => h) (Or.inl ⟨by kernel_rfl, ?_⟩) hHeld ?_
      rotate_left
      · intro w hSw
        (try dsimp only at hSw)
        go_split_ands
        go_simp
        (try with_reducible rfl)
      try simp only [Act.put, List.getElem_toArray, List.getElem_cons_succ, List.getElem_cons_zero, List.setIfInBounds_toArray, List.set_cons_zero, List.set_cons_succ]
      refine wpAnyH_take (i := 15) (v := ?_) rfl (by kernel_rfl) (by kernel_rfl) (by kernel_rfl) (fun _ _ _ h => h) (Or.inl ⟨by kernel_rfl, ?_⟩) hHeld ?_
      rotate_left
      · intro w hSw
        (try dsimp only at hSw)
        go_split_ands
        go_simp
        (try with_reducible rfl)
      try simp only [Act.put, List.getElem_toArray, List.getElem_cons_succ, List.getElem_cons_zero, List.setIfInBounds_toArray, List.set_cons_zero, List.set_cons_succ]
      refine wpAnyH_take (i := 16) (v := ?_) rfl (by kernel_rfl) (by kernel_rfl) (by kernel_rfl) (fun _ _ _ h => h) (Or.inl ⟨by kernel_rfl, ?_⟩) hHeld ?_
      rotate_left
      · intro w hSw
        (try dsimp only at hSw)
        go_split_ands
        go_simp
        (try with_reducible rfl)
      try simp only [Act.put, List.getElem_toArray, List.getElem_cons_succ, List.getElem_cons_zero, List.setIfInBounds_toArray, List.set_cons_zero, List.set_cons_succ]
      refine wpAnyH_take (i := 17) (v := ?_) rfl (by kernel_rfl) (by kernel_rfl) (by kernel_rfl) (fun _ _ _ h => h) (Or.inl ⟨by kernel_rfl, ?_⟩) hHeld ?_
      rotate_left
      · intro w hSw
        (try dsimp only at hSw)
        go_split_ands
        go_simp
        (try with_reducible rfl)
      try simp only [Act.put, List.getElem_toArray, List.getElem_cons_succ, List.getElem_cons_zero, List.setIfInBounds_toArray, List.set_cons_zero, List.set_cons_succ]
      refine wpAnyH_ready (rs := [18]) (by kernel_rfl) (by simp) ?_
      refine AllReadyH.cons rfl (fun KK hK => ?_) AllReadyH.nil
      clear hHeld
      go_simp
      refine (halfOf_pc p a c _ HP.out (HX.out.ext X_54.out)).mono ?_
      rintro e w55 ⟨⟨ah, ch, rfl, hx⟩, h⟩
      have hxy := Lib.hid hx
      clear hx
      have X_55 := Lib.hid (X_54.out.trans h)
      have B_55 := Lib.hid (B_54.out.ext h)
      have VA_55 := Lib.hid (VA_54.out.ext h)
      have VT_55 := Lib.hid (VT_54.out.ext h)
      have VC_55 := Lib.hid (VC_54.out.ext h)
      have VD_55 := Lib.hid (VD_54.out.ext h)
      have VU_55 := Lib.hid (VU_54.out.ext h)
      have RA_55 := Lib.hid (RA_54.out.ext h)
      have RT_55 := Lib.hid (RT_54.out.ext h)
      have RC_55 := Lib.hid (RC_54.out.ext h)
      have RU_55 := Lib.hid (RU_54.out.ext h)
      have RF_55 := Lib.hid (RF_54.out.ext h)
      clear h X_54 B_54 VA_54 VT_54 VC_54 VD_54 VU_54 RA_54 RT_54 RC_54 RU_54 RF_54
      have RH_55 := Lib.hid (hxy.out)
      go_simp
      refine hK.out _ _ ⟨VA_55.out.cell 0, VA_55.out.cell 1, VA_55.out.cell 2, B_55.out.cell 0, B_55.out.cell 1, B_55.out.cell 2, VT_55.out.cell 0, VT_55.out.cell 1, VT_55.out.cell 2, VU_55.out.cell 0, VU_55.out.cell 1, VU_55.out.cell 2, VC_55.out.cell 0, VC_55.out.cell 1, VC_55.out.cell 2⟩ (fun hHeld => ?_)
      clear hK KK
      try simp only [Act.put, List.getElem_toArray, List.getElem_cons_succ, List.getElem_cons_zero, List.setIfInBounds_toArray, List.set_cons_zero, List.set_cons_succ]
      refine wpAnyH_ready (rs := [19]) (by kernel_rfl) (by simp) ?_
      refine AllReadyH.cons rfl (fun KK hK => ?_) AllReadyH.nil
      clear hHeld
      go_simp
      refine (told_pc (p.half) (p.half) aC ah cC ch _ (Pc3.half_ok HP.out) (Pc3.Same.refl _) RC_55.out RH_55.out).mono ?_
      rintro e w56 ⟨rfl, h⟩
      have X_56 := Lib.hid (X_55.out.trans h)
      have B_56 := Lib.hid (B_55.out.ext h)
      have VA_56 := Lib.hid (VA_55.out.ext h)
      have VT_56 := Lib.hid (VT_55.out.ext h)
      have VC_56 := Lib.hid (VC_55.out.ext h)
      have VD_56 := Lib.hid (VD_55.out.ext h)
      have VU_56 := Lib.hid (VU_55.out.ext h)
      have RA_56 := Lib.hid (RA_55.out.ext h)
      have RT_56 := Lib.hid (RT_55.out.ext h)
      have RC_56 := Lib.hid (RC_55.out.ext h)
      have RU_56 := Lib.hid (RU_55.out.ext h)
      have RF_56 := Lib.hid (RF_55.out.ext h)
      have RH_56 := Lib.hid (RH_55.out.ext h)
      clear h X_55 B_55 VA_55 VT_55 VC_55 VD_55 VU_55 RA_55 RT_55 RC_55 RU_55 RF_55 RH_55
      go_simp
      refine hK.out _ _ ⟨VA_56.out.cell 0, VA_56.out.cell 1, VA_56.out.cell 2, B_56.out.cell 0, B_56.out.cell 1, B_56.out.cell 2, VT_56.out.cell 0, VT_56.out.cell 1, VT_56.out.cell 2, VU_56.out.cell 0, VU_56.out.cell 1, VU_56.out.cell 2, VC_56.out.cell 0, VC_56.out.cell 1, VC_56.out.cell 2⟩ (fun hHeld => ?_)
      clear hK KK
      try simp only [Act.put, List.getElem_toArray, List.getElem_cons_succ, List.getElem_cons_zero, List.setIfInBounds_toArray, List.set_cons_zero, List.set_cons_succ]
      refine wpAnyH_take (i := 20) (v := ?_) rfl (by kernel_rfl) (by kernel_rfl) (by kernel_rfl) (fun _ _ _ h => h) (Or.inl ⟨by kernel_rfl, ?_⟩) hHeld ?_
      rotate_left
      · intro w hSw
        (try dsimp only at hSw)
        go_split_ands
        go_simp
        (try with_reducible rfl)
      try simp only [Act.put, List.getElem_toArray, List.getElem_cons_succ, List.getElem_cons_zero, List.setIfInBounds_toArray, List.set_cons_zero, List.set_cons_succ]
      refine wpAnyH_take (i := 21) (v := ?_) rfl (by kernel_rfl) (by kernel_rfl) (by kernel_rfl) (fun _ _ _ h => h) (Or.inl ⟨by kernel_rfl, ?_⟩) hHeld ?_
      rotate_left
      · intro w hSw
        (try dsimp only at hSw)
        go_split_ands
        go_simp
        (try with_reducible rfl)
      try simp only [Act.put, List.getElem_toArray, List.getElem_cons_succ, List.getElem_cons_zero, List.setIfInBounds_toArray, List.set_cons_zero, List.set_cons_succ]
      refine wpAnyH_done (by kernel_rfl) ?_ _
      clear hHeld
      go_wp2_with fail
      refine (refSide_any _ _).mono ?_
      rintro e w9 ⟨rfl, rfl⟩
      cases hs1 : sideB ww
      · have k0 := VD_56.out.cell 0
        have k1 := VD_56.out.cell 1
        have k2 := VD_56.out.cell 2
        have k3 := B_56.out.cell 0
        have k4 := B_56.out.cell 1
        have k5 := B_56.out.cell 2
        go_wp2_with fail
        refine (told_err _ 1 _ _ _ _ _ _ E (HE.out.ext X_56.out) (.sent 1 (by decide))).mono ?_
        rintro e w57 ⟨rfl, h⟩
        have X_57 := Lib.hid (X_56.out.trans h)
        have B_57 := Lib.hid (B_56.out.ext h)
        have VA_57 := Lib.hid (VA_56.out.ext h)
        have VT_57 := Lib.hid (VT_56.out.ext h)
        have VC_57 := Lib.hid (VC_56.out.ext h)
        have VD_57 := Lib.hid (VD_56.out.ext h)
        have VU_57 := Lib.hid (VU_56.out.ext h)
        have RA_57 := Lib.hid (RA_56.out.ext h)
        have RT_57 := Lib.hid (RT_56.out.ext h)
        have RC_57 := Lib.hid (RC_56.out.ext h)
        have RU_57 := Lib.hid (RU_56.out.ext h)
        have RF_57 := Lib.hid (RF_56.out.ext h)
        have RH_57 := Lib.hid (RH_56.out.ext h)
        clear h X_56 B_56 VA_56 VT_56 VC_56 VD_56 VU_56 RA_56 RT_56 RC_56 RU_56 RF_56 RH_56
        clear k0 k1 k2 k3 k4 k5
        go_wp2_with fail
        go_ret
        exact ⟨rfl, X_57.out⟩
      · have hs2 : sideB hh = false := by have := HB.out; rw [hs1] at this; exact this
        go_wp2_with fail
        refine (refSide_any _ _).mono ?_
        rintro e w9 ⟨rfl, rfl⟩
        rw [hs2]
        have k0 := VD_56.out.cell 0
        have k1 := VD_56.out.cell 1
        have k2 := VD_56.out.cell 2
        have k3 := B_56.out.cell 0
        have k4 := B_56.out.cell 1
        have k5 := B_56.out.cell 2
        go_wp2_with fail
        refine (told_err _ 1 _ _ _ _ _ _ E (HE.out.ext X_56.out) (.sent 1 (by decide))).mono ?_
        rintro e w57 ⟨rfl, h⟩
        have X_57 := Lib.hid (X_56.out.trans h)
        have B_57 := Lib.hid (B_56.out.ext h)
        have VA_57 := Lib.hid (VA_56.out.ext h)
        have VT_57 := Lib.hid (VT_56.out.ext h)
        have VC_57 := Lib.hid (VC_56.out.ext h)
        have VD_57 := Lib.hid (VD_56.out.ext h)
        have VU_57 := Lib.hid (VU_56.out.ext h)
        have RA_57 := Lib.hid (RA_56.out.ext h)
        have RT_57 := Lib.hid (RT_56.out.ext h)
        have RC_57 := Lib.hid (RC_56.out.ext h)
        have RU_57 := Lib.hid (RU_56.out.ext h)
        have RF_57 := Lib.hid (RF_56.out.ext h)
        have RH_57 := Lib.hid (RH_56.out.ext h)
        clear h X_56 B_56 VA_56 VT_56 VC_56 VD_56 VU_56 RA_56 RT_56 RC_56 RU_56 RF_56 RH_56
        clear k0 k1 k2 k3 k4 k5
        go_wp2_with fail
        go_ret
        exact ⟨rfl, X_57.out⟩
    · by_cases hpos : 0 < K
      · have t0 : decide (0 < K) = true := decide_eq_true hpos
        have k0 := VU_50.out.cell 0
        have f0 := VU_50.out.frozen 0
        have k1 := VU_50.out.cell 1
        have f1 := VU_50.out.frozen 1
        have k2 := VU_50.out.cell 2
        have f2 := VU_50.out.frozen 2
        go_wp2_with fail
        refine (turnOf_pc (p.turns (3 * m)) a3 c3 _ (Pc3.turns_ok HP.out (3 * m)) RU_50.out).mono ?_
        rintro e v1 ⟨⟨a30, c30, rfl, hx, hb0⟩, x0⟩
        have R0 := Lib.hid hx
        clear hx
        go_wp2_with fail
        refine (turnOf_pc ((p.turns (3 * m)).turn) a30 c30 _ (Pc3.turn_ok (Pc3.turns_ok HP.out (3 * m))) R0.out).mono ?_
        rintro e v2 ⟨⟨a31, c31, rfl, hx, hb1⟩, x1⟩
        have R1 := Lib.hid hx
        clear hx
        go_wp2_with fail
        refine (turnOf_pc ((p.turns (3 * m)).turn.turn) a31 c31 _ (Pc3.turn_ok (Pc3.turn_ok (Pc3.turns_ok HP.out (3 * m)))) R1.out).mono ?_
        rintro e v3 ⟨⟨a32, c32, rfl, hx, hb2⟩, x2⟩
        have R2 := Lib.hid hx
        clear hx
        have xx := x0.trans (x1.trans x2)
        have VU3 := VU_50.out.ext xx
        have hne : a32.block ≠ TU := by have h1 := VU_50.out.lt; have h2 := (x0.trans x1).size; omega
        have SF := Lib.hid (set3_facts (x' := .int .i64 (((p.turns (3 * m)).turn.turn.turn).W : Int)) (y' := .int .i64 (((p.turns (3 * m)).turn.turn.turn).H : Int)) (z' := .slice (some a32) (((p.turns (3 * m)).turn.turn.turn).W * ((p.turns (3 * m)).turn.turn.turn).H) c32) (X_50.out.trans xx) GEU.out VU3)
        clear k0 k1 k2 f0 f1 f2
        have k0 := VU3.cell 0
        have f0 := VU3.frozen 0
        have k1 := VU3.cell 1
        have f1 := VU3.frozen 1
        have k2 := VU3.cell 2
        have f2 := VU3.frozen 2
        have XX := Lib.hid xx
        have HNE := Lib.hid hne
        clear xx x0 x1 x2 hb0 hb1 hb2 VU3 hne
        go_wp2_with fail
        go_roundw
        case rel => exact ⟨_, m + 1, a32, c32, rfl, (by have := HI.out.next hK; rw [if_pos hpos] at this; exact this), Lib.hid SF.out.1, Lib.hid ((B_50.out.ext XX.out).keeps SF.out.2.2 NE_B.out), Lib.hid ((VA_50.out.ext XX.out).keeps SF.out.2.2 NE_VA.out), Lib.hid ((VT_50.out.ext XX.out).keeps SF.out.2.2 NE_VT.out), Lib.hid ((VC_50.out.ext XX.out).keeps SF.out.2.2 NE_VC.out), Lib.hid ((VD_50.out.ext XX.out).keeps SF.out.2.2 NE_VD.out), Lib.hid ((RA_50.out.ext XX.out).keeps SF.out.2.2 (fun z hz e => NE_RA.out (by injection hz with hz; rw [hz]; exact e))), Lib.hid ((RT_50.out.ext XX.out).keeps SF.out.2.2 (fun z hz e => NE_RT.out (by injection hz with hz; rw [hz]; exact e))), Lib.hid ((RC_50.out.ext XX.out).keeps SF.out.2.2 (fun z hz e => NE_RC.out (by injection hz with hz; rw [hz]; exact e))), Lib.hid SF.out.2.1, Lib.hid (R2.out.keeps SF.out.2.2 (fun z hz e => HNE.out (by injection hz with hz; rw [hz]; exact e))), HNE⟩
        case measure => simp [intOf]; omega
      · have t0 : decide (0 < K) = false := decide_eq_false hpos
        have k0 := VU_50.out.cell 0
        have f0 := VU_50.out.frozen 0
        have k1 := VU_50.out.cell 1
        have f1 := VU_50.out.frozen 1
        have k2 := VU_50.out.cell 2
        have f2 := VU_50.out.frozen 2
        go_wp2_with fail
        refine (turnOf_pc (p.turns (3 * m)) a3 c3 _ (Pc3.turns_ok HP.out (3 * m)) RU_50.out).mono ?_
        rintro e v1 ⟨⟨a30, c30, rfl, hx, hb0⟩, x0⟩
        have R0 := Lib.hid hx
        clear hx
        go_wp2_with fail
        refine (turnOf_pc ((p.turns (3 * m)).turn) a30 c30 _ (Pc3.turn_ok (Pc3.turns_ok HP.out (3 * m))) R0.out).mono ?_
        rintro e v2 ⟨⟨a31, c31, rfl, hx, hb1⟩, x1⟩
        have R1 := Lib.hid hx
        clear hx
        go_wp2_with fail
        refine (turnOf_pc ((p.turns (3 * m)).turn.turn) a31 c31 _ (Pc3.turn_ok (Pc3.turn_ok (Pc3.turns_ok HP.out (3 * m)))) R1.out).mono ?_
        rintro e v3 ⟨⟨a32, c32, rfl, hx, hb2⟩, x2⟩
        have R2 := Lib.hid hx
        clear hx
        have xx := x0.trans (x1.trans x2)
        have VU3 := VU_50.out.ext xx
        have hne : a32.block ≠ TU := by have h1 := VU_50.out.lt; have h2 := (x0.trans x1).size; omega
        have SF := Lib.hid (set3_facts (x' := .int .i64 (((p.turns (3 * m)).turn.turn.turn).W : Int)) (y' := .int .i64 (((p.turns (3 * m)).turn.turn.turn).H : Int)) (z' := .slice (some a32) (((p.turns (3 * m)).turn.turn.turn).W * ((p.turns (3 * m)).turn.turn.turn).H) c32) (X_50.out.trans xx) GEU.out VU3)
        clear k0 k1 k2 f0 f1 f2
        have k0 := VU3.cell 0
        have f0 := VU3.frozen 0
        have k1 := VU3.cell 1
        have f1 := VU3.frozen 1
        have k2 := VU3.cell 2
        have f2 := VU3.frozen 2
        have XX := Lib.hid xx
        have HNE := Lib.hid hne
        clear xx x0 x1 x2 hb0 hb1 hb2 VU3 hne
        go_wp2_with fail
        go_roundw
        case rel => exact ⟨_, m + 1, a32, c32, rfl, (by have := HI.out.next hK; rw [if_neg (by omega)] at this; exact this), Lib.hid SF.out.1, Lib.hid ((B_50.out.ext XX.out).keeps SF.out.2.2 NE_B.out), Lib.hid ((VA_50.out.ext XX.out).keeps SF.out.2.2 NE_VA.out), Lib.hid ((VT_50.out.ext XX.out).keeps SF.out.2.2 NE_VT.out), Lib.hid ((VC_50.out.ext XX.out).keeps SF.out.2.2 NE_VC.out), Lib.hid ((VD_50.out.ext XX.out).keeps SF.out.2.2 NE_VD.out), Lib.hid ((RA_50.out.ext XX.out).keeps SF.out.2.2 (fun z hz e => NE_RA.out (by injection hz with hz; rw [hz]; exact e))), Lib.hid ((RT_50.out.ext XX.out).keeps SF.out.2.2 (fun z hz e => NE_RT.out (by injection hz with hz; rw [hz]; exact e))), Lib.hid ((RC_50.out.ext XX.out).keeps SF.out.2.2 (fun z hz e => NE_RC.out (by injection hz with hz; rw [hz]; exact e))), Lib.hid SF.out.2.1, Lib.hid (R2.out.keeps SF.out.2.2 (fun z hz e => HNE.out (by injection hz with hz; rw [hz]; exact e))), HNE⟩
        case measure => simp [intOf]; omega
set_option linter.unusedSimpArgs false in
set_option maxHeartbeats 4000000 in
theorem turns_ok (down : Bool) (q : Int) (ww hh : Nat) (p : Pc3) (a : Addr) (c : Nat) (w : World) (E : Nat → Addr) (hE : Errs w E) (hp : p.Ok) (hx : Pxs w (some a) (p.W * p.H) p.px) (hn : p.W * p.H ≤ 3000) (hq : -9223372036854775808 ≤ q ∧ q ≤ 9223372036854775807) (h2 : 1 ≤ ww ∧ ww ≤ 256) (h3 : 1 ≤ hh ∧ hh ≤ 256) :
    Calls Tryd.prog 9 #[.agg #[.int .i64 ((p).W : Int), .int .i64 ((p).H : Int), .slice (some a) ((p).W * (p).H) c], .bool down, .int .i64 q, .int .i64 (ww : Int), .int .i64 (hh : Int)] w fun e w' => e = .returned (.bool true) ∧ Ext w w' := by
  have HE := Lib.hid hE
  have HX := Lib.hid hx
  have HP := Lib.hid hp
  have HD := Lib.hid (decide_eq_true hn)
  have HR := Lib.hid (Pc3.right hp)
  have HQ := Lib.hid hq
  have HS := Lib.hid (And.intro h2 h3)
  clear h2 h3
  clear hE hx hp hq
  go_enter Tryd.func9, Tryd.ntmps9
  go_wp2_with fail
  refine calls_world (fun wz => Ext w wz ∧ wz.heap.size = w.heap.size + 1 ∧ Bk wz (w.heap.size) #[.int .i64 ((p).W : Int), .int .i64 ((p).H : Int), .slice (some a) ((p).W * (p).H) c]) ⟨by repeat (first | exact Ext.refl _ | refine Ext.alloc ?_ _), by simp, by repeat (first | exact Bk.at (by simp) | refine Bk.old ?_)⟩ ?_
  rintro w1 ⟨hX, hZ, hB0⟩
  have X_1 := Lib.hid hX
  have B_1 := Lib.hid hB0
  clear hX hZ hB0
  refine (plainly_any _).mono ?_
  rintro e w2 ⟨rfl, h⟩
  have X_2 := Lib.hid (X_1.out.trans h)
  have B_2 := Lib.hid (B_1.out.ext h)
  clear h
  clear X_1 B_1
  have k0 := B_2.out.cell 0
  have k1 := B_2.out.cell 1
  have k2 := B_2.out.cell 2
  go_wp2_with fail
  refine (small_any _ _ _ _ _ _ (by unfold maxLen; omega)).mono ?_
  rintro e w3 ⟨rfl, h⟩
  have X_3 := Lib.hid (X_2.out.trans h)
  have B_3 := Lib.hid (B_2.out.ext h)
  clear h
  clear X_2 B_2
  clear k0 k1 k2
  rw [HD.out]
  have k0 := B_3.out.cell 0
  have k1 := B_3.out.cell 1
  have k2 := B_3.out.cell 2
  go_wp2_with fail
  refine (own_pc p a c _ HP.out (HX.out.ext X_3.out)).mono ?_
  rintro e w4 ⟨⟨oA, qA, rfl, hx, _⟩, h⟩
  have X_4 := Lib.hid (X_3.out.trans h)
  have B_4 := Lib.hid (B_3.out.ext h)
  have O_4 := Lib.hid (hx)
  clear h hx
  clear X_3 B_3
  clear k0 k1 k2
  go_wp2_with fail
  refine (flip_pc p down oA qA _ HP.out O_4.out).mono ?_
  rintro e w5 ⟨⟨aA, cA, rfl, hx, _⟩, h⟩
  have X_5 := Lib.hid (X_4.out.trans h)
  have B_5 := Lib.hid (B_4.out.ext h)
  have O_5 := Lib.hid (O_4.out.ext h)
  have RA_5 := Lib.hid (hx)
  clear h hx
  clear X_4 B_4 O_4
  clear O_5
  have E_ := (Ext.refl w5).alloc (.cells #[.int .i64 ((p).W : Int), .int .i64 ((p).H : Int), .slice (some aA) ((p).W * (p).H) cA] 24)
  have k0 := (B_5.out.ext E_).cell 0
  have k1 := (B_5.out.ext E_).cell 1
  have k2 := (B_5.out.ext E_).cell 2
  have EE := Lib.hid E_
  clear E_
  go_wp2_with fail
  clear k0 k1 k2
  refine calls_world (fun wz => Ext w5 wz ∧ Bk wz w5.heap.size #[.int .i64 ((p).W : Int), .int .i64 ((p).H : Int), .slice (some aA) ((p).W * (p).H) cA]) ⟨EE.out, Bk.at rfl⟩ ?_
  clear EE
  have NE_B_VA := Lib.hid (Nat.ne_of_lt (show w.heap.size < w5.heap.size from B_5.out.lt))
  have GE_VA := Lib.hid (X_5.out.size)
  rintro w6 ⟨hX, hB0⟩
  have X_6 := Lib.hid (X_5.out.trans hX)
  have B_6 := Lib.hid (B_5.out.ext hX)
  have RA_6 := Lib.hid (RA_5.out.ext hX)
  have VA_6 := Lib.hid (hB0)
  clear hX hB0 X_5 B_5 RA_5
  refine (own_pc p a c _ HP.out (HX.out.ext X_6.out)).mono ?_
  rintro e w7 ⟨⟨oT, qT, rfl, hx, _⟩, h⟩
  have X_7 := Lib.hid (X_6.out.trans h)
  have B_7 := Lib.hid (B_6.out.ext h)
  have RA_7 := Lib.hid (RA_6.out.ext h)
  have VA_7 := Lib.hid (VA_6.out.ext h)
  have O_7 := Lib.hid (hx)
  clear h hx
  clear X_6 B_6 RA_6 VA_6
  go_wp2_with fail
  refine (turn_pc p q oT qT _ HP.out O_7.out HQ.out).mono ?_
  rintro e w8 ⟨⟨aT, cT, rfl, hx, _⟩, h⟩
  have X_8 := Lib.hid (X_7.out.trans h)
  have B_8 := Lib.hid (B_7.out.ext h)
  have RA_8 := Lib.hid (RA_7.out.ext h)
  have VA_8 := Lib.hid (VA_7.out.ext h)
  have O_8 := Lib.hid (O_7.out.ext h)
  have RT_8 := Lib.hid (hx)
  clear h hx
  clear X_7 B_7 RA_7 VA_7 O_7
  clear O_8
  have E_ := (Ext.refl w8).alloc (.cells #[.int .i64 ((p.turns (quar q)).W : Int), .int .i64 ((p.turns (quar q)).H : Int), .slice (some aT) ((p.turns (quar q)).W * (p.turns (quar q)).H) cT] 24)
  have k0 := (B_8.out.ext E_).cell 0
  have k1 := (B_8.out.ext E_).cell 1
  have k2 := (B_8.out.ext E_).cell 2
  have EE := Lib.hid E_
  clear E_
  go_wp2_with fail
  clear k0 k1 k2
  refine calls_world (fun wz => Ext w8 wz ∧ Bk wz w8.heap.size #[.int .i64 ((p.turns (quar q)).W : Int), .int .i64 ((p.turns (quar q)).H : Int), .slice (some aT) ((p.turns (quar q)).W * (p.turns (quar q)).H) cT]) ⟨EE.out, Bk.at rfl⟩ ?_
  clear EE
  have NE_B_VT := Lib.hid (Nat.ne_of_lt (show w.heap.size < w8.heap.size from B_8.out.lt))
  have NE_VA_VT := Lib.hid (Nat.ne_of_lt (show w5.heap.size < w8.heap.size from VA_8.out.lt))
  have GE_VT := Lib.hid (X_8.out.size)
  rintro w9 ⟨hX, hB0⟩
  have X_9 := Lib.hid (X_8.out.trans hX)
  have B_9 := Lib.hid (B_8.out.ext hX)
  have RA_9 := Lib.hid (RA_8.out.ext hX)
  have VA_9 := Lib.hid (VA_8.out.ext hX)
  have RT_9 := Lib.hid (RT_8.out.ext hX)
  have VT_9 := Lib.hid (hB0)
  clear hX hB0 X_8 B_8 RA_8 VA_8 RT_8
  refine (own_pc p a c _ HP.out (HX.out.ext X_9.out)).mono ?_
  rintro e w10 ⟨⟨oC, qC, rfl, hx, _⟩, h⟩
  have X_10 := Lib.hid (X_9.out.trans h)
  have B_10 := Lib.hid (B_9.out.ext h)
  have RA_10 := Lib.hid (RA_9.out.ext h)
  have VA_10 := Lib.hid (VA_9.out.ext h)
  have RT_10 := Lib.hid (RT_9.out.ext h)
  have VT_10 := Lib.hid (VT_9.out.ext h)
  have O_10 := Lib.hid (hx)
  clear h hx
  clear X_9 B_9 RA_9 VA_9 RT_9 VT_9
  go_wp2_with fail
  refine (half_pc p oC qC _ HP.out O_10.out).mono ?_
  rintro e w11 ⟨⟨aC, cC, rfl, hx⟩, h⟩
  have X_11 := Lib.hid (X_10.out.trans h)
  have B_11 := Lib.hid (B_10.out.ext h)
  have RA_11 := Lib.hid (RA_10.out.ext h)
  have VA_11 := Lib.hid (VA_10.out.ext h)
  have RT_11 := Lib.hid (RT_10.out.ext h)
  have VT_11 := Lib.hid (VT_10.out.ext h)
  have O_11 := Lib.hid (O_10.out.ext h)
  have RC_11 := Lib.hid (hx)
  clear h hx
  clear X_10 B_10 RA_10 VA_10 RT_10 VT_10 O_10
  clear O_11
  have E_ := (Ext.refl w11).alloc (.cells #[.int .i64 ((p.half).W : Int), .int .i64 ((p.half).H : Int), .slice (some aC) ((p.half).W * (p.half).H) cC] 24)
  have k0 := (B_11.out.ext E_).cell 0
  have k1 := (B_11.out.ext E_).cell 1
  have k2 := (B_11.out.ext E_).cell 2
  have EE := Lib.hid E_
  clear E_
  go_wp2_with fail
  clear k0 k1 k2
  refine calls_world (fun wz => Ext w11 wz ∧ Bk wz w11.heap.size #[.int .i64 ((p.half).W : Int), .int .i64 ((p.half).H : Int), .slice (some aC) ((p.half).W * (p.half).H) cC]) ⟨EE.out, Bk.at rfl⟩ ?_
  clear EE
  have NE_B_VC := Lib.hid (Nat.ne_of_lt (show w.heap.size < w11.heap.size from B_11.out.lt))
  have NE_VA_VC := Lib.hid (Nat.ne_of_lt (show w5.heap.size < w11.heap.size from VA_11.out.lt))
  have NE_VT_VC := Lib.hid (Nat.ne_of_lt (show w8.heap.size < w11.heap.size from VT_11.out.lt))
  have GE_VC := Lib.hid (X_11.out.size)
  rintro w12 ⟨hX, hB0⟩
  have X_12 := Lib.hid (X_11.out.trans hX)
  have B_12 := Lib.hid (B_11.out.ext hX)
  have RA_12 := Lib.hid (RA_11.out.ext hX)
  have VA_12 := Lib.hid (VA_11.out.ext hX)
  have RT_12 := Lib.hid (RT_11.out.ext hX)
  have VT_12 := Lib.hid (VT_11.out.ext hX)
  have RC_12 := Lib.hid (RC_11.out.ext hX)
  have VC_12 := Lib.hid (hB0)
  clear hX hB0 X_11 B_11 RA_11 VA_11 RT_11 VT_11 RC_11
  refine (own_pc p a c _ HP.out (HX.out.ext X_12.out)).mono ?_
  rintro e w13 ⟨⟨oD, qD, rfl, hx, _⟩, h⟩
  have X_13 := Lib.hid (X_12.out.trans h)
  have B_13 := Lib.hid (B_12.out.ext h)
  have RA_13 := Lib.hid (RA_12.out.ext h)
  have VA_13 := Lib.hid (VA_12.out.ext h)
  have RT_13 := Lib.hid (RT_12.out.ext h)
  have VT_13 := Lib.hid (VT_12.out.ext h)
  have RC_13 := Lib.hid (RC_12.out.ext h)
  have VC_13 := Lib.hid (VC_12.out.ext h)
  have O_13 := Lib.hid (hx)
  clear h hx
  clear X_12 B_12 RA_12 VA_12 RT_12 VT_12 RC_12 VC_12
  go_wp2_with fail
  refine (scale_pc p ww hh oD qD _ HP.out HS.out.1 HS.out.2 O_13.out).mono ?_
  rintro e w14 ⟨⟨aD, cD, rfl, hx⟩, h⟩
  have X_14 := Lib.hid (X_13.out.trans h)
  have B_14 := Lib.hid (B_13.out.ext h)
  have RA_14 := Lib.hid (RA_13.out.ext h)
  have VA_14 := Lib.hid (VA_13.out.ext h)
  have RT_14 := Lib.hid (RT_13.out.ext h)
  have VT_14 := Lib.hid (VT_13.out.ext h)
  have RC_14 := Lib.hid (RC_13.out.ext h)
  have VC_14 := Lib.hid (VC_13.out.ext h)
  have O_14 := Lib.hid (O_13.out.ext h)
  have RD_14 := Lib.hid (hx)
  clear h hx
  clear X_13 B_13 RA_13 VA_13 RT_13 VT_13 RC_13 VC_13 O_13
  clear O_14
  have E_ := (Ext.refl w14).alloc (.cells #[.int .i64 ((p.scale ww hh).W : Int), .int .i64 ((p.scale ww hh).H : Int), .slice (some aD) ((p.scale ww hh).W * (p.scale ww hh).H) cD] 24)
  have k0 := (B_14.out.ext E_).cell 0
  have k1 := (B_14.out.ext E_).cell 1
  have k2 := (B_14.out.ext E_).cell 2
  have EE := Lib.hid E_
  clear E_
  go_wp2_with fail
  clear k0 k1 k2
  refine calls_world (fun wz => Ext w14 wz ∧ Bk wz w14.heap.size #[.int .i64 ((p.scale ww hh).W : Int), .int .i64 ((p.scale ww hh).H : Int), .slice (some aD) ((p.scale ww hh).W * (p.scale ww hh).H) cD]) ⟨EE.out, Bk.at rfl⟩ ?_
  clear EE
  have NE_B_VD := Lib.hid (Nat.ne_of_lt (show w.heap.size < w14.heap.size from B_14.out.lt))
  have NE_VA_VD := Lib.hid (Nat.ne_of_lt (show w5.heap.size < w14.heap.size from VA_14.out.lt))
  have NE_VT_VD := Lib.hid (Nat.ne_of_lt (show w8.heap.size < w14.heap.size from VT_14.out.lt))
  have NE_VC_VD := Lib.hid (Nat.ne_of_lt (show w11.heap.size < w14.heap.size from VC_14.out.lt))
  have GE_VD := Lib.hid (X_14.out.size)
  rintro w15 ⟨hX, hB0⟩
  have X_15 := Lib.hid (X_14.out.trans hX)
  have B_15 := Lib.hid (B_14.out.ext hX)
  have RA_15 := Lib.hid (RA_14.out.ext hX)
  have VA_15 := Lib.hid (VA_14.out.ext hX)
  have RT_15 := Lib.hid (RT_14.out.ext hX)
  have VT_15 := Lib.hid (VT_14.out.ext hX)
  have RC_15 := Lib.hid (RC_14.out.ext hX)
  have VC_15 := Lib.hid (VC_14.out.ext hX)
  have RD_15 := Lib.hid (RD_14.out.ext hX)
  have VD_15 := Lib.hid (hB0)
  clear hX hB0 X_14 B_14 RA_14 VA_14 RT_14 VT_14 RC_14 VC_14 RD_14
  refine (refRight_any _ _ _ _ _ _).mono ?_
  rintro e w16 ⟨rfl, h⟩
  have X_16 := Lib.hid (X_15.out.trans h)
  have B_16 := Lib.hid (B_15.out.ext h)
  have RA_16 := Lib.hid (RA_15.out.ext h)
  have VA_16 := Lib.hid (VA_15.out.ext h)
  have RT_16 := Lib.hid (RT_15.out.ext h)
  have VT_16 := Lib.hid (VT_15.out.ext h)
  have RC_16 := Lib.hid (RC_15.out.ext h)
  have VC_16 := Lib.hid (VC_15.out.ext h)
  have RD_16 := Lib.hid (RD_15.out.ext h)
  have VD_16 := Lib.hid (VD_15.out.ext h)
  clear h
  clear X_15 B_15 RA_15 VA_15 RT_15 VT_15 RC_15 VC_15 RD_15 VD_15
  rw [HR.out]
  have k0 := B_16.out.cell 0
  have k1 := B_16.out.cell 1
  have k2 := B_16.out.cell 2
  go_wp2_with fail
  refine (own_pc p a c _ HP.out (HX.out.ext X_16.out)).mono ?_
  rintro e w17 ⟨⟨oU, cU, rfl, hx, _⟩, h⟩
  have X_17 := Lib.hid (X_16.out.trans h)
  have B_17 := Lib.hid (B_16.out.ext h)
  have RA_17 := Lib.hid (RA_16.out.ext h)
  have VA_17 := Lib.hid (VA_16.out.ext h)
  have RT_17 := Lib.hid (RT_16.out.ext h)
  have VT_17 := Lib.hid (VT_16.out.ext h)
  have RC_17 := Lib.hid (RC_16.out.ext h)
  have VC_17 := Lib.hid (VC_16.out.ext h)
  have RD_17 := Lib.hid (RD_16.out.ext h)
  have VD_17 := Lib.hid (VD_16.out.ext h)
  have RU_17 := Lib.hid (hx)
  clear h hx
  clear X_16 B_16 RA_16 VA_16 RT_16 VT_16 RC_16 VC_16 RD_16 VD_16
  clear k0 k1 k2
  have LT_RA := Lib.hid (Pxs.lt_blk RA_17.out (Nat.mul_pos ((Pc3.flip_ok HP.out down)).w1 ((Pc3.flip_ok HP.out down)).h1) _ rfl)
  have LT_RT := Lib.hid (Pxs.lt_blk RT_17.out (Nat.mul_pos ((Pc3.turns_ok HP.out (quar q))).w1 ((Pc3.turns_ok HP.out (quar q))).h1) _ rfl)
  have LT_RC := Lib.hid (Pxs.lt_blk RC_17.out (Nat.mul_pos ((Pc3.half_ok HP.out)).w1 ((Pc3.half_ok HP.out)).h1) _ rfl)
  have LT_RD := Lib.hid (Pxs.lt_blk RD_17.out (Nat.mul_pos ((Pc3.scale_ok HP.out HS.out.1 HS.out.2)).w1 ((Pc3.scale_ok HP.out HS.out.1 HS.out.2)).h1) _ rfl)
  have LT_RU := Lib.hid (Pxs.lt_blk RU_17.out (Nat.mul_pos (HP.out).w1 (HP.out).h1) _ rfl)
  obtain ⟨TU, hTU⟩ : ∃ T, w17.heap.size = T := ⟨_, rfl⟩
  have E_ := (Ext.refl w17).alloc (.cells #[.int .i64 ((p).W : Int), .int .i64 ((p).H : Int), .slice (some oU) ((p).W * (p).H) cU] 24)
  have EE := Lib.hid E_
  clear E_
  go_wp2_with fail
  refine wp_world (fun wz => Ext w17 wz ∧ Bk wz w17.heap.size #[.int .i64 ((p).W : Int), .int .i64 ((p).H : Int), .slice (some oU) ((p).W * (p).H) cU]) ⟨EE.out, Bk.at rfl⟩ ?_
  clear EE
  have NE_B_VU := Lib.hid (Nat.ne_of_lt (show w.heap.size < w17.heap.size from B_17.out.lt))
  have NE_VA_VU := Lib.hid (Nat.ne_of_lt (show w5.heap.size < w17.heap.size from VA_17.out.lt))
  have NE_VT_VU := Lib.hid (Nat.ne_of_lt (show w8.heap.size < w17.heap.size from VT_17.out.lt))
  have NE_VC_VU := Lib.hid (Nat.ne_of_lt (show w11.heap.size < w17.heap.size from VC_17.out.lt))
  have NE_VD_VU := Lib.hid (Nat.ne_of_lt (show w14.heap.size < w17.heap.size from VD_17.out.lt))
  have GE_VU := Lib.hid (X_17.out.size)
  rintro w18 ⟨hX, hB0⟩
  have X_18 := Lib.hid (X_17.out.trans hX)
  have B_18 := Lib.hid (B_17.out.ext hX)
  have RA_18 := Lib.hid (RA_17.out.ext hX)
  have VA_18 := Lib.hid (VA_17.out.ext hX)
  have RT_18 := Lib.hid (RT_17.out.ext hX)
  have VT_18 := Lib.hid (VT_17.out.ext hX)
  have RC_18 := Lib.hid (RC_17.out.ext hX)
  have VC_18 := Lib.hid (VC_17.out.ext hX)
  have RD_18 := Lib.hid (RD_17.out.ext hX)
  have VD_18 := Lib.hid (VD_17.out.ext hX)
  have RU_18 := Lib.hid (RU_17.out.ext hX)
  have VU_18 := Lib.hid (hB0)
  clear hX hB0 X_17 B_17 RA_17 VA_17 RT_17 VT_17 RC_17 VC_17 RD_17 VD_17 RU_17
  rw [hTU] at LT_RA LT_RT LT_RC LT_RD LT_RU
  rw [hTU] at *
  clear hTU
  have GEU := Lib.hid GE_VU.out
  have NE_B := Lib.hid (show w.heap.size ≠ TU from NE_B_VU.out)
  have NE_VA := Lib.hid (show w5.heap.size ≠ TU from NE_VA_VU.out)
  have NE_VT := Lib.hid (show w8.heap.size ≠ TU from NE_VT_VU.out)
  have NE_VC := Lib.hid (show w11.heap.size ≠ TU from NE_VC_VU.out)
  have NE_VD := Lib.hid (show w14.heap.size ≠ TU from NE_VD_VU.out)
  have NE_RA := Lib.hid (show aA.block ≠ TU from Nat.ne_of_lt LT_RA.out)
  have NE_RT := Lib.hid (show aT.block ≠ TU from Nat.ne_of_lt LT_RT.out)
  have NE_RC := Lib.hid (show aC.block ≠ TU from Nat.ne_of_lt LT_RC.out)
  have NE_RD := Lib.hid (show aD.block ≠ TU from Nat.ne_of_lt LT_RD.out)
  have LU_18 : Hid (oU.block ≠ TU) := Lib.hid (Nat.ne_of_lt LT_RU.out)
  go_loopw [22] (fun k wr => ∃ (K : Int) (m : Nat) (a3 : Addr) (c3 : Nat), k = .int .i64 K ∧ turnI q K m ∧ Hid (Ext w wr) ∧ Hid (Bk wr (w.heap.size) #[.int .i64 ((p).W : Int), .int .i64 ((p).H : Int), .slice (some a) ((p).W * (p).H) c]) ∧ Hid (Bk wr (w5.heap.size) #[.int .i64 ((p).W : Int), .int .i64 ((p).H : Int), .slice (some aA) ((p).W * (p).H) cA]) ∧ Hid (Bk wr (w8.heap.size) #[.int .i64 ((p.turns (quar q)).W : Int), .int .i64 ((p.turns (quar q)).H : Int), .slice (some aT) ((p.turns (quar q)).W * (p.turns (quar q)).H) cT]) ∧ Hid (Bk wr (w11.heap.size) #[.int .i64 ((p.half).W : Int), .int .i64 ((p.half).H : Int), .slice (some aC) ((p.half).W * (p.half).H) cC]) ∧ Hid (Bk wr (w14.heap.size) #[.int .i64 ((p.scale ww hh).W : Int), .int .i64 ((p.scale ww hh).H : Int), .slice (some aD) ((p.scale ww hh).W * (p.scale ww hh).H) cD]) ∧ Hid (Pxs wr (some aA) ((p.flip down).W * (p.flip down).H) (p.flip down).px) ∧ Hid (Pxs wr (some aT) ((p.turns (quar q)).W * (p.turns (quar q)).H) (p.turns (quar q)).px) ∧ Hid (Pxs wr (some aC) ((p.half).W * (p.half).H) (p.half).px) ∧ Hid (Pxs wr (some aD) ((p.scale ww hh).W * (p.scale ww hh).H) (p.scale ww hh).px) ∧ Hid (Bk wr TU #[.int .i64 ((p.turns (3 * m)).W : Int), .int .i64 ((p.turns (3 * m)).H : Int), .slice (some a3) ((p.turns (3 * m)).W * (p.turns (3 * m)).H) c3]) ∧ Hid (Pxs wr (some a3) ((p.turns (3 * m)).W * (p.turns (3 * m)).H) (p.turns (3 * m)).px) ∧ Hid (a3.block ≠ TU)) (fun k _ => (if 0 < intOf k then 4 - intOf k else - intOf k).toNat)
  case atStart => exact ⟨_, 0, oU, cU, by rfl, turnI.start q, X_18, B_18, VA_18, VT_18, VC_18, VD_18, RA_18, RT_18, RC_18, RD_18, VU_18, RU_18, LU_18⟩
  case round =>
    clear X_18 B_18 VA_18 VT_18 VC_18 VD_18 RA_18 RT_18 RC_18 RD_18 VU_18 RU_18 LU_18
    obtain ⟨K, m, a3, c3, rfl, hI, X_50, B_50, VA_50, VT_50, VC_50, VD_50, RA_50, RT_50, RC_50, RD_50, VU_50, RU_50, LU_50⟩ := hrel
    obtain ⟨hI0, hI1, hI2⟩ := id hI
    have HI := Lib.hid hI
    clear hI hI0
    by_cases hK : K = 0
    · subst hK
      have FS := Lib.hid (HI.out.fin p)
      clear HI hI1 hI2 LU_50
      go_upto_region 18 with fail
      have k0 := VA_50.out.cell 0
      have k1 := VA_50.out.cell 1
      have k2 := VA_50.out.cell 2
      have k3 := B_50.out.cell 0
      have k4 := B_50.out.cell 1
      have k5 := B_50.out.cell 2
      have k6 := VT_50.out.cell 0
      have k7 := VT_50.out.cell 1
      have k8 := VT_50.out.cell 2
      have k9 := VU_50.out.cell 0
      have k10 := VU_50.out.cell 1
      have k11 := VU_50.out.cell 2
      have k12 := VC_50.out.cell 0
      have k13 := VC_50.out.cell 1
      have k14 := VC_50.out.cell 2
      refine wp_region_held_drew (S := fun w' => w'.cell? ⟨w5.heap.size, 0, none⟩ = some (.int .i64 ((p).W : Int)) ∧ w'.cell? ⟨w5.heap.size, 1, none⟩ = some (.int .i64 ((p).H : Int)) ∧ w'.cell? ⟨w5.heap.size, 2, none⟩ = some (.slice (some aA) ((p).W * (p).H) cA) ∧ w'.cell? ⟨w.heap.size, 0, none⟩ = some (.int .i64 ((p).W : Int)) ∧ w'.cell? ⟨w.heap.size, 1, none⟩ = some (.int .i64 ((p).H : Int)) ∧ w'.cell? ⟨w.heap.size, 2, none⟩ = some (.slice (some a) ((p).W * (p).H) c) ∧ w'.cell? ⟨w8.heap.size, 0, none⟩ = some (.int .i64 ((p.turns (quar q)).W : Int)) ∧ w'.cell? ⟨w8.heap.size, 1, none⟩ = some (.int .i64 ((p.turns (quar q)).H : Int)) ∧ w'.cell? ⟨w8.heap.size, 2, none⟩ = some (.slice (some aT) ((p.turns (quar q)).W * (p.turns (quar q)).H) cT) ∧ w'.cell? ⟨TU, 0, none⟩ = some (.int .i64 ((p.turns (3 * m)).W : Int)) ∧ w'.cell? ⟨TU, 1, none⟩ = some (.int .i64 ((p.turns (3 * m)).H : Int)) ∧ w'.cell? ⟨TU, 2, none⟩ = some (.slice (some a3) ((p.turns (3 * m)).W * (p.turns (3 * m)).H) c3) ∧ w'.cell? ⟨w11.heap.size, 0, none⟩ = some (.int .i64 ((p.half).W : Int)) ∧ w'.cell? ⟨w11.heap.size, 1, none⟩ = some (.int .i64 ((p.half).H : Int)) ∧ w'.cell? ⟨w11.heap.size, 2, none⟩ = some (.slice (some aC) ((p.half).W * (p.half).H) cC)) (by kernel_rfl) ⟨VA_50.out.cell 0, VA_50.out.cell 1, VA_50.out.cell 2, B_50.out.cell 0, B_50.out.cell 1, B_50.out.cell 2, VT_50.out.cell 0, VT_50.out.cell 1, VT_50.out.cell 2, VU_50.out.cell 0, VU_50.out.cell 1, VU_50.out.cell 2, VC_50.out.cell 0, VC_50.out.cell 1, VC_50.out.cell 2⟩ (fun hHeld => ?_)
      clear hHeld
      clear k0 k1 k2 k3 k4 k5 k6 k7 k8 k9 k10 k11 k12 k13 k14
      refine anyH_world (fun wz => Ext wr wz) (show Ext wr wr.drew from Below.drew (Ext.refl wr)) ?_
      rintro w51 h
      have X_51 := Lib.hid (X_50.out.trans h)
      have B_51 := Lib.hid (B_50.out.ext h)
      have VA_51 := Lib.hid (VA_50.out.ext h)
      have VT_51 := Lib.hid (VT_50.out.ext h)
      have VC_51 := Lib.hid (VC_50.out.ext h)
      have VD_51 := Lib.hid (VD_50.out.ext h)
      have VU_51 := Lib.hid (VU_50.out.ext h)
      have RA_51 := Lib.hid (RA_50.out.ext h)
      have RT_51 := Lib.hid (RT_50.out.ext h)
      have RC_51 := Lib.hid (RC_50.out.ext h)
      have RD_51 := Lib.hid (RD_50.out.ext h)
      have RU_51 := Lib.hid (RU_50.out.ext h)
      clear h X_50 B_50 VA_50 VT_50 VC_50 VD_50 VU_50 RA_50 RT_50 RC_50 RD_50 RU_50
      have hHeld : w51.cell? ⟨w5.heap.size, 0, none⟩ = some (.int .i64 ((p).W : Int)) ∧ w51.cell? ⟨w5.heap.size, 1, none⟩ = some (.int .i64 ((p).H : Int)) ∧ w51.cell? ⟨w5.heap.size, 2, none⟩ = some (.slice (some aA) ((p).W * (p).H) cA) ∧ w51.cell? ⟨w.heap.size, 0, none⟩ = some (.int .i64 ((p).W : Int)) ∧ w51.cell? ⟨w.heap.size, 1, none⟩ = some (.int .i64 ((p).H : Int)) ∧ w51.cell? ⟨w.heap.size, 2, none⟩ = some (.slice (some a) ((p).W * (p).H) c) ∧ w51.cell? ⟨w8.heap.size, 0, none⟩ = some (.int .i64 ((p.turns (quar q)).W : Int)) ∧ w51.cell? ⟨w8.heap.size, 1, none⟩ = some (.int .i64 ((p.turns (quar q)).H : Int)) ∧ w51.cell? ⟨w8.heap.size, 2, none⟩ = some (.slice (some aT) ((p.turns (quar q)).W * (p.turns (quar q)).H) cT) ∧ w51.cell? ⟨TU, 0, none⟩ = some (.int .i64 ((p.turns (3 * m)).W : Int)) ∧ w51.cell? ⟨TU, 1, none⟩ = some (.int .i64 ((p.turns (3 * m)).H : Int)) ∧ w51.cell? ⟨TU, 2, none⟩ = some (.slice (some a3) ((p.turns (3 * m)).W * (p.turns (3 * m)).H) c3) ∧ w51.cell? ⟨w11.heap.size, 0, none⟩ = some (.int .i64 ((p.half).W : Int)) ∧ w51.cell? ⟨w11.heap.size, 1, none⟩ = some (.int .i64 ((p.half).H : Int)) ∧ w51.cell? ⟨w11.heap.size, 2, none⟩ = some (.slice (some aC) ((p.half).W * (p.half).H) cC) := ⟨VA_51.out.cell 0, VA_51.out.cell 1, VA_51.out.cell 2, B_51.out.cell 0, B_51.out.cell 1, B_51.out.cell 2, VT_51.out.cell 0, VT_51.out.cell 1, VT_51.out.cell 2, VU_51.out.cell 0, VU_51.out.cell 1, VU_51.out.cell 2, VC_51.out.cell 0, VC_51.out.cell 1, VC_51.out.cell 2⟩
      refine wpAnyH_take (i := 0) (v := ?_) rfl (by kernel_rfl) (by kernel_rfl) (by kernel_rfl) (fun _ _ _ h => h) (Or.inl ⟨by kernel_rfl, ?_⟩) hHeld ?_
      rotate_left
      · intro w hSw
        (try dsimp only at hSw)
        go_split_ands
        go_simp
        (try with_reducible rfl)
      try simp only [Act.put, List.getElem_toArray, List.getElem_cons_succ, List.getElem_cons_zero, List.setIfInBounds_toArray, List.set_cons_zero, List.set_cons_succ]
      refine wpAnyH_take (i := 1) (v := ?_) rfl (by kernel_rfl) (by kernel_rfl) (by kernel_rfl) (fun _ _ _ h => h) (Or.inl ⟨by kernel_rfl, ?_⟩) hHeld ?_
      rotate_left
      · intro w hSw
        (try dsimp only at hSw)
        go_split_ands
        go_simp
        (try with_reducible rfl)
      try simp only [Act.put, List.getElem_toArray, List.getElem_cons_succ, List.getElem_cons_zero, List.setIfInBounds_toArray, List.set_cons_zero, List.set_cons_succ]
      refine wpAnyH_take (i := 2) (v := ?_) rfl (by kernel_rfl) (by kernel_rfl) (by kernel_rfl) (fun _ _ _ h => h) (Or.inl ⟨by kernel_rfl, ?_⟩) hHeld ?_
      rotate_left
      · intro w hSw
        (try dsimp only at hSw)
        go_split_ands
        go_simp
        (try with_reducible rfl)
      try simp only [Act.put, List.getElem_toArray, List.getElem_cons_succ, List.getElem_cons_zero, List.setIfInBounds_toArray, List.set_cons_zero, List.set_cons_succ]
      refine wpAnyH_take (i := 3) (v := ?_) rfl (by kernel_rfl) (by kernel_rfl) (by kernel_rfl) (fun _ _ _ h => h) (Or.inl ⟨by kernel_rfl, ?_⟩) hHeld ?_
      rotate_left
      · intro w hSw
        (try dsimp only at hSw)
        go_split_ands
        go_simp
        (try with_reducible rfl)
      try simp only [Act.put, List.getElem_toArray, List.getElem_cons_succ, List.getElem_cons_zero, List.setIfInBounds_toArray, List.set_cons_zero, List.set_cons_succ]
      refine wpAnyH_ready (rs := [4]) (by kernel_rfl) (by simp) ?_
      refine AllReadyH.cons rfl (fun KK hK => ?_) AllReadyH.nil
      clear hHeld
      go_simp
      refine (flipOf_pc p down a c _ HP.out (HX.out.ext X_51.out)).mono ?_
      rintro e w52 ⟨⟨af, cf, rfl, hx⟩, h⟩
      have hxx := Lib.hid hx
      clear hx
      have X_52 := Lib.hid (X_51.out.trans h)
      have B_52 := Lib.hid (B_51.out.ext h)
      have VA_52 := Lib.hid (VA_51.out.ext h)
      have VT_52 := Lib.hid (VT_51.out.ext h)
      have VC_52 := Lib.hid (VC_51.out.ext h)
      have VD_52 := Lib.hid (VD_51.out.ext h)
      have VU_52 := Lib.hid (VU_51.out.ext h)
      have RA_52 := Lib.hid (RA_51.out.ext h)
      have RT_52 := Lib.hid (RT_51.out.ext h)
      have RC_52 := Lib.hid (RC_51.out.ext h)
      have RD_52 := Lib.hid (RD_51.out.ext h)
      have RU_52 := Lib.hid (RU_51.out.ext h)
      clear h X_51 B_51 VA_51 VT_51 VC_51 VD_51 VU_51 RA_51 RT_51 RC_51 RD_51 RU_51
      have RF_52 := Lib.hid (hxx.out)
      go_simp
      refine hK.out _ _ ⟨VA_52.out.cell 0, VA_52.out.cell 1, VA_52.out.cell 2, B_52.out.cell 0, B_52.out.cell 1, B_52.out.cell 2, VT_52.out.cell 0, VT_52.out.cell 1, VT_52.out.cell 2, VU_52.out.cell 0, VU_52.out.cell 1, VU_52.out.cell 2, VC_52.out.cell 0, VC_52.out.cell 1, VC_52.out.cell 2⟩ (fun hHeld => ?_)
      clear hK KK
      try simp only [Act.put, List.getElem_toArray, List.getElem_cons_succ, List.getElem_cons_zero, List.setIfInBounds_toArray, List.set_cons_zero, List.set_cons_succ]
      refine wpAnyH_ready (rs := [5]) (by kernel_rfl) (by simp) ?_
      refine AllReadyH.cons rfl (fun KK hK => ?_) AllReadyH.nil
      clear hHeld
      go_simp
      refine (told_pc (p.flip down) (p.flip down) aA af cA cf _ (Pc3.flip_ok HP.out down) (Pc3.Same.refl _) RA_52.out RF_52.out).mono ?_
      rintro e w53 ⟨rfl, h⟩
      have X_53 := Lib.hid (X_52.out.trans h)
      have B_53 := Lib.hid (B_52.out.ext h)
      have VA_53 := Lib.hid (VA_52.out.ext h)
      have VT_53 := Lib.hid (VT_52.out.ext h)
      have VC_53 := Lib.hid (VC_52.out.ext h)
      have VD_53 := Lib.hid (VD_52.out.ext h)
      have VU_53 := Lib.hid (VU_52.out.ext h)
      have RA_53 := Lib.hid (RA_52.out.ext h)
      have RT_53 := Lib.hid (RT_52.out.ext h)
      have RC_53 := Lib.hid (RC_52.out.ext h)
      have RD_53 := Lib.hid (RD_52.out.ext h)
      have RU_53 := Lib.hid (RU_52.out.ext h)
      have RF_53 := Lib.hid (RF_52.out.ext h)
      clear h X_52 B_52 VA_52 VT_52 VC_52 VD_52 VU_52 RA_52 RT_52 RC_52 RD_52 RU_52 RF_52
      go_simp
      refine hK.out _ _ ⟨VA_53.out.cell 0, VA_53.out.cell 1, VA_53.out.cell 2, B_53.out.cell 0, B_53.out.cell 1, B_53.out.cell 2, VT_53.out.cell 0, VT_53.out.cell 1, VT_53.out.cell 2, VU_53.out.cell 0, VU_53.out.cell 1, VU_53.out.cell 2, VC_53.out.cell 0, VC_53.out.cell 1, VC_53.out.cell 2⟩ (fun hHeld => ?_)
      clear hK KK
      try simp only [Act.put, List.getElem_toArray, List.getElem_cons_succ, List.getElem_cons_zero, List.setIfInBounds_toArray, List.set_cons_zero, List.set_cons_succ]
      refine wpAnyH_take (i := 6) (v := ?_) rfl (by kernel_rfl) (by kernel_rfl) (by kernel_rfl) (fun _ _ _ h => h) (Or.inl ⟨by kernel_rfl, ?_⟩) hHeld ?_
      rotate_left
      · intro w hSw
        (try dsimp only at hSw)
        go_split_ands
        go_simp
        (try with_reducible rfl)
      try simp only [Act.put, List.getElem_toArray, List.getElem_cons_succ, List.getElem_cons_zero, List.setIfInBounds_toArray, List.set_cons_zero, List.set_cons_succ]
      refine wpAnyH_take (i := 7) (v := ?_) rfl (by kernel_rfl) (by kernel_rfl) (by kernel_rfl) (fun _ _ _ h => h) (Or.inl ⟨by kernel_rfl, ?_⟩) hHeld ?_
      rotate_left
      · intro w hSw
        (try dsimp only at hSw)
        go_split_ands
        go_simp
        (try with_reducible rfl)
      try simp only [Act.put, List.getElem_toArray, List.getElem_cons_succ, List.getElem_cons_zero, List.setIfInBounds_toArray, List.set_cons_zero, List.set_cons_succ]
      refine wpAnyH_take (i := 8) (v := ?_) rfl (by kernel_rfl) (by kernel_rfl) (by kernel_rfl) (fun _ _ _ h => h) (Or.inl ⟨by kernel_rfl, ?_⟩) hHeld ?_
      rotate_left
      · intro w hSw
        (try dsimp only at hSw)
        go_split_ands
        go_simp
        (try with_reducible rfl)
      try simp only [Act.put, List.getElem_toArray, List.getElem_cons_succ, List.getElem_cons_zero, List.setIfInBounds_toArray, List.set_cons_zero, List.set_cons_succ]
      refine wpAnyH_take (i := 9) (v := ?_) rfl (by kernel_rfl) (by kernel_rfl) (by kernel_rfl) (fun _ _ _ h => h) (Or.inl ⟨by kernel_rfl, ?_⟩) hHeld ?_
      rotate_left
      · intro w hSw
        (try dsimp only at hSw)
        go_split_ands
        go_simp
        (try with_reducible rfl)
      try simp only [Act.put, List.getElem_toArray, List.getElem_cons_succ, List.getElem_cons_zero, List.setIfInBounds_toArray, List.set_cons_zero, List.set_cons_succ]
      refine wpAnyH_take (i := 10) (v := ?_) rfl (by kernel_rfl) (by kernel_rfl) (by kernel_rfl) (fun _ _ _ h => h) (Or.inl ⟨by kernel_rfl, ?_⟩) hHeld ?_
      rotate_left
      · intro w hSw
        (try dsimp only at hSw)
        go_split_ands
        go_simp
        (try with_reducible rfl)
      try simp only [Act.put, List.getElem_toArray, List.getElem_cons_succ, List.getElem_cons_zero, List.setIfInBounds_toArray, List.set_cons_zero, List.set_cons_succ]
      refine wpAnyH_ready (rs := [11]) (by kernel_rfl) (by simp) ?_
      refine AllReadyH.cons rfl (fun KK hK => ?_) AllReadyH.nil
      clear hHeld
      go_simp
      refine (told_pc (p.turns (quar q)) (p.turns (3 * m)) aT a3 cT c3 _ (Pc3.turns_ok HP.out _) FS.out RT_53.out RU_53.out).mono ?_
      rintro e w54 ⟨rfl, h⟩
      have X_54 := Lib.hid (X_53.out.trans h)
      have B_54 := Lib.hid (B_53.out.ext h)
      have VA_54 := Lib.hid (VA_53.out.ext h)
      have VT_54 := Lib.hid (VT_53.out.ext h)
      have VC_54 := Lib.hid (VC_53.out.ext h)
      have VD_54 := Lib.hid (VD_53.out.ext h)
      have VU_54 := Lib.hid (VU_53.out.ext h)
      have RA_54 := Lib.hid (RA_53.out.ext h)
      have RT_54 := Lib.hid (RT_53.out.ext h)
      have RC_54 := Lib.hid (RC_53.out.ext h)
      have RD_54 := Lib.hid (RD_53.out.ext h)
      have RU_54 := Lib.hid (RU_53.out.ext h)
      have RF_54 := Lib.hid (RF_53.out.ext h)
      clear h X_53 B_53 VA_53 VT_53 VC_53 VD_53 VU_53 RA_53 RT_53 RC_53 RD_53 RU_53 RF_53
      go_simp
      refine hK.out _ _ ⟨VA_54.out.cell 0, VA_54.out.cell 1, VA_54.out.cell 2, B_54.out.cell 0, B_54.out.cell 1, B_54.out.cell 2, VT_54.out.cell 0, VT_54.out.cell 1, VT_54.out.cell 2, VU_54.out.cell 0, VU_54.out.cell 1, VU_54.out.cell 2, VC_54.out.cell 0, VC_54.out.cell 1, VC_54.out.cell 2⟩ (fun hHeld => ?_)
      clear hK KK
      try simp only [Act.put, List.getElem_toArray, List.getElem_cons_succ, List.getElem_cons_zero, List.setIfInBounds_toArray, List.set_cons_zero, List.set_cons_succ]
      refine wpAnyH_take (i := 12) (v := ?_) rfl (by kernel_rfl) (by kernel_rfl) (by kernel_rfl) (fun _ _ _ h => h) (Or.inl ⟨by kernel_rfl, ?_⟩) hHeld ?_
      rotate_left
      · intro w hSw
        (try dsimp only at hSw)
        go_split_ands
        go_simp
        (try with_reducible rfl)
      try simp only [Act.put, List.getElem_toArray, List.getElem_cons_succ, List.getElem_cons_zero, List.setIfInBounds_toArray, List.set_cons_zero, List.set_cons_succ]
      refine wpAnyH_take (i := 13) (v := ?_) rfl (by kernel_rfl) (by kernel_rfl) (by kernel_rfl) (fun _ _ _ h => h) (Or.inl ⟨by kernel_rfl, ?_⟩) hHeld ?_
      rotate_left
      · intro w hSw
        (try dsimp only at hSw)
        go_split_ands
        go_simp
        (try with_reducible rfl)
      try simp only [Act.put, List.getElem_toArray, List.getElem_cons_succ, List.getElem_cons_zero, List.setIfInBounds_toArray, List.set_cons_zero, List.set_cons_succ]
      refine wpAnyH_take (i := 14) (v := ?_) rfl (by kernel_rfl) (by kernel_rfl) (by kernel_rfl) (fun _ _ _ h => h) (Or.inl ⟨by kernel_rfl, ?_⟩) hHeld ?_
      rotate_left
      · intro w hSw
        (try dsimp only at hSw)
        go_split_ands
        go_simp
        (try with_reducible rfl)
      try simp only [Act.put, List.getElem_toArray, List.getElem_cons_succ, List.getElem_cons_zero, List.setIfInBounds_toArray, List.set_cons_zero, List.set_cons_succ]
      refine wpAnyH_take (i := 15) (v := ?_) rfl (by kernel_rfl) (by kernel_rfl) (by kernel_rfl) (fun _ _ _ h => h) (Or.inl ⟨by kernel_rfl, ?_⟩) hHeld ?_
      rotate_left
      · intro w hSw
        (try dsimp only at hSw)
        go_split_ands
        go_simp
        (try with_reducible rfl)
      try simp only [Act.put, List.getElem_toArray, List.getElem_cons_succ, List.getElem_cons_zero, List.setIfInBounds_toArray, List.set_cons_zero, List.set_cons_succ]
      refine wpAnyH_take (i := 16) (v := ?_) rfl (by kernel_rfl) (by kernel_rfl) (by kernel_rfl) (fun _ _ _ h => h) (Or.inl ⟨by kernel_rfl, ?_⟩) hHeld ?_
      rotate_left
      · intro w hSw
        (try dsimp only at hSw)
        go_split_ands
        go_simp
        (try with_reducible rfl)
      try simp only [Act.put, List.getElem_toArray, List.getElem_cons_succ, List.getElem_cons_zero, List.setIfInBounds_toArray, List.set_cons_zero, List.set_cons_succ]
      refine wpAnyH_take (i := 17) (v := ?_) rfl (by kernel_rfl) (by kernel_rfl) (by kernel_rfl) (fun _ _ _ h => h) (Or.inl ⟨by kernel_rfl, ?_⟩) hHeld ?_
      rotate_left
      · intro w hSw
        (try dsimp only at hSw)
        go_split_ands
        go_simp
        (try with_reducible rfl)
      try simp only [Act.put, List.getElem_toArray, List.getElem_cons_succ, List.getElem_cons_zero, List.setIfInBounds_toArray, List.set_cons_zero, List.set_cons_succ]
      refine wpAnyH_ready (rs := [18]) (by kernel_rfl) (by simp) ?_
      refine AllReadyH.cons rfl (fun KK hK => ?_) AllReadyH.nil
      clear hHeld
      go_simp
      refine (halfOf_pc p a c _ HP.out (HX.out.ext X_54.out)).mono ?_
      rintro e w55 ⟨⟨ah, ch, rfl, hx⟩, h⟩
      have hxy := Lib.hid hx
      clear hx
      have X_55 := Lib.hid (X_54.out.trans h)
      have B_55 := Lib.hid (B_54.out.ext h)
      have VA_55 := Lib.hid (VA_54.out.ext h)
      have VT_55 := Lib.hid (VT_54.out.ext h)
      have VC_55 := Lib.hid (VC_54.out.ext h)
      have VD_55 := Lib.hid (VD_54.out.ext h)
      have VU_55 := Lib.hid (VU_54.out.ext h)
      have RA_55 := Lib.hid (RA_54.out.ext h)
      have RT_55 := Lib.hid (RT_54.out.ext h)
      have RC_55 := Lib.hid (RC_54.out.ext h)
      have RD_55 := Lib.hid (RD_54.out.ext h)
      have RU_55 := Lib.hid (RU_54.out.ext h)
      have RF_55 := Lib.hid (RF_54.out.ext h)
      clear h X_54 B_54 VA_54 VT_54 VC_54 VD_54 VU_54 RA_54 RT_54 RC_54 RD_54 RU_54 RF_54
      have RH_55 := Lib.hid (hxy.out)
      go_simp
      refine hK.out _ _ ⟨VA_55.out.cell 0, VA_55.out.cell 1, VA_55.out.cell 2, B_55.out.cell 0, B_55.out.cell 1, B_55.out.cell 2, VT_55.out.cell 0, VT_55.out.cell 1, VT_55.out.cell 2, VU_55.out.cell 0, VU_55.out.cell 1, VU_55.out.cell 2, VC_55.out.cell 0, VC_55.out.cell 1, VC_55.out.cell 2⟩ (fun hHeld => ?_)
      clear hK KK
      try simp only [Act.put, List.getElem_toArray, List.getElem_cons_succ, List.getElem_cons_zero, List.setIfInBounds_toArray, List.set_cons_zero, List.set_cons_succ]
      refine wpAnyH_ready (rs := [19]) (by kernel_rfl) (by simp) ?_
      refine AllReadyH.cons rfl (fun KK hK => ?_) AllReadyH.nil
      clear hHeld
      go_simp
      refine (told_pc (p.half) (p.half) aC ah cC ch _ (Pc3.half_ok HP.out) (Pc3.Same.refl _) RC_55.out RH_55.out).mono ?_
      rintro e w56 ⟨rfl, h⟩
      have X_56 := Lib.hid (X_55.out.trans h)
      have B_56 := Lib.hid (B_55.out.ext h)
      have VA_56 := Lib.hid (VA_55.out.ext h)
      have VT_56 := Lib.hid (VT_55.out.ext h)
      have VC_56 := Lib.hid (VC_55.out.ext h)
      have VD_56 := Lib.hid (VD_55.out.ext h)
      have VU_56 := Lib.hid (VU_55.out.ext h)
      have RA_56 := Lib.hid (RA_55.out.ext h)
      have RT_56 := Lib.hid (RT_55.out.ext h)
      have RC_56 := Lib.hid (RC_55.out.ext h)
      have RD_56 := Lib.hid (RD_55.out.ext h)
      have RU_56 := Lib.hid (RU_55.out.ext h)
      have RF_56 := Lib.hid (RF_55.out.ext h)
      have RH_56 := Lib.hid (RH_55.out.ext h)
      clear h X_55 B_55 VA_55 VT_55 VC_55 VD_55 VU_55 RA_55 RT_55 RC_55 RD_55 RU_55 RF_55 RH_55
      go_simp
      refine hK.out _ _ ⟨VA_56.out.cell 0, VA_56.out.cell 1, VA_56.out.cell 2, B_56.out.cell 0, B_56.out.cell 1, B_56.out.cell 2, VT_56.out.cell 0, VT_56.out.cell 1, VT_56.out.cell 2, VU_56.out.cell 0, VU_56.out.cell 1, VU_56.out.cell 2, VC_56.out.cell 0, VC_56.out.cell 1, VC_56.out.cell 2⟩ (fun hHeld => ?_)
      clear hK KK
      try simp only [Act.put, List.getElem_toArray, List.getElem_cons_succ, List.getElem_cons_zero, List.setIfInBounds_toArray, List.set_cons_zero, List.set_cons_succ]
      refine wpAnyH_take (i := 20) (v := ?_) rfl (by kernel_rfl) (by kernel_rfl) (by kernel_rfl) (fun _ _ _ h => h) (Or.inl ⟨by kernel_rfl, ?_⟩) hHeld ?_
      rotate_left
      · intro w hSw
        (try dsimp only at hSw)
        go_split_ands
        go_simp
        (try with_reducible rfl)
      try simp only [Act.put, List.getElem_toArray, List.getElem_cons_succ, List.getElem_cons_zero, List.setIfInBounds_toArray, List.set_cons_zero, List.set_cons_succ]
      refine wpAnyH_take (i := 21) (v := ?_) rfl (by kernel_rfl) (by kernel_rfl) (by kernel_rfl) (fun _ _ _ h => h) (Or.inl ⟨by kernel_rfl, ?_⟩) hHeld ?_
      rotate_left
      · intro w hSw
        (try dsimp only at hSw)
        go_split_ands
        go_simp
        (try with_reducible rfl)
      try simp only [Act.put, List.getElem_toArray, List.getElem_cons_succ, List.getElem_cons_zero, List.setIfInBounds_toArray, List.set_cons_zero, List.set_cons_succ]
      refine wpAnyH_done (by kernel_rfl) ?_ _
      clear hHeld
      go_wp2_with fail
      refine (refSide_any _ _).mono ?_
      rintro e w9 ⟨rfl, rfl⟩
      rw [sideB_of HS.out.1]
      go_wp2_with fail
      refine (refSide_any _ _).mono ?_
      rintro e w9 ⟨rfl, rfl⟩
      rw [sideB_of HS.out.2]
      go_upto_region 22 with fail
      have k0 := VD_56.out.cell 0
      have k1 := VD_56.out.cell 1
      have k2 := VD_56.out.cell 2
      have k3 := B_56.out.cell 0
      have k4 := B_56.out.cell 1
      have k5 := B_56.out.cell 2
      refine wp_region_held_drew (S := fun w' => w'.cell? ⟨w14.heap.size, 0, none⟩ = some (.int .i64 ((p.scale ww hh).W : Int)) ∧ w'.cell? ⟨w14.heap.size, 1, none⟩ = some (.int .i64 ((p.scale ww hh).H : Int)) ∧ w'.cell? ⟨w14.heap.size, 2, none⟩ = some (.slice (some aD) ((p.scale ww hh).W * (p.scale ww hh).H) cD) ∧ w'.cell? ⟨w.heap.size, 0, none⟩ = some (.int .i64 ((p).W : Int)) ∧ w'.cell? ⟨w.heap.size, 1, none⟩ = some (.int .i64 ((p).H : Int)) ∧ w'.cell? ⟨w.heap.size, 2, none⟩ = some (.slice (some a) ((p).W * (p).H) c)) (by kernel_rfl) ⟨VD_56.out.cell 0, VD_56.out.cell 1, VD_56.out.cell 2, B_56.out.cell 0, B_56.out.cell 1, B_56.out.cell 2⟩ (fun hHeld => ?_)
      clear hHeld
      clear k0 k1 k2 k3 k4 k5
      refine anyH_world (fun wz => Ext w56 wz) (show Ext w56 w56.drew from Below.drew (Ext.refl w56)) ?_
      rintro w57 h
      have X_57 := Lib.hid (X_56.out.trans h)
      have B_57 := Lib.hid (B_56.out.ext h)
      have VA_57 := Lib.hid (VA_56.out.ext h)
      have VT_57 := Lib.hid (VT_56.out.ext h)
      have VC_57 := Lib.hid (VC_56.out.ext h)
      have VD_57 := Lib.hid (VD_56.out.ext h)
      have VU_57 := Lib.hid (VU_56.out.ext h)
      have RA_57 := Lib.hid (RA_56.out.ext h)
      have RT_57 := Lib.hid (RT_56.out.ext h)
      have RC_57 := Lib.hid (RC_56.out.ext h)
      have RD_57 := Lib.hid (RD_56.out.ext h)
      have RU_57 := Lib.hid (RU_56.out.ext h)
      have RF_57 := Lib.hid (RF_56.out.ext h)
      have RH_57 := Lib.hid (RH_56.out.ext h)
      clear h X_56 B_56 VA_56 VT_56 VC_56 VD_56 VU_56 RA_56 RT_56 RC_56 RD_56 RU_56 RF_56 RH_56
      have hHeld : w57.cell? ⟨w14.heap.size, 0, none⟩ = some (.int .i64 ((p.scale ww hh).W : Int)) ∧ w57.cell? ⟨w14.heap.size, 1, none⟩ = some (.int .i64 ((p.scale ww hh).H : Int)) ∧ w57.cell? ⟨w14.heap.size, 2, none⟩ = some (.slice (some aD) ((p.scale ww hh).W * (p.scale ww hh).H) cD) ∧ w57.cell? ⟨w.heap.size, 0, none⟩ = some (.int .i64 ((p).W : Int)) ∧ w57.cell? ⟨w.heap.size, 1, none⟩ = some (.int .i64 ((p).H : Int)) ∧ w57.cell? ⟨w.heap.size, 2, none⟩ = some (.slice (some a) ((p).W * (p).H) c) := ⟨VD_57.out.cell 0, VD_57.out.cell 1, VD_57.out.cell 2, B_57.out.cell 0, B_57.out.cell 1, B_57.out.cell 2⟩
      refine wpAnyH_take (i := 0) (v := ?_) rfl (by kernel_rfl) (by kernel_rfl) (by kernel_rfl) (fun _ _ _ h => h) (Or.inl ⟨by kernel_rfl, ?_⟩) hHeld ?_
      rotate_left
      · intro w hSw
        (try dsimp only at hSw)
        go_split_ands
        go_simp
        (try with_reducible rfl)
      try simp only [Act.put, List.getElem_toArray, List.getElem_cons_succ, List.getElem_cons_zero, List.setIfInBounds_toArray, List.set_cons_zero, List.set_cons_succ]
      refine wpAnyH_take (i := 1) (v := ?_) rfl (by kernel_rfl) (by kernel_rfl) (by kernel_rfl) (fun _ _ _ h => h) (Or.inl ⟨by kernel_rfl, ?_⟩) hHeld ?_
      rotate_left
      · intro w hSw
        (try dsimp only at hSw)
        go_split_ands
        go_simp
        (try with_reducible rfl)
      try simp only [Act.put, List.getElem_toArray, List.getElem_cons_succ, List.getElem_cons_zero, List.setIfInBounds_toArray, List.set_cons_zero, List.set_cons_succ]
      refine wpAnyH_take (i := 2) (v := ?_) rfl (by kernel_rfl) (by kernel_rfl) (by kernel_rfl) (fun _ _ _ h => h) (Or.inl ⟨by kernel_rfl, ?_⟩) hHeld ?_
      rotate_left
      · intro w hSw
        (try dsimp only at hSw)
        go_split_ands
        go_simp
        (try with_reducible rfl)
      try simp only [Act.put, List.getElem_toArray, List.getElem_cons_succ, List.getElem_cons_zero, List.setIfInBounds_toArray, List.set_cons_zero, List.set_cons_succ]
      refine wpAnyH_take (i := 3) (v := ?_) rfl (by kernel_rfl) (by kernel_rfl) (by kernel_rfl) (fun _ _ _ h => h) (Or.inl ⟨by kernel_rfl, ?_⟩) hHeld ?_
      rotate_left
      · intro w hSw
        (try dsimp only at hSw)
        go_split_ands
        go_simp
        (try with_reducible rfl)
      try simp only [Act.put, List.getElem_toArray, List.getElem_cons_succ, List.getElem_cons_zero, List.setIfInBounds_toArray, List.set_cons_zero, List.set_cons_succ]
      refine wpAnyH_take (i := 4) (v := ?_) rfl (by kernel_rfl) (by kernel_rfl) (by kernel_rfl) (fun _ _ _ h => h) (Or.inl ⟨by kernel_rfl, ?_⟩) hHeld ?_
      rotate_left
      · intro w hSw
        (try dsimp only at hSw)
        go_split_ands
        go_simp
        (try with_reducible rfl)
      try simp only [Act.put, List.getElem_toArray, List.getElem_cons_succ, List.getElem_cons_zero, List.setIfInBounds_toArray, List.set_cons_zero, List.set_cons_succ]
      refine wpAnyH_ready (rs := [5]) (by kernel_rfl) (by simp) ?_
      refine AllReadyH.cons rfl (fun KK hK => ?_) AllReadyH.nil
      clear hHeld
      go_simp
      refine (scaleOf_pc p ww hh a c _ HP.out HS.out.1 HS.out.2 (HX.out.ext X_57.out)).mono ?_
      rintro e w58 ⟨⟨aS, cS, rfl, hx⟩, h⟩
      have hxz := Lib.hid hx
      clear hx
      have X_58 := Lib.hid (X_57.out.trans h)
      have B_58 := Lib.hid (B_57.out.ext h)
      have VA_58 := Lib.hid (VA_57.out.ext h)
      have VT_58 := Lib.hid (VT_57.out.ext h)
      have VC_58 := Lib.hid (VC_57.out.ext h)
      have VD_58 := Lib.hid (VD_57.out.ext h)
      have VU_58 := Lib.hid (VU_57.out.ext h)
      have RA_58 := Lib.hid (RA_57.out.ext h)
      have RT_58 := Lib.hid (RT_57.out.ext h)
      have RC_58 := Lib.hid (RC_57.out.ext h)
      have RD_58 := Lib.hid (RD_57.out.ext h)
      have RU_58 := Lib.hid (RU_57.out.ext h)
      have RF_58 := Lib.hid (RF_57.out.ext h)
      have RH_58 := Lib.hid (RH_57.out.ext h)
      clear h X_57 B_57 VA_57 VT_57 VC_57 VD_57 VU_57 RA_57 RT_57 RC_57 RD_57 RU_57 RF_57 RH_57
      have RS_58 := Lib.hid (hxz.out)
      go_simp
      refine hK.out _ _ ⟨VD_58.out.cell 0, VD_58.out.cell 1, VD_58.out.cell 2, B_58.out.cell 0, B_58.out.cell 1, B_58.out.cell 2⟩ (fun hHeld => ?_)
      clear hK KK
      try simp only [Act.put, List.getElem_toArray, List.getElem_cons_succ, List.getElem_cons_zero, List.setIfInBounds_toArray, List.set_cons_zero, List.set_cons_succ]
      refine wpAnyH_ready (rs := [6]) (by kernel_rfl) (by simp) ?_
      refine AllReadyH.cons rfl (fun KK hK => ?_) AllReadyH.nil
      clear hHeld
      go_simp
      refine (told_pc (p.scale ww hh) (p.scale ww hh) aD aS cD cS _ (Pc3.scale_ok HP.out HS.out.1 HS.out.2) (Pc3.Same.refl _) RD_58.out RS_58.out).mono ?_
      rintro e w59 ⟨rfl, h⟩
      have X_59 := Lib.hid (X_58.out.trans h)
      have B_59 := Lib.hid (B_58.out.ext h)
      have VA_59 := Lib.hid (VA_58.out.ext h)
      have VT_59 := Lib.hid (VT_58.out.ext h)
      have VC_59 := Lib.hid (VC_58.out.ext h)
      have VD_59 := Lib.hid (VD_58.out.ext h)
      have VU_59 := Lib.hid (VU_58.out.ext h)
      have RA_59 := Lib.hid (RA_58.out.ext h)
      have RT_59 := Lib.hid (RT_58.out.ext h)
      have RC_59 := Lib.hid (RC_58.out.ext h)
      have RD_59 := Lib.hid (RD_58.out.ext h)
      have RU_59 := Lib.hid (RU_58.out.ext h)
      have RF_59 := Lib.hid (RF_58.out.ext h)
      have RH_59 := Lib.hid (RH_58.out.ext h)
      have RS_59 := Lib.hid (RS_58.out.ext h)
      clear h X_58 B_58 VA_58 VT_58 VC_58 VD_58 VU_58 RA_58 RT_58 RC_58 RD_58 RU_58 RF_58 RH_58 RS_58
      go_simp
      refine hK.out _ _ ⟨VD_59.out.cell 0, VD_59.out.cell 1, VD_59.out.cell 2, B_59.out.cell 0, B_59.out.cell 1, B_59.out.cell 2⟩ (fun hHeld => ?_)
      clear hK KK
      try simp only [Act.put, List.getElem_toArray, List.getElem_cons_succ, List.getElem_cons_zero, List.setIfInBounds_toArray, List.set_cons_zero, List.set_cons_succ]
      refine wpAnyH_take (i := 7) (v := ?_) rfl (by kernel_rfl) (by kernel_rfl) (by kernel_rfl) (fun _ _ _ h => h) (Or.inl ⟨by kernel_rfl, ?_⟩) hHeld ?_
      rotate_left
      · intro w hSw
        (try dsimp only at hSw)
        go_split_ands
        go_simp
        (try with_reducible rfl)
      try simp only [Act.put, List.getElem_toArray, List.getElem_cons_succ, List.getElem_cons_zero, List.setIfInBounds_toArray, List.set_cons_zero, List.set_cons_succ]
      refine wpAnyH_done (by kernel_rfl) ?_ _
      clear hHeld
      go_wp2_with fail
      go_ret
      exact ⟨rfl, X_59.out⟩
    · by_cases hpos : 0 < K
      · have t0 : decide (0 < K) = true := decide_eq_true hpos
        have k0 := VU_50.out.cell 0
        have f0 := VU_50.out.frozen 0
        have k1 := VU_50.out.cell 1
        have f1 := VU_50.out.frozen 1
        have k2 := VU_50.out.cell 2
        have f2 := VU_50.out.frozen 2
        go_wp2_with fail
        refine (turnOf_pc (p.turns (3 * m)) a3 c3 _ (Pc3.turns_ok HP.out (3 * m)) RU_50.out).mono ?_
        rintro e v1 ⟨⟨a30, c30, rfl, hx, hb0⟩, x0⟩
        have R0 := Lib.hid hx
        clear hx
        go_wp2_with fail
        refine (turnOf_pc ((p.turns (3 * m)).turn) a30 c30 _ (Pc3.turn_ok (Pc3.turns_ok HP.out (3 * m))) R0.out).mono ?_
        rintro e v2 ⟨⟨a31, c31, rfl, hx, hb1⟩, x1⟩
        have R1 := Lib.hid hx
        clear hx
        go_wp2_with fail
        refine (turnOf_pc ((p.turns (3 * m)).turn.turn) a31 c31 _ (Pc3.turn_ok (Pc3.turn_ok (Pc3.turns_ok HP.out (3 * m)))) R1.out).mono ?_
        rintro e v3 ⟨⟨a32, c32, rfl, hx, hb2⟩, x2⟩
        have R2 := Lib.hid hx
        clear hx
        have xx := x0.trans (x1.trans x2)
        have VU3 := VU_50.out.ext xx
        have hne : a32.block ≠ TU := by have h1 := VU_50.out.lt; have h2 := (x0.trans x1).size; omega
        have SF := Lib.hid (set3_facts (x' := .int .i64 (((p.turns (3 * m)).turn.turn.turn).W : Int)) (y' := .int .i64 (((p.turns (3 * m)).turn.turn.turn).H : Int)) (z' := .slice (some a32) (((p.turns (3 * m)).turn.turn.turn).W * ((p.turns (3 * m)).turn.turn.turn).H) c32) (X_50.out.trans xx) GEU.out VU3)
        clear k0 k1 k2 f0 f1 f2
        have k0 := VU3.cell 0
        have f0 := VU3.frozen 0
        have k1 := VU3.cell 1
        have f1 := VU3.frozen 1
        have k2 := VU3.cell 2
        have f2 := VU3.frozen 2
        have XX := Lib.hid xx
        have HNE := Lib.hid hne
        clear xx x0 x1 x2 hb0 hb1 hb2 VU3 hne
        go_wp2_with fail
        go_roundw
        case rel => exact ⟨_, m + 1, a32, c32, rfl, (by have := HI.out.next hK; rw [if_pos hpos] at this; exact this), Lib.hid SF.out.1, Lib.hid ((B_50.out.ext XX.out).keeps SF.out.2.2 NE_B.out), Lib.hid ((VA_50.out.ext XX.out).keeps SF.out.2.2 NE_VA.out), Lib.hid ((VT_50.out.ext XX.out).keeps SF.out.2.2 NE_VT.out), Lib.hid ((VC_50.out.ext XX.out).keeps SF.out.2.2 NE_VC.out), Lib.hid ((VD_50.out.ext XX.out).keeps SF.out.2.2 NE_VD.out), Lib.hid ((RA_50.out.ext XX.out).keeps SF.out.2.2 (fun z hz e => NE_RA.out (by injection hz with hz; rw [hz]; exact e))), Lib.hid ((RT_50.out.ext XX.out).keeps SF.out.2.2 (fun z hz e => NE_RT.out (by injection hz with hz; rw [hz]; exact e))), Lib.hid ((RC_50.out.ext XX.out).keeps SF.out.2.2 (fun z hz e => NE_RC.out (by injection hz with hz; rw [hz]; exact e))), Lib.hid ((RD_50.out.ext XX.out).keeps SF.out.2.2 (fun z hz e => NE_RD.out (by injection hz with hz; rw [hz]; exact e))), Lib.hid SF.out.2.1, Lib.hid (R2.out.keeps SF.out.2.2 (fun z hz e => HNE.out (by injection hz with hz; rw [hz]; exact e))), HNE⟩
        case measure => simp [intOf]; omega
      · have t0 : decide (0 < K) = false := decide_eq_false hpos
        have k0 := VU_50.out.cell 0
        have f0 := VU_50.out.frozen 0
        have k1 := VU_50.out.cell 1
        have f1 := VU_50.out.frozen 1
        have k2 := VU_50.out.cell 2
        have f2 := VU_50.out.frozen 2
        go_wp2_with fail
        refine (turnOf_pc (p.turns (3 * m)) a3 c3 _ (Pc3.turns_ok HP.out (3 * m)) RU_50.out).mono ?_
        rintro e v1 ⟨⟨a30, c30, rfl, hx, hb0⟩, x0⟩
        have R0 := Lib.hid hx
        clear hx
        go_wp2_with fail
        refine (turnOf_pc ((p.turns (3 * m)).turn) a30 c30 _ (Pc3.turn_ok (Pc3.turns_ok HP.out (3 * m))) R0.out).mono ?_
        rintro e v2 ⟨⟨a31, c31, rfl, hx, hb1⟩, x1⟩
        have R1 := Lib.hid hx
        clear hx
        go_wp2_with fail
        refine (turnOf_pc ((p.turns (3 * m)).turn.turn) a31 c31 _ (Pc3.turn_ok (Pc3.turn_ok (Pc3.turns_ok HP.out (3 * m)))) R1.out).mono ?_
        rintro e v3 ⟨⟨a32, c32, rfl, hx, hb2⟩, x2⟩
        have R2 := Lib.hid hx
        clear hx
        have xx := x0.trans (x1.trans x2)
        have VU3 := VU_50.out.ext xx
        have hne : a32.block ≠ TU := by have h1 := VU_50.out.lt; have h2 := (x0.trans x1).size; omega
        have SF := Lib.hid (set3_facts (x' := .int .i64 (((p.turns (3 * m)).turn.turn.turn).W : Int)) (y' := .int .i64 (((p.turns (3 * m)).turn.turn.turn).H : Int)) (z' := .slice (some a32) (((p.turns (3 * m)).turn.turn.turn).W * ((p.turns (3 * m)).turn.turn.turn).H) c32) (X_50.out.trans xx) GEU.out VU3)
        clear k0 k1 k2 f0 f1 f2
        have k0 := VU3.cell 0
        have f0 := VU3.frozen 0
        have k1 := VU3.cell 1
        have f1 := VU3.frozen 1
        have k2 := VU3.cell 2
        have f2 := VU3.frozen 2
        have XX := Lib.hid xx
        have HNE := Lib.hid hne
        clear xx x0 x1 x2 hb0 hb1 hb2 VU3 hne
        go_wp2_with fail
        go_roundw
        case rel => exact ⟨_, m + 1, a32, c32, rfl, (by have := HI.out.next hK; rw [if_neg (by omega)] at this; exact this), Lib.hid SF.out.1, Lib.hid ((B_50.out.ext XX.out).keeps SF.out.2.2 NE_B.out), Lib.hid ((VA_50.out.ext XX.out).keeps SF.out.2.2 NE_VA.out), Lib.hid ((VT_50.out.ext XX.out).keeps SF.out.2.2 NE_VT.out), Lib.hid ((VC_50.out.ext XX.out).keeps SF.out.2.2 NE_VC.out), Lib.hid ((VD_50.out.ext XX.out).keeps SF.out.2.2 NE_VD.out), Lib.hid ((RA_50.out.ext XX.out).keeps SF.out.2.2 (fun z hz e => NE_RA.out (by injection hz with hz; rw [hz]; exact e))), Lib.hid ((RT_50.out.ext XX.out).keeps SF.out.2.2 (fun z hz e => NE_RT.out (by injection hz with hz; rw [hz]; exact e))), Lib.hid ((RC_50.out.ext XX.out).keeps SF.out.2.2 (fun z hz e => NE_RC.out (by injection hz with hz; rw [hz]; exact e))), Lib.hid ((RD_50.out.ext XX.out).keeps SF.out.2.2 (fun z hz e => NE_RD.out (by injection hz with hz; rw [hz]; exact e))), Lib.hid SF.out.2.1, Lib.hid (R2.out.keeps SF.out.2.2 (fun z hz e => HNE.out (by injection hz with hz; rw [hz]; exact e))), HNE⟩
        case measure => simp [intOf]; omega
theorem turns_small (down : Bool) (q ww hh W H : Int) (x : Option Addr) (n c : Nat) (w : World) (hn : n ≤ maxLen) (h : 3000 < n) :
    Calls Tryd.prog 9 #[.agg #[.int .i64 W, .int .i64 H, .slice x n c], .bool down, .int .i64 q, .int .i64 ww, .int .i64 hh] w fun e w' => e = .returned (.bool true) ∧ Ext w w' := by
  have hd := Lib.hid (decide_eq_false (show ¬ n ≤ 3000 by omega))
  go_enter Tryd.func9, Tryd.ntmps9
  go_wp2_with fail
  refine calls_world (fun wz => Ext w wz ∧ wz.heap.size = w.heap.size + 1 ∧ Bk wz (w.heap.size) #[.int .i64 W, .int .i64 H, .slice x n c]) ⟨by repeat (first | exact Ext.refl _ | refine Ext.alloc ?_ _), by simp, by repeat (first | exact Bk.at (by simp) | refine Bk.old ?_)⟩ ?_
  rintro wa ⟨hX, hZ, hB0⟩
  refine (plainly_any _).mono ?_
  rintro e w2 ⟨rfl, h2⟩
  have X2 := Lib.hid (hX.trans h2)
  have B2 := Lib.hid (hB0.ext h2)
  clear h2
  have c0 := B2.out.cell 0
  have c1 := B2.out.cell 1
  have c2 := B2.out.cell 2
  go_wp2_with fail
  refine (small_any W H x n c _ hn).mono ?_
  rintro e w3 ⟨rfl, h3⟩
  have X3 := Lib.hid (X2.out.trans h3)
  clear h3
  rw [hd.out]
  go_wp2_with fail
  go_ret
  exact ⟨rfl, X3.out⟩
theorem turns_any (down : Bool) (q ww hh W H : Int) (x : Option Addr) (n c : Nat) (px : Nat → P4) (w : World) (E : Nat → Addr) (hE : Errs w E) (hx : Pxs w x n px) (hx0 : x = none → c = 0) (hn : n ≤ maxLen) (hq : -9223372036854775808 ≤ q ∧ q ≤ 9223372036854775807) :
    Calls Tryd.prog 9 #[.agg #[.int .i64 W, .int .i64 H, .slice x n c], .bool down, .int .i64 q, .int .i64 ww, .int .i64 hh] w fun e w' => e = .returned (.bool true) ∧ Ext w w' := by
  by_cases h1 : 3000 < n
  · exact turns_small down q ww hh W H x n c w hn h1
  have hn' : n ≤ 3000 := by omega
  cases hr : rightB W H n
  · exact turns_shape down q ww hh W H x n c px w E hE hx hx0 hn' hr
  · obtain ⟨A, B, rfl, rfl, a1, a2, b1, b2, rfl⟩ := rightB_yes hr
    obtain ⟨ad, rfl⟩ := hx.isSome (Nat.mul_pos a1 b1)
    have hp : (Pc3.mk A B px).Ok := ⟨a1, a2, b1, b2, hx.bd⟩
    cases hs : (sideB ww && sideB hh)
    · exact turns_bound down q ww hh (Pc3.mk A B px) ad c w E hE hp hx hn' hq hs
    · simp only [Bool.and_eq_true] at hs
      obtain ⟨s1, s2⟩ := hs
      have s1 := sideB_yes s1
      have s2 := sideB_yes s2
      obtain ⟨u, rfl⟩ := Int.eq_ofNat_of_zero_le (show 0 ≤ ww by omega)
      obtain ⟨v, rfl⟩ := Int.eq_ofNat_of_zero_le (show 0 ≤ hh by omega)
      exact turns_ok down q u v (Pc3.mk A B px) ad c w E hE hp hx hn' hq (by omega) (by omega)
end Go.Proofs.YtkfjcgcgfdibaaaDoor
