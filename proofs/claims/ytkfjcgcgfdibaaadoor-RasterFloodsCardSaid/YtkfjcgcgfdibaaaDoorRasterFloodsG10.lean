/-
  raster.Crop; CropIs.
  Fill and Crop: their contracts, joined.
  BRESENHAM: the floor of a part, in the program and in the document; the places of a line.
-/
import Derived.Test.YtkfjcgcgfdibaaaDoorRasterFloodsG4
import Derived.Test.YtkfjcgcgfdibaaaDoorRasterFloodsG9
namespace Go.Proofs.YtkfjcgcgfdibaaaDoor
open Go.RowKit
set_option maxRecDepth 100000
theorem crop_shape_A (X Y RW RH W H : Int) (x : Option Addr) (n c : Nat) (E : Nat → Addr) (w : World) (g1 : RW < 1) (hb : W ≤ 9223372036854775807 ∧ H ≤ 9223372036854775807) (hE : Errs w E) (hr : rightB W H n = false) :
    Calls Tryd.prog 28 #[.agg #[.int .i64 W, .int .i64 H, .slice x n c], .agg #[.int .i64 X, .int .i64 Y, .int .i64 RW, .int .i64 RH]] w fun e w' => e = .returned (.tuple #[.agg #[.int .i64 0, .int .i64 0, .slice none 0 0], .iface 171 (.pointer (some (E 2)))]) ∧ Ext w w' := by
  have HR := Lib.hid hr
  have HE := Lib.hid hE
  clear hE
  obtain ⟨hb1, hb2⟩ := hb
  clear hr
  have t1 : decide ((1 : Int) ≤ RW) = false := decide_eq_false (by omega)
  go_enter Tryd.func28, Tryd.ntmps28
  go_wp2_with fail
  refine calls_world (fun wz => Ext w wz ∧ wz.heap.size = w.heap.size + 1 + 1 + 1 ∧ Bk wz (w.heap.size) #[.int .i64 W, .int .i64 H, .slice x n c] ∧ Bk wz (w.heap.size + 1) #[.int .i64 X, .int .i64 Y, .int .i64 RW, .int .i64 RH] ∧ Bk wz (w.heap.size + 1 + 1) #[.int .i64 0, .int .i64 0, .slice none 0 0]) ⟨by repeat (first | exact Ext.refl _ | refine Ext.alloc ?_ _), by simp, by repeat (first | exact Bk.at (by simp) | refine Bk.old ?_), by repeat (first | exact Bk.at (by simp) | refine Bk.old ?_), by repeat (first | exact Bk.at (by simp) | refine Bk.old ?_)⟩ ?_
  rintro wr ⟨hX, hZ, hB0, hB1, hB2⟩
  have B0 := Lib.hid hB0
  have B1 := Lib.hid hB1
  have B2 := Lib.hid hB2
  have XR := Lib.hid hX
  have SZ := Lib.hid hZ
  clear hX hZ hB0 hB1 hB2
  have XA := Lib.hid (Ext.refl wr)
  refine (check_shape _ _ _ _ _ _ _ E (HE.out.ext (Ext.trans XR.out XA.out)) HR.out).mono ?_
  rintro e w6 ⟨rfl, hx⟩
  have hb := Ext.trans XA.out hx
  have XS := Lib.hid (Ext.trans XR.out hb)
  have B0S := Lib.hid (B0.out.ext hb)
  have B1S := Lib.hid (B1.out.ext hb)
  have B2S := Lib.hid (B2.out.ext hb)
  clear hx hb XA
  have d0 := B2S.out.cell 0
  have e0 := B2S.out.frozen 0
  have d1 := B2S.out.cell 1
  have e1 := B2S.out.frozen 1
  have d2 := B2S.out.cell 2
  have e2 := B2S.out.frozen 2
  have FR := Lib.hid (show Ext w _ from XS.out.set3 (b := w.heap.size + 1 + 1) (by omega) (.int .i64 0) (.int .i64 0) (.slice none 0 0))
  have PR := Lib.hid (B2S.out.pic.set (W' := 0) (H' := 0) (v' := .slice none 0 0))
  go_wp2_with fail
  obtain ⟨k0, k1, k2⟩ := PR.out
  exact bodyPost_ret (v := .tuple #[.agg #[.int .i64 0, .int .i64 0, .slice none 0 0], .iface 171 (.pointer (some (E 2)))]) (by simp [results, Tryd.results28, go_sem, k0, k1, k2]) rfl ⟨rfl, FR.out⟩
theorem crop_shape_B (X Y RW RH W H : Int) (x : Option Addr) (n c : Nat) (E : Nat → Addr) (w : World) (g1 : 1 ≤ RW) (g2 : RH < 1) (hb : W ≤ 9223372036854775807 ∧ H ≤ 9223372036854775807) (hE : Errs w E) (hr : rightB W H n = false) :
    Calls Tryd.prog 28 #[.agg #[.int .i64 W, .int .i64 H, .slice x n c], .agg #[.int .i64 X, .int .i64 Y, .int .i64 RW, .int .i64 RH]] w fun e w' => e = .returned (.tuple #[.agg #[.int .i64 0, .int .i64 0, .slice none 0 0], .iface 171 (.pointer (some (E 2)))]) ∧ Ext w w' := by
  have HR := Lib.hid hr
  have HE := Lib.hid hE
  clear hE
  obtain ⟨hb1, hb2⟩ := hb
  clear hr
  have t1 : decide ((1 : Int) ≤ RW) = true := decide_eq_true (by omega)
  have t2 : decide ((1 : Int) ≤ RH) = false := decide_eq_false (by omega)
  go_enter Tryd.func28, Tryd.ntmps28
  go_wp2_with fail
  refine calls_world (fun wz => Ext w wz ∧ wz.heap.size = w.heap.size + 1 + 1 + 1 ∧ Bk wz (w.heap.size) #[.int .i64 W, .int .i64 H, .slice x n c] ∧ Bk wz (w.heap.size + 1) #[.int .i64 X, .int .i64 Y, .int .i64 RW, .int .i64 RH] ∧ Bk wz (w.heap.size + 1 + 1) #[.int .i64 0, .int .i64 0, .slice none 0 0]) ⟨by repeat (first | exact Ext.refl _ | refine Ext.alloc ?_ _), by simp, by repeat (first | exact Bk.at (by simp) | refine Bk.old ?_), by repeat (first | exact Bk.at (by simp) | refine Bk.old ?_), by repeat (first | exact Bk.at (by simp) | refine Bk.old ?_)⟩ ?_
  rintro wr ⟨hX, hZ, hB0, hB1, hB2⟩
  have B0 := Lib.hid hB0
  have B1 := Lib.hid hB1
  have B2 := Lib.hid hB2
  have XR := Lib.hid hX
  have SZ := Lib.hid hZ
  clear hX hZ hB0 hB1 hB2
  have XA := Lib.hid (Ext.refl wr)
  refine (check_shape _ _ _ _ _ _ _ E (HE.out.ext (Ext.trans XR.out XA.out)) HR.out).mono ?_
  rintro e w6 ⟨rfl, hx⟩
  have hb := Ext.trans XA.out hx
  have XS := Lib.hid (Ext.trans XR.out hb)
  have B0S := Lib.hid (B0.out.ext hb)
  have B1S := Lib.hid (B1.out.ext hb)
  have B2S := Lib.hid (B2.out.ext hb)
  clear hx hb XA
  have d0 := B2S.out.cell 0
  have e0 := B2S.out.frozen 0
  have d1 := B2S.out.cell 1
  have e1 := B2S.out.frozen 1
  have d2 := B2S.out.cell 2
  have e2 := B2S.out.frozen 2
  have FR := Lib.hid (show Ext w _ from XS.out.set3 (b := w.heap.size + 1 + 1) (by omega) (.int .i64 0) (.int .i64 0) (.slice none 0 0))
  have PR := Lib.hid (B2S.out.pic.set (W' := 0) (H' := 0) (v' := .slice none 0 0))
  go_wp2_with fail
  obtain ⟨k0, k1, k2⟩ := PR.out
  exact bodyPost_ret (v := .tuple #[.agg #[.int .i64 0, .int .i64 0, .slice none 0 0], .iface 171 (.pointer (some (E 2)))]) (by simp [results, Tryd.results28, go_sem, k0, k1, k2]) rfl ⟨rfl, FR.out⟩
theorem crop_shape_C (X Y RW RH W H : Int) (x : Option Addr) (n c : Nat) (E : Nat → Addr) (w : World) (g1 : 1 ≤ RW) (g2 : 1 ≤ RH) (g3 : inB W H X Y = false) (hb : W ≤ 9223372036854775807 ∧ H ≤ 9223372036854775807) (hE : Errs w E) (hr : rightB W H n = false) :
    Calls Tryd.prog 28 #[.agg #[.int .i64 W, .int .i64 H, .slice x n c], .agg #[.int .i64 X, .int .i64 Y, .int .i64 RW, .int .i64 RH]] w fun e w' => e = .returned (.tuple #[.agg #[.int .i64 0, .int .i64 0, .slice none 0 0], .iface 171 (.pointer (some (E 2)))]) ∧ Ext w w' := by
  have HR := Lib.hid hr
  have HE := Lib.hid hE
  clear hE
  have HI := Lib.hid g3
  clear g3
  obtain ⟨hb1, hb2⟩ := hb
  clear hr
  have t1 : decide ((1 : Int) ≤ RW) = true := decide_eq_true (by omega)
  have t2 : decide ((1 : Int) ≤ RH) = true := decide_eq_true (by omega)
  go_enter Tryd.func28, Tryd.ntmps28
  go_wp2_with fail
  refine calls_world (fun wz => Ext w wz ∧ wz.heap.size = w.heap.size + 1 + 1 + 1 ∧ Bk wz (w.heap.size) #[.int .i64 W, .int .i64 H, .slice x n c] ∧ Bk wz (w.heap.size + 1) #[.int .i64 X, .int .i64 Y, .int .i64 RW, .int .i64 RH] ∧ Bk wz (w.heap.size + 1 + 1) #[.int .i64 0, .int .i64 0, .slice none 0 0]) ⟨by repeat (first | exact Ext.refl _ | refine Ext.alloc ?_ _), by simp, by repeat (first | exact Bk.at (by simp) | refine Bk.old ?_), by repeat (first | exact Bk.at (by simp) | refine Bk.old ?_), by repeat (first | exact Bk.at (by simp) | refine Bk.old ?_)⟩ ?_
  rintro wr ⟨hX, hZ, hB0, hB1, hB2⟩
  have B0 := Lib.hid hB0
  have B1 := Lib.hid hB1
  have B2 := Lib.hid hB2
  have XR := Lib.hid hX
  have SZ := Lib.hid hZ
  clear hX hZ hB0 hB1 hB2
  refine (in_any _ _ _ _ _ _ ⟨_, _, _, rfl⟩).mono ?_
  rintro e w5 ⟨rfl, hx5⟩
  rw [HI.out]
  have XA := Lib.hid hx5
  clear hx5
  have q0 := (B0.out.ext XA.out).cell 0
  have q1 := (B0.out.ext XA.out).cell 1
  have q2 := (B0.out.ext XA.out).cell 2
  have s0 := (B1.out.ext XA.out).cell 0
  have s1 := (B1.out.ext XA.out).cell 1
  have s2 := (B1.out.ext XA.out).cell 2
  have s3 := (B1.out.ext XA.out).cell 3
  go_wp2_with fail
  clear q0 q1 q2 s0 s1 s2 s3
  refine (check_shape _ _ _ _ _ _ _ E (HE.out.ext (Ext.trans XR.out XA.out)) HR.out).mono ?_
  rintro e w6 ⟨rfl, hx⟩
  have hb := Ext.trans XA.out hx
  have XS := Lib.hid (Ext.trans XR.out hb)
  have B0S := Lib.hid (B0.out.ext hb)
  have B1S := Lib.hid (B1.out.ext hb)
  have B2S := Lib.hid (B2.out.ext hb)
  clear hx hb XA
  have d0 := B2S.out.cell 0
  have e0 := B2S.out.frozen 0
  have d1 := B2S.out.cell 1
  have e1 := B2S.out.frozen 1
  have d2 := B2S.out.cell 2
  have e2 := B2S.out.frozen 2
  have FR := Lib.hid (show Ext w _ from XS.out.set3 (b := w.heap.size + 1 + 1) (by omega) (.int .i64 0) (.int .i64 0) (.slice none 0 0))
  have PR := Lib.hid (B2S.out.pic.set (W' := 0) (H' := 0) (v' := .slice none 0 0))
  go_wp2_with fail
  obtain ⟨k0, k1, k2⟩ := PR.out
  exact bodyPost_ret (v := .tuple #[.agg #[.int .i64 0, .int .i64 0, .slice none 0 0], .iface 171 (.pointer (some (E 2)))]) (by simp [results, Tryd.results28, go_sem, k0, k1, k2]) rfl ⟨rfl, FR.out⟩
theorem crop_shape_D (X Y RW RH W H : Int) (x : Option Addr) (n c : Nat) (E : Nat → Addr) (w : World) (g1 : 1 ≤ RW) (g2 : 1 ≤ RH) (g3 : inB W H X Y = true) (g4 : W - X < RW) (hb : W ≤ 9223372036854775807 ∧ H ≤ 9223372036854775807) (hE : Errs w E) (hr : rightB W H n = false) :
    Calls Tryd.prog 28 #[.agg #[.int .i64 W, .int .i64 H, .slice x n c], .agg #[.int .i64 X, .int .i64 Y, .int .i64 RW, .int .i64 RH]] w fun e w' => e = .returned (.tuple #[.agg #[.int .i64 0, .int .i64 0, .slice none 0 0], .iface 171 (.pointer (some (E 2)))]) ∧ Ext w w' := by
  have HR := Lib.hid hr
  have HE := Lib.hid hE
  clear hE
  have HI := Lib.hid g3
  obtain ⟨i1, i2, i3, i4⟩ := of_decide_eq_true g3
  clear g3
  obtain ⟨hb1, hb2⟩ := hb
  clear hr
  have t1 : decide ((1 : Int) ≤ RW) = true := decide_eq_true (by omega)
  have t2 : decide ((1 : Int) ≤ RH) = true := decide_eq_true (by omega)
  have t3 : decide (RW ≤ W - X) = false := decide_eq_false (by omega)
  go_enter Tryd.func28, Tryd.ntmps28
  go_wp2_with fail
  refine calls_world (fun wz => Ext w wz ∧ wz.heap.size = w.heap.size + 1 + 1 + 1 ∧ Bk wz (w.heap.size) #[.int .i64 W, .int .i64 H, .slice x n c] ∧ Bk wz (w.heap.size + 1) #[.int .i64 X, .int .i64 Y, .int .i64 RW, .int .i64 RH] ∧ Bk wz (w.heap.size + 1 + 1) #[.int .i64 0, .int .i64 0, .slice none 0 0]) ⟨by repeat (first | exact Ext.refl _ | refine Ext.alloc ?_ _), by simp, by repeat (first | exact Bk.at (by simp) | refine Bk.old ?_), by repeat (first | exact Bk.at (by simp) | refine Bk.old ?_), by repeat (first | exact Bk.at (by simp) | refine Bk.old ?_)⟩ ?_
  rintro wr ⟨hX, hZ, hB0, hB1, hB2⟩
  have B0 := Lib.hid hB0
  have B1 := Lib.hid hB1
  have B2 := Lib.hid hB2
  have XR := Lib.hid hX
  have SZ := Lib.hid hZ
  clear hX hZ hB0 hB1 hB2
  refine (in_any _ _ _ _ _ _ ⟨_, _, _, rfl⟩).mono ?_
  rintro e w5 ⟨rfl, hx5⟩
  rw [HI.out]
  have XA := Lib.hid hx5
  clear hx5
  have q0 := (B0.out.ext XA.out).cell 0
  have q1 := (B0.out.ext XA.out).cell 1
  have q2 := (B0.out.ext XA.out).cell 2
  have s0 := (B1.out.ext XA.out).cell 0
  have s1 := (B1.out.ext XA.out).cell 1
  have s2 := (B1.out.ext XA.out).cell 2
  have s3 := (B1.out.ext XA.out).cell 3
  go_wp2_with fail
  clear q0 q1 q2 s0 s1 s2 s3
  refine (check_shape _ _ _ _ _ _ _ E (HE.out.ext (Ext.trans XR.out XA.out)) HR.out).mono ?_
  rintro e w6 ⟨rfl, hx⟩
  have hb := Ext.trans XA.out hx
  have XS := Lib.hid (Ext.trans XR.out hb)
  have B0S := Lib.hid (B0.out.ext hb)
  have B1S := Lib.hid (B1.out.ext hb)
  have B2S := Lib.hid (B2.out.ext hb)
  clear hx hb XA
  have d0 := B2S.out.cell 0
  have e0 := B2S.out.frozen 0
  have d1 := B2S.out.cell 1
  have e1 := B2S.out.frozen 1
  have d2 := B2S.out.cell 2
  have e2 := B2S.out.frozen 2
  have FR := Lib.hid (show Ext w _ from XS.out.set3 (b := w.heap.size + 1 + 1) (by omega) (.int .i64 0) (.int .i64 0) (.slice none 0 0))
  have PR := Lib.hid (B2S.out.pic.set (W' := 0) (H' := 0) (v' := .slice none 0 0))
  go_wp2_with fail
  obtain ⟨k0, k1, k2⟩ := PR.out
  exact bodyPost_ret (v := .tuple #[.agg #[.int .i64 0, .int .i64 0, .slice none 0 0], .iface 171 (.pointer (some (E 2)))]) (by simp [results, Tryd.results28, go_sem, k0, k1, k2]) rfl ⟨rfl, FR.out⟩
theorem crop_shape_F (X Y RW RH W H : Int) (x : Option Addr) (n c : Nat) (E : Nat → Addr) (w : World) (g1 : 1 ≤ RW) (g2 : 1 ≤ RH) (g3 : inB W H X Y = true) (g4 : RW ≤ W - X) (g5 : H - Y < RH) (hb : W ≤ 9223372036854775807 ∧ H ≤ 9223372036854775807) (hE : Errs w E) (hr : rightB W H n = false) :
    Calls Tryd.prog 28 #[.agg #[.int .i64 W, .int .i64 H, .slice x n c], .agg #[.int .i64 X, .int .i64 Y, .int .i64 RW, .int .i64 RH]] w fun e w' => e = .returned (.tuple #[.agg #[.int .i64 0, .int .i64 0, .slice none 0 0], .iface 171 (.pointer (some (E 2)))]) ∧ Ext w w' := by
  have HR := Lib.hid hr
  have HE := Lib.hid hE
  clear hE
  have HI := Lib.hid g3
  obtain ⟨i1, i2, i3, i4⟩ := of_decide_eq_true g3
  clear g3
  obtain ⟨hb1, hb2⟩ := hb
  clear hr
  have t1 : decide ((1 : Int) ≤ RW) = true := decide_eq_true (by omega)
  have t2 : decide ((1 : Int) ≤ RH) = true := decide_eq_true (by omega)
  have t3 : decide (RW ≤ W - X) = true := decide_eq_true (by omega)
  have t4 : decide (RH ≤ H - Y) = false := decide_eq_false (by omega)
  go_enter Tryd.func28, Tryd.ntmps28
  go_wp2_with fail
  refine calls_world (fun wz => Ext w wz ∧ wz.heap.size = w.heap.size + 1 + 1 + 1 ∧ Bk wz (w.heap.size) #[.int .i64 W, .int .i64 H, .slice x n c] ∧ Bk wz (w.heap.size + 1) #[.int .i64 X, .int .i64 Y, .int .i64 RW, .int .i64 RH] ∧ Bk wz (w.heap.size + 1 + 1) #[.int .i64 0, .int .i64 0, .slice none 0 0]) ⟨by repeat (first | exact Ext.refl _ | refine Ext.alloc ?_ _), by simp, by repeat (first | exact Bk.at (by simp) | refine Bk.old ?_), by repeat (first | exact Bk.at (by simp) | refine Bk.old ?_), by repeat (first | exact Bk.at (by simp) | refine Bk.old ?_)⟩ ?_
  rintro wr ⟨hX, hZ, hB0, hB1, hB2⟩
  have B0 := Lib.hid hB0
  have B1 := Lib.hid hB1
  have B2 := Lib.hid hB2
  have XR := Lib.hid hX
  have SZ := Lib.hid hZ
  clear hX hZ hB0 hB1 hB2
  refine (in_any _ _ _ _ _ _ ⟨_, _, _, rfl⟩).mono ?_
  rintro e w5 ⟨rfl, hx5⟩
  rw [HI.out]
  have XA := Lib.hid hx5
  clear hx5
  have q0 := (B0.out.ext XA.out).cell 0
  have q1 := (B0.out.ext XA.out).cell 1
  have q2 := (B0.out.ext XA.out).cell 2
  have s0 := (B1.out.ext XA.out).cell 0
  have s1 := (B1.out.ext XA.out).cell 1
  have s2 := (B1.out.ext XA.out).cell 2
  have s3 := (B1.out.ext XA.out).cell 3
  go_wp2_with fail
  clear q0 q1 q2 s0 s1 s2 s3
  refine (check_shape _ _ _ _ _ _ _ E (HE.out.ext (Ext.trans XR.out XA.out)) HR.out).mono ?_
  rintro e w6 ⟨rfl, hx⟩
  have hb := Ext.trans XA.out hx
  have XS := Lib.hid (Ext.trans XR.out hb)
  have B0S := Lib.hid (B0.out.ext hb)
  have B1S := Lib.hid (B1.out.ext hb)
  have B2S := Lib.hid (B2.out.ext hb)
  clear hx hb XA
  have d0 := B2S.out.cell 0
  have e0 := B2S.out.frozen 0
  have d1 := B2S.out.cell 1
  have e1 := B2S.out.frozen 1
  have d2 := B2S.out.cell 2
  have e2 := B2S.out.frozen 2
  have FR := Lib.hid (show Ext w _ from XS.out.set3 (b := w.heap.size + 1 + 1) (by omega) (.int .i64 0) (.int .i64 0) (.slice none 0 0))
  have PR := Lib.hid (B2S.out.pic.set (W' := 0) (H' := 0) (v' := .slice none 0 0))
  go_wp2_with fail
  obtain ⟨k0, k1, k2⟩ := PR.out
  exact bodyPost_ret (v := .tuple #[.agg #[.int .i64 0, .int .i64 0, .slice none 0 0], .iface 171 (.pointer (some (E 2)))]) (by simp [results, Tryd.results28, go_sem, k0, k1, k2]) rfl ⟨rfl, FR.out⟩
theorem crop_shape_T (X Y RW RH W H : Int) (x : Option Addr) (n c : Nat) (E : Nat → Addr) (w : World) (g1 : 1 ≤ RW) (g2 : 1 ≤ RH) (g3 : inB W H X Y = true) (g4 : RW ≤ W - X) (g5 : RH ≤ H - Y) (hb : W ≤ 9223372036854775807 ∧ H ≤ 9223372036854775807) (hE : Errs w E) (hr : rightB W H n = false) :
    Calls Tryd.prog 28 #[.agg #[.int .i64 W, .int .i64 H, .slice x n c], .agg #[.int .i64 X, .int .i64 Y, .int .i64 RW, .int .i64 RH]] w fun e w' => e = .returned (.tuple #[.agg #[.int .i64 0, .int .i64 0, .slice none 0 0], .iface 171 (.pointer (some (E 2)))]) ∧ Ext w w' := by
  have HR := Lib.hid hr
  have HE := Lib.hid hE
  clear hE
  have HI := Lib.hid g3
  obtain ⟨i1, i2, i3, i4⟩ := of_decide_eq_true g3
  clear g3
  obtain ⟨hb1, hb2⟩ := hb
  clear hr
  have t1 : decide ((1 : Int) ≤ RW) = true := decide_eq_true (by omega)
  have t2 : decide ((1 : Int) ≤ RH) = true := decide_eq_true (by omega)
  have t3 : decide (RW ≤ W - X) = true := decide_eq_true (by omega)
  have t4 : decide (RH ≤ H - Y) = true := decide_eq_true (by omega)
  go_enter Tryd.func28, Tryd.ntmps28
  go_wp2_with fail
  refine calls_world (fun wz => Ext w wz ∧ wz.heap.size = w.heap.size + 1 + 1 + 1 ∧ Bk wz (w.heap.size) #[.int .i64 W, .int .i64 H, .slice x n c] ∧ Bk wz (w.heap.size + 1) #[.int .i64 X, .int .i64 Y, .int .i64 RW, .int .i64 RH] ∧ Bk wz (w.heap.size + 1 + 1) #[.int .i64 0, .int .i64 0, .slice none 0 0]) ⟨by repeat (first | exact Ext.refl _ | refine Ext.alloc ?_ _), by simp, by repeat (first | exact Bk.at (by simp) | refine Bk.old ?_), by repeat (first | exact Bk.at (by simp) | refine Bk.old ?_), by repeat (first | exact Bk.at (by simp) | refine Bk.old ?_)⟩ ?_
  rintro wr ⟨hX, hZ, hB0, hB1, hB2⟩
  have B0 := Lib.hid hB0
  have B1 := Lib.hid hB1
  have B2 := Lib.hid hB2
  have XR := Lib.hid hX
  have SZ := Lib.hid hZ
  clear hX hZ hB0 hB1 hB2
  refine (in_any _ _ _ _ _ _ ⟨_, _, _, rfl⟩).mono ?_
  rintro e w5 ⟨rfl, hx5⟩
  rw [HI.out]
  have XA := Lib.hid hx5
  clear hx5
  have q0 := (B0.out.ext XA.out).cell 0
  have q1 := (B0.out.ext XA.out).cell 1
  have q2 := (B0.out.ext XA.out).cell 2
  have s0 := (B1.out.ext XA.out).cell 0
  have s1 := (B1.out.ext XA.out).cell 1
  have s2 := (B1.out.ext XA.out).cell 2
  have s3 := (B1.out.ext XA.out).cell 3
  go_wp2_with fail
  clear q0 q1 q2 s0 s1 s2 s3
  refine (check_shape _ _ _ _ _ _ _ E (HE.out.ext (Ext.trans XR.out XA.out)) HR.out).mono ?_
  rintro e w6 ⟨rfl, hx⟩
  have hb := Ext.trans XA.out hx
  have XS := Lib.hid (Ext.trans XR.out hb)
  have B0S := Lib.hid (B0.out.ext hb)
  have B1S := Lib.hid (B1.out.ext hb)
  have B2S := Lib.hid (B2.out.ext hb)
  clear hx hb XA
  have d0 := B2S.out.cell 0
  have e0 := B2S.out.frozen 0
  have d1 := B2S.out.cell 1
  have e1 := B2S.out.frozen 1
  have d2 := B2S.out.cell 2
  have e2 := B2S.out.frozen 2
  have FR := Lib.hid (show Ext w _ from XS.out.set3 (b := w.heap.size + 1 + 1) (by omega) (.int .i64 0) (.int .i64 0) (.slice none 0 0))
  have PR := Lib.hid (B2S.out.pic.set (W' := 0) (H' := 0) (v' := .slice none 0 0))
  go_wp2_with fail
  obtain ⟨k0, k1, k2⟩ := PR.out
  exact bodyPost_ret (v := .tuple #[.agg #[.int .i64 0, .int .i64 0, .slice none 0 0], .iface 171 (.pointer (some (E 2)))]) (by simp [results, Tryd.results28, go_sem, k0, k1, k2]) rfl ⟨rfl, FR.out⟩
theorem crop_bound_A (X Y RW RH W H : Int) (x : Option Addr) (n c : Nat) (E : Nat → Addr) (w : World) (g1 : RW < 1) (hb : W ≤ 9223372036854775807 ∧ H ≤ 9223372036854775807) (hE : Errs w E) (hr : rightB W H n = true) :
    Calls Tryd.prog 28 #[.agg #[.int .i64 W, .int .i64 H, .slice x n c], .agg #[.int .i64 X, .int .i64 Y, .int .i64 RW, .int .i64 RH]] w fun e w' => e = .returned (.tuple #[.agg #[.int .i64 0, .int .i64 0, .slice none 0 0], .iface 171 (.pointer (some (E 1)))]) ∧ Ext w w' := by
  have HR := Lib.hid hr
  have HE := Lib.hid hE
  clear hE
  obtain ⟨hb1, hb2⟩ := hb
  clear hr
  have t1 : decide ((1 : Int) ≤ RW) = false := decide_eq_false (by omega)
  go_enter Tryd.func28, Tryd.ntmps28
  go_wp2_with fail
  refine calls_world (fun wz => Ext w wz ∧ wz.heap.size = w.heap.size + 1 + 1 + 1 ∧ Bk wz (w.heap.size) #[.int .i64 W, .int .i64 H, .slice x n c] ∧ Bk wz (w.heap.size + 1) #[.int .i64 X, .int .i64 Y, .int .i64 RW, .int .i64 RH] ∧ Bk wz (w.heap.size + 1 + 1) #[.int .i64 0, .int .i64 0, .slice none 0 0]) ⟨by repeat (first | exact Ext.refl _ | refine Ext.alloc ?_ _), by simp, by repeat (first | exact Bk.at (by simp) | refine Bk.old ?_), by repeat (first | exact Bk.at (by simp) | refine Bk.old ?_), by repeat (first | exact Bk.at (by simp) | refine Bk.old ?_)⟩ ?_
  rintro wr ⟨hX, hZ, hB0, hB1, hB2⟩
  have B0 := Lib.hid hB0
  have B1 := Lib.hid hB1
  have B2 := Lib.hid hB2
  have XR := Lib.hid hX
  have SZ := Lib.hid hZ
  clear hX hZ hB0 hB1 hB2
  have XA := Lib.hid (Ext.refl wr)
  refine (check_bound _ _ _ _ _ _ E (HE.out.ext (Ext.trans XR.out XA.out)) HR.out).mono ?_
  rintro e w6 ⟨rfl, hx⟩
  have hb := Ext.trans XA.out hx
  have XS := Lib.hid (Ext.trans XR.out hb)
  have B0S := Lib.hid (B0.out.ext hb)
  have B1S := Lib.hid (B1.out.ext hb)
  have B2S := Lib.hid (B2.out.ext hb)
  clear hx hb XA
  have d0 := B2S.out.cell 0
  have e0 := B2S.out.frozen 0
  have d1 := B2S.out.cell 1
  have e1 := B2S.out.frozen 1
  have d2 := B2S.out.cell 2
  have e2 := B2S.out.frozen 2
  have FR := Lib.hid (show Ext w _ from XS.out.set3 (b := w.heap.size + 1 + 1) (by omega) (.int .i64 0) (.int .i64 0) (.slice none 0 0))
  have PR := Lib.hid (B2S.out.pic.set (W' := 0) (H' := 0) (v' := .slice none 0 0))
  go_wp2_with fail
  obtain ⟨k0, k1, k2⟩ := PR.out
  exact bodyPost_ret (v := .tuple #[.agg #[.int .i64 0, .int .i64 0, .slice none 0 0], .iface 171 (.pointer (some (E 1)))]) (by simp [results, Tryd.results28, go_sem, k0, k1, k2]) rfl ⟨rfl, FR.out⟩
theorem crop_bound_B (X Y RW RH W H : Int) (x : Option Addr) (n c : Nat) (E : Nat → Addr) (w : World) (g1 : 1 ≤ RW) (g2 : RH < 1) (hb : W ≤ 9223372036854775807 ∧ H ≤ 9223372036854775807) (hE : Errs w E) (hr : rightB W H n = true) :
    Calls Tryd.prog 28 #[.agg #[.int .i64 W, .int .i64 H, .slice x n c], .agg #[.int .i64 X, .int .i64 Y, .int .i64 RW, .int .i64 RH]] w fun e w' => e = .returned (.tuple #[.agg #[.int .i64 0, .int .i64 0, .slice none 0 0], .iface 171 (.pointer (some (E 1)))]) ∧ Ext w w' := by
  have HR := Lib.hid hr
  have HE := Lib.hid hE
  clear hE
  obtain ⟨hb1, hb2⟩ := hb
  clear hr
  have t1 : decide ((1 : Int) ≤ RW) = true := decide_eq_true (by omega)
  have t2 : decide ((1 : Int) ≤ RH) = false := decide_eq_false (by omega)
  go_enter Tryd.func28, Tryd.ntmps28
  go_wp2_with fail
  refine calls_world (fun wz => Ext w wz ∧ wz.heap.size = w.heap.size + 1 + 1 + 1 ∧ Bk wz (w.heap.size) #[.int .i64 W, .int .i64 H, .slice x n c] ∧ Bk wz (w.heap.size + 1) #[.int .i64 X, .int .i64 Y, .int .i64 RW, .int .i64 RH] ∧ Bk wz (w.heap.size + 1 + 1) #[.int .i64 0, .int .i64 0, .slice none 0 0]) ⟨by repeat (first | exact Ext.refl _ | refine Ext.alloc ?_ _), by simp, by repeat (first | exact Bk.at (by simp) | refine Bk.old ?_), by repeat (first | exact Bk.at (by simp) | refine Bk.old ?_), by repeat (first | exact Bk.at (by simp) | refine Bk.old ?_)⟩ ?_
  rintro wr ⟨hX, hZ, hB0, hB1, hB2⟩
  have B0 := Lib.hid hB0
  have B1 := Lib.hid hB1
  have B2 := Lib.hid hB2
  have XR := Lib.hid hX
  have SZ := Lib.hid hZ
  clear hX hZ hB0 hB1 hB2
  have XA := Lib.hid (Ext.refl wr)
  refine (check_bound _ _ _ _ _ _ E (HE.out.ext (Ext.trans XR.out XA.out)) HR.out).mono ?_
  rintro e w6 ⟨rfl, hx⟩
  have hb := Ext.trans XA.out hx
  have XS := Lib.hid (Ext.trans XR.out hb)
  have B0S := Lib.hid (B0.out.ext hb)
  have B1S := Lib.hid (B1.out.ext hb)
  have B2S := Lib.hid (B2.out.ext hb)
  clear hx hb XA
  have d0 := B2S.out.cell 0
  have e0 := B2S.out.frozen 0
  have d1 := B2S.out.cell 1
  have e1 := B2S.out.frozen 1
  have d2 := B2S.out.cell 2
  have e2 := B2S.out.frozen 2
  have FR := Lib.hid (show Ext w _ from XS.out.set3 (b := w.heap.size + 1 + 1) (by omega) (.int .i64 0) (.int .i64 0) (.slice none 0 0))
  have PR := Lib.hid (B2S.out.pic.set (W' := 0) (H' := 0) (v' := .slice none 0 0))
  go_wp2_with fail
  obtain ⟨k0, k1, k2⟩ := PR.out
  exact bodyPost_ret (v := .tuple #[.agg #[.int .i64 0, .int .i64 0, .slice none 0 0], .iface 171 (.pointer (some (E 1)))]) (by simp [results, Tryd.results28, go_sem, k0, k1, k2]) rfl ⟨rfl, FR.out⟩
theorem crop_bound_C (X Y RW RH W H : Int) (x : Option Addr) (n c : Nat) (E : Nat → Addr) (w : World) (g1 : 1 ≤ RW) (g2 : 1 ≤ RH) (g3 : inB W H X Y = false) (hb : W ≤ 9223372036854775807 ∧ H ≤ 9223372036854775807) (hE : Errs w E) (hr : rightB W H n = true) :
    Calls Tryd.prog 28 #[.agg #[.int .i64 W, .int .i64 H, .slice x n c], .agg #[.int .i64 X, .int .i64 Y, .int .i64 RW, .int .i64 RH]] w fun e w' => e = .returned (.tuple #[.agg #[.int .i64 0, .int .i64 0, .slice none 0 0], .iface 171 (.pointer (some (E 1)))]) ∧ Ext w w' := by
  have HR := Lib.hid hr
  have HE := Lib.hid hE
  clear hE
  have HI := Lib.hid g3
  clear g3
  obtain ⟨hb1, hb2⟩ := hb
  clear hr
  have t1 : decide ((1 : Int) ≤ RW) = true := decide_eq_true (by omega)
  have t2 : decide ((1 : Int) ≤ RH) = true := decide_eq_true (by omega)
  go_enter Tryd.func28, Tryd.ntmps28
  go_wp2_with fail
  refine calls_world (fun wz => Ext w wz ∧ wz.heap.size = w.heap.size + 1 + 1 + 1 ∧ Bk wz (w.heap.size) #[.int .i64 W, .int .i64 H, .slice x n c] ∧ Bk wz (w.heap.size + 1) #[.int .i64 X, .int .i64 Y, .int .i64 RW, .int .i64 RH] ∧ Bk wz (w.heap.size + 1 + 1) #[.int .i64 0, .int .i64 0, .slice none 0 0]) ⟨by repeat (first | exact Ext.refl _ | refine Ext.alloc ?_ _), by simp, by repeat (first | exact Bk.at (by simp) | refine Bk.old ?_), by repeat (first | exact Bk.at (by simp) | refine Bk.old ?_), by repeat (first | exact Bk.at (by simp) | refine Bk.old ?_)⟩ ?_
  rintro wr ⟨hX, hZ, hB0, hB1, hB2⟩
  have B0 := Lib.hid hB0
  have B1 := Lib.hid hB1
  have B2 := Lib.hid hB2
  have XR := Lib.hid hX
  have SZ := Lib.hid hZ
  clear hX hZ hB0 hB1 hB2
  refine (in_any _ _ _ _ _ _ ⟨_, _, _, rfl⟩).mono ?_
  rintro e w5 ⟨rfl, hx5⟩
  rw [HI.out]
  have XA := Lib.hid hx5
  clear hx5
  have q0 := (B0.out.ext XA.out).cell 0
  have q1 := (B0.out.ext XA.out).cell 1
  have q2 := (B0.out.ext XA.out).cell 2
  have s0 := (B1.out.ext XA.out).cell 0
  have s1 := (B1.out.ext XA.out).cell 1
  have s2 := (B1.out.ext XA.out).cell 2
  have s3 := (B1.out.ext XA.out).cell 3
  go_wp2_with fail
  clear q0 q1 q2 s0 s1 s2 s3
  refine (check_bound _ _ _ _ _ _ E (HE.out.ext (Ext.trans XR.out XA.out)) HR.out).mono ?_
  rintro e w6 ⟨rfl, hx⟩
  have hb := Ext.trans XA.out hx
  have XS := Lib.hid (Ext.trans XR.out hb)
  have B0S := Lib.hid (B0.out.ext hb)
  have B1S := Lib.hid (B1.out.ext hb)
  have B2S := Lib.hid (B2.out.ext hb)
  clear hx hb XA
  have d0 := B2S.out.cell 0
  have e0 := B2S.out.frozen 0
  have d1 := B2S.out.cell 1
  have e1 := B2S.out.frozen 1
  have d2 := B2S.out.cell 2
  have e2 := B2S.out.frozen 2
  have FR := Lib.hid (show Ext w _ from XS.out.set3 (b := w.heap.size + 1 + 1) (by omega) (.int .i64 0) (.int .i64 0) (.slice none 0 0))
  have PR := Lib.hid (B2S.out.pic.set (W' := 0) (H' := 0) (v' := .slice none 0 0))
  go_wp2_with fail
  obtain ⟨k0, k1, k2⟩ := PR.out
  exact bodyPost_ret (v := .tuple #[.agg #[.int .i64 0, .int .i64 0, .slice none 0 0], .iface 171 (.pointer (some (E 1)))]) (by simp [results, Tryd.results28, go_sem, k0, k1, k2]) rfl ⟨rfl, FR.out⟩
theorem crop_bound_D (X Y RW RH W H : Int) (x : Option Addr) (n c : Nat) (E : Nat → Addr) (w : World) (g1 : 1 ≤ RW) (g2 : 1 ≤ RH) (g3 : inB W H X Y = true) (g4 : W - X < RW) (hb : W ≤ 9223372036854775807 ∧ H ≤ 9223372036854775807) (hE : Errs w E) (hr : rightB W H n = true) :
    Calls Tryd.prog 28 #[.agg #[.int .i64 W, .int .i64 H, .slice x n c], .agg #[.int .i64 X, .int .i64 Y, .int .i64 RW, .int .i64 RH]] w fun e w' => e = .returned (.tuple #[.agg #[.int .i64 0, .int .i64 0, .slice none 0 0], .iface 171 (.pointer (some (E 1)))]) ∧ Ext w w' := by
  have HR := Lib.hid hr
  have HE := Lib.hid hE
  clear hE
  have HI := Lib.hid g3
  obtain ⟨i1, i2, i3, i4⟩ := of_decide_eq_true g3
  clear g3
  obtain ⟨hb1, hb2⟩ := hb
  clear hr
  have t1 : decide ((1 : Int) ≤ RW) = true := decide_eq_true (by omega)
  have t2 : decide ((1 : Int) ≤ RH) = true := decide_eq_true (by omega)
  have t3 : decide (RW ≤ W - X) = false := decide_eq_false (by omega)
  go_enter Tryd.func28, Tryd.ntmps28
  go_wp2_with fail
  refine calls_world (fun wz => Ext w wz ∧ wz.heap.size = w.heap.size + 1 + 1 + 1 ∧ Bk wz (w.heap.size) #[.int .i64 W, .int .i64 H, .slice x n c] ∧ Bk wz (w.heap.size + 1) #[.int .i64 X, .int .i64 Y, .int .i64 RW, .int .i64 RH] ∧ Bk wz (w.heap.size + 1 + 1) #[.int .i64 0, .int .i64 0, .slice none 0 0]) ⟨by repeat (first | exact Ext.refl _ | refine Ext.alloc ?_ _), by simp, by repeat (first | exact Bk.at (by simp) | refine Bk.old ?_), by repeat (first | exact Bk.at (by simp) | refine Bk.old ?_), by repeat (first | exact Bk.at (by simp) | refine Bk.old ?_)⟩ ?_
  rintro wr ⟨hX, hZ, hB0, hB1, hB2⟩
  have B0 := Lib.hid hB0
  have B1 := Lib.hid hB1
  have B2 := Lib.hid hB2
  have XR := Lib.hid hX
  have SZ := Lib.hid hZ
  clear hX hZ hB0 hB1 hB2
  refine (in_any _ _ _ _ _ _ ⟨_, _, _, rfl⟩).mono ?_
  rintro e w5 ⟨rfl, hx5⟩
  rw [HI.out]
  have XA := Lib.hid hx5
  clear hx5
  have q0 := (B0.out.ext XA.out).cell 0
  have q1 := (B0.out.ext XA.out).cell 1
  have q2 := (B0.out.ext XA.out).cell 2
  have s0 := (B1.out.ext XA.out).cell 0
  have s1 := (B1.out.ext XA.out).cell 1
  have s2 := (B1.out.ext XA.out).cell 2
  have s3 := (B1.out.ext XA.out).cell 3
  go_wp2_with fail
  clear q0 q1 q2 s0 s1 s2 s3
  refine (check_bound _ _ _ _ _ _ E (HE.out.ext (Ext.trans XR.out XA.out)) HR.out).mono ?_
  rintro e w6 ⟨rfl, hx⟩
  have hb := Ext.trans XA.out hx
  have XS := Lib.hid (Ext.trans XR.out hb)
  have B0S := Lib.hid (B0.out.ext hb)
  have B1S := Lib.hid (B1.out.ext hb)
  have B2S := Lib.hid (B2.out.ext hb)
  clear hx hb XA
  have d0 := B2S.out.cell 0
  have e0 := B2S.out.frozen 0
  have d1 := B2S.out.cell 1
  have e1 := B2S.out.frozen 1
  have d2 := B2S.out.cell 2
  have e2 := B2S.out.frozen 2
  have FR := Lib.hid (show Ext w _ from XS.out.set3 (b := w.heap.size + 1 + 1) (by omega) (.int .i64 0) (.int .i64 0) (.slice none 0 0))
  have PR := Lib.hid (B2S.out.pic.set (W' := 0) (H' := 0) (v' := .slice none 0 0))
  go_wp2_with fail
  obtain ⟨k0, k1, k2⟩ := PR.out
  exact bodyPost_ret (v := .tuple #[.agg #[.int .i64 0, .int .i64 0, .slice none 0 0], .iface 171 (.pointer (some (E 1)))]) (by simp [results, Tryd.results28, go_sem, k0, k1, k2]) rfl ⟨rfl, FR.out⟩
theorem crop_bound_F (X Y RW RH W H : Int) (x : Option Addr) (n c : Nat) (E : Nat → Addr) (w : World) (g1 : 1 ≤ RW) (g2 : 1 ≤ RH) (g3 : inB W H X Y = true) (g4 : RW ≤ W - X) (g5 : H - Y < RH) (hb : W ≤ 9223372036854775807 ∧ H ≤ 9223372036854775807) (hE : Errs w E) (hr : rightB W H n = true) :
    Calls Tryd.prog 28 #[.agg #[.int .i64 W, .int .i64 H, .slice x n c], .agg #[.int .i64 X, .int .i64 Y, .int .i64 RW, .int .i64 RH]] w fun e w' => e = .returned (.tuple #[.agg #[.int .i64 0, .int .i64 0, .slice none 0 0], .iface 171 (.pointer (some (E 1)))]) ∧ Ext w w' := by
  have HR := Lib.hid hr
  have HE := Lib.hid hE
  clear hE
  have HI := Lib.hid g3
  obtain ⟨i1, i2, i3, i4⟩ := of_decide_eq_true g3
  clear g3
  obtain ⟨hb1, hb2⟩ := hb
  clear hr
  have t1 : decide ((1 : Int) ≤ RW) = true := decide_eq_true (by omega)
  have t2 : decide ((1 : Int) ≤ RH) = true := decide_eq_true (by omega)
  have t3 : decide (RW ≤ W - X) = true := decide_eq_true (by omega)
  have t4 : decide (RH ≤ H - Y) = false := decide_eq_false (by omega)
  go_enter Tryd.func28, Tryd.ntmps28
  go_wp2_with fail
  refine calls_world (fun wz => Ext w wz ∧ wz.heap.size = w.heap.size + 1 + 1 + 1 ∧ Bk wz (w.heap.size) #[.int .i64 W, .int .i64 H, .slice x n c] ∧ Bk wz (w.heap.size + 1) #[.int .i64 X, .int .i64 Y, .int .i64 RW, .int .i64 RH] ∧ Bk wz (w.heap.size + 1 + 1) #[.int .i64 0, .int .i64 0, .slice none 0 0]) ⟨by repeat (first | exact Ext.refl _ | refine Ext.alloc ?_ _), by simp, by repeat (first | exact Bk.at (by simp) | refine Bk.old ?_), by repeat (first | exact Bk.at (by simp) | refine Bk.old ?_), by repeat (first | exact Bk.at (by simp) | refine Bk.old ?_)⟩ ?_
  rintro wr ⟨hX, hZ, hB0, hB1, hB2⟩
  have B0 := Lib.hid hB0
  have B1 := Lib.hid hB1
  have B2 := Lib.hid hB2
  have XR := Lib.hid hX
  have SZ := Lib.hid hZ
  clear hX hZ hB0 hB1 hB2
  refine (in_any _ _ _ _ _ _ ⟨_, _, _, rfl⟩).mono ?_
  rintro e w5 ⟨rfl, hx5⟩
  rw [HI.out]
  have XA := Lib.hid hx5
  clear hx5
  have q0 := (B0.out.ext XA.out).cell 0
  have q1 := (B0.out.ext XA.out).cell 1
  have q2 := (B0.out.ext XA.out).cell 2
  have s0 := (B1.out.ext XA.out).cell 0
  have s1 := (B1.out.ext XA.out).cell 1
  have s2 := (B1.out.ext XA.out).cell 2
  have s3 := (B1.out.ext XA.out).cell 3
  go_wp2_with fail
  clear q0 q1 q2 s0 s1 s2 s3
  refine (check_bound _ _ _ _ _ _ E (HE.out.ext (Ext.trans XR.out XA.out)) HR.out).mono ?_
  rintro e w6 ⟨rfl, hx⟩
  have hb := Ext.trans XA.out hx
  have XS := Lib.hid (Ext.trans XR.out hb)
  have B0S := Lib.hid (B0.out.ext hb)
  have B1S := Lib.hid (B1.out.ext hb)
  have B2S := Lib.hid (B2.out.ext hb)
  clear hx hb XA
  have d0 := B2S.out.cell 0
  have e0 := B2S.out.frozen 0
  have d1 := B2S.out.cell 1
  have e1 := B2S.out.frozen 1
  have d2 := B2S.out.cell 2
  have e2 := B2S.out.frozen 2
  have FR := Lib.hid (show Ext w _ from XS.out.set3 (b := w.heap.size + 1 + 1) (by omega) (.int .i64 0) (.int .i64 0) (.slice none 0 0))
  have PR := Lib.hid (B2S.out.pic.set (W' := 0) (H' := 0) (v' := .slice none 0 0))
  go_wp2_with fail
  obtain ⟨k0, k1, k2⟩ := PR.out
  exact bodyPost_ret (v := .tuple #[.agg #[.int .i64 0, .int .i64 0, .slice none 0 0], .iface 171 (.pointer (some (E 1)))]) (by simp [results, Tryd.results28, go_sem, k0, k1, k2]) rfl ⟨rfl, FR.out⟩
theorem crop_ok_T (X Y RW RH W H : Nat) (ad : Addr) (c : Nat) (px : Nat → P4) (w : World) (h1 : 1 ≤ RW) (h2 : 1 ≤ RH) (h3 : X + RW ≤ W) (h4 : Y + RH ≤ H) (hr : rightB (W : Int) (H : Int) (W * H) = true) (hx : Pxs w (some ad) (W * H) px) :
    Calls Tryd.prog 28 #[.agg #[.int .i64 (W : Int), .int .i64 (H : Int), .slice (some ad) (W * H) c], .agg #[.int .i64 (X : Int), .int .i64 (Y : Int), .int .i64 (RW : Int), .int .i64 (RH : Int)]] w fun e w' => (∃ v, e = .returned (.tuple #[.agg #[.int .i64 (RW : Int), .int .i64 (RH : Int), v], .nilIface]) ∧ w'.ownsRow w.heap.size 36 4 v (RW * RH) (pxV (RW * RH) (lin RW fun x y => px ((y + Y) * W + (X + x))))) ∧ Ext w w' := by
  have HR := Lib.hid hr
  obtain ⟨W', H', q1, q2, hW1, hW2, hH1, hH2, _⟩ := rightB_yes hr
  obtain rfl : W' = W := by omega
  obtain rfl : H' = H := by omega
  have HX := Lib.hid hx
  clear q1 q2 hx
  have HI : Hid (inB (W' : Int) (H' : Int) (X : Int) (Y : Int) = true) := Lib.hid (decide_eq_true ⟨by omega, by omega, by omega, by omega⟩)
  clear hr
  have t1 : decide ((1 : Int) ≤ (RW : Int)) = true := decide_eq_true (by omega)
  have t2 : decide ((1 : Int) ≤ (RH : Int)) = true := decide_eq_true (by omega)
  have t3 : decide ((RW : Int) ≤ (W' : Int) - (X : Int)) = true := decide_eq_true (by omega)
  have t4 : decide ((RH : Int) ≤ (H' : Int) - (Y : Int)) = true := decide_eq_true (by omega)
  go_enter Tryd.func28, Tryd.ntmps28
  go_wp2_with fail
  refine calls_world (fun wz => Ext w wz ∧ wz.heap.size = w.heap.size + 1 + 1 + 1 ∧ Bk wz (w.heap.size) #[.int .i64 (W' : Int), .int .i64 (H' : Int), .slice (some ad) (W' * H') c] ∧ Bk wz (w.heap.size + 1) #[.int .i64 (X : Int), .int .i64 (Y : Int), .int .i64 (RW : Int), .int .i64 (RH : Int)] ∧ Bk wz (w.heap.size + 1 + 1) #[.int .i64 0, .int .i64 0, .slice none 0 0]) ⟨by repeat (first | exact Ext.refl _ | refine Ext.alloc ?_ _), by simp, by repeat (first | exact Bk.at (by simp) | refine Bk.old ?_), by repeat (first | exact Bk.at (by simp) | refine Bk.old ?_), by repeat (first | exact Bk.at (by simp) | refine Bk.old ?_)⟩ ?_
  rintro wr ⟨hX, hZ, hB0, hB1, hB2⟩
  have B0 := Lib.hid hB0
  have B1 := Lib.hid hB1
  have B2 := Lib.hid hB2
  have XR := Lib.hid hX
  have SZ := Lib.hid hZ
  clear hX hZ hB0 hB1 hB2
  refine (in_any _ _ _ _ _ _ ⟨_, _, _, rfl⟩).mono ?_
  rintro e w5 ⟨rfl, hx5⟩
  rw [HI.out]
  have XA := Lib.hid hx5
  clear hx5
  have q0 := (B0.out.ext XA.out).cell 0
  have q1 := (B0.out.ext XA.out).cell 1
  have q2 := (B0.out.ext XA.out).cell 2
  have s0 := (B1.out.ext XA.out).cell 0
  have s1 := (B1.out.ext XA.out).cell 1
  have s2 := (B1.out.ext XA.out).cell 2
  have s3 := (B1.out.ext XA.out).cell 3
  go_wp2_with fail
  clear q0 q1 q2 s0 s1 s2 s3
  refine (check_ok _ _ _ _ _ _ HR.out).mono ?_
  rintro e w6 ⟨rfl, hx⟩
  have hb := Ext.trans XA.out hx
  have XS := Lib.hid (Ext.trans XR.out hb)
  have B0S := Lib.hid (B0.out.ext hb)
  have B1S := Lib.hid (B1.out.ext hb)
  have B2S := Lib.hid (B2.out.ext hb)
  clear hx hb XA
  have s2 := B1S.out.cell 2
  have s3 := B1S.out.cell 3
  go_wp2_with fail
  refine (each_any 66 #[.pointer (some ⟨w.heap.size, 0, none⟩), .pointer (some ⟨w.heap.size + 1, 0, none⟩)] RW RH (fun x y => px ((y + Y) * W' + (X + x))) _ (by omega) (by omega) enters_crop1 (fun x y w1 h1 hxW hyH => crop1_any x y W' H' X Y _ _ ad c w.heap.size (w.heap.size + 1) px w1 (B0S.out.ext h1).pic (B1S.out.ext h1) (HX.out.ext (XS.out.trans h1)) hW2 hH2 (by omega) (by omega))).mono ?_
  rintro e w7 ⟨⟨v, rfl, hown⟩, h7⟩
  have OWN := Lib.hid (hown)
  have X7 := Lib.hid (h7)
  clear h7 hown
  obtain ⟨x, c', rfl⟩ := own_slice OWN.out
  have B7 := B2S.out.ext X7.out
  have d0 := B7.cell 0
  have e0 := B7.frozen 0
  have d1 := B7.cell 1
  have e1 := B7.frozen 1
  have d2 := B7.cell 2
  have e2 := B7.frozen 2
  have FR := Lib.hid (fill_res (W := (RW : Int)) (H := (RH : Int)) (XS.out.trans X7.out) (by omega : w.heap.size ≤ w.heap.size + 1 + 1) B7.pic OWN.out B2S.out.lt)
  clear B7 s2 s3
  go_wp2_with fail
  obtain ⟨P, own, hX⟩ := FR.out
  have k0 := P.c0
  have k1 := P.c1
  have k2 := P.c2
  exact bodyPost_ret (v := .tuple #[.agg #[.int .i64 (RW : Int), .int .i64 (RH : Int), .slice x (RW * RH) c'], .nilIface]) (by simp [results, Tryd.results28, go_sem, k0, k1, k2]) rfl ⟨⟨_, rfl, owns_based own XS.out.size⟩, hX⟩
theorem cropIs_n1 (X Y RW RH W H : Int) (x : Option Addr) (n c : Nat) (w : World)  (g1 : X < 0) (hb : W ≤ 9223372036854775807 ∧ H ≤ 9223372036854775807) :
    Calls Tryd.prog 31 #[.agg #[.int .i64 W, .int .i64 H, .slice x n c], .agg #[.int .i64 X, .int .i64 Y, .int .i64 RW, .int .i64 RH]] w fun e w' => e = .returned (.bool false) ∧ Ext w w' := by
  obtain ⟨hb1, hb2⟩ := hb
  have t1 : decide (X < 0) = true := decide_eq_true (by omega)
  go_enter Tryd.func31, Tryd.ntmps31
  go_wp2_with fail
  go_ret
  exact ⟨rfl, ((Ext.refl _).alloc _).alloc _⟩
theorem cropIs_n2 (X Y RW RH W H : Int) (x : Option Addr) (n c : Nat) (w : World) (g1 : ¬ X < 0) (g2 : Y < 0) (hb : W ≤ 9223372036854775807 ∧ H ≤ 9223372036854775807) :
    Calls Tryd.prog 31 #[.agg #[.int .i64 W, .int .i64 H, .slice x n c], .agg #[.int .i64 X, .int .i64 Y, .int .i64 RW, .int .i64 RH]] w fun e w' => e = .returned (.bool false) ∧ Ext w w' := by
  obtain ⟨hb1, hb2⟩ := hb
  have t1 : decide (X < 0) = false := decide_eq_false (by omega)
  have t2 : decide (Y < 0) = true := decide_eq_true (by omega)
  go_enter Tryd.func31, Tryd.ntmps31
  go_wp2_with fail
  go_ret
  exact ⟨rfl, ((Ext.refl _).alloc _).alloc _⟩
theorem cropIs_n3 (X Y RW RH W H : Int) (x : Option Addr) (n c : Nat) (w : World) (g1 : ¬ X < 0) (g2 : ¬ Y < 0) (g3 : RW < 1) (hb : W ≤ 9223372036854775807 ∧ H ≤ 9223372036854775807) :
    Calls Tryd.prog 31 #[.agg #[.int .i64 W, .int .i64 H, .slice x n c], .agg #[.int .i64 X, .int .i64 Y, .int .i64 RW, .int .i64 RH]] w fun e w' => e = .returned (.bool false) ∧ Ext w w' := by
  obtain ⟨hb1, hb2⟩ := hb
  have t1 : decide (X < 0) = false := decide_eq_false (by omega)
  have t2 : decide (Y < 0) = false := decide_eq_false (by omega)
  have t3 : decide (RW < 1) = true := decide_eq_true (by omega)
  go_enter Tryd.func31, Tryd.ntmps31
  go_wp2_with fail
  go_ret
  exact ⟨rfl, ((Ext.refl _).alloc _).alloc _⟩
theorem cropIs_n4 (X Y RW RH W H : Int) (x : Option Addr) (n c : Nat) (w : World) (g1 : ¬ X < 0) (g2 : ¬ Y < 0) (g3 : ¬ RW < 1) (g4 : RH < 1) (hb : W ≤ 9223372036854775807 ∧ H ≤ 9223372036854775807) :
    Calls Tryd.prog 31 #[.agg #[.int .i64 W, .int .i64 H, .slice x n c], .agg #[.int .i64 X, .int .i64 Y, .int .i64 RW, .int .i64 RH]] w fun e w' => e = .returned (.bool false) ∧ Ext w w' := by
  obtain ⟨hb1, hb2⟩ := hb
  have t1 : decide (X < 0) = false := decide_eq_false (by omega)
  have t2 : decide (Y < 0) = false := decide_eq_false (by omega)
  have t3 : decide (RW < 1) = false := decide_eq_false (by omega)
  have t4 : decide (RH < 1) = true := decide_eq_true (by omega)
  go_enter Tryd.func31, Tryd.ntmps31
  go_wp2_with fail
  go_ret
  exact ⟨rfl, ((Ext.refl _).alloc _).alloc _⟩
theorem cropIs_n5 (X Y RW RH W H : Int) (x : Option Addr) (n c : Nat) (w : World) (g1 : ¬ X < 0) (g2 : ¬ Y < 0) (g3 : ¬ RW < 1) (g4 : ¬ RH < 1) (g5 : W ≤ X) (hb : W ≤ 9223372036854775807 ∧ H ≤ 9223372036854775807) :
    Calls Tryd.prog 31 #[.agg #[.int .i64 W, .int .i64 H, .slice x n c], .agg #[.int .i64 X, .int .i64 Y, .int .i64 RW, .int .i64 RH]] w fun e w' => e = .returned (.bool false) ∧ Ext w w' := by
  obtain ⟨hb1, hb2⟩ := hb
  have t1 : decide (X < 0) = false := decide_eq_false (by omega)
  have t2 : decide (Y < 0) = false := decide_eq_false (by omega)
  have t3 : decide (RW < 1) = false := decide_eq_false (by omega)
  have t4 : decide (RH < 1) = false := decide_eq_false (by omega)
  have t5 : decide (W ≤ X) = true := decide_eq_true (by omega)
  go_enter Tryd.func31, Tryd.ntmps31
  go_wp2_with fail
  go_ret
  exact ⟨rfl, ((Ext.refl _).alloc _).alloc _⟩
theorem cropIs_n6 (X Y RW RH W H : Int) (x : Option Addr) (n c : Nat) (w : World) (g1 : ¬ X < 0) (g2 : ¬ Y < 0) (g3 : ¬ RW < 1) (g4 : ¬ RH < 1) (g5 : ¬ W ≤ X) (g6 : H ≤ Y) (hb : W ≤ 9223372036854775807 ∧ H ≤ 9223372036854775807) :
    Calls Tryd.prog 31 #[.agg #[.int .i64 W, .int .i64 H, .slice x n c], .agg #[.int .i64 X, .int .i64 Y, .int .i64 RW, .int .i64 RH]] w fun e w' => e = .returned (.bool false) ∧ Ext w w' := by
  obtain ⟨hb1, hb2⟩ := hb
  have t1 : decide (X < 0) = false := decide_eq_false (by omega)
  have t2 : decide (Y < 0) = false := decide_eq_false (by omega)
  have t3 : decide (RW < 1) = false := decide_eq_false (by omega)
  have t4 : decide (RH < 1) = false := decide_eq_false (by omega)
  have t5 : decide (W ≤ X) = false := decide_eq_false (by omega)
  have t6 : decide (H ≤ Y) = true := decide_eq_true (by omega)
  go_enter Tryd.func31, Tryd.ntmps31
  go_wp2_with fail
  go_ret
  exact ⟨rfl, ((Ext.refl _).alloc _).alloc _⟩
theorem cropIs_n7 (X Y RW RH W H : Int) (x : Option Addr) (n c : Nat) (w : World) (g1 : ¬ X < 0) (g2 : ¬ Y < 0) (g3 : ¬ RW < 1) (g4 : ¬ RH < 1) (g5 : ¬ W ≤ X) (g6 : ¬ H ≤ Y) (g7 : ¬ RW ≤ W - X) (hb : W ≤ 9223372036854775807 ∧ H ≤ 9223372036854775807) :
    Calls Tryd.prog 31 #[.agg #[.int .i64 W, .int .i64 H, .slice x n c], .agg #[.int .i64 X, .int .i64 Y, .int .i64 RW, .int .i64 RH]] w fun e w' => e = .returned (.bool false) ∧ Ext w w' := by
  obtain ⟨hb1, hb2⟩ := hb
  have t1 : decide (X < 0) = false := decide_eq_false (by omega)
  have t2 : decide (Y < 0) = false := decide_eq_false (by omega)
  have t3 : decide (RW < 1) = false := decide_eq_false (by omega)
  have t4 : decide (RH < 1) = false := decide_eq_false (by omega)
  have t5 : decide (W ≤ X) = false := decide_eq_false (by omega)
  have t6 : decide (H ≤ Y) = false := decide_eq_false (by omega)
  have t7 : decide (RW ≤ W - X) = false := decide_eq_false (by omega)
  go_enter Tryd.func31, Tryd.ntmps31
  go_wp2_with fail
  go_ret
  exact ⟨rfl, ((Ext.refl _).alloc _).alloc _⟩
theorem cropIs_n8 (X Y RW RH W H : Int) (x : Option Addr) (n c : Nat) (w : World) (g1 : ¬ X < 0) (g2 : ¬ Y < 0) (g3 : ¬ RW < 1) (g4 : ¬ RH < 1) (g5 : ¬ W ≤ X) (g6 : ¬ H ≤ Y) (g7 : RW ≤ W - X) (g8 : ¬ RH ≤ H - Y) (hb : W ≤ 9223372036854775807 ∧ H ≤ 9223372036854775807) :
    Calls Tryd.prog 31 #[.agg #[.int .i64 W, .int .i64 H, .slice x n c], .agg #[.int .i64 X, .int .i64 Y, .int .i64 RW, .int .i64 RH]] w fun e w' => e = .returned (.bool false) ∧ Ext w w' := by
  obtain ⟨hb1, hb2⟩ := hb
  have t1 : decide (X < 0) = false := decide_eq_false (by omega)
  have t2 : decide (Y < 0) = false := decide_eq_false (by omega)
  have t3 : decide (RW < 1) = false := decide_eq_false (by omega)
  have t4 : decide (RH < 1) = false := decide_eq_false (by omega)
  have t5 : decide (W ≤ X) = false := decide_eq_false (by omega)
  have t6 : decide (H ≤ Y) = false := decide_eq_false (by omega)
  have t7 : decide (RW ≤ W - X) = true := decide_eq_true (by omega)
  have t8 : decide (RH ≤ H - Y) = false := decide_eq_false (by omega)
  go_enter Tryd.func31, Tryd.ntmps31
  go_wp2_with fail
  go_ret
  exact ⟨rfl, ((Ext.refl _).alloc _).alloc _⟩
theorem cropIs_yes (X Y RW RH W H : Int) (x : Option Addr) (n c : Nat) (w : World) (g1 : ¬ X < 0) (g2 : ¬ Y < 0) (g3 : ¬ RW < 1) (g4 : ¬ RH < 1) (g5 : ¬ W ≤ X) (g6 : ¬ H ≤ Y) (g7 : RW ≤ W - X) (g8 : RH ≤ H - Y) (hb : W ≤ 9223372036854775807 ∧ H ≤ 9223372036854775807) :
    Calls Tryd.prog 31 #[.agg #[.int .i64 W, .int .i64 H, .slice x n c], .agg #[.int .i64 X, .int .i64 Y, .int .i64 RW, .int .i64 RH]] w fun e w' => e = .returned (.bool true) ∧ Ext w w' := by
  obtain ⟨hb1, hb2⟩ := hb
  have t1 : decide (X < 0) = false := decide_eq_false (by omega)
  have t2 : decide (Y < 0) = false := decide_eq_false (by omega)
  have t3 : decide (RW < 1) = false := decide_eq_false (by omega)
  have t4 : decide (RH < 1) = false := decide_eq_false (by omega)
  have t5 : decide (W ≤ X) = false := decide_eq_false (by omega)
  have t6 : decide (H ≤ Y) = false := decide_eq_false (by omega)
  have t7 : decide (RW ≤ W - X) = true := decide_eq_true (by omega)
  have t8 : decide (RH ≤ H - Y) = true := decide_eq_true (by omega)
  go_enter Tryd.func31, Tryd.ntmps31
  go_wp2_with fail
  go_ret
  exact ⟨rfl, ((Ext.refl _).alloc _).alloc _⟩
end Go.Proofs.YtkfjcgcgfdibaaaDoor
namespace Go.Proofs.YtkfjcgcgfdibaaaDoor
open Go.RowKit
set_option maxRecDepth 100000
theorem set3_all {w0 w : World} {b : Nat} {x y z x' y' z' : Value} (hX : Ext w0 w) (hb : w0.heap.size ≤ b) (hB : Bk w b #[x, y, z]) :
    Ext w0 (((w.setCell ⟨b, 0, none⟩ x').setCell ⟨b, 1, none⟩ y').setCell ⟨b, 2, none⟩ z') ∧ Bk (((w.setCell ⟨b, 0, none⟩ x').setCell ⟨b, 1, none⟩ y').setCell ⟨b, 2, none⟩ z') b #[x', y', z'] ∧ Keeps (fun k => k = b) w (((w.setCell ⟨b, 0, none⟩ x').setCell ⟨b, 1, none⟩ y').setCell ⟨b, 2, none⟩ z') :=
  ⟨hX.set3 hb _ _ _, ((hB.set_ 0 x').set_ 1 y').set_ 2 z', (((Keeps.refl (fun k => k = b) w).setCell (.inl rfl) _).setCell (.inl rfl) _).setCell (.inl rfl) _⟩
def fillB (X Y RW RH : Int) : Bool := nearAll (rf X Y RW RH) 4 && decide (0 ≤ RW ∧ 0 ≤ RH)
def cropB (X Y RW RH W H : Int) : Bool := decide (1 ≤ RW ∧ 1 ≤ RH ∧ 0 ≤ X ∧ 0 ≤ Y ∧ X < W ∧ Y < H ∧ RW ≤ W - X ∧ RH ≤ H - Y)
theorem fill_shape (X Y RW RH r g b a : Int) (W H : Int) (x : Option Addr) (n c : Nat) (E : Nat → Addr) (w : World) (hE : Errs w E) (hr : rightB W H n = false) :
    Calls Tryd.prog 27 #[.agg #[.int .i64 W, .int .i64 H, .slice x n c], .agg #[.int .i64 X, .int .i64 Y, .int .i64 RW, .int .i64 RH], .agg #[.int .u8 r, .int .u8 g, .int .u8 b, .int .u8 a]] w fun e w' => e = .returned (.tuple #[.agg #[.int .i64 0, .int .i64 0, .slice none 0 0], .iface 171 (.pointer (some (E 2)))]) ∧ Ext w w' := by
  cases hN : nearAll (rf X Y RW RH) 4
  · exact fill_shape_N X Y RW RH r g b a W H x n c E w hN hE hr
  · by_cases h1 : RW < 0
    · exact fill_shape_W X Y RW RH r g b a W H x n c E w hN h1 hE hr
    · by_cases h2 : RH < 0
      · exact fill_shape_H X Y RW RH r g b a W H x n c E w hN (by omega) h2 hE hr
      · exact fill_shape_T X Y RW RH r g b a W H x n c E w hN (by omega) (by omega) hE hr
theorem fill_bound (X Y RW RH r g b a : Int) (W H : Int) (x : Option Addr) (n c : Nat) (E : Nat → Addr) (w : World) (hE : Errs w E) (hr : rightB W H n = true) (hb : fillB X Y RW RH = false) :
    Calls Tryd.prog 27 #[.agg #[.int .i64 W, .int .i64 H, .slice x n c], .agg #[.int .i64 X, .int .i64 Y, .int .i64 RW, .int .i64 RH], .agg #[.int .u8 r, .int .u8 g, .int .u8 b, .int .u8 a]] w fun e w' => e = .returned (.tuple #[.agg #[.int .i64 0, .int .i64 0, .slice none 0 0], .iface 171 (.pointer (some (E 1)))]) ∧ Ext w w' := by
  cases hN : nearAll (rf X Y RW RH) 4
  · exact fill_bound_N X Y RW RH r g b a W H x n c E w hN hE hr
  · by_cases h1 : RW < 0
    · exact fill_bound_W X Y RW RH r g b a W H x n c E w hN h1 hE hr
    · by_cases h2 : RH < 0
      · exact fill_bound_H X Y RW RH r g b a W H x n c E w hN (by omega) h2 hE hr
      · unfold fillB at hb
        rw [hN, Bool.true_and] at hb
        exact absurd (show 0 ≤ RW ∧ 0 ≤ RH by omega) (of_decide_eq_false hb)
theorem lin_fl {W H : Nat} {X Y RW RH : Int} {p : P4} {px : Nat → P4} {i : Nat} (hi : i < W * H) : lin W (fun x y => if inR X Y RW RH (x : Int) (y : Int) then p else px (y * W + x)) i = flP W X Y RW RH p px (H * W) i := by
  have h : i < H * W := by rw [Nat.mul_comm]; exact hi
  have e : i / W * W + i % W = i := by rw [Nat.mul_comm]; exact Nat.div_add_mod i W
  unfold lin flP
  simp only [h, true_and, e]
theorem flP_ok {W H : Nat} {X Y RW RH : Int} {p : P4} {px : Nat → P4} {k : Nat} (hp : p.Ok) (hx : ∀ i, i < W * H → (px i).Ok) : ∀ i, i < W * H → (flP W X Y RW RH p px k i).Ok := by
  intro i hi; unfold flP; split
  · exact hp
  · exact hx i hi
theorem Pxs.oks {w : World} {a : Addr} {n : Nat} {px : Nat → P4} (h : Pxs w (some a) n px) : ∀ i, i < n → (px i).Ok := fun i hi => (h.2 a rfl i hi).2.2.2.2
theorem fill_ok (X Y RW RH r g b a : Int) (W H : Nat) (ad : Addr) (c : Nat) (px : Nat → P4) (w : World) (hp : (P4.mk r g b a).Ok) (hb : fillB X Y RW RH = true) (hr : rightB (W : Int) (H : Int) (W * H) = true) (hx : Pxs w (some ad) (W * H) px) :
    Calls Tryd.prog 27 #[.agg #[.int .i64 (W : Int), .int .i64 (H : Int), .slice (some ad) (W * H) c], .agg #[.int .i64 X, .int .i64 Y, .int .i64 RW, .int .i64 RH], .agg #[.int .u8 r, .int .u8 g, .int .u8 b, .int .u8 a]] w fun e w' => (∃ fx fc, e = .returned (.tuple #[.agg #[.int .i64 (W : Int), .int .i64 (H : Int), .slice fx (W * H) fc], .nilIface]) ∧ Pxs w' fx (W * H) (flP W X Y RW RH ⟨r, g, b, a⟩ px (H * W)) ∧ ∀ q, fx = some q → w.heap.size ≤ q.block) ∧ Ext w w' := by
  unfold fillB at hb
  rw [Bool.and_eq_true] at hb
  obtain ⟨hb1, hb2⟩ := hb
  obtain ⟨hb2, hb3⟩ := of_decide_eq_true hb2
  refine (fill_ok_T X Y RW RH r g b a W H ad c px w hb1 hb2 hb3 hr hx).mono ?_
  rintro e w' ⟨⟨v, rfl, hown⟩, hX⟩
  obtain ⟨fx, fc, rfl, hpx, hge⟩ := Pxs.of_own hown (fun i hi => by rw [lin_fl hi]; exact flP_ok hp hx.oks i hi)
  exact ⟨⟨fx, fc, rfl, hpx.congr fun i hi => (lin_fl hi).symm, hge⟩, hX⟩
theorem fillOf_px (W H : Nat) (ad : Addr) (cap : Nat) (px : Nat → P4) (X Y RW RH r g b a : Int) (w : World) (hp : (P4.mk r g b a).Ok) (hr : rightB (W : Int) (H : Int) (W * H) = true) (hb : fillB X Y RW RH = true) (hx : Pxs w (some ad) (W * H) px) :
    Calls Tryd.prog 30 #[.agg #[.int .i64 (W : Int), .int .i64 (H : Int), .slice (some ad) (W * H) cap], .agg #[.int .i64 X, .int .i64 Y, .int .i64 RW, .int .i64 RH], .agg #[.int .u8 r, .int .u8 g, .int .u8 b, .int .u8 a]] w fun e w' => (∃ fx fc, e = .returned (.agg #[.int .i64 (W : Int), .int .i64 (H : Int), .slice fx (W * H) fc]) ∧ Pxs w' fx (W * H) (flP W X Y RW RH ⟨r, g, b, a⟩ px (H * W))) ∧ Ext w w' := by
  unfold fillB at hb
  rw [Bool.and_eq_true] at hb
  obtain ⟨W', H', q1, q2, hW1, hW2, hH1, hH2, _⟩ := rightB_yes hr
  obtain rfl : W' = W := by omega
  obtain rfl : H' = H := by omega
  refine (fillOf_any W' H' ad cap px X Y RW RH ⟨r, g, b, a⟩ w hx ⟨hW1, hW2⟩ ⟨hH1, hH2⟩ (rf_near hb.1)).mono ?_
  rintro e w' ⟨⟨gg, c, rfl, hpo, _⟩, hX⟩
  exact ⟨⟨_, c, rfl, hpo.pxs (flP_ok hp hx.oks)⟩, hX⟩
theorem crop_shape (X Y RW RH W H : Int) (x : Option Addr) (n c : Nat) (E : Nat → Addr) (w : World) (hb : W ≤ 9223372036854775807 ∧ H ≤ 9223372036854775807) (hE : Errs w E) (hr : rightB W H n = false) :
    Calls Tryd.prog 28 #[.agg #[.int .i64 W, .int .i64 H, .slice x n c], .agg #[.int .i64 X, .int .i64 Y, .int .i64 RW, .int .i64 RH]] w fun e w' => e = .returned (.tuple #[.agg #[.int .i64 0, .int .i64 0, .slice none 0 0], .iface 171 (.pointer (some (E 2)))]) ∧ Ext w w' := by
  by_cases h1 : RW < 1
  · exact crop_shape_A X Y RW RH W H x n c E w h1 hb hE hr
  by_cases h2 : RH < 1
  · exact crop_shape_B X Y RW RH W H x n c E w (by omega) h2 hb hE hr
  cases h3 : inB W H X Y
  · exact crop_shape_C X Y RW RH W H x n c E w (by omega) (by omega) h3 hb hE hr
  by_cases h4 : W - X < RW
  · exact crop_shape_D X Y RW RH W H x n c E w (by omega) (by omega) h3 h4 hb hE hr
  by_cases h5 : H - Y < RH
  · exact crop_shape_F X Y RW RH W H x n c E w (by omega) (by omega) h3 (by omega) h5 hb hE hr
  · exact crop_shape_T X Y RW RH W H x n c E w (by omega) (by omega) h3 (by omega) (by omega) hb hE hr
theorem crop_bound (X Y RW RH W H : Int) (x : Option Addr) (n c : Nat) (E : Nat → Addr) (w : World) (hb : W ≤ 9223372036854775807 ∧ H ≤ 9223372036854775807) (hE : Errs w E) (hr : rightB W H n = true) (hc : cropB X Y RW RH W H = false) :
    Calls Tryd.prog 28 #[.agg #[.int .i64 W, .int .i64 H, .slice x n c], .agg #[.int .i64 X, .int .i64 Y, .int .i64 RW, .int .i64 RH]] w fun e w' => e = .returned (.tuple #[.agg #[.int .i64 0, .int .i64 0, .slice none 0 0], .iface 171 (.pointer (some (E 1)))]) ∧ Ext w w' := by
  by_cases h1 : RW < 1
  · exact crop_bound_A X Y RW RH W H x n c E w h1 hb hE hr
  by_cases h2 : RH < 1
  · exact crop_bound_B X Y RW RH W H x n c E w (by omega) h2 hb hE hr
  cases h3 : inB W H X Y
  · exact crop_bound_C X Y RW RH W H x n c E w (by omega) (by omega) h3 hb hE hr
  by_cases h4 : W - X < RW
  · exact crop_bound_D X Y RW RH W H x n c E w (by omega) (by omega) h3 h4 hb hE hr
  by_cases h5 : H - Y < RH
  · exact crop_bound_F X Y RW RH W H x n c E w (by omega) (by omega) h3 (by omega) h5 hb hE hr
  · obtain ⟨i1, i2, i3, i4⟩ := of_decide_eq_true h3
    exact absurd (show 1 ≤ RW ∧ 1 ≤ RH ∧ 0 ≤ X ∧ 0 ≤ Y ∧ X < W ∧ Y < H ∧ RW ≤ W - X ∧ RH ≤ H - Y by omega) (of_decide_eq_false hc)
theorem cropIs_any (X Y RW RH W H : Int) (x : Option Addr) (n c : Nat) (w : World) (hb : W ≤ 9223372036854775807 ∧ H ≤ 9223372036854775807) :
    Calls Tryd.prog 31 #[.agg #[.int .i64 W, .int .i64 H, .slice x n c], .agg #[.int .i64 X, .int .i64 Y, .int .i64 RW, .int .i64 RH]] w fun e w' => e = .returned (.bool (cropB X Y RW RH W H)) ∧ Ext w w' := by
  by_cases g1 : X < 0
  · rw [show cropB X Y RW RH W H = false from decide_eq_false (by omega)]; exact cropIs_n1 X Y RW RH W H x n c w g1 hb
  by_cases g2 : Y < 0
  · rw [show cropB X Y RW RH W H = false from decide_eq_false (by omega)]; exact cropIs_n2 X Y RW RH W H x n c w g1 g2 hb
  by_cases g3 : RW < 1
  · rw [show cropB X Y RW RH W H = false from decide_eq_false (by omega)]; exact cropIs_n3 X Y RW RH W H x n c w g1 g2 g3 hb
  by_cases g4 : RH < 1
  · rw [show cropB X Y RW RH W H = false from decide_eq_false (by omega)]; exact cropIs_n4 X Y RW RH W H x n c w g1 g2 g3 g4 hb
  by_cases g5 : W ≤ X
  · rw [show cropB X Y RW RH W H = false from decide_eq_false (by omega)]; exact cropIs_n5 X Y RW RH W H x n c w g1 g2 g3 g4 g5 hb
  by_cases g6 : H ≤ Y
  · rw [show cropB X Y RW RH W H = false from decide_eq_false (by omega)]; exact cropIs_n6 X Y RW RH W H x n c w g1 g2 g3 g4 g5 g6 hb
  by_cases g7 : RW ≤ W - X
  · by_cases g8 : RH ≤ H - Y
    · rw [show cropB X Y RW RH W H = true from decide_eq_true (by omega)]; exact cropIs_yes X Y RW RH W H x n c w g1 g2 g3 g4 g5 g6 g7 g8 hb
    · rw [show cropB X Y RW RH W H = false from decide_eq_false (by omega)]; exact cropIs_n8 X Y RW RH W H x n c w g1 g2 g3 g4 g5 g6 g7 g8 hb
  · rw [show cropB X Y RW RH W H = false from decide_eq_false (by omega)]; exact cropIs_n7 X Y RW RH W H x n c w g1 g2 g3 g4 g5 g6 g7 hb
theorem crop_oks {X Y RW RH W H : Nat} {px : Nat → P4} (h3 : X + RW ≤ W) (h4 : Y + RH ≤ H) (hx : ∀ i, i < W * H → (px i).Ok) : ∀ i, i < RW * RH → (lin RW (fun x y => px ((y + Y) * W + (X + x))) i).Ok := by
  intro i hi
  obtain ⟨q1, q2⟩ := lin_idx hi
  unfold lin
  exact hx _ (mul_lt_of (by omega) (by omega))
theorem crop_ok (X Y RW RH W H : Nat) (ad : Addr) (c : Nat) (px : Nat → P4) (w : World) (h1 : 1 ≤ RW) (h2 : 1 ≤ RH) (h3 : X + RW ≤ W) (h4 : Y + RH ≤ H) (hr : rightB (W : Int) (H : Int) (W * H) = true) (hx : Pxs w (some ad) (W * H) px) :
    Calls Tryd.prog 28 #[.agg #[.int .i64 (W : Int), .int .i64 (H : Int), .slice (some ad) (W * H) c], .agg #[.int .i64 (X : Int), .int .i64 (Y : Int), .int .i64 (RW : Int), .int .i64 (RH : Int)]] w fun e w' => (∃ fx fc, e = .returned (.tuple #[.agg #[.int .i64 (RW : Int), .int .i64 (RH : Int), .slice fx (RW * RH) fc], .nilIface]) ∧ Pxs w' fx (RW * RH) (lin RW fun x y => px ((y + Y) * W + (X + x))) ∧ ∀ q, fx = some q → w.heap.size ≤ q.block) ∧ Ext w w' := by
  refine (crop_ok_T X Y RW RH W H ad c px w h1 h2 h3 h4 hr hx).mono ?_
  rintro e w' ⟨⟨v, rfl, hown⟩, hX⟩
  obtain ⟨fx, fc, rfl, hpx, hge⟩ := Pxs.of_own hown (crop_oks h3 h4 hx.oks)
  exact ⟨⟨fx, fc, rfl, hpx, hge⟩, hX⟩
theorem cropOf_px (X Y RW RH W H : Nat) (ad : Addr) (c : Nat) (px : Nat → P4) (w : World) (h1 : 1 ≤ RW) (h2 : 1 ≤ RH) (h3 : X + RW ≤ W) (h4 : Y + RH ≤ H) (hr : rightB (W : Int) (H : Int) (W * H) = true) (hx : Pxs w (some ad) (W * H) px) :
    Calls Tryd.prog 32 #[.agg #[.int .i64 (W : Int), .int .i64 (H : Int), .slice (some ad) (W * H) c], .agg #[.int .i64 (X : Int), .int .i64 (Y : Int), .int .i64 (RW : Int), .int .i64 (RH : Int)]] w fun e w' => (∃ fx fc, e = .returned (.agg #[.int .i64 (RW : Int), .int .i64 (RH : Int), .slice fx (RW * RH) fc]) ∧ Pxs w' fx (RW * RH) (lin RW fun x y => px ((y + Y) * W + (X + x)))) ∧ Ext w w' := by
  obtain ⟨W', H', q1, q2, hW1, hW2, hH1, hH2, _⟩ := rightB_yes hr
  obtain rfl : W' = W := by omega
  obtain rfl : H' = H := by omega
  refine (cropOf_any X Y RW RH W' H' ad c px w hx ⟨hW1, hW2⟩ ⟨hH1, hH2⟩ h1 h2 h3 h4).mono ?_
  rintro e w' ⟨⟨gg, c, rfl, hpo, _⟩, hX⟩
  exact ⟨⟨_, c, rfl, hpo.pxs (crop_oks h3 h4 hx.oks)⟩, hX⟩
end Go.Proofs.YtkfjcgcgfdibaaaDoor
namespace Go.Proofs.YtkfjcgcgfdibaaaDoor
open Go.RowKit
set_option maxRecDepth 100000
theorem floor_law (n f : Int) (hf : 0 < f) : n / f = n.tdiv f - (if n.tmod f < 0 then 1 else 0) ∧ (n.tmod f < 0 ↔ n < n.tdiv f * f) := by
  have h1 := Int.mul_tdiv_add_tmod n f
  have h2 : n.tmod f < f := Int.tmod_lt_of_pos n hf
  have h3 : -f < n.tmod f := by
    have := Int.lt_tmod_of_pos n hf
    omega
  have hc : f * n.tdiv f = n.tdiv f * f := Int.mul_comm _ _
  generalize n.tdiv f = q at *
  generalize n.tmod f = r at *
  generalize hm : f * q = m at *
  refine ⟨?_, by omega⟩
  split
  · rename_i hr
    rw [Int.ediv_eq_iff_of_pos hf]
    rw [Int.sub_mul]
    omega
  · rename_i hr
    rw [Int.sub_zero, Int.ediv_eq_iff_of_pos hf]
    omega
theorem tdiv_small {n f : Int} (hn : -1000000000000 ≤ n ∧ n ≤ 1000000000000) : n.tdiv f ≤ 1000000000000 ∧ -1000000000000 ≤ n.tdiv f := by
  have h : (n.tdiv f).natAbs ≤ n.natAbs := by
    rw [Int.natAbs_tdiv]
    exact Nat.div_le_self _ _
  omega
theorem floor_any (n f : Int) (w : World) (hf : 0 < f) (hf2 : f ≤ 1000000) (hn : -1000000000000 ≤ n ∧ n ≤ 1000000000000) :
    Calls Tryd.prog 68 #[.int .i64 n, .int .i64 f] w fun e w' => e = .returned (.int .i64 (n / f)) ∧ w = w' := by
  have hl := (floor_law n f hf).1
  have hb : n.tdiv f ≤ 1000000000000 ∧ -1000000000000 ≤ n.tdiv f := tdiv_small hn
  have hz : ¬ f = 0 := by omega
  by_cases hr : n.tmod f < 0
  · have t1 : decide (n.tmod f < 0) = true := decide_eq_true hr
    rw [if_pos hr] at hl
    obtain ⟨q, hq⟩ : ∃ q, n.tdiv f = q := ⟨_, rfl⟩
    rw [hq] at hl hb
    rw [hl]
    go_enter Tryd.func68, Tryd.ntmps68
    go_wp2_with fail
    go_ret
    simp
  · have t1 : decide (n.tmod f < 0) = false := decide_eq_false hr
    rw [if_neg hr, Int.sub_zero] at hl
    obtain ⟨q, hq⟩ : ∃ q, n.tdiv f = q := ⟨_, rfl⟩
    rw [hq] at hl hb
    rw [hl]
    go_enter Tryd.func68, Tryd.ntmps68
    go_wp2_with fail
    go_ret
    simp
theorem downPart_any (n f : Int) (w : World) (hf : 0 < f) (hf2 : f ≤ 1000000) (hn : -1000000000000 ≤ n ∧ n ≤ 1000000000000) :
    Calls Tryd.prog 69 #[.int .i64 n, .int .i64 f] w fun e w' => e = .returned (.int .i64 (n / f)) ∧ w = w' := by
  obtain ⟨hl, hi⟩ := floor_law n f hf
  have hb : n.tdiv f ≤ 1000000000000 ∧ -1000000000000 ≤ n.tdiv f := tdiv_small hn
  have hm := Int.mul_tdiv_add_tmod n f
  have h2 : n.tmod f < f := Int.tmod_lt_of_pos n hf
  have h3 : -f < n.tmod f := Int.lt_tmod_of_pos n hf
  have hz : ¬ f = 0 := by omega
  rw [Int.mul_comm] at hm
  obtain ⟨q, hq⟩ : ∃ q, n.tdiv f = q := ⟨_, rfl⟩
  rw [hq] at hl hb hi hm
  obtain ⟨m, hqm⟩ : ∃ m, q * f = m := ⟨_, rfl⟩
  rw [hqm] at hi hm
  by_cases hr : n.tmod f < 0
  · have t1 : decide (n < m) = true := decide_eq_true (hi.1 hr)
    rw [if_pos hr] at hl
    rw [hl]
    clear hl hi
    go_enter Tryd.func69, Tryd.ntmps69
    go_wp2_with fail
    go_ret
    simp
  · have t1 : decide (n < m) = false := decide_eq_false (fun h => hr (hi.2 h))
    rw [if_neg hr, Int.sub_zero] at hl
    rw [hl]
    clear hl hi
    go_enter Tryd.func69, Tryd.ntmps69
    go_wp2_with fail
    go_ret
    simp
theorem run_max_int4 {P : Program} (w : World) (ts : Array TypeId) (t : TypeId) (k k' k'' k3 : IntKind) (x y z u : Int) : (Builtin.max_ ts t #[.int k x, .int k' y, .int k'' z, .int k3 u]).run P w = .ok (.int k (if u > (if z > (if y > x then y else x) then z else (if y > x then y else x)) then u else (if z > (if y > x then y else x) then z else (if y > x then y else x)))) w := by
  simp [Builtin.max_, Builtin.max2]
/-- how many steps a line has -/
def lnN (X0 Y0 X1 Y1 : Int) : Nat := max (X1 - X0).natAbs (Y1 - Y0).natAbs
/-- one number of its place behind k steps of n -/
def lnC (A B n k : Int) : Int := if 0 < n then A + (2 * k * (B - A) + n) / (2 * n) else A
/-- its pixels behind k steps -/
def lnP (W H : Nat) (X0 Y0 X1 Y1 : Int) (p : P4) (px : Nat → P4) : Nat → Nat → P4
  | 0 => px
  | k + 1 => if inB (W : Int) (H : Int) (lnC X0 X1 (lnN X0 Y0 X1 Y1) k) (lnC Y0 Y1 (lnN X0 Y0 X1 Y1) k) = true then upd (lnP W H X0 Y0 X1 Y1 p px k) ((lnC Y0 Y1 (lnN X0 Y0 X1 Y1) k).toNat * W + (lnC X0 X1 (lnN X0 Y0 X1 Y1) k).toNat) p else lnP W H X0 Y0 X1 Y1 p px k
theorem lnP_no {W H : Nat} {X0 Y0 X1 Y1 x y : Int} {p : P4} {px : Nat → P4} {n k : Nat} (hn : lnN X0 Y0 X1 Y1 = n) (hx : lnC X0 X1 n k = x) (hy : lnC Y0 Y1 n k = y) (h : inB (W : Int) (H : Int) x y = false) (i : Nat) : lnP W H X0 Y0 X1 Y1 p px (k + 1) i = lnP W H X0 Y0 X1 Y1 p px k i := by
  simp only [lnP]; rw [hn, hx, hy, h]; rfl
theorem lnP_yes {W H : Nat} {X0 Y0 X1 Y1 : Int} {x y : Nat} {p : P4} {px : Nat → P4} {n k : Nat} (hn : lnN X0 Y0 X1 Y1 = n) (hx : lnC X0 X1 n k = x) (hy : lnC Y0 Y1 n k = y) (h : inB (W : Int) (H : Int) x y = true) (i : Nat) : lnP W H X0 Y0 X1 Y1 p px (k + 1) i = upd (lnP W H X0 Y0 X1 Y1 p px k) (y * W + x) p i := by
  simp only [lnP]; rw [hn, hx, hy, h]; rfl
theorem lnN_max (X0 Y0 X1 Y1 : Int) : (if Y0 - Y1 > (if Y1 - Y0 > (if X0 - X1 > X1 - X0 then X0 - X1 else X1 - X0) then Y1 - Y0 else (if X0 - X1 > X1 - X0 then X0 - X1 else X1 - X0)) then Y0 - Y1 else (if Y1 - Y0 > (if X0 - X1 > X1 - X0 then X0 - X1 else X1 - X0) then Y1 - Y0 else (if X0 - X1 > X1 - X0 then X0 - X1 else X1 - X0))) = (lnN X0 Y0 X1 Y1 : Int) := by
  unfold lnN; omega
theorem prod_bound {a b A B : Int} (ha : 0 ≤ a ∧ a ≤ A) (hb : -B ≤ b ∧ b ≤ B) : -(A * B) ≤ a * b ∧ a * b ≤ A * B := by
  have hB : 0 ≤ B := by omega
  have h1 : a * b ≤ a * B := Int.mul_le_mul_of_nonneg_left hb.2 ha.1
  have h2 : a * (-B) ≤ a * b := Int.mul_le_mul_of_nonneg_left hb.1 ha.1
  have h3 : a * B ≤ A * B := Int.mul_le_mul_of_nonneg_right ha.2 hB
  rw [Int.mul_neg] at h2
  omega
theorem ediv_small {n f C : Int} (hf : 0 < f) (hn : -C ≤ n ∧ n ≤ C) : -C - 1 ≤ n / f ∧ n / f ≤ C := by
  have h : (n.tdiv f).natAbs ≤ n.natAbs := by
    rw [Int.natAbs_tdiv]
    exact Nat.div_le_self _ _
  have hl := (floor_law n f hf).1
  split at hl <;> omega
end Go.Proofs.YtkfjcgcgfdibaaaDoor
