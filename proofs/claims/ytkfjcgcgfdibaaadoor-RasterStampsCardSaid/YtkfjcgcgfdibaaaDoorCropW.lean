/- raster.Crop; CropIs. -/
import Derived.Test.YtkfjcgcgfdibaaaDoorPartC
namespace Go.Proofs.YtkfjcgcgfdibaaaDoor
open Go.RowKit
set_option maxRecDepth 100000
theorem crop_shape_A (X Y RW RH W H : Int) (x : Option Addr) (n c : Nat) (E : Nat → Addr) (w : World) (g1 : RW < 1) (hb : W ≤ 9223372036854775807 ∧ H ≤ 9223372036854775807) (hE : Errs w E) (hr : rightB W H n = false) :
    Calls Tryd.prog 28 #[.agg #[.int .i64 W, .int .i64 H, .slice x n c], .agg #[.int .i64 X, .int .i64 Y, .int .i64 RW, .int .i64 RH]] w fun e w' => e = .returned (.tuple #[.agg #[.int .i64 0, .int .i64 0, .slice none 0 0], .iface 171 (.pointer (some (E 2)))]) ∧ Ext w w' := by
  have HR := Lib.hid hr
  have HE := Lib.hid hE
  clear hE
  obtain ⟨hb1, hb2⟩ := hb
  clear hr
  have t1 : decide ((1 : Int) ≤ RW) = false := decide_eq_false (by omega)
  go_enter Tryd.func28, Tryd.ntmps28
  go_wp2_with fail
  refine calls_world (fun wz => Ext w wz ∧ wz.heap.size = w.heap.size + 1 + 1 + 1 ∧ Bk wz (w.heap.size) #[.int .i64 W, .int .i64 H, .slice x n c] ∧ Bk wz (w.heap.size + 1) #[.int .i64 X, .int .i64 Y, .int .i64 RW, .int .i64 RH] ∧ Bk wz (w.heap.size + 1 + 1) #[.int .i64 0, .int .i64 0, .slice none 0 0]) ⟨by repeat (first | exact Ext.refl _ | refine Ext.alloc ?_ _), by simp, by repeat (first | exact Bk.at (by simp) | refine Bk.old ?_), by repeat (first | exact Bk.at (by simp) | refine Bk.old ?_), by repeat (first | exact Bk.at (by simp) | refine Bk.old ?_)⟩ ?_
  rintro wr ⟨hX, hZ, hB0, hB1, hB2⟩
  have B0 := Lib.hid hB0
  have B1 := Lib.hid hB1
  have B2 := Lib.hid hB2
  have XR := Lib.hid hX
  have SZ := Lib.hid hZ
  clear hX hZ hB0 hB1 hB2
  have XA := Lib.hid (Ext.refl wr)
  refine (check_shape _ _ _ _ _ _ _ E (HE.out.ext (Ext.trans XR.out XA.out)) HR.out).mono ?_
  rintro e w6 ⟨rfl, hx⟩
  have hb := Ext.trans XA.out hx
  have XS := Lib.hid (Ext.trans XR.out hb)
  have B0S := Lib.hid (B0.out.ext hb)
  have B1S := Lib.hid (B1.out.ext hb)
  have B2S := Lib.hid (B2.out.ext hb)
  clear hx hb XA
  have d0 := B2S.out.cell 0
  have e0 := B2S.out.frozen 0
  have d1 := B2S.out.cell 1
  have e1 := B2S.out.frozen 1
  have d2 := B2S.out.cell 2
  have e2 := B2S.out.frozen 2
  have FR := Lib.hid (show Ext w _ from XS.out.set3 (b := w.heap.size + 1 + 1) (by omega) (.int .i64 0) (.int .i64 0) (.slice none 0 0))
  have PR := Lib.hid (B2S.out.pic.set (W' := 0) (H' := 0) (v' := .slice none 0 0))
  go_wp2_with fail
  obtain ⟨k0, k1, k2⟩ := PR.out
  exact bodyPost_ret (v := .tuple #[.agg #[.int .i64 0, .int .i64 0, .slice none 0 0], .iface 171 (.pointer (some (E 2)))]) (by simp [results, Tryd.results28, go_sem, k0, k1, k2]) rfl ⟨rfl, FR.out⟩
theorem crop_shape_B (X Y RW RH W H : Int) (x : Option Addr) (n c : Nat) (E : Nat → Addr) (w : World) (g1 : 1 ≤ RW) (g2 : RH < 1) (hb : W ≤ 9223372036854775807 ∧ H ≤ 9223372036854775807) (hE : Errs w E) (hr : rightB W H n = false) :
    Calls Tryd.prog 28 #[.agg #[.int .i64 W, .int .i64 H, .slice x n c], .agg #[.int .i64 X, .int .i64 Y, .int .i64 RW, .int .i64 RH]] w fun e w' => e = .returned (.tuple #[.agg #[.int .i64 0, .int .i64 0, .slice none 0 0], .iface 171 (.pointer (some (E 2)))]) ∧ Ext w w' := by
  have HR := Lib.hid hr
  have HE := Lib.hid hE
  clear hE
  obtain ⟨hb1, hb2⟩ := hb
  clear hr
  have t1 : decide ((1 : Int) ≤ RW) = true := decide_eq_true (by omega)
  have t2 : decide ((1 : Int) ≤ RH) = false := decide_eq_false (by omega)
  go_enter Tryd.func28, Tryd.ntmps28
  go_wp2_with fail
  refine calls_world (fun wz => Ext w wz ∧ wz.heap.size = w.heap.size + 1 + 1 + 1 ∧ Bk wz (w.heap.size) #[.int .i64 W, .int .i64 H, .slice x n c] ∧ Bk wz (w.heap.size + 1) #[.int .i64 X, .int .i64 Y, .int .i64 RW, .int .i64 RH] ∧ Bk wz (w.heap.size + 1 + 1) #[.int .i64 0, .int .i64 0, .slice none 0 0]) ⟨by repeat (first | exact Ext.refl _ | refine Ext.alloc ?_ _), by simp, by repeat (first | exact Bk.at (by simp) | refine Bk.old ?_), by repeat (first | exact Bk.at (by simp) | refine Bk.old ?_), by repeat (first | exact Bk.at (by simp) | refine Bk.old ?_)⟩ ?_
  rintro wr ⟨hX, hZ, hB0, hB1, hB2⟩
  have B0 := Lib.hid hB0
  have B1 := Lib.hid hB1
  have B2 := Lib.hid hB2
  have XR := Lib.hid hX
  have SZ := Lib.hid hZ
  clear hX hZ hB0 hB1 hB2
  have XA := Lib.hid (Ext.refl wr)
  refine (check_shape _ _ _ _ _ _ _ E (HE.out.ext (Ext.trans XR.out XA.out)) HR.out).mono ?_
  rintro e w6 ⟨rfl, hx⟩
  have hb := Ext.trans XA.out hx
  have XS := Lib.hid (Ext.trans XR.out hb)
  have B0S := Lib.hid (B0.out.ext hb)
  have B1S := Lib.hid (B1.out.ext hb)
  have B2S := Lib.hid (B2.out.ext hb)
  clear hx hb XA
  have d0 := B2S.out.cell 0
  have e0 := B2S.out.frozen 0
  have d1 := B2S.out.cell 1
  have e1 := B2S.out.frozen 1
  have d2 := B2S.out.cell 2
  have e2 := B2S.out.frozen 2
  have FR := Lib.hid (show Ext w _ from XS.out.set3 (b := w.heap.size + 1 + 1) (by omega) (.int .i64 0) (.int .i64 0) (.slice none 0 0))
  have PR := Lib.hid (B2S.out.pic.set (W' := 0) (H' := 0) (v' := .slice none 0 0))
  go_wp2_with fail
  obtain ⟨k0, k1, k2⟩ := PR.out
  exact bodyPost_ret (v := .tuple #[.agg #[.int .i64 0, .int .i64 0, .slice none 0 0], .iface 171 (.pointer (some (E 2)))]) (by simp [results, Tryd.results28, go_sem, k0, k1, k2]) rfl ⟨rfl, FR.out⟩
theorem crop_shape_C (X Y RW RH W H : Int) (x : Option Addr) (n c : Nat) (E : Nat → Addr) (w : World) (g1 : 1 ≤ RW) (g2 : 1 ≤ RH) (g3 : inB W H X Y = false) (hb : W ≤ 9223372036854775807 ∧ H ≤ 9223372036854775807) (hE : Errs w E) (hr : rightB W H n = false) :
    Calls Tryd.prog 28 #[.agg #[.int .i64 W, .int .i64 H, .slice x n c], .agg #[.int .i64 X, .int .i64 Y, .int .i64 RW, .int .i64 RH]] w fun e w' => e = .returned (.tuple #[.agg #[.int .i64 0, .int .i64 0, .slice none 0 0], .iface 171 (.pointer (some (E 2)))]) ∧ Ext w w' := by
  have HR := Lib.hid hr
  have HE := Lib.hid hE
  clear hE
  have HI := Lib.hid g3
  clear g3
  obtain ⟨hb1, hb2⟩ := hb
  clear hr
  have t1 : decide ((1 : Int) ≤ RW) = true := decide_eq_true (by omega)
  have t2 : decide ((1 : Int) ≤ RH) = true := decide_eq_true (by omega)
  go_enter Tryd.func28, Tryd.ntmps28
  go_wp2_with fail
  refine calls_world (fun wz => Ext w wz ∧ wz.heap.size = w.heap.size + 1 + 1 + 1 ∧ Bk wz (w.heap.size) #[.int .i64 W, .int .i64 H, .slice x n c] ∧ Bk wz (w.heap.size + 1) #[.int .i64 X, .int .i64 Y, .int .i64 RW, .int .i64 RH] ∧ Bk wz (w.heap.size + 1 + 1) #[.int .i64 0, .int .i64 0, .slice none 0 0]) ⟨by repeat (first | exact Ext.refl _ | refine Ext.alloc ?_ _), by simp, by repeat (first | exact Bk.at (by simp) | refine Bk.old ?_), by repeat (first | exact Bk.at (by simp) | refine Bk.old ?_), by repeat (first | exact Bk.at (by simp) | refine Bk.old ?_)⟩ ?_
  rintro wr ⟨hX, hZ, hB0, hB1, hB2⟩
  have B0 := Lib.hid hB0
  have B1 := Lib.hid hB1
  have B2 := Lib.hid hB2
  have XR := Lib.hid hX
  have SZ := Lib.hid hZ
  clear hX hZ hB0 hB1 hB2
  refine (in_any _ _ _ _ _ _ ⟨_, _, _, rfl⟩).mono ?_
  rintro e w5 ⟨rfl, hx5⟩
  rw [HI.out]
  have XA := Lib.hid hx5
  clear hx5
  have q0 := (B0.out.ext XA.out).cell 0
  have q1 := (B0.out.ext XA.out).cell 1
  have q2 := (B0.out.ext XA.out).cell 2
  have s0 := (B1.out.ext XA.out).cell 0
  have s1 := (B1.out.ext XA.out).cell 1
  have s2 := (B1.out.ext XA.out).cell 2
  have s3 := (B1.out.ext XA.out).cell 3
  go_wp2_with fail
  clear q0 q1 q2 s0 s1 s2 s3
  refine (check_shape _ _ _ _ _ _ _ E (HE.out.ext (Ext.trans XR.out XA.out)) HR.out).mono ?_
  rintro e w6 ⟨rfl, hx⟩
  have hb := Ext.trans XA.out hx
  have XS := Lib.hid (Ext.trans XR.out hb)
  have B0S := Lib.hid (B0.out.ext hb)
  have B1S := Lib.hid (B1.out.ext hb)
  have B2S := Lib.hid (B2.out.ext hb)
  clear hx hb XA
  have d0 := B2S.out.cell 0
  have e0 := B2S.out.frozen 0
  have d1 := B2S.out.cell 1
  have e1 := B2S.out.frozen 1
  have d2 := B2S.out.cell 2
  have e2 := B2S.out.frozen 2
  have FR := Lib.hid (show Ext w _ from XS.out.set3 (b := w.heap.size + 1 + 1) (by omega) (.int .i64 0) (.int .i64 0) (.slice none 0 0))
  have PR := Lib.hid (B2S.out.pic.set (W' := 0) (H' := 0) (v' := .slice none 0 0))
  go_wp2_with fail
  obtain ⟨k0, k1, k2⟩ := PR.out
  exact bodyPost_ret (v := .tuple #[.agg #[.int .i64 0, .int .i64 0, .slice none 0 0], .iface 171 (.pointer (some (E 2)))]) (by simp [results, Tryd.results28, go_sem, k0, k1, k2]) rfl ⟨rfl, FR.out⟩
theorem crop_shape_D (X Y RW RH W H : Int) (x : Option Addr) (n c : Nat) (E : Nat → Addr) (w : World) (g1 : 1 ≤ RW) (g2 : 1 ≤ RH) (g3 : inB W H X Y = true) (g4 : W - X < RW) (hb : W ≤ 9223372036854775807 ∧ H ≤ 9223372036854775807) (hE : Errs w E) (hr : rightB W H n = false) :
    Calls Tryd.prog 28 #[.agg #[.int .i64 W, .int .i64 H, .slice x n c], .agg #[.int .i64 X, .int .i64 Y, .int .i64 RW, .int .i64 RH]] w fun e w' => e = .returned (.tuple #[.agg #[.int .i64 0, .int .i64 0, .slice none 0 0], .iface 171 (.pointer (some (E 2)))]) ∧ Ext w w' := by
  have HR := Lib.hid hr
  have HE := Lib.hid hE
  clear hE
  have HI := Lib.hid g3
  obtain ⟨i1, i2, i3, i4⟩ := of_decide_eq_true g3
  clear g3
  obtain ⟨hb1, hb2⟩ := hb
  clear hr
  have t1 : decide ((1 : Int) ≤ RW) = true := decide_eq_true (by omega)
  have t2 : decide ((1 : Int) ≤ RH) = true := decide_eq_true (by omega)
  have t3 : decide (RW ≤ W - X) = false := decide_eq_false (by omega)
  go_enter Tryd.func28, Tryd.ntmps28
  go_wp2_with fail
  refine calls_world (fun wz => Ext w wz ∧ wz.heap.size = w.heap.size + 1 + 1 + 1 ∧ Bk wz (w.heap.size) #[.int .i64 W, .int .i64 H, .slice x n c] ∧ Bk wz (w.heap.size + 1) #[.int .i64 X, .int .i64 Y, .int .i64 RW, .int .i64 RH] ∧ Bk wz (w.heap.size + 1 + 1) #[.int .i64 0, .int .i64 0, .slice none 0 0]) ⟨by repeat (first | exact Ext.refl _ | refine Ext.alloc ?_ _), by simp, by repeat (first | exact Bk.at (by simp) | refine Bk.old ?_), by repeat (first | exact Bk.at (by simp) | refine Bk.old ?_), by repeat (first | exact Bk.at (by simp) | refine Bk.old ?_)⟩ ?_
  rintro wr ⟨hX, hZ, hB0, hB1, hB2⟩
  have B0 := Lib.hid hB0
  have B1 := Lib.hid hB1
  have B2 := Lib.hid hB2
  have XR := Lib.hid hX
  have SZ := Lib.hid hZ
  clear hX hZ hB0 hB1 hB2
  refine (in_any _ _ _ _ _ _ ⟨_, _, _, rfl⟩).mono ?_
  rintro e w5 ⟨rfl, hx5⟩
  rw [HI.out]
  have XA := Lib.hid hx5
  clear hx5
  have q0 := (B0.out.ext XA.out).cell 0
  have q1 := (B0.out.ext XA.out).cell 1
  have q2 := (B0.out.ext XA.out).cell 2
  have s0 := (B1.out.ext XA.out).cell 0
  have s1 := (B1.out.ext XA.out).cell 1
  have s2 := (B1.out.ext XA.out).cell 2
  have s3 := (B1.out.ext XA.out).cell 3
  go_wp2_with fail
  clear q0 q1 q2 s0 s1 s2 s3
  refine (check_shape _ _ _ _ _ _ _ E (HE.out.ext (Ext.trans XR.out XA.out)) HR.out).mono ?_
  rintro e w6 ⟨rfl, hx⟩
  have hb := Ext.trans XA.out hx
  have XS := Lib.hid (Ext.trans XR.out hb)
  have B0S := Lib.hid (B0.out.ext hb)
  have B1S := Lib.hid (B1.out.ext hb)
  have B2S := Lib.hid (B2.out.ext hb)
  clear hx hb XA
  have d0 := B2S.out.cell 0
  have e0 := B2S.out.frozen 0
  have d1 := B2S.out.cell 1
  have e1 := B2S.out.frozen 1
  have d2 := B2S.out.cell 2
  have e2 := B2S.out.frozen 2
  have FR := Lib.hid (show Ext w _ from XS.out.set3 (b := w.heap.size + 1 + 1) (by omega) (.int .i64 0) (.int .i64 0) (.slice none 0 0))
  have PR := Lib.hid (B2S.out.pic.set (W' := 0) (H' := 0) (v' := .slice none 0 0))
  go_wp2_with fail
  obtain ⟨k0, k1, k2⟩ := PR.out
  exact bodyPost_ret (v := .tuple #[.agg #[.int .i64 0, .int .i64 0, .slice none 0 0], .iface 171 (.pointer (some (E 2)))]) (by simp [results, Tryd.results28, go_sem, k0, k1, k2]) rfl ⟨rfl, FR.out⟩
theorem crop_shape_F (X Y RW RH W H : Int) (x : Option Addr) (n c : Nat) (E : Nat → Addr) (w : World) (g1 : 1 ≤ RW) (g2 : 1 ≤ RH) (g3 : inB W H X Y = true) (g4 : RW ≤ W - X) (g5 : H - Y < RH) (hb : W ≤ 9223372036854775807 ∧ H ≤ 9223372036854775807) (hE : Errs w E) (hr : rightB W H n = false) :
    Calls Tryd.prog 28 #[.agg #[.int .i64 W, .int .i64 H, .slice x n c], .agg #[.int .i64 X, .int .i64 Y, .int .i64 RW, .int .i64 RH]] w fun e w' => e = .returned (.tuple #[.agg #[.int .i64 0, .int .i64 0, .slice none 0 0], .iface 171 (.pointer (some (E 2)))]) ∧ Ext w w' := by
  have HR := Lib.hid hr
  have HE := Lib.hid hE
  clear hE
  have HI := Lib.hid g3
  obtain ⟨i1, i2, i3, i4⟩ := of_decide_eq_true g3
  clear g3
  obtain ⟨hb1, hb2⟩ := hb
  clear hr
  have t1 : decide ((1 : Int) ≤ RW) = true := decide_eq_true (by omega)
  have t2 : decide ((1 : Int) ≤ RH) = true := decide_eq_true (by omega)
  have t3 : decide (RW ≤ W - X) = true := decide_eq_true (by omega)
  have t4 : decide (RH ≤ H - Y) = false := decide_eq_false (by omega)
  go_enter Tryd.func28, Tryd.ntmps28
  go_wp2_with fail
  refine calls_world (fun wz => Ext w wz ∧ wz.heap.size = w.heap.size + 1 + 1 + 1 ∧ Bk wz (w.heap.size) #[.int .i64 W, .int .i64 H, .slice x n c] ∧ Bk wz (w.heap.size + 1) #[.int .i64 X, .int .i64 Y, .int .i64 RW, .int .i64 RH] ∧ Bk wz (w.heap.size + 1 + 1) #[.int .i64 0, .int .i64 0, .slice none 0 0]) ⟨by repeat (first | exact Ext.refl _ | refine Ext.alloc ?_ _), by simp, by repeat (first | exact Bk.at (by simp) | refine Bk.old ?_), by repeat (first | exact Bk.at (by simp) | refine Bk.old ?_), by repeat (first | exact Bk.at (by simp) | refine Bk.old ?_)⟩ ?_
  rintro wr ⟨hX, hZ, hB0, hB1, hB2⟩
  have B0 := Lib.hid hB0
  have B1 := Lib.hid hB1
  have B2 := Lib.hid hB2
  have XR := Lib.hid hX
  have SZ := Lib.hid hZ
  clear hX hZ hB0 hB1 hB2
  refine (in_any _ _ _ _ _ _ ⟨_, _, _, rfl⟩).mono ?_
  rintro e w5 ⟨rfl, hx5⟩
  rw [HI.out]
  have XA := Lib.hid hx5
  clear hx5
  have q0 := (B0.out.ext XA.out).cell 0
  have q1 := (B0.out.ext XA.out).cell 1
  have q2 := (B0.out.ext XA.out).cell 2
  have s0 := (B1.out.ext XA.out).cell 0
  have s1 := (B1.out.ext XA.out).cell 1
  have s2 := (B1.out.ext XA.out).cell 2
  have s3 := (B1.out.ext XA.out).cell 3
  go_wp2_with fail
  clear q0 q1 q2 s0 s1 s2 s3
  refine (check_shape _ _ _ _ _ _ _ E (HE.out.ext (Ext.trans XR.out XA.out)) HR.out).mono ?_
  rintro e w6 ⟨rfl, hx⟩
  have hb := Ext.trans XA.out hx
  have XS := Lib.hid (Ext.trans XR.out hb)
  have B0S := Lib.hid (B0.out.ext hb)
  have B1S := Lib.hid (B1.out.ext hb)
  have B2S := Lib.hid (B2.out.ext hb)
  clear hx hb XA
  have d0 := B2S.out.cell 0
  have e0 := B2S.out.frozen 0
  have d1 := B2S.out.cell 1
  have e1 := B2S.out.frozen 1
  have d2 := B2S.out.cell 2
  have e2 := B2S.out.frozen 2
  have FR := Lib.hid (show Ext w _ from XS.out.set3 (b := w.heap.size + 1 + 1) (by omega) (.int .i64 0) (.int .i64 0) (.slice none 0 0))
  have PR := Lib.hid (B2S.out.pic.set (W' := 0) (H' := 0) (v' := .slice none 0 0))
  go_wp2_with fail
  obtain ⟨k0, k1, k2⟩ := PR.out
  exact bodyPost_ret (v := .tuple #[.agg #[.int .i64 0, .int .i64 0, .slice none 0 0], .iface 171 (.pointer (some (E 2)))]) (by simp [results, Tryd.results28, go_sem, k0, k1, k2]) rfl ⟨rfl, FR.out⟩
theorem crop_shape_T (X Y RW RH W H : Int) (x : Option Addr) (n c : Nat) (E : Nat → Addr) (w : World) (g1 : 1 ≤ RW) (g2 : 1 ≤ RH) (g3 : inB W H X Y = true) (g4 : RW ≤ W - X) (g5 : RH ≤ H - Y) (hb : W ≤ 9223372036854775807 ∧ H ≤ 9223372036854775807) (hE : Errs w E) (hr : rightB W H n = false) :
    Calls Tryd.prog 28 #[.agg #[.int .i64 W, .int .i64 H, .slice x n c], .agg #[.int .i64 X, .int .i64 Y, .int .i64 RW, .int .i64 RH]] w fun e w' => e = .returned (.tuple #[.agg #[.int .i64 0, .int .i64 0, .slice none 0 0], .iface 171 (.pointer (some (E 2)))]) ∧ Ext w w' := by
  have HR := Lib.hid hr
  have HE := Lib.hid hE
  clear hE
  have HI := Lib.hid g3
  obtain ⟨i1, i2, i3, i4⟩ := of_decide_eq_true g3
  clear g3
  obtain ⟨hb1, hb2⟩ := hb
  clear hr
  have t1 : decide ((1 : Int) ≤ RW) = true := decide_eq_true (by omega)
  have t2 : decide ((1 : Int) ≤ RH) = true := decide_eq_true (by omega)
  have t3 : decide (RW ≤ W - X) = true := decide_eq_true (by omega)
  have t4 : decide (RH ≤ H - Y) = true := decide_eq_true (by omega)
  go_enter Tryd.func28, Tryd.ntmps28
  go_wp2_with fail
  refine calls_world (fun wz => Ext w wz ∧ wz.heap.size = w.heap.size + 1 + 1 + 1 ∧ Bk wz (w.heap.size) #[.int .i64 W, .int .i64 H, .slice x n c] ∧ Bk wz (w.heap.size + 1) #[.int .i64 X, .int .i64 Y, .int .i64 RW, .int .i64 RH] ∧ Bk wz (w.heap.size + 1 + 1) #[.int .i64 0, .int .i64 0, .slice none 0 0]) ⟨by repeat (first | exact Ext.refl _ | refine Ext.alloc ?_ _), by simp, by repeat (first | exact Bk.at (by simp) | refine Bk.old ?_), by repeat (first | exact Bk.at (by simp) | refine Bk.old ?_), by repeat (first | exact Bk.at (by simp) | refine Bk.old ?_)⟩ ?_
  rintro wr ⟨hX, hZ, hB0, hB1, hB2⟩
  have B0 := Lib.hid hB0
  have B1 := Lib.hid hB1
  have B2 := Lib.hid hB2
  have XR := Lib.hid hX
  have SZ := Lib.hid hZ
  clear hX hZ hB0 hB1 hB2
  refine (in_any _ _ _ _ _ _ ⟨_, _, _, rfl⟩).mono ?_
  rintro e w5 ⟨rfl, hx5⟩
  rw [HI.out]
  have XA := Lib.hid hx5
  clear hx5
  have q0 := (B0.out.ext XA.out).cell 0
  have q1 := (B0.out.ext XA.out).cell 1
  have q2 := (B0.out.ext XA.out).cell 2
  have s0 := (B1.out.ext XA.out).cell 0
  have s1 := (B1.out.ext XA.out).cell 1
  have s2 := (B1.out.ext XA.out).cell 2
  have s3 := (B1.out.ext XA.out).cell 3
  go_wp2_with fail
  clear q0 q1 q2 s0 s1 s2 s3
  refine (check_shape _ _ _ _ _ _ _ E (HE.out.ext (Ext.trans XR.out XA.out)) HR.out).mono ?_
  rintro e w6 ⟨rfl, hx⟩
  have hb := Ext.trans XA.out hx
  have XS := Lib.hid (Ext.trans XR.out hb)
  have B0S := Lib.hid (B0.out.ext hb)
  have B1S := Lib.hid (B1.out.ext hb)
  have B2S := Lib.hid (B2.out.ext hb)
  clear hx hb XA
  have d0 := B2S.out.cell 0
  have e0 := B2S.out.frozen 0
  have d1 := B2S.out.cell 1
  have e1 := B2S.out.frozen 1
  have d2 := B2S.out.cell 2
  have e2 := B2S.out.frozen 2
  have FR := Lib.hid (show Ext w _ from XS.out.set3 (b := w.heap.size + 1 + 1) (by omega) (.int .i64 0) (.int .i64 0) (.slice none 0 0))
  have PR := Lib.hid (B2S.out.pic.set (W' := 0) (H' := 0) (v' := .slice none 0 0))
  go_wp2_with fail
  obtain ⟨k0, k1, k2⟩ := PR.out
  exact bodyPost_ret (v := .tuple #[.agg #[.int .i64 0, .int .i64 0, .slice none 0 0], .iface 171 (.pointer (some (E 2)))]) (by simp [results, Tryd.results28, go_sem, k0, k1, k2]) rfl ⟨rfl, FR.out⟩
theorem crop_bound_A (X Y RW RH W H : Int) (x : Option Addr) (n c : Nat) (E : Nat → Addr) (w : World) (g1 : RW < 1) (hb : W ≤ 9223372036854775807 ∧ H ≤ 9223372036854775807) (hE : Errs w E) (hr : rightB W H n = true) :
    Calls Tryd.prog 28 #[.agg #[.int .i64 W, .int .i64 H, .slice x n c], .agg #[.int .i64 X, .int .i64 Y, .int .i64 RW, .int .i64 RH]] w fun e w' => e = .returned (.tuple #[.agg #[.int .i64 0, .int .i64 0, .slice none 0 0], .iface 171 (.pointer (some (E 1)))]) ∧ Ext w w' := by
  have HR := Lib.hid hr
  have HE := Lib.hid hE
  clear hE
  obtain ⟨hb1, hb2⟩ := hb
  clear hr
  have t1 : decide ((1 : Int) ≤ RW) = false := decide_eq_false (by omega)
  go_enter Tryd.func28, Tryd.ntmps28
  go_wp2_with fail
  refine calls_world (fun wz => Ext w wz ∧ wz.heap.size = w.heap.size + 1 + 1 + 1 ∧ Bk wz (w.heap.size) #[.int .i64 W, .int .i64 H, .slice x n c] ∧ Bk wz (w.heap.size + 1) #[.int .i64 X, .int .i64 Y, .int .i64 RW, .int .i64 RH] ∧ Bk wz (w.heap.size + 1 + 1) #[.int .i64 0, .int .i64 0, .slice none 0 0]) ⟨by repeat (first | exact Ext.refl _ | refine Ext.alloc ?_ _), by simp, by repeat (first | exact Bk.at (by simp) | refine Bk.old ?_), by repeat (first | exact Bk.at (by simp) | refine Bk.old ?_), by repeat (first | exact Bk.at (by simp) | refine Bk.old ?_)⟩ ?_
  rintro wr ⟨hX, hZ, hB0, hB1, hB2⟩
  have B0 := Lib.hid hB0
  have B1 := Lib.hid hB1
  have B2 := Lib.hid hB2
  have XR := Lib.hid hX
  have SZ := Lib.hid hZ
  clear hX hZ hB0 hB1 hB2
  have XA := Lib.hid (Ext.refl wr)
  refine (check_bound _ _ _ _ _ _ E (HE.out.ext (Ext.trans XR.out XA.out)) HR.out).mono ?_
  rintro e w6 ⟨rfl, hx⟩
  have hb := Ext.trans XA.out hx
  have XS := Lib.hid (Ext.trans XR.out hb)
  have B0S := Lib.hid (B0.out.ext hb)
  have B1S := Lib.hid (B1.out.ext hb)
  have B2S := Lib.hid (B2.out.ext hb)
  clear hx hb XA
  have d0 := B2S.out.cell 0
  have e0 := B2S.out.frozen 0
  have d1 := B2S.out.cell 1
  have e1 := B2S.out.frozen 1
  have d2 := B2S.out.cell 2
  have e2 := B2S.out.frozen 2
  have FR := Lib.hid (show Ext w _ from XS.out.set3 (b := w.heap.size + 1 + 1) (by omega) (.int .i64 0) (.int .i64 0) (.slice none 0 0))
  have PR := Lib.hid (B2S.out.pic.set (W' := 0) (H' := 0) (v' := .slice none 0 0))
  go_wp2_with fail
  obtain ⟨k0, k1, k2⟩ := PR.out
  exact bodyPost_ret (v := .tuple #[.agg #[.int .i64 0, .int .i64 0, .slice none 0 0], .iface 171 (.pointer (some (E 1)))]) (by simp [results, Tryd.results28, go_sem, k0, k1, k2]) rfl ⟨rfl, FR.out⟩
theorem crop_bound_B (X Y RW RH W H : Int) (x : Option Addr) (n c : Nat) (E : Nat → Addr) (w : World) (g1 : 1 ≤ RW) (g2 : RH < 1) (hb : W ≤ 9223372036854775807 ∧ H ≤ 9223372036854775807) (hE : Errs w E) (hr : rightB W H n = true) :
    Calls Tryd.prog 28 #[.agg #[.int .i64 W, .int .i64 H, .slice x n c], .agg #[.int .i64 X, .int .i64 Y, .int .i64 RW, .int .i64 RH]] w fun e w' => e = .returned (.tuple #[.agg #[.int .i64 0, .int .i64 0, .slice none 0 0], .iface 171 (.pointer (some (E 1)))]) ∧ Ext w w' := by
  have HR := Lib.hid hr
  have HE := Lib.hid hE
  clear hE
  obtain ⟨hb1, hb2⟩ := hb
  clear hr
  have t1 : decide ((1 : Int) ≤ RW) = true := decide_eq_true (by omega)
  have t2 : decide ((1 : Int) ≤ RH) = false := decide_eq_false (by omega)
  go_enter Tryd.func28, Tryd.ntmps28
  go_wp2_with fail
  refine calls_world (fun wz => Ext w wz ∧ wz.heap.size = w.heap.size + 1 + 1 + 1 ∧ Bk wz (w.heap.size) #[.int .i64 W, .int .i64 H, .slice x n c] ∧ Bk wz (w.heap.size + 1) #[.int .i64 X, .int .i64 Y, .int .i64 RW, .int .i64 RH] ∧ Bk wz (w.heap.size + 1 + 1) #[.int .i64 0, .int .i64 0, .slice none 0 0]) ⟨by repeat (first | exact Ext.refl _ | refine Ext.alloc ?_ _), by simp, by repeat (first | exact Bk.at (by simp) | refine Bk.old ?_), by repeat (first | exact Bk.at (by simp) | refine Bk.old ?_), by repeat (first | exact Bk.at (by simp) | refine Bk.old ?_)⟩ ?_
  rintro wr ⟨hX, hZ, hB0, hB1, hB2⟩
  have B0 := Lib.hid hB0
  have B1 := Lib.hid hB1
  have B2 := Lib.hid hB2
  have XR := Lib.hid hX
  have SZ := Lib.hid hZ
  clear hX hZ hB0 hB1 hB2
  have XA := Lib.hid (Ext.refl wr)
  refine (check_bound _ _ _ _ _ _ E (HE.out.ext (Ext.trans XR.out XA.out)) HR.out).mono ?_
  rintro e w6 ⟨rfl, hx⟩
  have hb := Ext.trans XA.out hx
  have XS := Lib.hid (Ext.trans XR.out hb)
  have B0S := Lib.hid (B0.out.ext hb)
  have B1S := Lib.hid (B1.out.ext hb)
  have B2S := Lib.hid (B2.out.ext hb)
  clear hx hb XA
  have d0 := B2S.out.cell 0
  have e0 := B2S.out.frozen 0
  have d1 := B2S.out.cell 1
  have e1 := B2S.out.frozen 1
  have d2 := B2S.out.cell 2
  have e2 := B2S.out.frozen 2
  have FR := Lib.hid (show Ext w _ from XS.out.set3 (b := w.heap.size + 1 + 1) (by omega) (.int .i64 0) (.int .i64 0) (.slice none 0 0))
  have PR := Lib.hid (B2S.out.pic.set (W' := 0) (H' := 0) (v' := .slice none 0 0))
  go_wp2_with fail
  obtain ⟨k0, k1, k2⟩ := PR.out
  exact bodyPost_ret (v := .tuple #[.agg #[.int .i64 0, .int .i64 0, .slice none 0 0], .iface 171 (.pointer (some (E 1)))]) (by simp [results, Tryd.results28, go_sem, k0, k1, k2]) rfl ⟨rfl, FR.out⟩
theorem crop_bound_C (X Y RW RH W H : Int) (x : Option Addr) (n c : Nat) (E : Nat → Addr) (w : World) (g1 : 1 ≤ RW) (g2 : 1 ≤ RH) (g3 : inB W H X Y = false) (hb : W ≤ 9223372036854775807 ∧ H ≤ 9223372036854775807) (hE : Errs w E) (hr : rightB W H n = true) :
    Calls Tryd.prog 28 #[.agg #[.int .i64 W, .int .i64 H, .slice x n c], .agg #[.int .i64 X, .int .i64 Y, .int .i64 RW, .int .i64 RH]] w fun e w' => e = .returned (.tuple #[.agg #[.int .i64 0, .int .i64 0, .slice none 0 0], .iface 171 (.pointer (some (E 1)))]) ∧ Ext w w' := by
  have HR := Lib.hid hr
  have HE := Lib.hid hE
  clear hE
  have HI := Lib.hid g3
  clear g3
  obtain ⟨hb1, hb2⟩ := hb
  clear hr
  have t1 : decide ((1 : Int) ≤ RW) = true := decide_eq_true (by omega)
  have t2 : decide ((1 : Int) ≤ RH) = true := decide_eq_true (by omega)
  go_enter Tryd.func28, Tryd.ntmps28
  go_wp2_with fail
  refine calls_world (fun wz => Ext w wz ∧ wz.heap.size = w.heap.size + 1 + 1 + 1 ∧ Bk wz (w.heap.size) #[.int .i64 W, .int .i64 H, .slice x n c] ∧ Bk wz (w.heap.size + 1) #[.int .i64 X, .int .i64 Y, .int .i64 RW, .int .i64 RH] ∧ Bk wz (w.heap.size + 1 + 1) #[.int .i64 0, .int .i64 0, .slice none 0 0]) ⟨by repeat (first | exact Ext.refl _ | refine Ext.alloc ?_ _), by simp, by repeat (first | exact Bk.at (by simp) | refine Bk.old ?_), by repeat (first | exact Bk.at (by simp) | refine Bk.old ?_), by repeat (first | exact Bk.at (by simp) | refine Bk.old ?_)⟩ ?_
  rintro wr ⟨hX, hZ, hB0, hB1, hB2⟩
  have B0 := Lib.hid hB0
  have B1 := Lib.hid hB1
  have B2 := Lib.hid hB2
  have XR := Lib.hid hX
  have SZ := Lib.hid hZ
  clear hX hZ hB0 hB1 hB2
  refine (in_any _ _ _ _ _ _ ⟨_, _, _, rfl⟩).mono ?_
  rintro e w5 ⟨rfl, hx5⟩
  rw [HI.out]
  have XA := Lib.hid hx5
  clear hx5
  have q0 := (B0.out.ext XA.out).cell 0
  have q1 := (B0.out.ext XA.out).cell 1
  have q2 := (B0.out.ext XA.out).cell 2
  have s0 := (B1.out.ext XA.out).cell 0
  have s1 := (B1.out.ext XA.out).cell 1
  have s2 := (B1.out.ext XA.out).cell 2
  have s3 := (B1.out.ext XA.out).cell 3
  go_wp2_with fail
  clear q0 q1 q2 s0 s1 s2 s3
  refine (check_bound _ _ _ _ _ _ E (HE.out.ext (Ext.trans XR.out XA.out)) HR.out).mono ?_
  rintro e w6 ⟨rfl, hx⟩
  have hb := Ext.trans XA.out hx
  have XS := Lib.hid (Ext.trans XR.out hb)
  have B0S := Lib.hid (B0.out.ext hb)
  have B1S := Lib.hid (B1.out.ext hb)
  have B2S := Lib.hid (B2.out.ext hb)
  clear hx hb XA
  have d0 := B2S.out.cell 0
  have e0 := B2S.out.frozen 0
  have d1 := B2S.out.cell 1
  have e1 := B2S.out.frozen 1
  have d2 := B2S.out.cell 2
  have e2 := B2S.out.frozen 2
  have FR := Lib.hid (show Ext w _ from XS.out.set3 (b := w.heap.size + 1 + 1) (by omega) (.int .i64 0) (.int .i64 0) (.slice none 0 0))
  have PR := Lib.hid (B2S.out.pic.set (W' := 0) (H' := 0) (v' := .slice none 0 0))
  go_wp2_with fail
  obtain ⟨k0, k1, k2⟩ := PR.out
  exact bodyPost_ret (v := .tuple #[.agg #[.int .i64 0, .int .i64 0, .slice none 0 0], .iface 171 (.pointer (some (E 1)))]) (by simp [results, Tryd.results28, go_sem, k0, k1, k2]) rfl ⟨rfl, FR.out⟩
theorem crop_bound_D (X Y RW RH W H : Int) (x : Option Addr) (n c : Nat) (E : Nat → Addr) (w : World) (g1 : 1 ≤ RW) (g2 : 1 ≤ RH) (g3 : inB W H X Y = true) (g4 : W - X < RW) (hb : W ≤ 9223372036854775807 ∧ H ≤ 9223372036854775807) (hE : Errs w E) (hr : rightB W H n = true) :
    Calls Tryd.prog 28 #[.agg #[.int .i64 W, .int .i64 H, .slice x n c], .agg #[.int .i64 X, .int .i64 Y, .int .i64 RW, .int .i64 RH]] w fun e w' => e = .returned (.tuple #[.agg #[.int .i64 0, .int .i64 0, .slice none 0 0], .iface 171 (.pointer (some (E 1)))]) ∧ Ext w w' := by
  have HR := Lib.hid hr
  have HE := Lib.hid hE
  clear hE
  have HI := Lib.hid g3
  obtain ⟨i1, i2, i3, i4⟩ := of_decide_eq_true g3
  clear g3
  obtain ⟨hb1, hb2⟩ := hb
  clear hr
  have t1 : decide ((1 : Int) ≤ RW) = true := decide_eq_true (by omega)
  have t2 : decide ((1 : Int) ≤ RH) = true := decide_eq_true (by omega)
  have t3 : decide (RW ≤ W - X) = false := decide_eq_false (by omega)
  go_enter Tryd.func28, Tryd.ntmps28
  go_wp2_with fail
  refine calls_world (fun wz => Ext w wz ∧ wz.heap.size = w.heap.size + 1 + 1 + 1 ∧ Bk wz (w.heap.size) #[.int .i64 W, .int .i64 H, .slice x n c] ∧ Bk wz (w.heap.size + 1) #[.int .i64 X, .int .i64 Y, .int .i64 RW, .int .i64 RH] ∧ Bk wz (w.heap.size + 1 + 1) #[.int .i64 0, .int .i64 0, .slice none 0 0]) ⟨by repeat (first | exact Ext.refl _ | refine Ext.alloc ?_ _), by simp, by repeat (first | exact Bk.at (by simp) | refine Bk.old ?_), by repeat (first | exact Bk.at (by simp) | refine Bk.old ?_), by repeat (first | exact Bk.at (by simp) | refine Bk.old ?_)⟩ ?_
  rintro wr ⟨hX, hZ, hB0, hB1, hB2⟩
  have B0 := Lib.hid hB0
  have B1 := Lib.hid hB1
  have B2 := Lib.hid hB2
  have XR := Lib.hid hX
  have SZ := Lib.hid hZ
  clear hX hZ hB0 hB1 hB2
  refine (in_any _ _ _ _ _ _ ⟨_, _, _, rfl⟩).mono ?_
  rintro e w5 ⟨rfl, hx5⟩
  rw [HI.out]
  have XA := Lib.hid hx5
  clear hx5
  have q0 := (B0.out.ext XA.out).cell 0
  have q1 := (B0.out.ext XA.out).cell 1
  have q2 := (B0.out.ext XA.out).cell 2
  have s0 := (B1.out.ext XA.out).cell 0
  have s1 := (B1.out.ext XA.out).cell 1
  have s2 := (B1.out.ext XA.out).cell 2
  have s3 := (B1.out.ext XA.out).cell 3
  go_wp2_with fail
  clear q0 q1 q2 s0 s1 s2 s3
  refine (check_bound _ _ _ _ _ _ E (HE.out.ext (Ext.trans XR.out XA.out)) HR.out).mono ?_
  rintro e w6 ⟨rfl, hx⟩
  have hb := Ext.trans XA.out hx
  have XS := Lib.hid (Ext.trans XR.out hb)
  have B0S := Lib.hid (B0.out.ext hb)
  have B1S := Lib.hid (B1.out.ext hb)
  have B2S := Lib.hid (B2.out.ext hb)
  clear hx hb XA
  have d0 := B2S.out.cell 0
  have e0 := B2S.out.frozen 0
  have d1 := B2S.out.cell 1
  have e1 := B2S.out.frozen 1
  have d2 := B2S.out.cell 2
  have e2 := B2S.out.frozen 2
  have FR := Lib.hid (show Ext w _ from XS.out.set3 (b := w.heap.size + 1 + 1) (by omega) (.int .i64 0) (.int .i64 0) (.slice none 0 0))
  have PR := Lib.hid (B2S.out.pic.set (W' := 0) (H' := 0) (v' := .slice none 0 0))
  go_wp2_with fail
  obtain ⟨k0, k1, k2⟩ := PR.out
  exact bodyPost_ret (v := .tuple #[.agg #[.int .i64 0, .int .i64 0, .slice none 0 0], .iface 171 (.pointer (some (E 1)))]) (by simp [results, Tryd.results28, go_sem, k0, k1, k2]) rfl ⟨rfl, FR.out⟩
theorem crop_bound_F (X Y RW RH W H : Int) (x : Option Addr) (n c : Nat) (E : Nat → Addr) (w : World) (g1 : 1 ≤ RW) (g2 : 1 ≤ RH) (g3 : inB W H X Y = true) (g4 : RW ≤ W - X) (g5 : H - Y < RH) (hb : W ≤ 9223372036854775807 ∧ H ≤ 9223372036854775807) (hE : Errs w E) (hr : rightB W H n = true) :
    Calls Tryd.prog 28 #[.agg #[.int .i64 W, .int .i64 H, .slice x n c], .agg #[.int .i64 X, .int .i64 Y, .int .i64 RW, .int .i64 RH]] w fun e w' => e = .returned (.tuple #[.agg #[.int .i64 0, .int .i64 0, .slice none 0 0], .iface 171 (.pointer (some (E 1)))]) ∧ Ext w w' := by
  have HR := Lib.hid hr
  have HE := Lib.hid hE
  clear hE
  have HI := Lib.hid g3
  obtain ⟨i1, i2, i3, i4⟩ := of_decide_eq_true g3
  clear g3
  obtain ⟨hb1, hb2⟩ := hb
  clear hr
  have t1 : decide ((1 : Int) ≤ RW) = true := decide_eq_true (by omega)
  have t2 : decide ((1 : Int) ≤ RH) = true := decide_eq_true (by omega)
  have t3 : decide (RW ≤ W - X) = true := decide_eq_true (by omega)
  have t4 : decide (RH ≤ H - Y) = false := decide_eq_false (by omega)
  go_enter Tryd.func28, Tryd.ntmps28
  go_wp2_with fail
  refine calls_world (fun wz => Ext w wz ∧ wz.heap.size = w.heap.size + 1 + 1 + 1 ∧ Bk wz (w.heap.size) #[.int .i64 W, .int .i64 H, .slice x n c] ∧ Bk wz (w.heap.size + 1) #[.int .i64 X, .int .i64 Y, .int .i64 RW, .int .i64 RH] ∧ Bk wz (w.heap.size + 1 + 1) #[.int .i64 0, .int .i64 0, .slice none 0 0]) ⟨by repeat (first | exact Ext.refl _ | refine Ext.alloc ?_ _), by simp, by repeat (first | exact Bk.at (by simp) | refine Bk.old ?_), by repeat (first | exact Bk.at (by simp) | refine Bk.old ?_), by repeat (first | exact Bk.at (by simp) | refine Bk.old ?_)⟩ ?_
  rintro wr ⟨hX, hZ, hB0, hB1, hB2⟩
  have B0 := Lib.hid hB0
  have B1 := Lib.hid hB1
  have B2 := Lib.hid hB2
  have XR := Lib.hid hX
  have SZ := Lib.hid hZ
  clear hX hZ hB0 hB1 hB2
  refine (in_any _ _ _ _ _ _ ⟨_, _, _, rfl⟩).mono ?_
  rintro e w5 ⟨rfl, hx5⟩
  rw [HI.out]
  have XA := Lib.hid hx5
  clear hx5
  have q0 := (B0.out.ext XA.out).cell 0
  have q1 := (B0.out.ext XA.out).cell 1
  have q2 := (B0.out.ext XA.out).cell 2
  have s0 := (B1.out.ext XA.out).cell 0
  have s1 := (B1.out.ext XA.out).cell 1
  have s2 := (B1.out.ext XA.out).cell 2
  have s3 := (B1.out.ext XA.out).cell 3
  go_wp2_with fail
  clear q0 q1 q2 s0 s1 s2 s3
  refine (check_bound _ _ _ _ _ _ E (HE.out.ext (Ext.trans XR.out XA.out)) HR.out).mono ?_
  rintro e w6 ⟨rfl, hx⟩
  have hb := Ext.trans XA.out hx
  have XS := Lib.hid (Ext.trans XR.out hb)
  have B0S := Lib.hid (B0.out.ext hb)
  have B1S := Lib.hid (B1.out.ext hb)
  have B2S := Lib.hid (B2.out.ext hb)
  clear hx hb XA
  have d0 := B2S.out.cell 0
  have e0 := B2S.out.frozen 0
  have d1 := B2S.out.cell 1
  have e1 := B2S.out.frozen 1
  have d2 := B2S.out.cell 2
  have e2 := B2S.out.frozen 2
  have FR := Lib.hid (show Ext w _ from XS.out.set3 (b := w.heap.size + 1 + 1) (by omega) (.int .i64 0) (.int .i64 0) (.slice none 0 0))
  have PR := Lib.hid (B2S.out.pic.set (W' := 0) (H' := 0) (v' := .slice none 0 0))
  go_wp2_with fail
  obtain ⟨k0, k1, k2⟩ := PR.out
  exact bodyPost_ret (v := .tuple #[.agg #[.int .i64 0, .int .i64 0, .slice none 0 0], .iface 171 (.pointer (some (E 1)))]) (by simp [results, Tryd.results28, go_sem, k0, k1, k2]) rfl ⟨rfl, FR.out⟩
theorem crop_ok_T (X Y RW RH W H : Nat) (ad : Addr) (c : Nat) (px : Nat → P4) (w : World) (h1 : 1 ≤ RW) (h2 : 1 ≤ RH) (h3 : X + RW ≤ W) (h4 : Y + RH ≤ H) (hr : rightB (W : Int) (H : Int) (W * H) = true) (hx : Pxs w (some ad) (W * H) px) :
    Calls Tryd.prog 28 #[.agg #[.int .i64 (W : Int), .int .i64 (H : Int), .slice (some ad) (W * H) c], .agg #[.int .i64 (X : Int), .int .i64 (Y : Int), .int .i64 (RW : Int), .int .i64 (RH : Int)]] w fun e w' => (∃ v, e = .returned (.tuple #[.agg #[.int .i64 (RW : Int), .int .i64 (RH : Int), v], .nilIface]) ∧ w'.ownsRow w.heap.size 36 4 v (RW * RH) (pxV (RW * RH) (lin RW fun x y => px ((y + Y) * W + (X + x))))) ∧ Ext w w' := by
  have HR := Lib.hid hr
  obtain ⟨W', H', q1, q2, hW1, hW2, hH1, hH2, _⟩ := rightB_yes hr
  obtain rfl : W' = W := by omega
  obtain rfl : H' = H := by omega
  have HX := Lib.hid hx
  clear q1 q2 hx
  have HI : Hid (inB (W' : Int) (H' : Int) (X : Int) (Y : Int) = true) := Lib.hid (decide_eq_true ⟨by omega, by omega, by omega, by omega⟩)
  clear hr
  have t1 : decide ((1 : Int) ≤ (RW : Int)) = true := decide_eq_true (by omega)
  have t2 : decide ((1 : Int) ≤ (RH : Int)) = true := decide_eq_true (by omega)
  have t3 : decide ((RW : Int) ≤ (W' : Int) - (X : Int)) = true := decide_eq_true (by omega)
  have t4 : decide ((RH : Int) ≤ (H' : Int) - (Y : Int)) = true := decide_eq_true (by omega)
  go_enter Tryd.func28, Tryd.ntmps28
  go_wp2_with fail
  refine calls_world (fun wz => Ext w wz ∧ wz.heap.size = w.heap.size + 1 + 1 + 1 ∧ Bk wz (w.heap.size) #[.int .i64 (W' : Int), .int .i64 (H' : Int), .slice (some ad) (W' * H') c] ∧ Bk wz (w.heap.size + 1) #[.int .i64 (X : Int), .int .i64 (Y : Int), .int .i64 (RW : Int), .int .i64 (RH : Int)] ∧ Bk wz (w.heap.size + 1 + 1) #[.int .i64 0, .int .i64 0, .slice none 0 0]) ⟨by repeat (first | exact Ext.refl _ | refine Ext.alloc ?_ _), by simp, by repeat (first | exact Bk.at (by simp) | refine Bk.old ?_), by repeat (first | exact Bk.at (by simp) | refine Bk.old ?_), by repeat (first | exact Bk.at (by simp) | refine Bk.old ?_)⟩ ?_
  rintro wr ⟨hX, hZ, hB0, hB1, hB2⟩
  have B0 := Lib.hid hB0
  have B1 := Lib.hid hB1
  have B2 := Lib.hid hB2
  have XR := Lib.hid hX
  have SZ := Lib.hid hZ
  clear hX hZ hB0 hB1 hB2
  refine (in_any _ _ _ _ _ _ ⟨_, _, _, rfl⟩).mono ?_
  rintro e w5 ⟨rfl, hx5⟩
  rw [HI.out]
  have XA := Lib.hid hx5
  clear hx5
  have q0 := (B0.out.ext XA.out).cell 0
  have q1 := (B0.out.ext XA.out).cell 1
  have q2 := (B0.out.ext XA.out).cell 2
  have s0 := (B1.out.ext XA.out).cell 0
  have s1 := (B1.out.ext XA.out).cell 1
  have s2 := (B1.out.ext XA.out).cell 2
  have s3 := (B1.out.ext XA.out).cell 3
  go_wp2_with fail
  clear q0 q1 q2 s0 s1 s2 s3
  refine (check_ok _ _ _ _ _ _ HR.out).mono ?_
  rintro e w6 ⟨rfl, hx⟩
  have hb := Ext.trans XA.out hx
  have XS := Lib.hid (Ext.trans XR.out hb)
  have B0S := Lib.hid (B0.out.ext hb)
  have B1S := Lib.hid (B1.out.ext hb)
  have B2S := Lib.hid (B2.out.ext hb)
  clear hx hb XA
  have s2 := B1S.out.cell 2
  have s3 := B1S.out.cell 3
  go_wp2_with fail
  refine (each_any 66 #[.pointer (some ⟨w.heap.size, 0, none⟩), .pointer (some ⟨w.heap.size + 1, 0, none⟩)] RW RH (fun x y => px ((y + Y) * W' + (X + x))) _ (by omega) (by omega) enters_crop1 (fun x y w1 h1 hxW hyH => crop1_any x y W' H' X Y _ _ ad c w.heap.size (w.heap.size + 1) px w1 (B0S.out.ext h1).pic (B1S.out.ext h1) (HX.out.ext (XS.out.trans h1)) hW2 hH2 (by omega) (by omega))).mono ?_
  rintro e w7 ⟨⟨v, rfl, hown⟩, h7⟩
  have OWN := Lib.hid (hown)
  have X7 := Lib.hid (h7)
  clear h7 hown
  obtain ⟨x, c', rfl⟩ := own_slice OWN.out
  have B7 := B2S.out.ext X7.out
  have d0 := B7.cell 0
  have e0 := B7.frozen 0
  have d1 := B7.cell 1
  have e1 := B7.frozen 1
  have d2 := B7.cell 2
  have e2 := B7.frozen 2
  have FR := Lib.hid (fill_res (W := (RW : Int)) (H := (RH : Int)) (XS.out.trans X7.out) (by omega : w.heap.size ≤ w.heap.size + 1 + 1) B7.pic OWN.out B2S.out.lt)
  clear B7 s2 s3
  go_wp2_with fail
  obtain ⟨P, own, hX⟩ := FR.out
  have k0 := P.c0
  have k1 := P.c1
  have k2 := P.c2
  exact bodyPost_ret (v := .tuple #[.agg #[.int .i64 (RW : Int), .int .i64 (RH : Int), .slice x (RW * RH) c'], .nilIface]) (by simp [results, Tryd.results28, go_sem, k0, k1, k2]) rfl ⟨⟨_, rfl, owns_based own XS.out.size⟩, hX⟩
theorem cropIs_n1 (X Y RW RH W H : Int) (x : Option Addr) (n c : Nat) (w : World)  (g1 : X < 0) (hb : W ≤ 9223372036854775807 ∧ H ≤ 9223372036854775807) :
    Calls Tryd.prog 31 #[.agg #[.int .i64 W, .int .i64 H, .slice x n c], .agg #[.int .i64 X, .int .i64 Y, .int .i64 RW, .int .i64 RH]] w fun e w' => e = .returned (.bool false) ∧ Ext w w' := by
  obtain ⟨hb1, hb2⟩ := hb
  have t1 : decide (X < 0) = true := decide_eq_true (by omega)
  go_enter Tryd.func31, Tryd.ntmps31
  go_wp2_with fail
  go_ret
  exact ⟨rfl, ((Ext.refl _).alloc _).alloc _⟩
theorem cropIs_n2 (X Y RW RH W H : Int) (x : Option Addr) (n c : Nat) (w : World) (g1 : ¬ X < 0) (g2 : Y < 0) (hb : W ≤ 9223372036854775807 ∧ H ≤ 9223372036854775807) :
    Calls Tryd.prog 31 #[.agg #[.int .i64 W, .int .i64 H, .slice x n c], .agg #[.int .i64 X, .int .i64 Y, .int .i64 RW, .int .i64 RH]] w fun e w' => e = .returned (.bool false) ∧ Ext w w' := by
  obtain ⟨hb1, hb2⟩ := hb
  have t1 : decide (X < 0) = false := decide_eq_false (by omega)
  have t2 : decide (Y < 0) = true := decide_eq_true (by omega)
  go_enter Tryd.func31, Tryd.ntmps31
  go_wp2_with fail
  go_ret
  exact ⟨rfl, ((Ext.refl _).alloc _).alloc _⟩
theorem cropIs_n3 (X Y RW RH W H : Int) (x : Option Addr) (n c : Nat) (w : World) (g1 : ¬ X < 0) (g2 : ¬ Y < 0) (g3 : RW < 1) (hb : W ≤ 9223372036854775807 ∧ H ≤ 9223372036854775807) :
    Calls Tryd.prog 31 #[.agg #[.int .i64 W, .int .i64 H, .slice x n c], .agg #[.int .i64 X, .int .i64 Y, .int .i64 RW, .int .i64 RH]] w fun e w' => e = .returned (.bool false) ∧ Ext w w' := by
  obtain ⟨hb1, hb2⟩ := hb
  have t1 : decide (X < 0) = false := decide_eq_false (by omega)
  have t2 : decide (Y < 0) = false := decide_eq_false (by omega)
  have t3 : decide (RW < 1) = true := decide_eq_true (by omega)
  go_enter Tryd.func31, Tryd.ntmps31
  go_wp2_with fail
  go_ret
  exact ⟨rfl, ((Ext.refl _).alloc _).alloc _⟩
theorem cropIs_n4 (X Y RW RH W H : Int) (x : Option Addr) (n c : Nat) (w : World) (g1 : ¬ X < 0) (g2 : ¬ Y < 0) (g3 : ¬ RW < 1) (g4 : RH < 1) (hb : W ≤ 9223372036854775807 ∧ H ≤ 9223372036854775807) :
    Calls Tryd.prog 31 #[.agg #[.int .i64 W, .int .i64 H, .slice x n c], .agg #[.int .i64 X, .int .i64 Y, .int .i64 RW, .int .i64 RH]] w fun e w' => e = .returned (.bool false) ∧ Ext w w' := by
  obtain ⟨hb1, hb2⟩ := hb
  have t1 : decide (X < 0) = false := decide_eq_false (by omega)
  have t2 : decide (Y < 0) = false := decide_eq_false (by omega)
  have t3 : decide (RW < 1) = false := decide_eq_false (by omega)
  have t4 : decide (RH < 1) = true := decide_eq_true (by omega)
  go_enter Tryd.func31, Tryd.ntmps31
  go_wp2_with fail
  go_ret
  exact ⟨rfl, ((Ext.refl _).alloc _).alloc _⟩
theorem cropIs_n5 (X Y RW RH W H : Int) (x : Option Addr) (n c : Nat) (w : World) (g1 : ¬ X < 0) (g2 : ¬ Y < 0) (g3 : ¬ RW < 1) (g4 : ¬ RH < 1) (g5 : W ≤ X) (hb : W ≤ 9223372036854775807 ∧ H ≤ 9223372036854775807) :
    Calls Tryd.prog 31 #[.agg #[.int .i64 W, .int .i64 H, .slice x n c], .agg #[.int .i64 X, .int .i64 Y, .int .i64 RW, .int .i64 RH]] w fun e w' => e = .returned (.bool false) ∧ Ext w w' := by
  obtain ⟨hb1, hb2⟩ := hb
  have t1 : decide (X < 0) = false := decide_eq_false (by omega)
  have t2 : decide (Y < 0) = false := decide_eq_false (by omega)
  have t3 : decide (RW < 1) = false := decide_eq_false (by omega)
  have t4 : decide (RH < 1) = false := decide_eq_false (by omega)
  have t5 : decide (W ≤ X) = true := decide_eq_true (by omega)
  go_enter Tryd.func31, Tryd.ntmps31
  go_wp2_with fail
  go_ret
  exact ⟨rfl, ((Ext.refl _).alloc _).alloc _⟩
theorem cropIs_n6 (X Y RW RH W H : Int) (x : Option Addr) (n c : Nat) (w : World) (g1 : ¬ X < 0) (g2 : ¬ Y < 0) (g3 : ¬ RW < 1) (g4 : ¬ RH < 1) (g5 : ¬ W ≤ X) (g6 : H ≤ Y) (hb : W ≤ 9223372036854775807 ∧ H ≤ 9223372036854775807) :
    Calls Tryd.prog 31 #[.agg #[.int .i64 W, .int .i64 H, .slice x n c], .agg #[.int .i64 X, .int .i64 Y, .int .i64 RW, .int .i64 RH]] w fun e w' => e = .returned (.bool false) ∧ Ext w w' := by
  obtain ⟨hb1, hb2⟩ := hb
  have t1 : decide (X < 0) = false := decide_eq_false (by omega)
  have t2 : decide (Y < 0) = false := decide_eq_false (by omega)
  have t3 : decide (RW < 1) = false := decide_eq_false (by omega)
  have t4 : decide (RH < 1) = false := decide_eq_false (by omega)
  have t5 : decide (W ≤ X) = false := decide_eq_false (by omega)
  have t6 : decide (H ≤ Y) = true := decide_eq_true (by omega)
  go_enter Tryd.func31, Tryd.ntmps31
  go_wp2_with fail
  go_ret
  exact ⟨rfl, ((Ext.refl _).alloc _).alloc _⟩
theorem cropIs_n7 (X Y RW RH W H : Int) (x : Option Addr) (n c : Nat) (w : World) (g1 : ¬ X < 0) (g2 : ¬ Y < 0) (g3 : ¬ RW < 1) (g4 : ¬ RH < 1) (g5 : ¬ W ≤ X) (g6 : ¬ H ≤ Y) (g7 : ¬ RW ≤ W - X) (hb : W ≤ 9223372036854775807 ∧ H ≤ 9223372036854775807) :
    Calls Tryd.prog 31 #[.agg #[.int .i64 W, .int .i64 H, .slice x n c], .agg #[.int .i64 X, .int .i64 Y, .int .i64 RW, .int .i64 RH]] w fun e w' => e = .returned (.bool false) ∧ Ext w w' := by
  obtain ⟨hb1, hb2⟩ := hb
  have t1 : decide (X < 0) = false := decide_eq_false (by omega)
  have t2 : decide (Y < 0) = false := decide_eq_false (by omega)
  have t3 : decide (RW < 1) = false := decide_eq_false (by omega)
  have t4 : decide (RH < 1) = false := decide_eq_false (by omega)
  have t5 : decide (W ≤ X) = false := decide_eq_false (by omega)
  have t6 : decide (H ≤ Y) = false := decide_eq_false (by omega)
  have t7 : decide (RW ≤ W - X) = false := decide_eq_false (by omega)
  go_enter Tryd.func31, Tryd.ntmps31
  go_wp2_with fail
  go_ret
  exact ⟨rfl, ((Ext.refl _).alloc _).alloc _⟩
theorem cropIs_n8 (X Y RW RH W H : Int) (x : Option Addr) (n c : Nat) (w : World) (g1 : ¬ X < 0) (g2 : ¬ Y < 0) (g3 : ¬ RW < 1) (g4 : ¬ RH < 1) (g5 : ¬ W ≤ X) (g6 : ¬ H ≤ Y) (g7 : RW ≤ W - X) (g8 : ¬ RH ≤ H - Y) (hb : W ≤ 9223372036854775807 ∧ H ≤ 9223372036854775807) :
    Calls Tryd.prog 31 #[.agg #[.int .i64 W, .int .i64 H, .slice x n c], .agg #[.int .i64 X, .int .i64 Y, .int .i64 RW, .int .i64 RH]] w fun e w' => e = .returned (.bool false) ∧ Ext w w' := by
  obtain ⟨hb1, hb2⟩ := hb
  have t1 : decide (X < 0) = false := decide_eq_false (by omega)
  have t2 : decide (Y < 0) = false := decide_eq_false (by omega)
  have t3 : decide (RW < 1) = false := decide_eq_false (by omega)
  have t4 : decide (RH < 1) = false := decide_eq_false (by omega)
  have t5 : decide (W ≤ X) = false := decide_eq_false (by omega)
  have t6 : decide (H ≤ Y) = false := decide_eq_false (by omega)
  have t7 : decide (RW ≤ W - X) = true := decide_eq_true (by omega)
  have t8 : decide (RH ≤ H - Y) = false := decide_eq_false (by omega)
  go_enter Tryd.func31, Tryd.ntmps31
  go_wp2_with fail
  go_ret
  exact ⟨rfl, ((Ext.refl _).alloc _).alloc _⟩
theorem cropIs_yes (X Y RW RH W H : Int) (x : Option Addr) (n c : Nat) (w : World) (g1 : ¬ X < 0) (g2 : ¬ Y < 0) (g3 : ¬ RW < 1) (g4 : ¬ RH < 1) (g5 : ¬ W ≤ X) (g6 : ¬ H ≤ Y) (g7 : RW ≤ W - X) (g8 : RH ≤ H - Y) (hb : W ≤ 9223372036854775807 ∧ H ≤ 9223372036854775807) :
    Calls Tryd.prog 31 #[.agg #[.int .i64 W, .int .i64 H, .slice x n c], .agg #[.int .i64 X, .int .i64 Y, .int .i64 RW, .int .i64 RH]] w fun e w' => e = .returned (.bool true) ∧ Ext w w' := by
  obtain ⟨hb1, hb2⟩ := hb
  have t1 : decide (X < 0) = false := decide_eq_false (by omega)
  have t2 : decide (Y < 0) = false := decide_eq_false (by omega)
  have t3 : decide (RW < 1) = false := decide_eq_false (by omega)
  have t4 : decide (RH < 1) = false := decide_eq_false (by omega)
  have t5 : decide (W ≤ X) = false := decide_eq_false (by omega)
  have t6 : decide (H ≤ Y) = false := decide_eq_false (by omega)
  have t7 : decide (RW ≤ W - X) = true := decide_eq_true (by omega)
  have t8 : decide (RH ≤ H - Y) = true := decide_eq_true (by omega)
  go_enter Tryd.func31, Tryd.ntmps31
  go_wp2_with fail
  go_ret
  exact ⟨rfl, ((Ext.refl _).alloc _).alloc _⟩
end Go.Proofs.YtkfjcgcgfdibaaaDoor
