/- RasterParts' walk: shape, shape. -/
import Derived.Test.YtkfjcgcgfdibaaaDoorPartsLaw
import Derived.Deep.RegionHeld3
import Derived.Deep.DeepCutAuto
namespace Go.Proofs.YtkfjcgcgfdibaaaDoor
open Go.RowKit
set_option maxRecDepth 100000
set_option linter.unusedSimpArgs false in
set_option maxHeartbeats 4000000 in
theorem parts_shape_shape (X Y RW RH r g b a W H : Int) (x : Option Addr) (n cap : Nat) (px : Nat → P4) (w : World) (E : Nat → Addr) (hE : Errs w E) (hx : Pxs w x n px) (hx0 : x = none → cap = 0) (hb : W ≤ 9223372036854775807 ∧ H ≤ 9223372036854775807) (hn : n ≤ 3000) (hr : rightB W H n = false) :
    Calls Tryd.prog 5 #[.agg #[.int .i64 W, .int .i64 H, .slice x n cap], .agg #[.int .i64 X, .int .i64 Y, .int .i64 RW, .int .i64 RH], .agg #[.int .u8 r, .int .u8 g, .int .u8 b, .int .u8 a]] w fun e w' => e = .returned (.bool true) ∧ Ext w w' := by
  have HE := Lib.hid hE
  have HX := Lib.hid hx
  have HD := Lib.hid (decide_eq_true hn)
  have HR := Lib.hid hr
  have HX0 := Lib.hid hx0
  clear hE hx hr hx0
  go_enter Tryd.func5, Tryd.ntmps5
  go_wp2_with fail
  refine calls_world (fun wz => Ext w wz ∧ wz.heap.size = w.heap.size + 1 + 1 + 1 ∧ Bk wz (w.heap.size) #[.int .i64 W, .int .i64 H, .slice x n cap] ∧ Bk wz (w.heap.size + 1) #[.int .i64 X, .int .i64 Y, .int .i64 RW, .int .i64 RH] ∧ Bk wz (w.heap.size + 1 + 1) #[.int .u8 r, .int .u8 g, .int .u8 b, .int .u8 a]) ⟨by repeat (first | exact Ext.refl _ | refine Ext.alloc ?_ _), by simp, by repeat (first | exact Bk.at (by simp) | refine Bk.old ?_), by repeat (first | exact Bk.at (by simp) | refine Bk.old ?_), by repeat (first | exact Bk.at (by simp) | refine Bk.old ?_)⟩ ?_
  rintro w1 ⟨hX, hZ, hB0, hB1, hB2⟩
  have X_1 := Lib.hid hX
  have B_1 := Lib.hid hB0
  have C_1 := Lib.hid hB1
  have Q_1 := Lib.hid hB2
  clear hX hZ hB0 hB1 hB2
  refine (plainly_any _).mono ?_
  rintro e w2 ⟨rfl, h⟩
  have X_2 := Lib.hid (X_1.out.trans h)
  have B_2 := Lib.hid (B_1.out.ext h)
  have C_2 := Lib.hid (C_1.out.ext h)
  have Q_2 := Lib.hid (Q_1.out.ext h)
  clear h
  clear X_1 B_1 C_1 Q_1
  have k0 := B_2.out.cell 0
  have k1 := B_2.out.cell 1
  have k2 := B_2.out.cell 2
  go_wp2_with fail
  refine (small_any _ _ _ _ _ _ (by unfold maxLen; omega)).mono ?_
  rintro e w3 ⟨rfl, h⟩
  have X_3 := Lib.hid (X_2.out.trans h)
  have B_3 := Lib.hid (B_2.out.ext h)
  have C_3 := Lib.hid (C_2.out.ext h)
  have Q_3 := Lib.hid (Q_2.out.ext h)
  clear h
  clear X_2 B_2 C_2 Q_2 k0 k1 k2
  rw [HD.out]
  go_upto_region 4 with fail
  go_cut [8, 9] (fun s8 s9 wx => ∃ T, s8 = .pointer (some ⟨T, 0, none⟩) ∧ s9 = .iface 171 (.pointer (some (E 2))) ∧ Hid (Ext w wx) ∧ Hid (Bk wx w.heap.size #[.int .i64 W, .int .i64 H, .slice x n cap]) ∧ Hid (Bk wx (w.heap.size + 1) #[.int .i64 X, .int .i64 Y, .int .i64 RW, .int .i64 RH]) ∧ Hid (Bk wx (w.heap.size + 1 + 1) #[.int .u8 r, .int .u8 g, .int .u8 b, .int .u8 a]) ∧ Hid (Bk wx T #[.int .i64 0, .int .i64 0, .slice none 0 0]))
  case first =>
    have k0 := B_3.out.cell 0
    have k1 := B_3.out.cell 1
    have k2 := B_3.out.cell 2
    have k3 := C_3.out.cell 0
    have k4 := C_3.out.cell 1
    have k5 := C_3.out.cell 2
    have k6 := C_3.out.cell 3
    have k7 := Q_3.out.cell 0
    have k8 := Q_3.out.cell 1
    have k9 := Q_3.out.cell 2
    have k10 := Q_3.out.cell 3
    refine wp_region_held_drew (S := fun w' => w'.cell? ⟨w.heap.size, 0, none⟩ = some (.int .i64 W) ∧ w'.cell? ⟨w.heap.size, 1, none⟩ = some (.int .i64 H) ∧ w'.cell? ⟨w.heap.size, 2, none⟩ = some (.slice x n cap) ∧ w'.cell? ⟨w.heap.size + 1, 0, none⟩ = some (.int .i64 X) ∧ w'.cell? ⟨w.heap.size + 1, 1, none⟩ = some (.int .i64 Y) ∧ w'.cell? ⟨w.heap.size + 1, 2, none⟩ = some (.int .i64 RW) ∧ w'.cell? ⟨w.heap.size + 1, 3, none⟩ = some (.int .i64 RH) ∧ w'.cell? ⟨w.heap.size + 1 + 1, 0, none⟩ = some (.int .u8 r) ∧ w'.cell? ⟨w.heap.size + 1 + 1, 1, none⟩ = some (.int .u8 g) ∧ w'.cell? ⟨w.heap.size + 1 + 1, 2, none⟩ = some (.int .u8 b) ∧ w'.cell? ⟨w.heap.size + 1 + 1, 3, none⟩ = some (.int .u8 a)) (by kernel_rfl) ⟨k0, k1, k2, k3, k4, k5, k6, k7, k8, k9, k10⟩ (fun hHeld => ?_)
    refine wpAnyH_take (i := 0) (v := ?_) rfl (by kernel_rfl) (by kernel_rfl) (by kernel_rfl) (fun _ _ _ h => h) (Or.inl ⟨by kernel_rfl, ?_⟩) hHeld ?_
    rotate_left
    · intro w hSw
      (try dsimp only at hSw)
      go_split_ands
      go_simp
      (try with_reducible rfl)
    try simp only [Act.put, List.setIfInBounds_toArray, List.set_cons_zero, List.set_cons_succ]
    refine wpAnyH_take (i := 2) (v := ?_) rfl (by kernel_rfl) (by kernel_rfl) (by kernel_rfl) (fun _ _ _ h => h) (Or.inl ⟨by kernel_rfl, ?_⟩) hHeld ?_
    rotate_left
    · intro w hSw
      (try dsimp only at hSw)
      go_split_ands
      go_simp
      (try with_reducible rfl)
    try simp only [Act.put, List.setIfInBounds_toArray, List.set_cons_zero, List.set_cons_succ]
    refine wpAnyH_take (i := 3) (v := ?_) rfl (by kernel_rfl) (by kernel_rfl) (by kernel_rfl) (fun _ _ _ h => h) (Or.inl ⟨by kernel_rfl, ?_⟩) hHeld ?_
    rotate_left
    · intro w hSw
      (try dsimp only at hSw)
      go_split_ands
      go_simp
      (try with_reducible rfl)
    try simp only [Act.put, List.setIfInBounds_toArray, List.set_cons_zero, List.set_cons_succ]
    refine wpAnyH_ready (rs := [1, 8]) (by kernel_rfl) (by simp) ?_
    refine AllReadyH.cons rfl (fun K hK => ?_) (AllReadyH.cons rfl (fun K hK => ?_) AllReadyH.nil)
    · clear hHeld
      go_simp
      refine (own_x _ _ x n cap px _ (HX.out.ext (X_3.out.trans (show Ext w3 w3.drew from Below.drew (Ext.refl w3)))) HX0.out (by omega)).mono ?_
      rintro e w5 ⟨⟨ox, oc, rfl, hox, _⟩, hx5⟩
      have ha : Ext w3 w5 := Ext.trans (show Ext w3 w3.drew from Below.drew (Ext.refl w3)) hx5
      have OX := Lib.hid hox
      clear hox
      go_simp
      refine hK.out _ _ ⟨(B_3.out.ext ha).cell 0, (B_3.out.ext ha).cell 1, (B_3.out.ext ha).cell 2, (C_3.out.ext ha).cell 0, (C_3.out.ext ha).cell 1, (C_3.out.ext ha).cell 2, (C_3.out.ext ha).cell 3, (Q_3.out.ext ha).cell 0, (Q_3.out.ext ha).cell 1, (Q_3.out.ext ha).cell 2, (Q_3.out.ext ha).cell 3⟩ (fun hHeld => ?_)
      clear hK K
      try simp only [Act.put, List.setIfInBounds_toArray, List.set_cons_zero, List.set_cons_succ]
      refine wpAnyH_ready (rs := [4, 8]) (by kernel_rfl) (by simp) ?_
      refine AllReadyH.cons rfl (fun K hK => ?_) (AllReadyH.cons rfl (fun K hK => ?_) AllReadyH.nil)
      · clear hHeld
        go_simp
        refine (fill_shape X Y RW RH r g b a _ _ _ _ _ E _ (HE.out.ext (X_3.out.trans ha)) HR.out).mono ?_
        rintro e w6 ⟨rfl, hx6⟩
        have hb6 : Ext w3 w6 := Ext.trans ha hx6
        go_simp
        refine hK.out _ _ ⟨(B_3.out.ext hb6).cell 0, (B_3.out.ext hb6).cell 1, (B_3.out.ext hb6).cell 2, (C_3.out.ext hb6).cell 0, (C_3.out.ext hb6).cell 1, (C_3.out.ext hb6).cell 2, (C_3.out.ext hb6).cell 3, (Q_3.out.ext hb6).cell 0, (Q_3.out.ext hb6).cell 1, (Q_3.out.ext hb6).cell 2, (Q_3.out.ext hb6).cell 3⟩ (fun hHeld => ?_)
        clear hK K
        try simp only [Act.put, List.setIfInBounds_toArray, List.set_cons_zero, List.set_cons_succ]
        refine wpAnyH_take (i := 5) (v := ?_) rfl (by kernel_rfl) (by kernel_rfl) (by kernel_rfl) (fun _ _ _ h => h) (Or.inl ⟨by kernel_rfl, ?_⟩) hHeld ?_
        rotate_left
        · intro w hSw
          (try dsimp only at hSw)
          go_split_ands
          go_simp
          (try with_reducible rfl)
        try simp only [Act.put, List.setIfInBounds_toArray, List.set_cons_zero, List.set_cons_succ]
        refine wpAnyH_take (i := 6) (v := ?_) rfl (by kernel_rfl) (by kernel_rfl) (by kernel_rfl) (fun _ _ _ h => h) (Or.inl ⟨by kernel_rfl, ?_⟩) hHeld ?_
        rotate_left
        · intro w hSw
          (try dsimp only at hSw)
          go_split_ands
          go_simp
          (try with_reducible rfl)
        try simp only [Act.put, List.setIfInBounds_toArray, List.set_cons_zero, List.set_cons_succ]
        refine wpAnyH_take (i := 7) (v := ?_) rfl (by kernel_rfl) (by kernel_rfl) (by kernel_rfl) (fun _ _ _ h => h) (Or.inl ⟨by kernel_rfl, ?_⟩) hHeld ?_
        rotate_left
        · intro w hSw
          (try dsimp only at hSw)
          go_split_ands
          go_simp
          (try with_reducible rfl)
        try simp only [Act.put, List.setIfInBounds_toArray, List.set_cons_zero, List.set_cons_succ]
        refine wpAnyH_ready (rs := [8]) (by kernel_rfl) (by simp) ?_
        refine AllReadyH.cons rfl (fun K hK => ?_) AllReadyH.nil
        clear hHeld
        go_simp
        refine hK.out _ _ ⟨(B_3.out.ext (Ext.alloc hb6 _)).cell 0, (B_3.out.ext (Ext.alloc hb6 _)).cell 1, (B_3.out.ext (Ext.alloc hb6 _)).cell 2, (C_3.out.ext (Ext.alloc hb6 _)).cell 0, (C_3.out.ext (Ext.alloc hb6 _)).cell 1, (C_3.out.ext (Ext.alloc hb6 _)).cell 2, (C_3.out.ext (Ext.alloc hb6 _)).cell 3, (Q_3.out.ext (Ext.alloc hb6 _)).cell 0, (Q_3.out.ext (Ext.alloc hb6 _)).cell 1, (Q_3.out.ext (Ext.alloc hb6 _)).cell 2, (Q_3.out.ext (Ext.alloc hb6 _)).cell 3⟩ (fun hHeld => ?_)
        clear hK K
        try simp only [Act.put, List.setIfInBounds_toArray, List.set_cons_zero, List.set_cons_succ]
        refine wpAnyH_ready (rs := [9]) (by kernel_rfl) (by simp) ?_
        refine AllReadyH.cons rfl (fun K hK => ?_) AllReadyH.nil
        clear hHeld
        go_simp
        refine hK.out _ _ ⟨(B_3.out.ext (Ext.alloc hb6 _)).cell 0, (B_3.out.ext (Ext.alloc hb6 _)).cell 1, (B_3.out.ext (Ext.alloc hb6 _)).cell 2, (C_3.out.ext (Ext.alloc hb6 _)).cell 0, (C_3.out.ext (Ext.alloc hb6 _)).cell 1, (C_3.out.ext (Ext.alloc hb6 _)).cell 2, (C_3.out.ext (Ext.alloc hb6 _)).cell 3, (Q_3.out.ext (Ext.alloc hb6 _)).cell 0, (Q_3.out.ext (Ext.alloc hb6 _)).cell 1, (Q_3.out.ext (Ext.alloc hb6 _)).cell 2, (Q_3.out.ext (Ext.alloc hb6 _)).cell 3⟩ (fun hHeld => ?_)
        clear hK K
        try simp only [Act.put, List.setIfInBounds_toArray, List.set_cons_zero, List.set_cons_succ]
        refine wpAnyH_ready (rs := [10]) (by kernel_rfl) (by simp) ?_
        refine AllReadyH.cons rfl (fun K hK => ?_) AllReadyH.nil
        clear hHeld
        go_simp
        refine hK.out _ _ ⟨(B_3.out.ext (Ext.alloc hb6 _)).cell 0, (B_3.out.ext (Ext.alloc hb6 _)).cell 1, (B_3.out.ext (Ext.alloc hb6 _)).cell 2, (C_3.out.ext (Ext.alloc hb6 _)).cell 0, (C_3.out.ext (Ext.alloc hb6 _)).cell 1, (C_3.out.ext (Ext.alloc hb6 _)).cell 2, (C_3.out.ext (Ext.alloc hb6 _)).cell 3, (Q_3.out.ext (Ext.alloc hb6 _)).cell 0, (Q_3.out.ext (Ext.alloc hb6 _)).cell 1, (Q_3.out.ext (Ext.alloc hb6 _)).cell 2, (Q_3.out.ext (Ext.alloc hb6 _)).cell 3⟩ (fun hHeld => ?_)
        clear hK K
        try simp only [Act.put, List.setIfInBounds_toArray, List.set_cons_zero, List.set_cons_succ]
        refine wpAnyH_done (by kernel_rfl) ?_ _
        clear hHeld
        (try go_wp2_with fail)
        go_meet
        exact ⟨w6.heap.size, rfl, rfl, Lib.hid (X_3.out.trans (Ext.alloc hb6 _)), Lib.hid (B_3.out.ext (Ext.alloc hb6 _)), Lib.hid (C_3.out.ext (Ext.alloc hb6 _)), Lib.hid (Q_3.out.ext (Ext.alloc hb6 _)), Lib.hid (Bk.at rfl)⟩
      · clear hHeld
        go_simp
        refine hK.out _ _ ⟨(B_3.out.ext (Ext.alloc ha _)).cell 0, (B_3.out.ext (Ext.alloc ha _)).cell 1, (B_3.out.ext (Ext.alloc ha _)).cell 2, (C_3.out.ext (Ext.alloc ha _)).cell 0, (C_3.out.ext (Ext.alloc ha _)).cell 1, (C_3.out.ext (Ext.alloc ha _)).cell 2, (C_3.out.ext (Ext.alloc ha _)).cell 3, (Q_3.out.ext (Ext.alloc ha _)).cell 0, (Q_3.out.ext (Ext.alloc ha _)).cell 1, (Q_3.out.ext (Ext.alloc ha _)).cell 2, (Q_3.out.ext (Ext.alloc ha _)).cell 3⟩ (fun hHeld => ?_)
        clear hK K
        try simp only [Act.put, List.setIfInBounds_toArray, List.set_cons_zero, List.set_cons_succ]
        refine wpAnyH_ready (rs := [4]) (by kernel_rfl) (by simp) ?_
        refine AllReadyH.cons rfl (fun K hK => ?_) AllReadyH.nil
        clear hHeld
        go_simp
        refine (fill_shape X Y RW RH r g b a _ _ _ _ _ E _ (HE.out.ext (X_3.out.trans (Ext.alloc ha _))) HR.out).mono ?_
        rintro e w6 ⟨rfl, hx6⟩
        have hb6 : Ext w3 w6 := Ext.trans (Ext.alloc ha _) hx6
        have BT := Lib.hid (Bk.ext (b := w5.heap.size) (cs := #[.int .i64 0, .int .i64 0, .slice none 0 0]) (Bk.at rfl) hx6)
        have t0 := BT.out.cell 0
        have t1 := BT.out.cell 1
        have t2 := BT.out.cell 2
        have f0 := BT.out.frozen 0
        have f1 := BT.out.frozen 1
        have f2 := BT.out.frozen 2
        go_simp
        refine hK.out _ _ ⟨(B_3.out.ext hb6).cell 0, (B_3.out.ext hb6).cell 1, (B_3.out.ext hb6).cell 2, (C_3.out.ext hb6).cell 0, (C_3.out.ext hb6).cell 1, (C_3.out.ext hb6).cell 2, (C_3.out.ext hb6).cell 3, (Q_3.out.ext hb6).cell 0, (Q_3.out.ext hb6).cell 1, (Q_3.out.ext hb6).cell 2, (Q_3.out.ext hb6).cell 3⟩ (fun hHeld => ?_)
        clear hK K
        try simp only [Act.put, List.setIfInBounds_toArray, List.set_cons_zero, List.set_cons_succ]
        refine wpAnyH_take (i := 5) (v := ?_) rfl (by kernel_rfl) (by kernel_rfl) (by kernel_rfl) (fun _ _ _ h => h) (Or.inl ⟨by kernel_rfl, ?_⟩) hHeld ?_
        rotate_left
        · intro w hSw
          (try dsimp only at hSw)
          go_split_ands
          go_simp
          (try with_reducible rfl)
        try simp only [Act.put, List.setIfInBounds_toArray, List.set_cons_zero, List.set_cons_succ]
        refine wpAnyH_take (i := 6) (v := ?_) rfl (by kernel_rfl) (by kernel_rfl) (by kernel_rfl) (fun _ _ _ h => h) (Or.inl ⟨by kernel_rfl, ?_⟩) hHeld ?_
        rotate_left
        · intro w hSw
          (try dsimp only at hSw)
          go_split_ands
          go_simp
          (try with_reducible rfl)
        try simp only [Act.put, List.setIfInBounds_toArray, List.set_cons_zero, List.set_cons_succ]
        refine wpAnyH_take (i := 7) (v := ?_) rfl (by kernel_rfl) (by kernel_rfl) (by kernel_rfl) (fun _ _ _ h => h) (Or.inl ⟨by kernel_rfl, ?_⟩) hHeld ?_
        rotate_left
        · intro w hSw
          (try dsimp only at hSw)
          go_split_ands
          go_simp
          (try with_reducible rfl)
        try simp only [Act.put, List.setIfInBounds_toArray, List.set_cons_zero, List.set_cons_succ]
        have SF := Lib.hid (set3_all (x' := .int .i64 0) (y' := .int .i64 0) (z' := .slice none 0 0) hb6 ha.size BT.out)
        refine wpAnyH_ready (rs := [9]) (by kernel_rfl) (by simp) ?_
        refine AllReadyH.cons rfl (fun K hK => ?_) AllReadyH.nil
        clear hHeld
        go_simp
        refine hK.out _ _ ⟨(B_3.out.ext SF.out.1).cell 0, (B_3.out.ext SF.out.1).cell 1, (B_3.out.ext SF.out.1).cell 2, (C_3.out.ext SF.out.1).cell 0, (C_3.out.ext SF.out.1).cell 1, (C_3.out.ext SF.out.1).cell 2, (C_3.out.ext SF.out.1).cell 3, (Q_3.out.ext SF.out.1).cell 0, (Q_3.out.ext SF.out.1).cell 1, (Q_3.out.ext SF.out.1).cell 2, (Q_3.out.ext SF.out.1).cell 3⟩ (fun hHeld => ?_)
        clear hK K
        try simp only [Act.put, List.setIfInBounds_toArray, List.set_cons_zero, List.set_cons_succ]
        refine wpAnyH_ready (rs := [10]) (by kernel_rfl) (by simp) ?_
        refine AllReadyH.cons rfl (fun K hK => ?_) AllReadyH.nil
        clear hHeld
        go_simp
        refine hK.out _ _ ⟨(B_3.out.ext SF.out.1).cell 0, (B_3.out.ext SF.out.1).cell 1, (B_3.out.ext SF.out.1).cell 2, (C_3.out.ext SF.out.1).cell 0, (C_3.out.ext SF.out.1).cell 1, (C_3.out.ext SF.out.1).cell 2, (C_3.out.ext SF.out.1).cell 3, (Q_3.out.ext SF.out.1).cell 0, (Q_3.out.ext SF.out.1).cell 1, (Q_3.out.ext SF.out.1).cell 2, (Q_3.out.ext SF.out.1).cell 3⟩ (fun hHeld => ?_)
        clear hK K
        try simp only [Act.put, List.setIfInBounds_toArray, List.set_cons_zero, List.set_cons_succ]
        refine wpAnyH_done (by kernel_rfl) ?_ _
        clear hHeld
        (try go_wp2_with fail)
        go_meet
        exact ⟨w5.heap.size, rfl, rfl, Lib.hid (X_3.out.trans SF.out.1), Lib.hid (B_3.out.ext SF.out.1), Lib.hid (C_3.out.ext SF.out.1), Lib.hid (Q_3.out.ext SF.out.1), Lib.hid SF.out.2.1⟩
    · clear hHeld
      go_simp
      refine hK.out _ _ ⟨(B_3.out.ext (Ext.alloc (show Ext w3 w3.drew from Below.drew (Ext.refl w3)) _)).cell 0, (B_3.out.ext (Ext.alloc (show Ext w3 w3.drew from Below.drew (Ext.refl w3)) _)).cell 1, (B_3.out.ext (Ext.alloc (show Ext w3 w3.drew from Below.drew (Ext.refl w3)) _)).cell 2, (C_3.out.ext (Ext.alloc (show Ext w3 w3.drew from Below.drew (Ext.refl w3)) _)).cell 0, (C_3.out.ext (Ext.alloc (show Ext w3 w3.drew from Below.drew (Ext.refl w3)) _)).cell 1, (C_3.out.ext (Ext.alloc (show Ext w3 w3.drew from Below.drew (Ext.refl w3)) _)).cell 2, (C_3.out.ext (Ext.alloc (show Ext w3 w3.drew from Below.drew (Ext.refl w3)) _)).cell 3, (Q_3.out.ext (Ext.alloc (show Ext w3 w3.drew from Below.drew (Ext.refl w3)) _)).cell 0, (Q_3.out.ext (Ext.alloc (show Ext w3 w3.drew from Below.drew (Ext.refl w3)) _)).cell 1, (Q_3.out.ext (Ext.alloc (show Ext w3 w3.drew from Below.drew (Ext.refl w3)) _)).cell 2, (Q_3.out.ext (Ext.alloc (show Ext w3 w3.drew from Below.drew (Ext.refl w3)) _)).cell 3⟩ (fun hHeld => ?_)
      clear hK K
      try simp only [Act.put, List.setIfInBounds_toArray, List.set_cons_zero, List.set_cons_succ]
      refine wpAnyH_ready (rs := [1]) (by kernel_rfl) (by simp) ?_
      refine AllReadyH.cons rfl (fun K hK => ?_) AllReadyH.nil
      clear hHeld
      go_simp
      refine (own_x _ _ x n cap px _ (HX.out.ext (X_3.out.trans (Ext.alloc (show Ext w3 w3.drew from Below.drew (Ext.refl w3)) _))) HX0.out (by omega)).mono ?_
      rintro e w5 ⟨⟨ox, oc, rfl, hox, _⟩, hx5⟩
      have ha : Ext w3 w5 := Ext.trans (Ext.alloc (show Ext w3 w3.drew from Below.drew (Ext.refl w3)) _) hx5
      have OX := Lib.hid hox
      clear hox
      have BT0 := Lib.hid (Bk.ext (b := w3.heap.size) (cs := #[.int .i64 0, .int .i64 0, .slice none 0 0]) (Bk.at (w := w3.drew) rfl) hx5)
      go_simp
      refine hK.out _ _ ⟨(B_3.out.ext ha).cell 0, (B_3.out.ext ha).cell 1, (B_3.out.ext ha).cell 2, (C_3.out.ext ha).cell 0, (C_3.out.ext ha).cell 1, (C_3.out.ext ha).cell 2, (C_3.out.ext ha).cell 3, (Q_3.out.ext ha).cell 0, (Q_3.out.ext ha).cell 1, (Q_3.out.ext ha).cell 2, (Q_3.out.ext ha).cell 3⟩ (fun hHeld => ?_)
      clear hK K
      try simp only [Act.put, List.setIfInBounds_toArray, List.set_cons_zero, List.set_cons_succ]
      refine wpAnyH_ready (rs := [4]) (by kernel_rfl) (by simp) ?_
      refine AllReadyH.cons rfl (fun K hK => ?_) AllReadyH.nil
      clear hHeld
      go_simp
      refine (fill_shape X Y RW RH r g b a _ _ _ _ _ E _ (HE.out.ext (X_3.out.trans ha)) HR.out).mono ?_
      rintro e w6 ⟨rfl, hx6⟩
      have hb6 : Ext w3 w6 := Ext.trans ha hx6
      have BT := Lib.hid (Bk.ext (b := w3.heap.size) (cs := #[.int .i64 0, .int .i64 0, .slice none 0 0]) BT0.out hx6)
      have t0 := BT.out.cell 0
      have t1 := BT.out.cell 1
      have t2 := BT.out.cell 2
      have f0 := BT.out.frozen 0
      have f1 := BT.out.frozen 1
      have f2 := BT.out.frozen 2
      go_simp
      refine hK.out _ _ ⟨(B_3.out.ext hb6).cell 0, (B_3.out.ext hb6).cell 1, (B_3.out.ext hb6).cell 2, (C_3.out.ext hb6).cell 0, (C_3.out.ext hb6).cell 1, (C_3.out.ext hb6).cell 2, (C_3.out.ext hb6).cell 3, (Q_3.out.ext hb6).cell 0, (Q_3.out.ext hb6).cell 1, (Q_3.out.ext hb6).cell 2, (Q_3.out.ext hb6).cell 3⟩ (fun hHeld => ?_)
      clear hK K
      try simp only [Act.put, List.setIfInBounds_toArray, List.set_cons_zero, List.set_cons_succ]
      refine wpAnyH_take (i := 5) (v := ?_) rfl (by kernel_rfl) (by kernel_rfl) (by kernel_rfl) (fun _ _ _ h => h) (Or.inl ⟨by kernel_rfl, ?_⟩) hHeld ?_
      rotate_left
      · intro w hSw
        (try dsimp only at hSw)
        go_split_ands
        go_simp
        (try with_reducible rfl)
      try simp only [Act.put, List.setIfInBounds_toArray, List.set_cons_zero, List.set_cons_succ]
      refine wpAnyH_take (i := 6) (v := ?_) rfl (by kernel_rfl) (by kernel_rfl) (by kernel_rfl) (fun _ _ _ h => h) (Or.inl ⟨by kernel_rfl, ?_⟩) hHeld ?_
      rotate_left
      · intro w hSw
        (try dsimp only at hSw)
        go_split_ands
        go_simp
        (try with_reducible rfl)
      try simp only [Act.put, List.setIfInBounds_toArray, List.set_cons_zero, List.set_cons_succ]
      refine wpAnyH_take (i := 7) (v := ?_) rfl (by kernel_rfl) (by kernel_rfl) (by kernel_rfl) (fun _ _ _ h => h) (Or.inl ⟨by kernel_rfl, ?_⟩) hHeld ?_
      rotate_left
      · intro w hSw
        (try dsimp only at hSw)
        go_split_ands
        go_simp
        (try with_reducible rfl)
      try simp only [Act.put, List.setIfInBounds_toArray, List.set_cons_zero, List.set_cons_succ]
      have SF := Lib.hid (set3_all (x' := .int .i64 0) (y' := .int .i64 0) (z' := .slice none 0 0) hb6 (Nat.le_refl _) BT.out)
      refine wpAnyH_ready (rs := [9]) (by kernel_rfl) (by simp) ?_
      refine AllReadyH.cons rfl (fun K hK => ?_) AllReadyH.nil
      clear hHeld
      go_simp
      refine hK.out _ _ ⟨(B_3.out.ext SF.out.1).cell 0, (B_3.out.ext SF.out.1).cell 1, (B_3.out.ext SF.out.1).cell 2, (C_3.out.ext SF.out.1).cell 0, (C_3.out.ext SF.out.1).cell 1, (C_3.out.ext SF.out.1).cell 2, (C_3.out.ext SF.out.1).cell 3, (Q_3.out.ext SF.out.1).cell 0, (Q_3.out.ext SF.out.1).cell 1, (Q_3.out.ext SF.out.1).cell 2, (Q_3.out.ext SF.out.1).cell 3⟩ (fun hHeld => ?_)
      clear hK K
      try simp only [Act.put, List.setIfInBounds_toArray, List.set_cons_zero, List.set_cons_succ]
      refine wpAnyH_ready (rs := [10]) (by kernel_rfl) (by simp) ?_
      refine AllReadyH.cons rfl (fun K hK => ?_) AllReadyH.nil
      clear hHeld
      go_simp
      refine hK.out _ _ ⟨(B_3.out.ext SF.out.1).cell 0, (B_3.out.ext SF.out.1).cell 1, (B_3.out.ext SF.out.1).cell 2, (C_3.out.ext SF.out.1).cell 0, (C_3.out.ext SF.out.1).cell 1, (C_3.out.ext SF.out.1).cell 2, (C_3.out.ext SF.out.1).cell 3, (Q_3.out.ext SF.out.1).cell 0, (Q_3.out.ext SF.out.1).cell 1, (Q_3.out.ext SF.out.1).cell 2, (Q_3.out.ext SF.out.1).cell 3⟩ (fun hHeld => ?_)
      clear hK K
      try simp only [Act.put, List.setIfInBounds_toArray, List.set_cons_zero, List.set_cons_succ]
      refine wpAnyH_done (by kernel_rfl) ?_ _
      clear hHeld
      (try go_wp2_with fail)
      go_meet
      exact ⟨w3.heap.size, rfl, rfl, Lib.hid (X_3.out.trans SF.out.1), Lib.hid (B_3.out.ext SF.out.1), Lib.hid (C_3.out.ext SF.out.1), Lib.hid (Q_3.out.ext SF.out.1), Lib.hid SF.out.2.1⟩
  case rest =>
    obtain ⟨T, rfl, rfl, X_4, B_4, C_4, Q_4, F_4⟩ := hcut
    clear X_3 B_3 C_3 Q_3
    go_upto_region 5 with fail
    go_cut [10, 11] (fun s10 s11 wx => ∃ U, s10 = .pointer (some ⟨U, 0, none⟩) ∧ s11 = .iface 171 (.pointer (some (E 2))) ∧ Hid (Ext w wx) ∧ Hid (Bk wx w.heap.size #[.int .i64 W, .int .i64 H, .slice x n cap]) ∧ Hid (Bk wx (w.heap.size + 1) #[.int .i64 X, .int .i64 Y, .int .i64 RW, .int .i64 RH]) ∧ Hid (Bk wx (w.heap.size + 1 + 1) #[.int .u8 r, .int .u8 g, .int .u8 b, .int .u8 a]) ∧ Hid (Bk wx T #[.int .i64 0, .int .i64 0, .slice none 0 0]) ∧ Hid (Bk wx U #[.int .i64 0, .int .i64 0, .slice none 0 0]))
    case first =>
      have k0 := B_4.out.cell 0
      have k1 := B_4.out.cell 1
      have k2 := B_4.out.cell 2
      have k3 := C_4.out.cell 0
      have k4 := C_4.out.cell 1
      have k5 := C_4.out.cell 2
      have k6 := C_4.out.cell 3
      refine wp_region_held_drew (S := fun w' => w'.cell? ⟨w.heap.size, 0, none⟩ = some (.int .i64 W) ∧ w'.cell? ⟨w.heap.size, 1, none⟩ = some (.int .i64 H) ∧ w'.cell? ⟨w.heap.size, 2, none⟩ = some (.slice x n cap) ∧ w'.cell? ⟨w.heap.size + 1, 0, none⟩ = some (.int .i64 X) ∧ w'.cell? ⟨w.heap.size + 1, 1, none⟩ = some (.int .i64 Y) ∧ w'.cell? ⟨w.heap.size + 1, 2, none⟩ = some (.int .i64 RW) ∧ w'.cell? ⟨w.heap.size + 1, 3, none⟩ = some (.int .i64 RH)) (by kernel_rfl) ⟨k0, k1, k2, k3, k4, k5, k6⟩ (fun hHeld => ?_)
      refine wpAnyH_take (i := 0) (v := ?_) rfl (by kernel_rfl) (by kernel_rfl) (by kernel_rfl) (fun _ _ _ h => h) (Or.inl ⟨by kernel_rfl, ?_⟩) hHeld ?_
      rotate_left
      · intro w hSw
        (try dsimp only at hSw)
        go_split_ands
        go_simp
        (try with_reducible rfl)
      try simp only [Act.put, List.setIfInBounds_toArray, List.set_cons_zero, List.set_cons_succ]
      refine wpAnyH_take (i := 2) (v := ?_) rfl (by kernel_rfl) (by kernel_rfl) (by kernel_rfl) (fun _ _ _ h => h) (Or.inl ⟨by kernel_rfl, ?_⟩) hHeld ?_
      rotate_left
      · intro w hSw
        (try dsimp only at hSw)
        go_split_ands
        go_simp
        (try with_reducible rfl)
      try simp only [Act.put, List.setIfInBounds_toArray, List.set_cons_zero, List.set_cons_succ]
      refine wpAnyH_ready (rs := [1, 7]) (by kernel_rfl) (by simp) ?_
      refine AllReadyH.cons rfl (fun K hK => ?_) (AllReadyH.cons rfl (fun K hK => ?_) AllReadyH.nil)
      · clear hHeld
        go_simp
        refine (own_x _ _ x n cap px _ (HX.out.ext (X_4.out.trans (show Ext wc wc.drew from Below.drew (Ext.refl wc)))) HX0.out (by omega)).mono ?_
        rintro e w5 ⟨⟨ox, oc, rfl, hox, _⟩, hx5⟩
        have ha : Ext wc w5 := Ext.trans (show Ext wc wc.drew from Below.drew (Ext.refl wc)) hx5
        have OX := Lib.hid hox
        clear hox
        go_simp
        refine hK.out _ _ ⟨(B_4.out.ext ha).cell 0, (B_4.out.ext ha).cell 1, (B_4.out.ext ha).cell 2, (C_4.out.ext ha).cell 0, (C_4.out.ext ha).cell 1, (C_4.out.ext ha).cell 2, (C_4.out.ext ha).cell 3⟩ (fun hHeld => ?_)
        clear hK K
        try simp only [Act.put, List.setIfInBounds_toArray, List.set_cons_zero, List.set_cons_succ]
        refine wpAnyH_ready (rs := [3, 7]) (by kernel_rfl) (by simp) ?_
        refine AllReadyH.cons rfl (fun K hK => ?_) (AllReadyH.cons rfl (fun K hK => ?_) AllReadyH.nil)
        · clear hHeld
          go_simp
          refine (crop_shape X Y RW RH _ _ _ _ _ E _ hb (HE.out.ext (X_4.out.trans ha)) HR.out).mono ?_
          rintro e w6 ⟨rfl, hx6⟩
          have hb6 : Ext wc w6 := Ext.trans ha hx6
          go_simp
          refine hK.out _ _ ⟨(B_4.out.ext hb6).cell 0, (B_4.out.ext hb6).cell 1, (B_4.out.ext hb6).cell 2, (C_4.out.ext hb6).cell 0, (C_4.out.ext hb6).cell 1, (C_4.out.ext hb6).cell 2, (C_4.out.ext hb6).cell 3⟩ (fun hHeld => ?_)
          clear hK K
          try simp only [Act.put, List.setIfInBounds_toArray, List.set_cons_zero, List.set_cons_succ]
          refine wpAnyH_take (i := 4) (v := ?_) rfl (by kernel_rfl) (by kernel_rfl) (by kernel_rfl) (fun _ _ _ h => h) (Or.inl ⟨by kernel_rfl, ?_⟩) hHeld ?_
          rotate_left
          · intro w hSw
            (try dsimp only at hSw)
            go_split_ands
            go_simp
            (try with_reducible rfl)
          try simp only [Act.put, List.setIfInBounds_toArray, List.set_cons_zero, List.set_cons_succ]
          refine wpAnyH_take (i := 5) (v := ?_) rfl (by kernel_rfl) (by kernel_rfl) (by kernel_rfl) (fun _ _ _ h => h) (Or.inl ⟨by kernel_rfl, ?_⟩) hHeld ?_
          rotate_left
          · intro w hSw
            (try dsimp only at hSw)
            go_split_ands
            go_simp
            (try with_reducible rfl)
          try simp only [Act.put, List.setIfInBounds_toArray, List.set_cons_zero, List.set_cons_succ]
          refine wpAnyH_take (i := 6) (v := ?_) rfl (by kernel_rfl) (by kernel_rfl) (by kernel_rfl) (fun _ _ _ h => h) (Or.inl ⟨by kernel_rfl, ?_⟩) hHeld ?_
          rotate_left
          · intro w hSw
            (try dsimp only at hSw)
            go_split_ands
            go_simp
            (try with_reducible rfl)
          try simp only [Act.put, List.setIfInBounds_toArray, List.set_cons_zero, List.set_cons_succ]
          refine wpAnyH_ready (rs := [7]) (by kernel_rfl) (by simp) ?_
          refine AllReadyH.cons rfl (fun K hK => ?_) AllReadyH.nil
          clear hHeld
          go_simp
          refine hK.out _ _ ⟨(B_4.out.ext (Ext.alloc hb6 _)).cell 0, (B_4.out.ext (Ext.alloc hb6 _)).cell 1, (B_4.out.ext (Ext.alloc hb6 _)).cell 2, (C_4.out.ext (Ext.alloc hb6 _)).cell 0, (C_4.out.ext (Ext.alloc hb6 _)).cell 1, (C_4.out.ext (Ext.alloc hb6 _)).cell 2, (C_4.out.ext (Ext.alloc hb6 _)).cell 3⟩ (fun hHeld => ?_)
          clear hK K
          try simp only [Act.put, List.setIfInBounds_toArray, List.set_cons_zero, List.set_cons_succ]
          refine wpAnyH_ready (rs := [8]) (by kernel_rfl) (by simp) ?_
          refine AllReadyH.cons rfl (fun K hK => ?_) AllReadyH.nil
          clear hHeld
          go_simp
          refine hK.out _ _ ⟨(B_4.out.ext (Ext.alloc hb6 _)).cell 0, (B_4.out.ext (Ext.alloc hb6 _)).cell 1, (B_4.out.ext (Ext.alloc hb6 _)).cell 2, (C_4.out.ext (Ext.alloc hb6 _)).cell 0, (C_4.out.ext (Ext.alloc hb6 _)).cell 1, (C_4.out.ext (Ext.alloc hb6 _)).cell 2, (C_4.out.ext (Ext.alloc hb6 _)).cell 3⟩ (fun hHeld => ?_)
          clear hK K
          try simp only [Act.put, List.setIfInBounds_toArray, List.set_cons_zero, List.set_cons_succ]
          refine wpAnyH_ready (rs := [9]) (by kernel_rfl) (by simp) ?_
          refine AllReadyH.cons rfl (fun K hK => ?_) AllReadyH.nil
          clear hHeld
          go_simp
          refine hK.out _ _ ⟨(B_4.out.ext (Ext.alloc hb6 _)).cell 0, (B_4.out.ext (Ext.alloc hb6 _)).cell 1, (B_4.out.ext (Ext.alloc hb6 _)).cell 2, (C_4.out.ext (Ext.alloc hb6 _)).cell 0, (C_4.out.ext (Ext.alloc hb6 _)).cell 1, (C_4.out.ext (Ext.alloc hb6 _)).cell 2, (C_4.out.ext (Ext.alloc hb6 _)).cell 3⟩ (fun hHeld => ?_)
          clear hK K
          try simp only [Act.put, List.setIfInBounds_toArray, List.set_cons_zero, List.set_cons_succ]
          refine wpAnyH_done (by kernel_rfl) ?_ _
          clear hHeld
          (try go_wp2_with fail)
          go_meet
          exact ⟨w6.heap.size, rfl, rfl, Lib.hid (X_4.out.trans (Ext.alloc hb6 _)), Lib.hid (B_4.out.ext (Ext.alloc hb6 _)), Lib.hid (C_4.out.ext (Ext.alloc hb6 _)), Lib.hid (Q_4.out.ext (Ext.alloc hb6 _)), Lib.hid (F_4.out.ext (Ext.alloc hb6 _)), Lib.hid (Bk.at rfl)⟩
        · clear hHeld
          go_simp
          refine hK.out _ _ ⟨(B_4.out.ext (Ext.alloc ha _)).cell 0, (B_4.out.ext (Ext.alloc ha _)).cell 1, (B_4.out.ext (Ext.alloc ha _)).cell 2, (C_4.out.ext (Ext.alloc ha _)).cell 0, (C_4.out.ext (Ext.alloc ha _)).cell 1, (C_4.out.ext (Ext.alloc ha _)).cell 2, (C_4.out.ext (Ext.alloc ha _)).cell 3⟩ (fun hHeld => ?_)
          clear hK K
          try simp only [Act.put, List.setIfInBounds_toArray, List.set_cons_zero, List.set_cons_succ]
          refine wpAnyH_ready (rs := [3]) (by kernel_rfl) (by simp) ?_
          refine AllReadyH.cons rfl (fun K hK => ?_) AllReadyH.nil
          clear hHeld
          go_simp
          refine (crop_shape X Y RW RH _ _ _ _ _ E _ hb (HE.out.ext (X_4.out.trans (Ext.alloc ha _))) HR.out).mono ?_
          rintro e w6 ⟨rfl, hx6⟩
          have hb6 : Ext wc w6 := Ext.trans (Ext.alloc ha _) hx6
          have BT := Lib.hid (Bk.ext (b := w5.heap.size) (cs := #[.int .i64 0, .int .i64 0, .slice none 0 0]) (Bk.at rfl) hx6)
          have t0 := BT.out.cell 0
          have t1 := BT.out.cell 1
          have t2 := BT.out.cell 2
          have f0 := BT.out.frozen 0
          have f1 := BT.out.frozen 1
          have f2 := BT.out.frozen 2
          go_simp
          refine hK.out _ _ ⟨(B_4.out.ext hb6).cell 0, (B_4.out.ext hb6).cell 1, (B_4.out.ext hb6).cell 2, (C_4.out.ext hb6).cell 0, (C_4.out.ext hb6).cell 1, (C_4.out.ext hb6).cell 2, (C_4.out.ext hb6).cell 3⟩ (fun hHeld => ?_)
          clear hK K
          try simp only [Act.put, List.setIfInBounds_toArray, List.set_cons_zero, List.set_cons_succ]
          refine wpAnyH_take (i := 4) (v := ?_) rfl (by kernel_rfl) (by kernel_rfl) (by kernel_rfl) (fun _ _ _ h => h) (Or.inl ⟨by kernel_rfl, ?_⟩) hHeld ?_
          rotate_left
          · intro w hSw
            (try dsimp only at hSw)
            go_split_ands
            go_simp
            (try with_reducible rfl)
          try simp only [Act.put, List.setIfInBounds_toArray, List.set_cons_zero, List.set_cons_succ]
          refine wpAnyH_take (i := 5) (v := ?_) rfl (by kernel_rfl) (by kernel_rfl) (by kernel_rfl) (fun _ _ _ h => h) (Or.inl ⟨by kernel_rfl, ?_⟩) hHeld ?_
          rotate_left
          · intro w hSw
            (try dsimp only at hSw)
            go_split_ands
            go_simp
            (try with_reducible rfl)
          try simp only [Act.put, List.setIfInBounds_toArray, List.set_cons_zero, List.set_cons_succ]
          refine wpAnyH_take (i := 6) (v := ?_) rfl (by kernel_rfl) (by kernel_rfl) (by kernel_rfl) (fun _ _ _ h => h) (Or.inl ⟨by kernel_rfl, ?_⟩) hHeld ?_
          rotate_left
          · intro w hSw
            (try dsimp only at hSw)
            go_split_ands
            go_simp
            (try with_reducible rfl)
          try simp only [Act.put, List.setIfInBounds_toArray, List.set_cons_zero, List.set_cons_succ]
          have SF := Lib.hid (set3_all (x' := .int .i64 0) (y' := .int .i64 0) (z' := .slice none 0 0) hb6 ha.size BT.out)
          refine wpAnyH_ready (rs := [8]) (by kernel_rfl) (by simp) ?_
          refine AllReadyH.cons rfl (fun K hK => ?_) AllReadyH.nil
          clear hHeld
          go_simp
          refine hK.out _ _ ⟨(B_4.out.ext SF.out.1).cell 0, (B_4.out.ext SF.out.1).cell 1, (B_4.out.ext SF.out.1).cell 2, (C_4.out.ext SF.out.1).cell 0, (C_4.out.ext SF.out.1).cell 1, (C_4.out.ext SF.out.1).cell 2, (C_4.out.ext SF.out.1).cell 3⟩ (fun hHeld => ?_)
          clear hK K
          try simp only [Act.put, List.setIfInBounds_toArray, List.set_cons_zero, List.set_cons_succ]
          refine wpAnyH_ready (rs := [9]) (by kernel_rfl) (by simp) ?_
          refine AllReadyH.cons rfl (fun K hK => ?_) AllReadyH.nil
          clear hHeld
          go_simp
          refine hK.out _ _ ⟨(B_4.out.ext SF.out.1).cell 0, (B_4.out.ext SF.out.1).cell 1, (B_4.out.ext SF.out.1).cell 2, (C_4.out.ext SF.out.1).cell 0, (C_4.out.ext SF.out.1).cell 1, (C_4.out.ext SF.out.1).cell 2, (C_4.out.ext SF.out.1).cell 3⟩ (fun hHeld => ?_)
          clear hK K
          try simp only [Act.put, List.setIfInBounds_toArray, List.set_cons_zero, List.set_cons_succ]
          refine wpAnyH_done (by kernel_rfl) ?_ _
          clear hHeld
          (try go_wp2_with fail)
          go_meet
          exact ⟨w5.heap.size, rfl, rfl, Lib.hid (X_4.out.trans SF.out.1), Lib.hid (B_4.out.ext SF.out.1), Lib.hid (C_4.out.ext SF.out.1), Lib.hid (Q_4.out.ext SF.out.1), Lib.hid (F_4.out.ext SF.out.1), Lib.hid SF.out.2.1⟩
      · clear hHeld
        go_simp
        refine hK.out _ _ ⟨(B_4.out.ext (Ext.alloc (show Ext wc wc.drew from Below.drew (Ext.refl wc)) _)).cell 0, (B_4.out.ext (Ext.alloc (show Ext wc wc.drew from Below.drew (Ext.refl wc)) _)).cell 1, (B_4.out.ext (Ext.alloc (show Ext wc wc.drew from Below.drew (Ext.refl wc)) _)).cell 2, (C_4.out.ext (Ext.alloc (show Ext wc wc.drew from Below.drew (Ext.refl wc)) _)).cell 0, (C_4.out.ext (Ext.alloc (show Ext wc wc.drew from Below.drew (Ext.refl wc)) _)).cell 1, (C_4.out.ext (Ext.alloc (show Ext wc wc.drew from Below.drew (Ext.refl wc)) _)).cell 2, (C_4.out.ext (Ext.alloc (show Ext wc wc.drew from Below.drew (Ext.refl wc)) _)).cell 3⟩ (fun hHeld => ?_)
        clear hK K
        try simp only [Act.put, List.setIfInBounds_toArray, List.set_cons_zero, List.set_cons_succ]
        refine wpAnyH_ready (rs := [1]) (by kernel_rfl) (by simp) ?_
        refine AllReadyH.cons rfl (fun K hK => ?_) AllReadyH.nil
        clear hHeld
        go_simp
        refine (own_x _ _ x n cap px _ (HX.out.ext (X_4.out.trans (Ext.alloc (show Ext wc wc.drew from Below.drew (Ext.refl wc)) _))) HX0.out (by omega)).mono ?_
        rintro e w5 ⟨⟨ox, oc, rfl, hox, _⟩, hx5⟩
        have ha : Ext wc w5 := Ext.trans (Ext.alloc (show Ext wc wc.drew from Below.drew (Ext.refl wc)) _) hx5
        have OX := Lib.hid hox
        clear hox
        have BT0 := Lib.hid (Bk.ext (b := wc.heap.size) (cs := #[.int .i64 0, .int .i64 0, .slice none 0 0]) (Bk.at (w := wc.drew) rfl) hx5)
        go_simp
        refine hK.out _ _ ⟨(B_4.out.ext ha).cell 0, (B_4.out.ext ha).cell 1, (B_4.out.ext ha).cell 2, (C_4.out.ext ha).cell 0, (C_4.out.ext ha).cell 1, (C_4.out.ext ha).cell 2, (C_4.out.ext ha).cell 3⟩ (fun hHeld => ?_)
        clear hK K
        try simp only [Act.put, List.setIfInBounds_toArray, List.set_cons_zero, List.set_cons_succ]
        refine wpAnyH_ready (rs := [3]) (by kernel_rfl) (by simp) ?_
        refine AllReadyH.cons rfl (fun K hK => ?_) AllReadyH.nil
        clear hHeld
        go_simp
        refine (crop_shape X Y RW RH _ _ _ _ _ E _ hb (HE.out.ext (X_4.out.trans ha)) HR.out).mono ?_
        rintro e w6 ⟨rfl, hx6⟩
        have hb6 : Ext wc w6 := Ext.trans ha hx6
        have BT := Lib.hid (Bk.ext (b := wc.heap.size) (cs := #[.int .i64 0, .int .i64 0, .slice none 0 0]) BT0.out hx6)
        have t0 := BT.out.cell 0
        have t1 := BT.out.cell 1
        have t2 := BT.out.cell 2
        have f0 := BT.out.frozen 0
        have f1 := BT.out.frozen 1
        have f2 := BT.out.frozen 2
        go_simp
        refine hK.out _ _ ⟨(B_4.out.ext hb6).cell 0, (B_4.out.ext hb6).cell 1, (B_4.out.ext hb6).cell 2, (C_4.out.ext hb6).cell 0, (C_4.out.ext hb6).cell 1, (C_4.out.ext hb6).cell 2, (C_4.out.ext hb6).cell 3⟩ (fun hHeld => ?_)
        clear hK K
        try simp only [Act.put, List.setIfInBounds_toArray, List.set_cons_zero, List.set_cons_succ]
        refine wpAnyH_take (i := 4) (v := ?_) rfl (by kernel_rfl) (by kernel_rfl) (by kernel_rfl) (fun _ _ _ h => h) (Or.inl ⟨by kernel_rfl, ?_⟩) hHeld ?_
        rotate_left
        · intro w hSw
          (try dsimp only at hSw)
          go_split_ands
          go_simp
          (try with_reducible rfl)
        try simp only [Act.put, List.setIfInBounds_toArray, List.set_cons_zero, List.set_cons_succ]
        refine wpAnyH_take (i := 5) (v := ?_) rfl (by kernel_rfl) (by kernel_rfl) (by kernel_rfl) (fun _ _ _ h => h) (Or.inl ⟨by kernel_rfl, ?_⟩) hHeld ?_
        rotate_left
        · intro w hSw
          (try dsimp only at hSw)
          go_split_ands
          go_simp
          (try with_reducible rfl)
        try simp only [Act.put, List.setIfInBounds_toArray, List.set_cons_zero, List.set_cons_succ]
        refine wpAnyH_take (i := 6) (v := ?_) rfl (by kernel_rfl) (by kernel_rfl) (by kernel_rfl) (fun _ _ _ h => h) (Or.inl ⟨by kernel_rfl, ?_⟩) hHeld ?_
        rotate_left
        · intro w hSw
          (try dsimp only at hSw)
          go_split_ands
          go_simp
          (try with_reducible rfl)
        try simp only [Act.put, List.setIfInBounds_toArray, List.set_cons_zero, List.set_cons_succ]
        have SF := Lib.hid (set3_all (x' := .int .i64 0) (y' := .int .i64 0) (z' := .slice none 0 0) hb6 (Nat.le_refl _) BT.out)
        refine wpAnyH_ready (rs := [8]) (by kernel_rfl) (by simp) ?_
        refine AllReadyH.cons rfl (fun K hK => ?_) AllReadyH.nil
        clear hHeld
        go_simp
        refine hK.out _ _ ⟨(B_4.out.ext SF.out.1).cell 0, (B_4.out.ext SF.out.1).cell 1, (B_4.out.ext SF.out.1).cell 2, (C_4.out.ext SF.out.1).cell 0, (C_4.out.ext SF.out.1).cell 1, (C_4.out.ext SF.out.1).cell 2, (C_4.out.ext SF.out.1).cell 3⟩ (fun hHeld => ?_)
        clear hK K
        try simp only [Act.put, List.setIfInBounds_toArray, List.set_cons_zero, List.set_cons_succ]
        refine wpAnyH_ready (rs := [9]) (by kernel_rfl) (by simp) ?_
        refine AllReadyH.cons rfl (fun K hK => ?_) AllReadyH.nil
        clear hHeld
        go_simp
        refine hK.out _ _ ⟨(B_4.out.ext SF.out.1).cell 0, (B_4.out.ext SF.out.1).cell 1, (B_4.out.ext SF.out.1).cell 2, (C_4.out.ext SF.out.1).cell 0, (C_4.out.ext SF.out.1).cell 1, (C_4.out.ext SF.out.1).cell 2, (C_4.out.ext SF.out.1).cell 3⟩ (fun hHeld => ?_)
        clear hK K
        try simp only [Act.put, List.setIfInBounds_toArray, List.set_cons_zero, List.set_cons_succ]
        refine wpAnyH_done (by kernel_rfl) ?_ _
        clear hHeld
        (try go_wp2_with fail)
        go_meet
        exact ⟨wc.heap.size, rfl, rfl, Lib.hid (X_4.out.trans SF.out.1), Lib.hid (B_4.out.ext SF.out.1), Lib.hid (C_4.out.ext SF.out.1), Lib.hid (Q_4.out.ext SF.out.1), Lib.hid (F_4.out.ext SF.out.1), Lib.hid SF.out.2.1⟩
    case rest =>
      obtain ⟨U, rfl, rfl, X_5, B_5, C_5, Q_5, F_5, G_5⟩ := hcut
      clear X_4 B_4 C_4 Q_4 F_4
      have k0 := B_5.out.cell 0
      have k1 := B_5.out.cell 1
      have k2 := B_5.out.cell 2
      go_wp2_with fail
      refine (refRight_any _ _ _ _ _ _).mono ?_
      rintro e w25 ⟨rfl, h⟩
      have X_6 := Lib.hid (X_5.out.trans h)
      have B_6 := Lib.hid (B_5.out.ext h)
      have C_6 := Lib.hid (C_5.out.ext h)
      have Q_6 := Lib.hid (Q_5.out.ext h)
      have F_6 := Lib.hid (F_5.out.ext h)
      have G_6 := Lib.hid (G_5.out.ext h)
      clear h
      clear X_5 B_5 C_5 Q_5 F_5 G_5
      clear k0 k1 k2
      rw [HR.out]
      have k0 := F_6.out.cell 0
      have k1 := F_6.out.cell 1
      have k2 := F_6.out.cell 2
      have k3 := B_6.out.cell 0
      have k4 := B_6.out.cell 1
      have k5 := B_6.out.cell 2
      go_wp2_with fail
      refine (told_err _ 2 _ _ _ _ _ _ E (HE.out.ext X_6.out) (.sent 2 (by decide))).mono ?_
      rintro e w26 ⟨rfl, h⟩
      have X_7 := Lib.hid (X_6.out.trans h)
      have B_7 := Lib.hid (B_6.out.ext h)
      have C_7 := Lib.hid (C_6.out.ext h)
      have Q_7 := Lib.hid (Q_6.out.ext h)
      have F_7 := Lib.hid (F_6.out.ext h)
      have G_7 := Lib.hid (G_6.out.ext h)
      clear h
      clear X_6 B_6 C_6 Q_6 F_6 G_6
      clear k0 k1 k2 k3 k4 k5
      have k0 := G_7.out.cell 0
      have k1 := G_7.out.cell 1
      have k2 := G_7.out.cell 2
      have k3 := B_7.out.cell 0
      have k4 := B_7.out.cell 1
      have k5 := B_7.out.cell 2
      go_wp2_with fail
      refine (told_err _ 2 _ _ _ _ _ _ E (HE.out.ext X_7.out) (.sent 2 (by decide))).mono ?_
      rintro e w27 ⟨rfl, h⟩
      have X_8 := Lib.hid (X_7.out.trans h)
      have B_8 := Lib.hid (B_7.out.ext h)
      have C_8 := Lib.hid (C_7.out.ext h)
      have Q_8 := Lib.hid (Q_7.out.ext h)
      have F_8 := Lib.hid (F_7.out.ext h)
      have G_8 := Lib.hid (G_7.out.ext h)
      clear h
      clear X_7 B_7 C_7 Q_7 F_7 G_7
      clear k0 k1 k2 k3 k4 k5
      go_wp2_with fail
      go_ret
      exact ⟨rfl, X_8.out⟩
end Go.Proofs.YtkfjcgcgfdibaaaDoor
