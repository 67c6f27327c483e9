/- RasterParts' walk: bound, bound. -/
import Derived.Test.YtkfjcgcgfdibaaaDoorPartsLaw
import Derived.Deep.RegionHeld3
import Derived.Deep.DeepCutAuto
namespace Go.Proofs.YtkfjcgcgfdibaaaDoor
open Go.RowKit
set_option maxRecDepth 100000
set_option linter.unusedSimpArgs false in
set_option maxHeartbeats 4000000 in
theorem parts_bound_bound (X Y RW RH : Int) (r g b a : Int) (W H : Nat) (ad : Addr) (cap : Nat) (px : Nat → P4) (w : World) (E : Nat → Addr) (hE : Errs w E) (hx : Pxs w (some ad) (W * H) px) (hp : (P4.mk r g b a).Ok) (hn : W * H ≤ 3000) (hr : rightB (W : Int) (H : Int) (W * H) = true) (hf : fillB X Y RW RH = false) (hc : cropB X Y RW RH (W : Int) (H : Int) = false) :
    Calls Tryd.prog 5 #[.agg #[.int .i64 (W : Int), .int .i64 (H : Int), .slice (some ad) (W * H) cap], .agg #[.int .i64 X, .int .i64 Y, .int .i64 RW, .int .i64 RH], .agg #[.int .u8 r, .int .u8 g, .int .u8 b, .int .u8 a]] w fun e w' => e = .returned (.bool true) ∧ Ext w w' := by
  have HE := Lib.hid hE
  have HX := Lib.hid hx
  have HD := Lib.hid (decide_eq_true hn)
  have HR := Lib.hid hr
  have HP := Lib.hid hp
  have HF := Lib.hid hf
  obtain ⟨W', H', q1, q2, hW1, hW2, hH1, hH2, _⟩ := rightB_yes hr
  obtain rfl : W' = W := by omega
  obtain rfl : H' = H := by omega
  have HPO : Hid (0 < W' * H') := Lib.hid (Nat.mul_pos hW1 hH1)
  have hb : Hid ((W' : Int) ≤ 9223372036854775807 ∧ (H' : Int) ≤ 9223372036854775807) := Lib.hid (by omega)
  have HC := Lib.hid hc
  clear hc
  clear q1 q2 hE hx hp hr hf
  go_enter Tryd.func5, Tryd.ntmps5
  go_wp2_with fail
  refine calls_world (fun wz => Ext w wz ∧ wz.heap.size = w.heap.size + 1 + 1 + 1 ∧ Bk wz (w.heap.size) #[.int .i64 (W' : Int), .int .i64 (H' : Int), .slice (some ad) (W' * H') cap] ∧ Bk wz (w.heap.size + 1) #[.int .i64 X, .int .i64 Y, .int .i64 RW, .int .i64 RH] ∧ Bk wz (w.heap.size + 1 + 1) #[.int .u8 r, .int .u8 g, .int .u8 b, .int .u8 a]) ⟨by repeat (first | exact Ext.refl _ | refine Ext.alloc ?_ _), by simp, by repeat (first | exact Bk.at (by simp) | refine Bk.old ?_), by repeat (first | exact Bk.at (by simp) | refine Bk.old ?_), by repeat (first | exact Bk.at (by simp) | refine Bk.old ?_)⟩ ?_
  rintro w1 ⟨hX, hZ, hB0, hB1, hB2⟩
  have X_1 := Lib.hid hX
  have B_1 := Lib.hid hB0
  have C_1 := Lib.hid hB1
  have Q_1 := Lib.hid hB2
  clear hX hZ hB0 hB1 hB2
  refine (plainly_any _).mono ?_
  rintro e w2 ⟨rfl, h⟩
  have X_2 := Lib.hid (X_1.out.trans h)
  have B_2 := Lib.hid (B_1.out.ext h)
  have C_2 := Lib.hid (C_1.out.ext h)
  have Q_2 := Lib.hid (Q_1.out.ext h)
  clear h
  clear X_1 B_1 C_1 Q_1
  have k0 := B_2.out.cell 0
  have k1 := B_2.out.cell 1
  have k2 := B_2.out.cell 2
  go_wp2_with fail
  refine (small_any _ _ _ _ _ _ (by unfold maxLen; omega)).mono ?_
  rintro e w3 ⟨rfl, h⟩
  have X_3 := Lib.hid (X_2.out.trans h)
  have B_3 := Lib.hid (B_2.out.ext h)
  have C_3 := Lib.hid (C_2.out.ext h)
  have Q_3 := Lib.hid (Q_2.out.ext h)
  clear h
  clear X_2 B_2 C_2 Q_2 k0 k1 k2
  rw [HD.out]
  go_upto_region 4 with fail
  go_cut [8, 9] (fun s8 s9 wx => ∃ T, s8 = .pointer (some ⟨T, 0, none⟩) ∧ s9 = .iface 171 (.pointer (some (E 1))) ∧ Hid (Ext w wx) ∧ Hid (Bk wx w.heap.size #[.int .i64 (W' : Int), .int .i64 (H' : Int), .slice (some ad) (W' * H') cap]) ∧ Hid (Bk wx (w.heap.size + 1) #[.int .i64 X, .int .i64 Y, .int .i64 RW, .int .i64 RH]) ∧ Hid (Bk wx (w.heap.size + 1 + 1) #[.int .u8 r, .int .u8 g, .int .u8 b, .int .u8 a]) ∧ Hid (Bk wx T #[.int .i64 0, .int .i64 0, .slice none 0 0]))
  case first =>
    have k0 := B_3.out.cell 0
    have k1 := B_3.out.cell 1
    have k2 := B_3.out.cell 2
    have k3 := C_3.out.cell 0
    have k4 := C_3.out.cell 1
    have k5 := C_3.out.cell 2
    have k6 := C_3.out.cell 3
    have k7 := Q_3.out.cell 0
    have k8 := Q_3.out.cell 1
    have k9 := Q_3.out.cell 2
    have k10 := Q_3.out.cell 3
    refine wp_region_held_drew (S := fun w' => w'.cell? ⟨w.heap.size, 0, none⟩ = some (.int .i64 (W' : Int)) ∧ w'.cell? ⟨w.heap.size, 1, none⟩ = some (.int .i64 (H' : Int)) ∧ w'.cell? ⟨w.heap.size, 2, none⟩ = some (.slice (some ad) (W' * H') cap) ∧ w'.cell? ⟨w.heap.size + 1, 0, none⟩ = some (.int .i64 X) ∧ w'.cell? ⟨w.heap.size + 1, 1, none⟩ = some (.int .i64 Y) ∧ w'.cell? ⟨w.heap.size + 1, 2, none⟩ = some (.int .i64 RW) ∧ w'.cell? ⟨w.heap.size + 1, 3, none⟩ = some (.int .i64 RH) ∧ w'.cell? ⟨w.heap.size + 1 + 1, 0, none⟩ = some (.int .u8 r) ∧ w'.cell? ⟨w.heap.size + 1 + 1, 1, none⟩ = some (.int .u8 g) ∧ w'.cell? ⟨w.heap.size + 1 + 1, 2, none⟩ = some (.int .u8 b) ∧ w'.cell? ⟨w.heap.size + 1 + 1, 3, none⟩ = some (.int .u8 a)) (by kernel_rfl) ⟨k0, k1, k2, k3, k4, k5, k6, k7, k8, k9, k10⟩ (fun hHeld => ?_)
    refine wpAnyH_take (i := 0) (v := ?_) rfl (by kernel_rfl) (by kernel_rfl) (by kernel_rfl) (fun _ _ _ h => h) (Or.inl ⟨by kernel_rfl, ?_⟩) hHeld ?_
    rotate_left
    · intro w hSw
      (try dsimp only at hSw)
      go_split_ands
      go_simp
      (try with_reducible rfl)
    try simp only [Act.put, List.setIfInBounds_toArray, List.set_cons_zero, List.set_cons_succ]
    refine wpAnyH_take (i := 2) (v := ?_) rfl (by kernel_rfl) (by kernel_rfl) (by kernel_rfl) (fun _ _ _ h => h) (Or.inl ⟨by kernel_rfl, ?_⟩) hHeld ?_
    rotate_left
    · intro w hSw
      (try dsimp only at hSw)
      go_split_ands
      go_simp
      (try with_reducible rfl)
    try simp only [Act.put, List.setIfInBounds_toArray, List.set_cons_zero, List.set_cons_succ]
    refine wpAnyH_take (i := 3) (v := ?_) rfl (by kernel_rfl) (by kernel_rfl) (by kernel_rfl) (fun _ _ _ h => h) (Or.inl ⟨by kernel_rfl, ?_⟩) hHeld ?_
    rotate_left
    · intro w hSw
      (try dsimp only at hSw)
      go_split_ands
      go_simp
      (try with_reducible rfl)
    try simp only [Act.put, List.setIfInBounds_toArray, List.set_cons_zero, List.set_cons_succ]
    refine wpAnyH_ready (rs := [1, 8]) (by kernel_rfl) (by simp) ?_
    refine AllReadyH.cons rfl (fun K hK => ?_) (AllReadyH.cons rfl (fun K hK => ?_) AllReadyH.nil)
    · clear hHeld
      go_simp
      refine (own_x _ _ (some ad) (W' * H') cap px _ (HX.out.ext (X_3.out.trans (show Ext w3 w3.drew from Below.drew (Ext.refl w3)))) (fun h => by cases h) (by omega)).mono ?_
      rintro e w5 ⟨⟨ox, oc, rfl, hox, _⟩, hx5⟩
      obtain ⟨oa, rfl⟩ := hox.isSome HPO.out
      have ha : Ext w3 w5 := Ext.trans (show Ext w3 w3.drew from Below.drew (Ext.refl w3)) hx5
      have OX := Lib.hid hox
      clear hox
      go_simp
      refine hK.out _ _ ⟨(B_3.out.ext ha).cell 0, (B_3.out.ext ha).cell 1, (B_3.out.ext ha).cell 2, (C_3.out.ext ha).cell 0, (C_3.out.ext ha).cell 1, (C_3.out.ext ha).cell 2, (C_3.out.ext ha).cell 3, (Q_3.out.ext ha).cell 0, (Q_3.out.ext ha).cell 1, (Q_3.out.ext ha).cell 2, (Q_3.out.ext ha).cell 3⟩ (fun hHeld => ?_)
      clear hK K
      try simp only [Act.put, List.setIfInBounds_toArray, List.set_cons_zero, List.set_cons_succ]
      refine wpAnyH_ready (rs := [4, 8]) (by kernel_rfl) (by simp) ?_
      refine AllReadyH.cons rfl (fun K hK => ?_) (AllReadyH.cons rfl (fun K hK => ?_) AllReadyH.nil)
      · clear hHeld
        go_simp
        refine (fill_bound X Y RW RH r g b a _ _ _ _ _ E _ (HE.out.ext (X_3.out.trans ha)) HR.out HF.out).mono ?_
        rintro e w6 ⟨rfl, hx6⟩
        have hb6 : Ext w3 w6 := Ext.trans ha hx6
        go_simp
        refine hK.out _ _ ⟨(B_3.out.ext hb6).cell 0, (B_3.out.ext hb6).cell 1, (B_3.out.ext hb6).cell 2, (C_3.out.ext hb6).cell 0, (C_3.out.ext hb6).cell 1, (C_3.out.ext hb6).cell 2, (C_3.out.ext hb6).cell 3, (Q_3.out.ext hb6).cell 0, (Q_3.out.ext hb6).cell 1, (Q_3.out.ext hb6).cell 2, (Q_3.out.ext hb6).cell 3⟩ (fun hHeld => ?_)
        clear hK K
        try simp only [Act.put, List.setIfInBounds_toArray, List.set_cons_zero, List.set_cons_succ]
        refine wpAnyH_take (i := 5) (v := ?_) rfl (by kernel_rfl) (by kernel_rfl) (by kernel_rfl) (fun _ _ _ h => h) (Or.inl ⟨by kernel_rfl, ?_⟩) hHeld ?_
        rotate_left
        · intro w hSw
          (try dsimp only at hSw)
          go_split_ands
          go_simp
          (try with_reducible rfl)
        try simp only [Act.put, List.setIfInBounds_toArray, List.set_cons_zero, List.set_cons_succ]
        refine wpAnyH_take (i := 6) (v := ?_) rfl (by kernel_rfl) (by kernel_rfl) (by kernel_rfl) (fun _ _ _ h => h) (Or.inl ⟨by kernel_rfl, ?_⟩) hHeld ?_
        rotate_left
        · intro w hSw
          (try dsimp only at hSw)
          go_split_ands
          go_simp
          (try with_reducible rfl)
        try simp only [Act.put, List.setIfInBounds_toArray, List.set_cons_zero, List.set_cons_succ]
        refine wpAnyH_take (i := 7) (v := ?_) rfl (by kernel_rfl) (by kernel_rfl) (by kernel_rfl) (fun _ _ _ h => h) (Or.inl ⟨by kernel_rfl, ?_⟩) hHeld ?_
        rotate_left
        · intro w hSw
          (try dsimp only at hSw)
          go_split_ands
          go_simp
          (try with_reducible rfl)
        try simp only [Act.put, List.setIfInBounds_toArray, List.set_cons_zero, List.set_cons_succ]
        refine wpAnyH_ready (rs := [8]) (by kernel_rfl) (by simp) ?_
        refine AllReadyH.cons rfl (fun K hK => ?_) AllReadyH.nil
        clear hHeld
        go_simp
        refine hK.out _ _ ⟨(B_3.out.ext (Ext.alloc hb6 _)).cell 0, (B_3.out.ext (Ext.alloc hb6 _)).cell 1, (B_3.out.ext (Ext.alloc hb6 _)).cell 2, (C_3.out.ext (Ext.alloc hb6 _)).cell 0, (C_3.out.ext (Ext.alloc hb6 _)).cell 1, (C_3.out.ext (Ext.alloc hb6 _)).cell 2, (C_3.out.ext (Ext.alloc hb6 _)).cell 3, (Q_3.out.ext (Ext.alloc hb6 _)).cell 0, (Q_3.out.ext (Ext.alloc hb6 _)).cell 1, (Q_3.out.ext (Ext.alloc hb6 _)).cell 2, (Q_3.out.ext (Ext.alloc hb6 _)).cell 3⟩ (fun hHeld => ?_)
        clear hK K
        try simp only [Act.put, List.setIfInBounds_toArray, List.set_cons_zero, List.set_cons_succ]
        refine wpAnyH_ready (rs := [9]) (by kernel_rfl) (by simp) ?_
        refine AllReadyH.cons rfl (fun K hK => ?_) AllReadyH.nil
        clear hHeld
        go_simp
        refine hK.out _ _ ⟨(B_3.out.ext (Ext.alloc hb6 _)).cell 0, (B_3.out.ext (Ext.alloc hb6 _)).cell 1, (B_3.out.ext (Ext.alloc hb6 _)).cell 2, (C_3.out.ext (Ext.alloc hb6 _)).cell 0, (C_3.out.ext (Ext.alloc hb6 _)).cell 1, (C_3.out.ext (Ext.alloc hb6 _)).cell 2, (C_3.out.ext (Ext.alloc hb6 _)).cell 3, (Q_3.out.ext (Ext.alloc hb6 _)).cell 0, (Q_3.out.ext (Ext.alloc hb6 _)).cell 1, (Q_3.out.ext (Ext.alloc hb6 _)).cell 2, (Q_3.out.ext (Ext.alloc hb6 _)).cell 3⟩ (fun hHeld => ?_)
        clear hK K
        try simp only [Act.put, List.setIfInBounds_toArray, List.set_cons_zero, List.set_cons_succ]
        refine wpAnyH_ready (rs := [10]) (by kernel_rfl) (by simp) ?_
        refine AllReadyH.cons rfl (fun K hK => ?_) AllReadyH.nil
        clear hHeld
        go_simp
        refine hK.out _ _ ⟨(B_3.out.ext (Ext.alloc hb6 _)).cell 0, (B_3.out.ext (Ext.alloc hb6 _)).cell 1, (B_3.out.ext (Ext.alloc hb6 _)).cell 2, (C_3.out.ext (Ext.alloc hb6 _)).cell 0, (C_3.out.ext (Ext.alloc hb6 _)).cell 1, (C_3.out.ext (Ext.alloc hb6 _)).cell 2, (C_3.out.ext (Ext.alloc hb6 _)).cell 3, (Q_3.out.ext (Ext.alloc hb6 _)).cell 0, (Q_3.out.ext (Ext.alloc hb6 _)).cell 1, (Q_3.out.ext (Ext.alloc hb6 _)).cell 2, (Q_3.out.ext (Ext.alloc hb6 _)).cell 3⟩ (fun hHeld => ?_)
        clear hK K
        try simp only [Act.put, List.setIfInBounds_toArray, List.set_cons_zero, List.set_cons_succ]
        refine wpAnyH_done (by kernel_rfl) ?_ _
        clear hHeld
        (try go_wp2_with fail)
        go_meet
        exact ⟨w6.heap.size, rfl, rfl, Lib.hid (X_3.out.trans (Ext.alloc hb6 _)), Lib.hid (B_3.out.ext (Ext.alloc hb6 _)), Lib.hid (C_3.out.ext (Ext.alloc hb6 _)), Lib.hid (Q_3.out.ext (Ext.alloc hb6 _)), Lib.hid (Bk.at rfl)⟩
      · clear hHeld
        go_simp
        refine hK.out _ _ ⟨(B_3.out.ext (Ext.alloc ha _)).cell 0, (B_3.out.ext (Ext.alloc ha _)).cell 1, (B_3.out.ext (Ext.alloc ha _)).cell 2, (C_3.out.ext (Ext.alloc ha _)).cell 0, (C_3.out.ext (Ext.alloc ha _)).cell 1, (C_3.out.ext (Ext.alloc ha _)).cell 2, (C_3.out.ext (Ext.alloc ha _)).cell 3, (Q_3.out.ext (Ext.alloc ha _)).cell 0, (Q_3.out.ext (Ext.alloc ha _)).cell 1, (Q_3.out.ext (Ext.alloc ha _)).cell 2, (Q_3.out.ext (Ext.alloc ha _)).cell 3⟩ (fun hHeld => ?_)
        clear hK K
        try simp only [Act.put, List.setIfInBounds_toArray, List.set_cons_zero, List.set_cons_succ]
        refine wpAnyH_ready (rs := [4]) (by kernel_rfl) (by simp) ?_
        refine AllReadyH.cons rfl (fun K hK => ?_) AllReadyH.nil
        clear hHeld
        go_simp
        refine (fill_bound X Y RW RH r g b a _ _ _ _ _ E _ (HE.out.ext (X_3.out.trans (Ext.alloc ha _))) HR.out HF.out).mono ?_
        rintro e w6 ⟨rfl, hx6⟩
        have hb6 : Ext w3 w6 := Ext.trans (Ext.alloc ha _) hx6
        have BT := Lib.hid (Bk.ext (b := w5.heap.size) (cs := #[.int .i64 0, .int .i64 0, .slice none 0 0]) (Bk.at rfl) hx6)
        have t0 := BT.out.cell 0
        have t1 := BT.out.cell 1
        have t2 := BT.out.cell 2
        have f0 := BT.out.frozen 0
        have f1 := BT.out.frozen 1
        have f2 := BT.out.frozen 2
        go_simp
        refine hK.out _ _ ⟨(B_3.out.ext hb6).cell 0, (B_3.out.ext hb6).cell 1, (B_3.out.ext hb6).cell 2, (C_3.out.ext hb6).cell 0, (C_3.out.ext hb6).cell 1, (C_3.out.ext hb6).cell 2, (C_3.out.ext hb6).cell 3, (Q_3.out.ext hb6).cell 0, (Q_3.out.ext hb6).cell 1, (Q_3.out.ext hb6).cell 2, (Q_3.out.ext hb6).cell 3⟩ (fun hHeld => ?_)
        clear hK K
        try simp only [Act.put, List.setIfInBounds_toArray, List.set_cons_zero, List.set_cons_succ]
        refine wpAnyH_take (i := 5) (v := ?_) rfl (by kernel_rfl) (by kernel_rfl) (by kernel_rfl) (fun _ _ _ h => h) (Or.inl ⟨by kernel_rfl, ?_⟩) hHeld ?_
        rotate_left
        · intro w hSw
          (try dsimp only at hSw)
          go_split_ands
          go_simp
          (try with_reducible rfl)
        try simp only [Act.put, List.setIfInBounds_toArray, List.set_cons_zero, List.set_cons_succ]
        refine wpAnyH_take (i := 6) (v := ?_) rfl (by kernel_rfl) (by kernel_rfl) (by kernel_rfl) (fun _ _ _ h => h) (Or.inl ⟨by kernel_rfl, ?_⟩) hHeld ?_
        rotate_left
        · intro w hSw
          (try dsimp only at hSw)
          go_split_ands
          go_simp
          (try with_reducible rfl)
        try simp only [Act.put, List.setIfInBounds_toArray, List.set_cons_zero, List.set_cons_succ]
        refine wpAnyH_take (i := 7) (v := ?_) rfl (by kernel_rfl) (by kernel_rfl) (by kernel_rfl) (fun _ _ _ h => h) (Or.inl ⟨by kernel_rfl, ?_⟩) hHeld ?_
        rotate_left
        · intro w hSw
          (try dsimp only at hSw)
          go_split_ands
          go_simp
          (try with_reducible rfl)
        try simp only [Act.put, List.setIfInBounds_toArray, List.set_cons_zero, List.set_cons_succ]
        have SF := Lib.hid (set3_all (x' := .int .i64 0) (y' := .int .i64 0) (z' := .slice none 0 0) hb6 ha.size BT.out)
        refine wpAnyH_ready (rs := [9]) (by kernel_rfl) (by simp) ?_
        refine AllReadyH.cons rfl (fun K hK => ?_) AllReadyH.nil
        clear hHeld
        go_simp
        refine hK.out _ _ ⟨(B_3.out.ext SF.out.1).cell 0, (B_3.out.ext SF.out.1).cell 1, (B_3.out.ext SF.out.1).cell 2, (C_3.out.ext SF.out.1).cell 0, (C_3.out.ext SF.out.1).cell 1, (C_3.out.ext SF.out.1).cell 2, (C_3.out.ext SF.out.1).cell 3, (Q_3.out.ext SF.out.1).cell 0, (Q_3.out.ext SF.out.1).cell 1, (Q_3.out.ext SF.out.1).cell 2, (Q_3.out.ext SF.out.1).cell 3⟩ (fun hHeld => ?_)
        clear hK K
        try simp only [Act.put, List.setIfInBounds_toArray, List.set_cons_zero, List.set_cons_succ]
        refine wpAnyH_ready (rs := [10]) (by kernel_rfl) (by simp) ?_
        refine AllReadyH.cons rfl (fun K hK => ?_) AllReadyH.nil
        clear hHeld
        go_simp
        refine hK.out _ _ ⟨(B_3.out.ext SF.out.1).cell 0, (B_3.out.ext SF.out.1).cell 1, (B_3.out.ext SF.out.1).cell 2, (C_3.out.ext SF.out.1).cell 0, (C_3.out.ext SF.out.1).cell 1, (C_3.out.ext SF.out.1).cell 2, (C_3.out.ext SF.out.1).cell 3, (Q_3.out.ext SF.out.1).cell 0, (Q_3.out.ext SF.out.1).cell 1, (Q_3.out.ext SF.out.1).cell 2, (Q_3.out.ext SF.out.1).cell 3⟩ (fun hHeld => ?_)
        clear hK K
        try simp only [Act.put, List.setIfInBounds_toArray, List.set_cons_zero, List.set_cons_succ]
        refine wpAnyH_done (by kernel_rfl) ?_ _
        clear hHeld
        (try go_wp2_with fail)
        go_meet
        exact ⟨w5.heap.size, rfl, rfl, Lib.hid (X_3.out.trans SF.out.1), Lib.hid (B_3.out.ext SF.out.1), Lib.hid (C_3.out.ext SF.out.1), Lib.hid (Q_3.out.ext SF.out.1), Lib.hid SF.out.2.1⟩
    · clear hHeld
      go_simp
      refine hK.out _ _ ⟨(B_3.out.ext (Ext.alloc (show Ext w3 w3.drew from Below.drew (Ext.refl w3)) _)).cell 0, (B_3.out.ext (Ext.alloc (show Ext w3 w3.drew from Below.drew (Ext.refl w3)) _)).cell 1, (B_3.out.ext (Ext.alloc (show Ext w3 w3.drew from Below.drew (Ext.refl w3)) _)).cell 2, (C_3.out.ext (Ext.alloc (show Ext w3 w3.drew from Below.drew (Ext.refl w3)) _)).cell 0, (C_3.out.ext (Ext.alloc (show Ext w3 w3.drew from Below.drew (Ext.refl w3)) _)).cell 1, (C_3.out.ext (Ext.alloc (show Ext w3 w3.drew from Below.drew (Ext.refl w3)) _)).cell 2, (C_3.out.ext (Ext.alloc (show Ext w3 w3.drew from Below.drew (Ext.refl w3)) _)).cell 3, (Q_3.out.ext (Ext.alloc (show Ext w3 w3.drew from Below.drew (Ext.refl w3)) _)).cell 0, (Q_3.out.ext (Ext.alloc (show Ext w3 w3.drew from Below.drew (Ext.refl w3)) _)).cell 1, (Q_3.out.ext (Ext.alloc (show Ext w3 w3.drew from Below.drew (Ext.refl w3)) _)).cell 2, (Q_3.out.ext (Ext.alloc (show Ext w3 w3.drew from Below.drew (Ext.refl w3)) _)).cell 3⟩ (fun hHeld => ?_)
      clear hK K
      try simp only [Act.put, List.setIfInBounds_toArray, List.set_cons_zero, List.set_cons_succ]
      refine wpAnyH_ready (rs := [1]) (by kernel_rfl) (by simp) ?_
      refine AllReadyH.cons rfl (fun K hK => ?_) AllReadyH.nil
      clear hHeld
      go_simp
      refine (own_x _ _ (some ad) (W' * H') cap px _ (HX.out.ext (X_3.out.trans (Ext.alloc (show Ext w3 w3.drew from Below.drew (Ext.refl w3)) _))) (fun h => by cases h) (by omega)).mono ?_
      rintro e w5 ⟨⟨ox, oc, rfl, hox, _⟩, hx5⟩
      obtain ⟨oa, rfl⟩ := hox.isSome HPO.out
      have ha : Ext w3 w5 := Ext.trans (Ext.alloc (show Ext w3 w3.drew from Below.drew (Ext.refl w3)) _) hx5
      have OX := Lib.hid hox
      clear hox
      have BT0 := Lib.hid (Bk.ext (b := w3.heap.size) (cs := #[.int .i64 0, .int .i64 0, .slice none 0 0]) (Bk.at (w := w3.drew) rfl) hx5)
      go_simp
      refine hK.out _ _ ⟨(B_3.out.ext ha).cell 0, (B_3.out.ext ha).cell 1, (B_3.out.ext ha).cell 2, (C_3.out.ext ha).cell 0, (C_3.out.ext ha).cell 1, (C_3.out.ext ha).cell 2, (C_3.out.ext ha).cell 3, (Q_3.out.ext ha).cell 0, (Q_3.out.ext ha).cell 1, (Q_3.out.ext ha).cell 2, (Q_3.out.ext ha).cell 3⟩ (fun hHeld => ?_)
      clear hK K
      try simp only [Act.put, List.setIfInBounds_toArray, List.set_cons_zero, List.set_cons_succ]
      refine wpAnyH_ready (rs := [4]) (by kernel_rfl) (by simp) ?_
      refine AllReadyH.cons rfl (fun K hK => ?_) AllReadyH.nil
      clear hHeld
      go_simp
      refine (fill_bound X Y RW RH r g b a _ _ _ _ _ E _ (HE.out.ext (X_3.out.trans ha)) HR.out HF.out).mono ?_
      rintro e w6 ⟨rfl, hx6⟩
      have hb6 : Ext w3 w6 := Ext.trans ha hx6
      have BT := Lib.hid (Bk.ext (b := w3.heap.size) (cs := #[.int .i64 0, .int .i64 0, .slice none 0 0]) BT0.out hx6)
      have t0 := BT.out.cell 0
      have t1 := BT.out.cell 1
      have t2 := BT.out.cell 2
      have f0 := BT.out.frozen 0
      have f1 := BT.out.frozen 1
      have f2 := BT.out.frozen 2
      go_simp
      refine hK.out _ _ ⟨(B_3.out.ext hb6).cell 0, (B_3.out.ext hb6).cell 1, (B_3.out.ext hb6).cell 2, (C_3.out.ext hb6).cell 0, (C_3.out.ext hb6).cell 1, (C_3.out.ext hb6).cell 2, (C_3.out.ext hb6).cell 3, (Q_3.out.ext hb6).cell 0, (Q_3.out.ext hb6).cell 1, (Q_3.out.ext hb6).cell 2, (Q_3.out.ext hb6).cell 3⟩ (fun hHeld => ?_)
      clear hK K
      try simp only [Act.put, List.setIfInBounds_toArray, List.set_cons_zero, List.set_cons_succ]
      refine wpAnyH_take (i := 5) (v := ?_) rfl (by kernel_rfl) (by kernel_rfl) (by kernel_rfl) (fun _ _ _ h => h) (Or.inl ⟨by kernel_rfl, ?_⟩) hHeld ?_
      rotate_left
      · intro w hSw
        (try dsimp only at hSw)
        go_split_ands
        go_simp
        (try with_reducible rfl)
      try simp only [Act.put, List.setIfInBounds_toArray, List.set_cons_zero, List.set_cons_succ]
      refine wpAnyH_take (i := 6) (v := ?_) rfl (by kernel_rfl) (by kernel_rfl) (by kernel_rfl) (fun _ _ _ h => h) (Or.inl ⟨by kernel_rfl, ?_⟩) hHeld ?_
      rotate_left
      · intro w hSw
        (try dsimp only at hSw)
        go_split_ands
        go_simp
        (try with_reducible rfl)
      try simp only [Act.put, List.setIfInBounds_toArray, List.set_cons_zero, List.set_cons_succ]
      refine wpAnyH_take (i := 7) (v := ?_) rfl (by kernel_rfl) (by kernel_rfl) (by kernel_rfl) (fun _ _ _ h => h) (Or.inl ⟨by kernel_rfl, ?_⟩) hHeld ?_
      rotate_left
      · intro w hSw
        (try dsimp only at hSw)
        go_split_ands
        go_simp
        (try with_reducible rfl)
      try simp only [Act.put, List.setIfInBounds_toArray, List.set_cons_zero, List.set_cons_succ]
      have SF := Lib.hid (set3_all (x' := .int .i64 0) (y' := .int .i64 0) (z' := .slice none 0 0) hb6 (Nat.le_refl _) BT.out)
      refine wpAnyH_ready (rs := [9]) (by kernel_rfl) (by simp) ?_
      refine AllReadyH.cons rfl (fun K hK => ?_) AllReadyH.nil
      clear hHeld
      go_simp
      refine hK.out _ _ ⟨(B_3.out.ext SF.out.1).cell 0, (B_3.out.ext SF.out.1).cell 1, (B_3.out.ext SF.out.1).cell 2, (C_3.out.ext SF.out.1).cell 0, (C_3.out.ext SF.out.1).cell 1, (C_3.out.ext SF.out.1).cell 2, (C_3.out.ext SF.out.1).cell 3, (Q_3.out.ext SF.out.1).cell 0, (Q_3.out.ext SF.out.1).cell 1, (Q_3.out.ext SF.out.1).cell 2, (Q_3.out.ext SF.out.1).cell 3⟩ (fun hHeld => ?_)
      clear hK K
      try simp only [Act.put, List.setIfInBounds_toArray, List.set_cons_zero, List.set_cons_succ]
      refine wpAnyH_ready (rs := [10]) (by kernel_rfl) (by simp) ?_
      refine AllReadyH.cons rfl (fun K hK => ?_) AllReadyH.nil
      clear hHeld
      go_simp
      refine hK.out _ _ ⟨(B_3.out.ext SF.out.1).cell 0, (B_3.out.ext SF.out.1).cell 1, (B_3.out.ext SF.out.1).cell 2, (C_3.out.ext SF.out.1).cell 0, (C_3.out.ext SF.out.1).cell 1, (C_3.out.ext SF.out.1).cell 2, (C_3.out.ext SF.out.1).cell 3, (Q_3.out.ext SF.out.1).cell 0, (Q_3.out.ext SF.out.1).cell 1, (Q_3.out.ext SF.out.1).cell 2, (Q_3.out.ext SF.out.1).cell 3⟩ (fun hHeld => ?_)
      clear hK K
      try simp only [Act.put, List.setIfInBounds_toArray, List.set_cons_zero, List.set_cons_succ]
      refine wpAnyH_done (by kernel_rfl) ?_ _
      clear hHeld
      (try go_wp2_with fail)
      go_meet
      exact ⟨w3.heap.size, rfl, rfl, Lib.hid (X_3.out.trans SF.out.1), Lib.hid (B_3.out.ext SF.out.1), Lib.hid (C_3.out.ext SF.out.1), Lib.hid (Q_3.out.ext SF.out.1), Lib.hid SF.out.2.1⟩
  case rest =>
    obtain ⟨T, rfl, rfl, X_4, B_4, C_4, Q_4, F_4⟩ := hcut
    clear X_3 B_3 C_3 Q_3
    go_upto_region 5 with fail
    go_cut [10, 11] (fun s10 s11 wx => ∃ U, s10 = .pointer (some ⟨U, 0, none⟩) ∧ s11 = .iface 171 (.pointer (some (E 1))) ∧ Hid (Ext w wx) ∧ Hid (Bk wx w.heap.size #[.int .i64 (W' : Int), .int .i64 (H' : Int), .slice (some ad) (W' * H') cap]) ∧ Hid (Bk wx (w.heap.size + 1) #[.int .i64 X, .int .i64 Y, .int .i64 RW, .int .i64 RH]) ∧ Hid (Bk wx (w.heap.size + 1 + 1) #[.int .u8 r, .int .u8 g, .int .u8 b, .int .u8 a]) ∧ Hid (Bk wx T #[.int .i64 0, .int .i64 0, .slice none 0 0]) ∧ Hid (Bk wx U #[.int .i64 0, .int .i64 0, .slice none 0 0]))
    case first =>
      have k0 := B_4.out.cell 0
      have k1 := B_4.out.cell 1
      have k2 := B_4.out.cell 2
      have k3 := C_4.out.cell 0
      have k4 := C_4.out.cell 1
      have k5 := C_4.out.cell 2
      have k6 := C_4.out.cell 3
      refine wp_region_held_drew (S := fun w' => w'.cell? ⟨w.heap.size, 0, none⟩ = some (.int .i64 (W' : Int)) ∧ w'.cell? ⟨w.heap.size, 1, none⟩ = some (.int .i64 (H' : Int)) ∧ w'.cell? ⟨w.heap.size, 2, none⟩ = some (.slice (some ad) (W' * H') cap) ∧ w'.cell? ⟨w.heap.size + 1, 0, none⟩ = some (.int .i64 X) ∧ w'.cell? ⟨w.heap.size + 1, 1, none⟩ = some (.int .i64 Y) ∧ w'.cell? ⟨w.heap.size + 1, 2, none⟩ = some (.int .i64 RW) ∧ w'.cell? ⟨w.heap.size + 1, 3, none⟩ = some (.int .i64 RH)) (by kernel_rfl) ⟨k0, k1, k2, k3, k4, k5, k6⟩ (fun hHeld => ?_)
      refine wpAnyH_take (i := 0) (v := ?_) rfl (by kernel_rfl) (by kernel_rfl) (by kernel_rfl) (fun _ _ _ h => h) (Or.inl ⟨by kernel_rfl, ?_⟩) hHeld ?_
      rotate_left
      · intro w hSw
        (try dsimp only at hSw)
        go_split_ands
        go_simp
        (try with_reducible rfl)
      try simp only [Act.put, List.setIfInBounds_toArray, List.set_cons_zero, List.set_cons_succ]
      refine wpAnyH_take (i := 2) (v := ?_) rfl (by kernel_rfl) (by kernel_rfl) (by kernel_rfl) (fun _ _ _ h => h) (Or.inl ⟨by kernel_rfl, ?_⟩) hHeld ?_
      rotate_left
      · intro w hSw
        (try dsimp only at hSw)
        go_split_ands
        go_simp
        (try with_reducible rfl)
      try simp only [Act.put, List.setIfInBounds_toArray, List.set_cons_zero, List.set_cons_succ]
      refine wpAnyH_ready (rs := [1, 7]) (by kernel_rfl) (by simp) ?_
      refine AllReadyH.cons rfl (fun K hK => ?_) (AllReadyH.cons rfl (fun K hK => ?_) AllReadyH.nil)
      · clear hHeld
        go_simp
        refine (own_x _ _ (some ad) (W' * H') cap px _ (HX.out.ext (X_4.out.trans (show Ext wc wc.drew from Below.drew (Ext.refl wc)))) (fun h => by cases h) (by omega)).mono ?_
        rintro e w5 ⟨⟨ox, oc, rfl, hox, _⟩, hx5⟩
        obtain ⟨oa, rfl⟩ := hox.isSome HPO.out
        have ha : Ext wc w5 := Ext.trans (show Ext wc wc.drew from Below.drew (Ext.refl wc)) hx5
        have OX := Lib.hid hox
        clear hox
        go_simp
        refine hK.out _ _ ⟨(B_4.out.ext ha).cell 0, (B_4.out.ext ha).cell 1, (B_4.out.ext ha).cell 2, (C_4.out.ext ha).cell 0, (C_4.out.ext ha).cell 1, (C_4.out.ext ha).cell 2, (C_4.out.ext ha).cell 3⟩ (fun hHeld => ?_)
        clear hK K
        try simp only [Act.put, List.setIfInBounds_toArray, List.set_cons_zero, List.set_cons_succ]
        refine wpAnyH_ready (rs := [3, 7]) (by kernel_rfl) (by simp) ?_
        refine AllReadyH.cons rfl (fun K hK => ?_) (AllReadyH.cons rfl (fun K hK => ?_) AllReadyH.nil)
        · clear hHeld
          go_simp
          refine (crop_bound X Y RW RH _ _ _ _ _ E _ hb.out (HE.out.ext (X_4.out.trans ha)) HR.out HC.out).mono ?_
          rintro e w6 ⟨rfl, hx6⟩
          have hb6 : Ext wc w6 := Ext.trans ha hx6
          go_simp
          refine hK.out _ _ ⟨(B_4.out.ext hb6).cell 0, (B_4.out.ext hb6).cell 1, (B_4.out.ext hb6).cell 2, (C_4.out.ext hb6).cell 0, (C_4.out.ext hb6).cell 1, (C_4.out.ext hb6).cell 2, (C_4.out.ext hb6).cell 3⟩ (fun hHeld => ?_)
          clear hK K
          try simp only [Act.put, List.setIfInBounds_toArray, List.set_cons_zero, List.set_cons_succ]
          refine wpAnyH_take (i := 4) (v := ?_) rfl (by kernel_rfl) (by kernel_rfl) (by kernel_rfl) (fun _ _ _ h => h) (Or.inl ⟨by kernel_rfl, ?_⟩) hHeld ?_
          rotate_left
          · intro w hSw
            (try dsimp only at hSw)
            go_split_ands
            go_simp
            (try with_reducible rfl)
          try simp only [Act.put, List.setIfInBounds_toArray, List.set_cons_zero, List.set_cons_succ]
          refine wpAnyH_take (i := 5) (v := ?_) rfl (by kernel_rfl) (by kernel_rfl) (by kernel_rfl) (fun _ _ _ h => h) (Or.inl ⟨by kernel_rfl, ?_⟩) hHeld ?_
          rotate_left
          · intro w hSw
            (try dsimp only at hSw)
            go_split_ands
            go_simp
            (try with_reducible rfl)
          try simp only [Act.put, List.setIfInBounds_toArray, List.set_cons_zero, List.set_cons_succ]
          refine wpAnyH_take (i := 6) (v := ?_) rfl (by kernel_rfl) (by kernel_rfl) (by kernel_rfl) (fun _ _ _ h => h) (Or.inl ⟨by kernel_rfl, ?_⟩) hHeld ?_
          rotate_left
          · intro w hSw
            (try dsimp only at hSw)
            go_split_ands
            go_simp
            (try with_reducible rfl)
          try simp only [Act.put, List.setIfInBounds_toArray, List.set_cons_zero, List.set_cons_succ]
          refine wpAnyH_ready (rs := [7]) (by kernel_rfl) (by simp) ?_
          refine AllReadyH.cons rfl (fun K hK => ?_) AllReadyH.nil
          clear hHeld
          go_simp
          refine hK.out _ _ ⟨(B_4.out.ext (Ext.alloc hb6 _)).cell 0, (B_4.out.ext (Ext.alloc hb6 _)).cell 1, (B_4.out.ext (Ext.alloc hb6 _)).cell 2, (C_4.out.ext (Ext.alloc hb6 _)).cell 0, (C_4.out.ext (Ext.alloc hb6 _)).cell 1, (C_4.out.ext (Ext.alloc hb6 _)).cell 2, (C_4.out.ext (Ext.alloc hb6 _)).cell 3⟩ (fun hHeld => ?_)
          clear hK K
          try simp only [Act.put, List.setIfInBounds_toArray, List.set_cons_zero, List.set_cons_succ]
          refine wpAnyH_ready (rs := [8]) (by kernel_rfl) (by simp) ?_
          refine AllReadyH.cons rfl (fun K hK => ?_) AllReadyH.nil
          clear hHeld
          go_simp
          refine hK.out _ _ ⟨(B_4.out.ext (Ext.alloc hb6 _)).cell 0, (B_4.out.ext (Ext.alloc hb6 _)).cell 1, (B_4.out.ext (Ext.alloc hb6 _)).cell 2, (C_4.out.ext (Ext.alloc hb6 _)).cell 0, (C_4.out.ext (Ext.alloc hb6 _)).cell 1, (C_4.out.ext (Ext.alloc hb6 _)).cell 2, (C_4.out.ext (Ext.alloc hb6 _)).cell 3⟩ (fun hHeld => ?_)
          clear hK K
          try simp only [Act.put, List.setIfInBounds_toArray, List.set_cons_zero, List.set_cons_succ]
          refine wpAnyH_ready (rs := [9]) (by kernel_rfl) (by simp) ?_
          refine AllReadyH.cons rfl (fun K hK => ?_) AllReadyH.nil
          clear hHeld
          go_simp
          refine hK.out _ _ ⟨(B_4.out.ext (Ext.alloc hb6 _)).cell 0, (B_4.out.ext (Ext.alloc hb6 _)).cell 1, (B_4.out.ext (Ext.alloc hb6 _)).cell 2, (C_4.out.ext (Ext.alloc hb6 _)).cell 0, (C_4.out.ext (Ext.alloc hb6 _)).cell 1, (C_4.out.ext (Ext.alloc hb6 _)).cell 2, (C_4.out.ext (Ext.alloc hb6 _)).cell 3⟩ (fun hHeld => ?_)
          clear hK K
          try simp only [Act.put, List.setIfInBounds_toArray, List.set_cons_zero, List.set_cons_succ]
          refine wpAnyH_done (by kernel_rfl) ?_ _
          clear hHeld
          (try go_wp2_with fail)
          go_meet
          exact ⟨w6.heap.size, rfl, rfl, Lib.hid (X_4.out.trans (Ext.alloc hb6 _)), Lib.hid (B_4.out.ext (Ext.alloc hb6 _)), Lib.hid (C_4.out.ext (Ext.alloc hb6 _)), Lib.hid (Q_4.out.ext (Ext.alloc hb6 _)), Lib.hid (F_4.out.ext (Ext.alloc hb6 _)), Lib.hid (Bk.at rfl)⟩
        · clear hHeld
          go_simp
          refine hK.out _ _ ⟨(B_4.out.ext (Ext.alloc ha _)).cell 0, (B_4.out.ext (Ext.alloc ha _)).cell 1, (B_4.out.ext (Ext.alloc ha _)).cell 2, (C_4.out.ext (Ext.alloc ha _)).cell 0, (C_4.out.ext (Ext.alloc ha _)).cell 1, (C_4.out.ext (Ext.alloc ha _)).cell 2, (C_4.out.ext (Ext.alloc ha _)).cell 3⟩ (fun hHeld => ?_)
          clear hK K
          try simp only [Act.put, List.setIfInBounds_toArray, List.set_cons_zero, List.set_cons_succ]
          refine wpAnyH_ready (rs := [3]) (by kernel_rfl) (by simp) ?_
          refine AllReadyH.cons rfl (fun K hK => ?_) AllReadyH.nil
          clear hHeld
          go_simp
          refine (crop_bound X Y RW RH _ _ _ _ _ E _ hb.out (HE.out.ext (X_4.out.trans (Ext.alloc ha _))) HR.out HC.out).mono ?_
          rintro e w6 ⟨rfl, hx6⟩
          have hb6 : Ext wc w6 := Ext.trans (Ext.alloc ha _) hx6
          have BT := Lib.hid (Bk.ext (b := w5.heap.size) (cs := #[.int .i64 0, .int .i64 0, .slice none 0 0]) (Bk.at rfl) hx6)
          have t0 := BT.out.cell 0
          have t1 := BT.out.cell 1
          have t2 := BT.out.cell 2
          have f0 := BT.out.frozen 0
          have f1 := BT.out.frozen 1
          have f2 := BT.out.frozen 2
          go_simp
          refine hK.out _ _ ⟨(B_4.out.ext hb6).cell 0, (B_4.out.ext hb6).cell 1, (B_4.out.ext hb6).cell 2, (C_4.out.ext hb6).cell 0, (C_4.out.ext hb6).cell 1, (C_4.out.ext hb6).cell 2, (C_4.out.ext hb6).cell 3⟩ (fun hHeld => ?_)
          clear hK K
          try simp only [Act.put, List.setIfInBounds_toArray, List.set_cons_zero, List.set_cons_succ]
          refine wpAnyH_take (i := 4) (v := ?_) rfl (by kernel_rfl) (by kernel_rfl) (by kernel_rfl) (fun _ _ _ h => h) (Or.inl ⟨by kernel_rfl, ?_⟩) hHeld ?_
          rotate_left
          · intro w hSw
            (try dsimp only at hSw)
            go_split_ands
            go_simp
            (try with_reducible rfl)
          try simp only [Act.put, List.setIfInBounds_toArray, List.set_cons_zero, List.set_cons_succ]
          refine wpAnyH_take (i := 5) (v := ?_) rfl (by kernel_rfl) (by kernel_rfl) (by kernel_rfl) (fun _ _ _ h => h) (Or.inl ⟨by kernel_rfl, ?_⟩) hHeld ?_
          rotate_left
          · intro w hSw
            (try dsimp only at hSw)
            go_split_ands
            go_simp
            (try with_reducible rfl)
          try simp only [Act.put, List.setIfInBounds_toArray, List.set_cons_zero, List.set_cons_succ]
          refine wpAnyH_take (i := 6) (v := ?_) rfl (by kernel_rfl) (by kernel_rfl) (by kernel_rfl) (fun _ _ _ h => h) (Or.inl ⟨by kernel_rfl, ?_⟩) hHeld ?_
          rotate_left
          · intro w hSw
            (try dsimp only at hSw)
            go_split_ands
            go_simp
            (try with_reducible rfl)
          try simp only [Act.put, List.setIfInBounds_toArray, List.set_cons_zero, List.set_cons_succ]
          have SF := Lib.hid (set3_all (x' := .int .i64 0) (y' := .int .i64 0) (z' := .slice none 0 0) hb6 ha.size BT.out)
          refine wpAnyH_ready (rs := [8]) (by kernel_rfl) (by simp) ?_
          refine AllReadyH.cons rfl (fun K hK => ?_) AllReadyH.nil
          clear hHeld
          go_simp
          refine hK.out _ _ ⟨(B_4.out.ext SF.out.1).cell 0, (B_4.out.ext SF.out.1).cell 1, (B_4.out.ext SF.out.1).cell 2, (C_4.out.ext SF.out.1).cell 0, (C_4.out.ext SF.out.1).cell 1, (C_4.out.ext SF.out.1).cell 2, (C_4.out.ext SF.out.1).cell 3⟩ (fun hHeld => ?_)
          clear hK K
          try simp only [Act.put, List.setIfInBounds_toArray, List.set_cons_zero, List.set_cons_succ]
          refine wpAnyH_ready (rs := [9]) (by kernel_rfl) (by simp) ?_
          refine AllReadyH.cons rfl (fun K hK => ?_) AllReadyH.nil
          clear hHeld
          go_simp
          refine hK.out _ _ ⟨(B_4.out.ext SF.out.1).cell 0, (B_4.out.ext SF.out.1).cell 1, (B_4.out.ext SF.out.1).cell 2, (C_4.out.ext SF.out.1).cell 0, (C_4.out.ext SF.out.1).cell 1, (C_4.out.ext SF.out.1).cell 2, (C_4.out.ext SF.out.1).cell 3⟩ (fun hHeld => ?_)
          clear hK K
          try simp only [Act.put, List.setIfInBounds_toArray, List.set_cons_zero, List.set_cons_succ]
          refine wpAnyH_done (by kernel_rfl) ?_ _
          clear hHeld
          (try go_wp2_with fail)
          go_meet
          exact ⟨w5.heap.size, rfl, rfl, Lib.hid (X_4.out.trans SF.out.1), Lib.hid (B_4.out.ext SF.out.1), Lib.hid (C_4.out.ext SF.out.1), Lib.hid (Q_4.out.ext SF.out.1), Lib.hid (F_4.out.ext SF.out.1), Lib.hid SF.out.2.1⟩
      · clear hHeld
        go_simp
        refine hK.out _ _ ⟨(B_4.out.ext (Ext.alloc (show Ext wc wc.drew from Below.drew (Ext.refl wc)) _)).cell 0, (B_4.out.ext (Ext.alloc (show Ext wc wc.drew from Below.drew (Ext.refl wc)) _)).cell 1, (B_4.out.ext (Ext.alloc (show Ext wc wc.drew from Below.drew (Ext.refl wc)) _)).cell 2, (C_4.out.ext (Ext.alloc (show Ext wc wc.drew from Below.drew (Ext.refl wc)) _)).cell 0, (C_4.out.ext (Ext.alloc (show Ext wc wc.drew from Below.drew (Ext.refl wc)) _)).cell 1, (C_4.out.ext (Ext.alloc (show Ext wc wc.drew from Below.drew (Ext.refl wc)) _)).cell 2, (C_4.out.ext (Ext.alloc (show Ext wc wc.drew from Below.drew (Ext.refl wc)) _)).cell 3⟩ (fun hHeld => ?_)
        clear hK K
        try simp only [Act.put, List.setIfInBounds_toArray, List.set_cons_zero, List.set_cons_succ]
        refine wpAnyH_ready (rs := [1]) (by kernel_rfl) (by simp) ?_
        refine AllReadyH.cons rfl (fun K hK => ?_) AllReadyH.nil
        clear hHeld
        go_simp
        refine (own_x _ _ (some ad) (W' * H') cap px _ (HX.out.ext (X_4.out.trans (Ext.alloc (show Ext wc wc.drew from Below.drew (Ext.refl wc)) _))) (fun h => by cases h) (by omega)).mono ?_
        rintro e w5 ⟨⟨ox, oc, rfl, hox, _⟩, hx5⟩
        obtain ⟨oa, rfl⟩ := hox.isSome HPO.out
        have ha : Ext wc w5 := Ext.trans (Ext.alloc (show Ext wc wc.drew from Below.drew (Ext.refl wc)) _) hx5
        have OX := Lib.hid hox
        clear hox
        have BT0 := Lib.hid (Bk.ext (b := wc.heap.size) (cs := #[.int .i64 0, .int .i64 0, .slice none 0 0]) (Bk.at (w := wc.drew) rfl) hx5)
        go_simp
        refine hK.out _ _ ⟨(B_4.out.ext ha).cell 0, (B_4.out.ext ha).cell 1, (B_4.out.ext ha).cell 2, (C_4.out.ext ha).cell 0, (C_4.out.ext ha).cell 1, (C_4.out.ext ha).cell 2, (C_4.out.ext ha).cell 3⟩ (fun hHeld => ?_)
        clear hK K
        try simp only [Act.put, List.setIfInBounds_toArray, List.set_cons_zero, List.set_cons_succ]
        refine wpAnyH_ready (rs := [3]) (by kernel_rfl) (by simp) ?_
        refine AllReadyH.cons rfl (fun K hK => ?_) AllReadyH.nil
        clear hHeld
        go_simp
        refine (crop_bound X Y RW RH _ _ _ _ _ E _ hb.out (HE.out.ext (X_4.out.trans ha)) HR.out HC.out).mono ?_
        rintro e w6 ⟨rfl, hx6⟩
        have hb6 : Ext wc w6 := Ext.trans ha hx6
        have BT := Lib.hid (Bk.ext (b := wc.heap.size) (cs := #[.int .i64 0, .int .i64 0, .slice none 0 0]) BT0.out hx6)
        have t0 := BT.out.cell 0
        have t1 := BT.out.cell 1
        have t2 := BT.out.cell 2
        have f0 := BT.out.frozen 0
        have f1 := BT.out.frozen 1
        have f2 := BT.out.frozen 2
        go_simp
        refine hK.out _ _ ⟨(B_4.out.ext hb6).cell 0, (B_4.out.ext hb6).cell 1, (B_4.out.ext hb6).cell 2, (C_4.out.ext hb6).cell 0, (C_4.out.ext hb6).cell 1, (C_4.out.ext hb6).cell 2, (C_4.out.ext hb6).cell 3⟩ (fun hHeld => ?_)
        clear hK K
        try simp only [Act.put, List.setIfInBounds_toArray, List.set_cons_zero, List.set_cons_succ]
        refine wpAnyH_take (i := 4) (v := ?_) rfl (by kernel_rfl) (by kernel_rfl) (by kernel_rfl) (fun _ _ _ h => h) (Or.inl ⟨by kernel_rfl, ?_⟩) hHeld ?_
        rotate_left
        · intro w hSw
          (try dsimp only at hSw)
          go_split_ands
          go_simp
          (try with_reducible rfl)
        try simp only [Act.put, List.setIfInBounds_toArray, List.set_cons_zero, List.set_cons_succ]
        refine wpAnyH_take (i := 5) (v := ?_) rfl (by kernel_rfl) (by kernel_rfl) (by kernel_rfl) (fun _ _ _ h => h) (Or.inl ⟨by kernel_rfl, ?_⟩) hHeld ?_
        rotate_left
        · intro w hSw
          (try dsimp only at hSw)
          go_split_ands
          go_simp
          (try with_reducible rfl)
        try simp only [Act.put, List.setIfInBounds_toArray, List.set_cons_zero, List.set_cons_succ]
        refine wpAnyH_take (i := 6) (v := ?_) rfl (by kernel_rfl) (by kernel_rfl) (by kernel_rfl) (fun _ _ _ h => h) (Or.inl ⟨by kernel_rfl, ?_⟩) hHeld ?_
        rotate_left
        · intro w hSw
          (try dsimp only at hSw)
          go_split_ands
          go_simp
          (try with_reducible rfl)
        try simp only [Act.put, List.setIfInBounds_toArray, List.set_cons_zero, List.set_cons_succ]
        have SF := Lib.hid (set3_all (x' := .int .i64 0) (y' := .int .i64 0) (z' := .slice none 0 0) hb6 (Nat.le_refl _) BT.out)
        refine wpAnyH_ready (rs := [8]) (by kernel_rfl) (by simp) ?_
        refine AllReadyH.cons rfl (fun K hK => ?_) AllReadyH.nil
        clear hHeld
        go_simp
        refine hK.out _ _ ⟨(B_4.out.ext SF.out.1).cell 0, (B_4.out.ext SF.out.1).cell 1, (B_4.out.ext SF.out.1).cell 2, (C_4.out.ext SF.out.1).cell 0, (C_4.out.ext SF.out.1).cell 1, (C_4.out.ext SF.out.1).cell 2, (C_4.out.ext SF.out.1).cell 3⟩ (fun hHeld => ?_)
        clear hK K
        try simp only [Act.put, List.setIfInBounds_toArray, List.set_cons_zero, List.set_cons_succ]
        refine wpAnyH_ready (rs := [9]) (by kernel_rfl) (by simp) ?_
        refine AllReadyH.cons rfl (fun K hK => ?_) AllReadyH.nil
        clear hHeld
        go_simp
        refine hK.out _ _ ⟨(B_4.out.ext SF.out.1).cell 0, (B_4.out.ext SF.out.1).cell 1, (B_4.out.ext SF.out.1).cell 2, (C_4.out.ext SF.out.1).cell 0, (C_4.out.ext SF.out.1).cell 1, (C_4.out.ext SF.out.1).cell 2, (C_4.out.ext SF.out.1).cell 3⟩ (fun hHeld => ?_)
        clear hK K
        try simp only [Act.put, List.setIfInBounds_toArray, List.set_cons_zero, List.set_cons_succ]
        refine wpAnyH_done (by kernel_rfl) ?_ _
        clear hHeld
        (try go_wp2_with fail)
        go_meet
        exact ⟨wc.heap.size, rfl, rfl, Lib.hid (X_4.out.trans SF.out.1), Lib.hid (B_4.out.ext SF.out.1), Lib.hid (C_4.out.ext SF.out.1), Lib.hid (Q_4.out.ext SF.out.1), Lib.hid (F_4.out.ext SF.out.1), Lib.hid SF.out.2.1⟩
    case rest =>
      obtain ⟨U, rfl, rfl, X_5, B_5, C_5, Q_5, F_5, G_5⟩ := hcut
      clear X_4 B_4 C_4 Q_4 F_4
      have k0 := B_5.out.cell 0
      have k1 := B_5.out.cell 1
      have k2 := B_5.out.cell 2
      go_wp2_with fail
      refine (refRight_any _ _ _ _ _ _).mono ?_
      rintro e w25 ⟨rfl, h⟩
      have X_6 := Lib.hid (X_5.out.trans h)
      have B_6 := Lib.hid (B_5.out.ext h)
      have C_6 := Lib.hid (C_5.out.ext h)
      have Q_6 := Lib.hid (Q_5.out.ext h)
      have F_6 := Lib.hid (F_5.out.ext h)
      have G_6 := Lib.hid (G_5.out.ext h)
      clear h
      clear X_5 B_5 C_5 Q_5 F_5 G_5
      clear k0 k1 k2
      rw [HR.out]
      go_upto_region 9 with fail
      go_cut [13] (fun s13 wx => s13 = .bool (nearAll (rf X Y RW RH) 4) ∧ Hid (Ext w wx) ∧ Hid (Bk wx w.heap.size #[.int .i64 (W' : Int), .int .i64 (H' : Int), .slice (some ad) (W' * H') cap]) ∧ Hid (Bk wx (w.heap.size + 1) #[.int .i64 X, .int .i64 Y, .int .i64 RW, .int .i64 RH]) ∧ Hid (Bk wx (w.heap.size + 1 + 1) #[.int .u8 r, .int .u8 g, .int .u8 b, .int .u8 a]) ∧ Hid (Bk wx T #[.int .i64 0, .int .i64 0, .slice none 0 0]) ∧ Hid (Bk wx U #[.int .i64 0, .int .i64 0, .slice none 0 0]))
      case first =>
        have k0 := C_6.out.cell 0
        have k1 := C_6.out.cell 1
        have k2 := C_6.out.cell 2
        have k3 := C_6.out.cell 3
        go_wp2_with fail
        refine (refNear_any X _).mono ?_
        rintro e w9 ⟨rfl, rfl⟩
        cases n0 : nearB X
        · have NV : Hid (nearAll (rf X Y RW RH) 4 = false) := Lib.hid (by simp [nearAll, rf, n0])
          go_wp2_with fail
          go_meet
          exact ⟨by rw [NV.out], X_6, B_6, C_6, Q_6, F_6, G_6⟩
        · go_wp2_with fail
          refine (refNear_any Y _).mono ?_
          rintro e w9 ⟨rfl, rfl⟩
          cases n1 : nearB Y
          · have NV : Hid (nearAll (rf X Y RW RH) 4 = false) := Lib.hid (by simp [nearAll, rf, n0, n1])
            go_wp2_with fail
            go_meet
            exact ⟨by rw [NV.out], X_6, B_6, C_6, Q_6, F_6, G_6⟩
          · go_wp2_with fail
            refine (refNear_any RW _).mono ?_
            rintro e w9 ⟨rfl, rfl⟩
            cases n2 : nearB RW
            · have NV : Hid (nearAll (rf X Y RW RH) 4 = false) := Lib.hid (by simp [nearAll, rf, n0, n1, n2])
              go_wp2_with fail
              go_meet
              exact ⟨by rw [NV.out], X_6, B_6, C_6, Q_6, F_6, G_6⟩
            · go_wp2_with fail
              refine (refNear_any RH _).mono ?_
              rintro e w9 ⟨rfl, rfl⟩
              cases n3 : nearB RH
              · have NV : Hid (nearAll (rf X Y RW RH) 4 = false) := Lib.hid (by simp [nearAll, rf, n0, n1, n2, n3])
                go_wp2_with fail
                go_meet
                exact ⟨by rw [NV.out], X_6, B_6, C_6, Q_6, F_6, G_6⟩
              · have NV : Hid (nearAll (rf X Y RW RH) 4 = true) := Lib.hid (by simp [nearAll, rf, n0, n1, n2, n3])
                go_wp2_with fail
                go_meet
                exact ⟨by rw [NV.out], X_6, B_6, C_6, Q_6, F_6, G_6⟩
      case rest =>
        obtain ⟨rfl, X_7, B_7, C_7, Q_7, F_7, G_7⟩ := hcut
        clear X_6 B_6 C_6 Q_6 F_6 G_6
        go_upto_region 10 with fail
        go_cut [13, 82] (fun _ s82 wx => s82 = .bool true ∧ Hid (Ext w wx) ∧ Hid (Bk wx w.heap.size #[.int .i64 (W' : Int), .int .i64 (H' : Int), .slice (some ad) (W' * H') cap]) ∧ Hid (Bk wx (w.heap.size + 1) #[.int .i64 X, .int .i64 Y, .int .i64 RW, .int .i64 RH]) ∧ Hid (Bk wx (w.heap.size + 1 + 1) #[.int .u8 r, .int .u8 g, .int .u8 b, .int .u8 a]) ∧ Hid (Bk wx T #[.int .i64 0, .int .i64 0, .slice none 0 0]) ∧ Hid (Bk wx U #[.int .i64 0, .int .i64 0, .slice none 0 0]))
        case first =>
          have k2 := C_7.out.cell 2
          have k3 := C_7.out.cell 3
          have hf := HF.out
          unfold fillB at hf
          cases n0 : nearAll (rf X Y RW RH) 4
          · clear hf
            go_wp2_with fail
            go_meet
            exact ⟨rfl, X_7, B_7, C_7, Q_7, F_7, G_7⟩
          · rw [n0, Bool.true_and] at hf
            have hf := of_decide_eq_false hf
            by_cases h1 : RW < 0
            · have t1 : decide (RW < 0) = true := decide_eq_true h1
              clear hf h1
              go_wp2_with fail
              go_meet
              exact ⟨rfl, X_7, B_7, C_7, Q_7, F_7, G_7⟩
            · have t1 : decide (RW < 0) = false := decide_eq_false h1
              have t2 : decide (RH < 0) = true := decide_eq_true (by omega)
              clear hf h1
              go_wp2_with fail
              go_meet
              exact ⟨rfl, X_7, B_7, C_7, Q_7, F_7, G_7⟩
        case rest =>
          obtain ⟨rfl, X_8, B_8, C_8, Q_8, F_8, G_8⟩ := hcut
          clear X_7 B_7 C_7 Q_7 F_7 G_7
          have k0 := F_8.out.cell 0
          have k1 := F_8.out.cell 1
          have k2 := F_8.out.cell 2
          have k3 := B_8.out.cell 0
          have k4 := B_8.out.cell 1
          have k5 := B_8.out.cell 2
          go_wp2_with fail
          refine (told_err _ 1 _ _ _ _ _ _ E (HE.out.ext X_8.out) (.sent 1 (by decide))).mono ?_
          rintro e w28 ⟨rfl, h⟩
          have X_9 := Lib.hid (X_8.out.trans h)
          have B_9 := Lib.hid (B_8.out.ext h)
          have C_9 := Lib.hid (C_8.out.ext h)
          have Q_9 := Lib.hid (Q_8.out.ext h)
          have F_9 := Lib.hid (F_8.out.ext h)
          have G_9 := Lib.hid (G_8.out.ext h)
          clear h
          clear X_8 B_8 C_8 Q_8 F_8 G_8
          clear k0 k1 k2 k3 k4 k5
          have k0 := B_9.out.cell 0
          have k1 := B_9.out.cell 1
          have k2 := B_9.out.cell 2
          have k3 := C_9.out.cell 0
          have k4 := C_9.out.cell 1
          have k5 := C_9.out.cell 2
          have k6 := C_9.out.cell 3
          go_wp2_with fail
          refine (cropIs_any X Y RW RH _ _ _ _ _ _ hb.out).mono ?_
          rintro e w29 ⟨rfl, h⟩
          have X_10 := Lib.hid (X_9.out.trans h)
          have B_10 := Lib.hid (B_9.out.ext h)
          have C_10 := Lib.hid (C_9.out.ext h)
          have Q_10 := Lib.hid (Q_9.out.ext h)
          have F_10 := Lib.hid (F_9.out.ext h)
          have G_10 := Lib.hid (G_9.out.ext h)
          clear h
          clear X_9 B_9 C_9 Q_9 F_9 G_9
          clear k0 k1 k2 k3 k4 k5 k6
          rw [HC.out]
          have k0 := G_10.out.cell 0
          have k1 := G_10.out.cell 1
          have k2 := G_10.out.cell 2
          have k3 := B_10.out.cell 0
          have k4 := B_10.out.cell 1
          have k5 := B_10.out.cell 2
          go_wp2_with fail
          refine (told_err _ 1 _ _ _ _ _ _ E (HE.out.ext X_10.out) (.sent 1 (by decide))).mono ?_
          rintro e w30 ⟨rfl, h⟩
          have X_11 := Lib.hid (X_10.out.trans h)
          have B_11 := Lib.hid (B_10.out.ext h)
          have C_11 := Lib.hid (C_10.out.ext h)
          have Q_11 := Lib.hid (Q_10.out.ext h)
          have F_11 := Lib.hid (F_10.out.ext h)
          have G_11 := Lib.hid (G_10.out.ext h)
          clear h
          clear X_10 B_10 C_10 Q_10 F_10 G_10
          clear k0 k1 k2 k3 k4 k5
          go_wp2_with fail
          go_ret
          exact ⟨rfl, X_11.out⟩
end Go.Proofs.YtkfjcgcgfdibaaaDoor
