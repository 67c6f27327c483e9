/- RasterLines' walk. -/
import Derived.Test.YtkfjcgcgfdibaaaDoorLinesLaw
import Derived.Deep.RegionHeld3
import Derived.Deep.DeepCutAuto
namespace Go.Proofs.YtkfjcgcgfdibaaaDoor
open Go.RowKit
set_option maxRecDepth 100000
set_option linter.unusedSimpArgs false in
set_option maxHeartbeats 4000000 in
theorem lines_shape (X0 Y0 X1 Y1 r g b a W H : Int) (x : Option Addr) (n cap : Nat) (px : Nat → P4) (w : World) (E : Nat → Addr) (hE : Errs w E) (hx : Pxs w x n px) (hx0 : x = none → cap = 0) (hn : n ≤ 3000) (hr : rightB W H n = false) :
    Calls Tryd.prog 7 #[.agg #[.int .i64 W, .int .i64 H, .slice x n cap], .int .i64 X0, .int .i64 Y0, .int .i64 X1, .int .i64 Y1, .agg #[.int .u8 r, .int .u8 g, .int .u8 b, .int .u8 a]] w fun e w' => e = .returned (.bool true) ∧ Ext w w' := by
  have HE := Lib.hid hE
  have HX := Lib.hid hx
  have HD := Lib.hid (decide_eq_true hn)
  have HR := Lib.hid hr
  have HX0 := Lib.hid hx0
  obtain ⟨nb, hf⟩ : ∃ nb, nearAll (rf X0 Y0 X1 Y1) 4 = nb := ⟨_, rfl⟩
  have HF := Lib.hid hf
  clear hE hx hr hx0 hf
  go_enter Tryd.func7, Tryd.ntmps7
  go_wp2_with fail
  refine calls_world (fun wz => Ext w wz ∧ wz.heap.size = w.heap.size + 1 + 1 ∧ Bk wz (w.heap.size) #[.int .i64 W, .int .i64 H, .slice x n cap] ∧ Bk wz (w.heap.size + 1) #[.int .u8 r, .int .u8 g, .int .u8 b, .int .u8 a]) ⟨by repeat (first | exact Ext.refl _ | refine Ext.alloc ?_ _), by simp, by repeat (first | exact Bk.at (by simp) | refine Bk.old ?_), by repeat (first | exact Bk.at (by simp) | refine Bk.old ?_)⟩ ?_
  rintro w1 ⟨hX, hZ, hB0, hB1⟩
  have X_1 := Lib.hid hX
  have B_1 := Lib.hid hB0
  have Q_1 := Lib.hid hB1
  clear hX hZ hB0 hB1
  refine (plainly_any _).mono ?_
  rintro e w2 ⟨rfl, h⟩
  have X_2 := Lib.hid (X_1.out.trans h)
  have B_2 := Lib.hid (B_1.out.ext h)
  have Q_2 := Lib.hid (Q_1.out.ext h)
  clear h
  clear X_1 B_1 Q_1
  have k0 := B_2.out.cell 0
  have k1 := B_2.out.cell 1
  have k2 := B_2.out.cell 2
  go_wp2_with fail
  refine (small_any _ _ _ _ _ _ (by unfold maxLen; omega)).mono ?_
  rintro e w3 ⟨rfl, h⟩
  have X_3 := Lib.hid (X_2.out.trans h)
  have B_3 := Lib.hid (B_2.out.ext h)
  have Q_3 := Lib.hid (Q_2.out.ext h)
  clear h
  clear X_2 B_2 Q_2 k0 k1 k2
  rw [HD.out]
  go_upto_region 4 with fail
  go_cut [14, 15] (fun s14 s15 wx => ∃ T, s14 = .pointer (some ⟨T, 0, none⟩) ∧ s15 = .iface 171 (.pointer (some (E 2))) ∧ Hid (Ext w wx) ∧ Hid (Bk wx w.heap.size #[.int .i64 W, .int .i64 H, .slice x n cap]) ∧ Hid (Bk wx (w.heap.size + 1) #[.int .u8 r, .int .u8 g, .int .u8 b, .int .u8 a]) ∧ Hid (Bk wx T #[.int .i64 0, .int .i64 0, .slice none 0 0]))
  case first =>
    have k0 := B_3.out.cell 0
    have k1 := B_3.out.cell 1
    have k2 := B_3.out.cell 2
    have k3 := Q_3.out.cell 0
    have k4 := Q_3.out.cell 1
    have k5 := Q_3.out.cell 2
    have k6 := Q_3.out.cell 3
    refine wp_region_held_drew (S := fun w' => w'.cell? ⟨w.heap.size, 0, none⟩ = some (.int .i64 W) ∧ w'.cell? ⟨w.heap.size, 1, none⟩ = some (.int .i64 H) ∧ w'.cell? ⟨w.heap.size, 2, none⟩ = some (.slice x n cap) ∧ w'.cell? ⟨w.heap.size + 1, 0, none⟩ = some (.int .u8 r) ∧ w'.cell? ⟨w.heap.size + 1, 1, none⟩ = some (.int .u8 g) ∧ w'.cell? ⟨w.heap.size + 1, 2, none⟩ = some (.int .u8 b) ∧ w'.cell? ⟨w.heap.size + 1, 3, none⟩ = some (.int .u8 a)) (by kernel_rfl) ⟨k0, k1, k2, k3, k4, k5, k6⟩ (fun hHeld => ?_)
    refine wpAnyH_take (i := 0) (v := ?_) rfl (by kernel_rfl) (by kernel_rfl) (by kernel_rfl) (fun _ _ _ h => h) (Or.inl ⟨by kernel_rfl, ?_⟩) hHeld ?_
    rotate_left
    · intro w hSw
      (try dsimp only at hSw)
      go_split_ands
      go_simp
      (try with_reducible rfl)
    try simp only [Act.put, List.setIfInBounds_toArray, List.set_cons_zero, List.set_cons_succ]
    refine wpAnyH_take (i := 2) (v := ?_) rfl (by kernel_rfl) (by kernel_rfl) (by kernel_rfl) (fun _ _ _ h => h) (Or.inl ⟨by kernel_rfl, ?_⟩) hHeld ?_
    rotate_left
    · intro w hSw
      (try dsimp only at hSw)
      go_split_ands
      go_simp
      (try with_reducible rfl)
    try simp only [Act.put, List.setIfInBounds_toArray, List.set_cons_zero, List.set_cons_succ]
    refine wpAnyH_take (i := 3) (v := ?_) rfl (by kernel_rfl) (by kernel_rfl) (by kernel_rfl) (fun _ _ _ h => h) (Or.inl ⟨by kernel_rfl, ?_⟩) hHeld ?_
    rotate_left
    · intro w hSw
      (try dsimp only at hSw)
      go_split_ands
      go_simp
      (try with_reducible rfl)
    try simp only [Act.put, List.setIfInBounds_toArray, List.set_cons_zero, List.set_cons_succ]
    refine wpAnyH_take (i := 4) (v := ?_) rfl (by kernel_rfl) (by kernel_rfl) (by kernel_rfl) (fun _ _ _ h => h) (Or.inl ⟨by kernel_rfl, ?_⟩) hHeld ?_
    rotate_left
    · intro w hSw
      (try dsimp only at hSw)
      go_split_ands
      go_simp
      (try with_reducible rfl)
    try simp only [Act.put, List.setIfInBounds_toArray, List.set_cons_zero, List.set_cons_succ]
    refine wpAnyH_take (i := 5) (v := ?_) rfl (by kernel_rfl) (by kernel_rfl) (by kernel_rfl) (fun _ _ _ h => h) (Or.inl ⟨by kernel_rfl, ?_⟩) hHeld ?_
    rotate_left
    · intro w hSw
      (try dsimp only at hSw)
      go_split_ands
      go_simp
      (try with_reducible rfl)
    try simp only [Act.put, List.setIfInBounds_toArray, List.set_cons_zero, List.set_cons_succ]
    refine wpAnyH_take (i := 6) (v := ?_) rfl (by kernel_rfl) (by kernel_rfl) (by kernel_rfl) (fun _ _ _ h => h) (Or.inl ⟨by kernel_rfl, ?_⟩) hHeld ?_
    rotate_left
    · intro w hSw
      (try dsimp only at hSw)
      go_split_ands
      go_simp
      (try with_reducible rfl)
    try simp only [Act.put, List.setIfInBounds_toArray, List.set_cons_zero, List.set_cons_succ]
    refine wpAnyH_ready (rs := [1, 11]) (by kernel_rfl) (by simp) ?_
    refine AllReadyH.cons rfl (fun K hK => ?_) (AllReadyH.cons rfl (fun K hK => ?_) AllReadyH.nil)
    · clear hHeld
      go_simp
      refine (own_x _ _ x n cap px _ (HX.out.ext (X_3.out.trans (show Ext w3 w3.drew from Below.drew (Ext.refl w3)))) HX0.out (by omega)).mono ?_
      rintro e w5 ⟨⟨ox, oc, rfl, hox, _⟩, hx5⟩
      have ha : Ext w3 w5 := Ext.trans (show Ext w3 w3.drew from Below.drew (Ext.refl w3)) hx5
      have OX := Lib.hid hox
      clear hox
      go_simp
      refine hK.out _ _ ⟨(B_3.out.ext ha).cell 0, (B_3.out.ext ha).cell 1, (B_3.out.ext ha).cell 2, (Q_3.out.ext ha).cell 0, (Q_3.out.ext ha).cell 1, (Q_3.out.ext ha).cell 2, (Q_3.out.ext ha).cell 3⟩ (fun hHeld => ?_)
      clear hK K
      try simp only [Act.put, List.setIfInBounds_toArray, List.set_cons_zero, List.set_cons_succ]
      refine wpAnyH_ready (rs := [7, 11]) (by kernel_rfl) (by simp) ?_
      refine AllReadyH.cons rfl (fun K hK => ?_) (AllReadyH.cons rfl (fun K hK => ?_) AllReadyH.nil)
      · clear hHeld
        go_simp
        refine (line_shape X0 Y0 X1 Y1 r g b a _ _ _ _ _ E _ (HE.out.ext (X_3.out.trans ha)) HR.out).mono ?_
        rintro e w6 ⟨rfl, hx6⟩
        have hb6 : Ext w3 w6 := Ext.trans ha hx6
        go_simp
        refine hK.out _ _ ⟨(B_3.out.ext hb6).cell 0, (B_3.out.ext hb6).cell 1, (B_3.out.ext hb6).cell 2, (Q_3.out.ext hb6).cell 0, (Q_3.out.ext hb6).cell 1, (Q_3.out.ext hb6).cell 2, (Q_3.out.ext hb6).cell 3⟩ (fun hHeld => ?_)
        clear hK K
        try simp only [Act.put, List.setIfInBounds_toArray, List.set_cons_zero, List.set_cons_succ]
        refine wpAnyH_take (i := 8) (v := ?_) rfl (by kernel_rfl) (by kernel_rfl) (by kernel_rfl) (fun _ _ _ h => h) (Or.inl ⟨by kernel_rfl, ?_⟩) hHeld ?_
        rotate_left
        · intro w hSw
          (try dsimp only at hSw)
          go_split_ands
          go_simp
          (try with_reducible rfl)
        try simp only [Act.put, List.setIfInBounds_toArray, List.set_cons_zero, List.set_cons_succ]
        refine wpAnyH_take (i := 9) (v := ?_) rfl (by kernel_rfl) (by kernel_rfl) (by kernel_rfl) (fun _ _ _ h => h) (Or.inl ⟨by kernel_rfl, ?_⟩) hHeld ?_
        rotate_left
        · intro w hSw
          (try dsimp only at hSw)
          go_split_ands
          go_simp
          (try with_reducible rfl)
        try simp only [Act.put, List.setIfInBounds_toArray, List.set_cons_zero, List.set_cons_succ]
        refine wpAnyH_take (i := 10) (v := ?_) rfl (by kernel_rfl) (by kernel_rfl) (by kernel_rfl) (fun _ _ _ h => h) (Or.inl ⟨by kernel_rfl, ?_⟩) hHeld ?_
        rotate_left
        · intro w hSw
          (try dsimp only at hSw)
          go_split_ands
          go_simp
          (try with_reducible rfl)
        try simp only [Act.put, List.setIfInBounds_toArray, List.set_cons_zero, List.set_cons_succ]
        refine wpAnyH_ready (rs := [11]) (by kernel_rfl) (by simp) ?_
        refine AllReadyH.cons rfl (fun K hK => ?_) AllReadyH.nil
        clear hHeld
        go_simp
        refine hK.out _ _ ⟨(B_3.out.ext (Ext.alloc hb6 _)).cell 0, (B_3.out.ext (Ext.alloc hb6 _)).cell 1, (B_3.out.ext (Ext.alloc hb6 _)).cell 2, (Q_3.out.ext (Ext.alloc hb6 _)).cell 0, (Q_3.out.ext (Ext.alloc hb6 _)).cell 1, (Q_3.out.ext (Ext.alloc hb6 _)).cell 2, (Q_3.out.ext (Ext.alloc hb6 _)).cell 3⟩ (fun hHeld => ?_)
        clear hK K
        try simp only [Act.put, List.setIfInBounds_toArray, List.set_cons_zero, List.set_cons_succ]
        refine wpAnyH_ready (rs := [12]) (by kernel_rfl) (by simp) ?_
        refine AllReadyH.cons rfl (fun K hK => ?_) AllReadyH.nil
        clear hHeld
        go_simp
        refine hK.out _ _ ⟨(B_3.out.ext (Ext.alloc hb6 _)).cell 0, (B_3.out.ext (Ext.alloc hb6 _)).cell 1, (B_3.out.ext (Ext.alloc hb6 _)).cell 2, (Q_3.out.ext (Ext.alloc hb6 _)).cell 0, (Q_3.out.ext (Ext.alloc hb6 _)).cell 1, (Q_3.out.ext (Ext.alloc hb6 _)).cell 2, (Q_3.out.ext (Ext.alloc hb6 _)).cell 3⟩ (fun hHeld => ?_)
        clear hK K
        try simp only [Act.put, List.setIfInBounds_toArray, List.set_cons_zero, List.set_cons_succ]
        refine wpAnyH_ready (rs := [13]) (by kernel_rfl) (by simp) ?_
        refine AllReadyH.cons rfl (fun K hK => ?_) AllReadyH.nil
        clear hHeld
        go_simp
        refine hK.out _ _ ⟨(B_3.out.ext (Ext.alloc hb6 _)).cell 0, (B_3.out.ext (Ext.alloc hb6 _)).cell 1, (B_3.out.ext (Ext.alloc hb6 _)).cell 2, (Q_3.out.ext (Ext.alloc hb6 _)).cell 0, (Q_3.out.ext (Ext.alloc hb6 _)).cell 1, (Q_3.out.ext (Ext.alloc hb6 _)).cell 2, (Q_3.out.ext (Ext.alloc hb6 _)).cell 3⟩ (fun hHeld => ?_)
        clear hK K
        try simp only [Act.put, List.setIfInBounds_toArray, List.set_cons_zero, List.set_cons_succ]
        refine wpAnyH_done (by kernel_rfl) ?_ _
        clear hHeld
        (try go_wp2_with fail)
        go_meet
        exact ⟨w6.heap.size, rfl, rfl, Lib.hid (X_3.out.trans (Ext.alloc hb6 _)), Lib.hid (B_3.out.ext (Ext.alloc hb6 _)), Lib.hid (Q_3.out.ext (Ext.alloc hb6 _)), Lib.hid (Bk.at rfl)⟩
      · clear hHeld
        go_simp
        refine hK.out _ _ ⟨(B_3.out.ext (Ext.alloc ha _)).cell 0, (B_3.out.ext (Ext.alloc ha _)).cell 1, (B_3.out.ext (Ext.alloc ha _)).cell 2, (Q_3.out.ext (Ext.alloc ha _)).cell 0, (Q_3.out.ext (Ext.alloc ha _)).cell 1, (Q_3.out.ext (Ext.alloc ha _)).cell 2, (Q_3.out.ext (Ext.alloc ha _)).cell 3⟩ (fun hHeld => ?_)
        clear hK K
        try simp only [Act.put, List.setIfInBounds_toArray, List.set_cons_zero, List.set_cons_succ]
        refine wpAnyH_ready (rs := [7]) (by kernel_rfl) (by simp) ?_
        refine AllReadyH.cons rfl (fun K hK => ?_) AllReadyH.nil
        clear hHeld
        go_simp
        refine (line_shape X0 Y0 X1 Y1 r g b a _ _ _ _ _ E _ (HE.out.ext (X_3.out.trans (Ext.alloc ha _))) HR.out).mono ?_
        rintro e w6 ⟨rfl, hx6⟩
        have hb6 : Ext w3 w6 := Ext.trans (Ext.alloc ha _) hx6
        have BT := Lib.hid (Bk.ext (b := w5.heap.size) (cs := #[.int .i64 0, .int .i64 0, .slice none 0 0]) (Bk.at rfl) hx6)
        have t0 := BT.out.cell 0
        have t1 := BT.out.cell 1
        have t2 := BT.out.cell 2
        have f0 := BT.out.frozen 0
        have f1 := BT.out.frozen 1
        have f2 := BT.out.frozen 2
        go_simp
        refine hK.out _ _ ⟨(B_3.out.ext hb6).cell 0, (B_3.out.ext hb6).cell 1, (B_3.out.ext hb6).cell 2, (Q_3.out.ext hb6).cell 0, (Q_3.out.ext hb6).cell 1, (Q_3.out.ext hb6).cell 2, (Q_3.out.ext hb6).cell 3⟩ (fun hHeld => ?_)
        clear hK K
        try simp only [Act.put, List.setIfInBounds_toArray, List.set_cons_zero, List.set_cons_succ]
        refine wpAnyH_take (i := 8) (v := ?_) rfl (by kernel_rfl) (by kernel_rfl) (by kernel_rfl) (fun _ _ _ h => h) (Or.inl ⟨by kernel_rfl, ?_⟩) hHeld ?_
        rotate_left
        · intro w hSw
          (try dsimp only at hSw)
          go_split_ands
          go_simp
          (try with_reducible rfl)
        try simp only [Act.put, List.setIfInBounds_toArray, List.set_cons_zero, List.set_cons_succ]
        refine wpAnyH_take (i := 9) (v := ?_) rfl (by kernel_rfl) (by kernel_rfl) (by kernel_rfl) (fun _ _ _ h => h) (Or.inl ⟨by kernel_rfl, ?_⟩) hHeld ?_
        rotate_left
        · intro w hSw
          (try dsimp only at hSw)
          go_split_ands
          go_simp
          (try with_reducible rfl)
        try simp only [Act.put, List.setIfInBounds_toArray, List.set_cons_zero, List.set_cons_succ]
        refine wpAnyH_take (i := 10) (v := ?_) rfl (by kernel_rfl) (by kernel_rfl) (by kernel_rfl) (fun _ _ _ h => h) (Or.inl ⟨by kernel_rfl, ?_⟩) hHeld ?_
        rotate_left
        · intro w hSw
          (try dsimp only at hSw)
          go_split_ands
          go_simp
          (try with_reducible rfl)
        try simp only [Act.put, List.setIfInBounds_toArray, List.set_cons_zero, List.set_cons_succ]
        have SF := Lib.hid (set3_all (x' := .int .i64 0) (y' := .int .i64 0) (z' := .slice none 0 0) hb6 ha.size BT.out)
        refine wpAnyH_ready (rs := [12]) (by kernel_rfl) (by simp) ?_
        refine AllReadyH.cons rfl (fun K hK => ?_) AllReadyH.nil
        clear hHeld
        go_simp
        refine hK.out _ _ ⟨(B_3.out.ext SF.out.1).cell 0, (B_3.out.ext SF.out.1).cell 1, (B_3.out.ext SF.out.1).cell 2, (Q_3.out.ext SF.out.1).cell 0, (Q_3.out.ext SF.out.1).cell 1, (Q_3.out.ext SF.out.1).cell 2, (Q_3.out.ext SF.out.1).cell 3⟩ (fun hHeld => ?_)
        clear hK K
        try simp only [Act.put, List.setIfInBounds_toArray, List.set_cons_zero, List.set_cons_succ]
        refine wpAnyH_ready (rs := [13]) (by kernel_rfl) (by simp) ?_
        refine AllReadyH.cons rfl (fun K hK => ?_) AllReadyH.nil
        clear hHeld
        go_simp
        refine hK.out _ _ ⟨(B_3.out.ext SF.out.1).cell 0, (B_3.out.ext SF.out.1).cell 1, (B_3.out.ext SF.out.1).cell 2, (Q_3.out.ext SF.out.1).cell 0, (Q_3.out.ext SF.out.1).cell 1, (Q_3.out.ext SF.out.1).cell 2, (Q_3.out.ext SF.out.1).cell 3⟩ (fun hHeld => ?_)
        clear hK K
        try simp only [Act.put, List.setIfInBounds_toArray, List.set_cons_zero, List.set_cons_succ]
        refine wpAnyH_done (by kernel_rfl) ?_ _
        clear hHeld
        (try go_wp2_with fail)
        go_meet
        exact ⟨w5.heap.size, rfl, rfl, Lib.hid (X_3.out.trans SF.out.1), Lib.hid (B_3.out.ext SF.out.1), Lib.hid (Q_3.out.ext SF.out.1), Lib.hid SF.out.2.1⟩
    · clear hHeld
      go_simp
      refine hK.out _ _ ⟨(B_3.out.ext (Ext.alloc (show Ext w3 w3.drew from Below.drew (Ext.refl w3)) _)).cell 0, (B_3.out.ext (Ext.alloc (show Ext w3 w3.drew from Below.drew (Ext.refl w3)) _)).cell 1, (B_3.out.ext (Ext.alloc (show Ext w3 w3.drew from Below.drew (Ext.refl w3)) _)).cell 2, (Q_3.out.ext (Ext.alloc (show Ext w3 w3.drew from Below.drew (Ext.refl w3)) _)).cell 0, (Q_3.out.ext (Ext.alloc (show Ext w3 w3.drew from Below.drew (Ext.refl w3)) _)).cell 1, (Q_3.out.ext (Ext.alloc (show Ext w3 w3.drew from Below.drew (Ext.refl w3)) _)).cell 2, (Q_3.out.ext (Ext.alloc (show Ext w3 w3.drew from Below.drew (Ext.refl w3)) _)).cell 3⟩ (fun hHeld => ?_)
      clear hK K
      try simp only [Act.put, List.setIfInBounds_toArray, List.set_cons_zero, List.set_cons_succ]
      refine wpAnyH_ready (rs := [1]) (by kernel_rfl) (by simp) ?_
      refine AllReadyH.cons rfl (fun K hK => ?_) AllReadyH.nil
      clear hHeld
      go_simp
      refine (own_x _ _ x n cap px _ (HX.out.ext (X_3.out.trans (Ext.alloc (show Ext w3 w3.drew from Below.drew (Ext.refl w3)) _))) HX0.out (by omega)).mono ?_
      rintro e w5 ⟨⟨ox, oc, rfl, hox, _⟩, hx5⟩
      have ha : Ext w3 w5 := Ext.trans (Ext.alloc (show Ext w3 w3.drew from Below.drew (Ext.refl w3)) _) hx5
      have OX := Lib.hid hox
      clear hox
      have BT0 := Lib.hid (Bk.ext (b := w3.heap.size) (cs := #[.int .i64 0, .int .i64 0, .slice none 0 0]) (Bk.at (w := w3.drew) rfl) hx5)
      go_simp
      refine hK.out _ _ ⟨(B_3.out.ext ha).cell 0, (B_3.out.ext ha).cell 1, (B_3.out.ext ha).cell 2, (Q_3.out.ext ha).cell 0, (Q_3.out.ext ha).cell 1, (Q_3.out.ext ha).cell 2, (Q_3.out.ext ha).cell 3⟩ (fun hHeld => ?_)
      clear hK K
      try simp only [Act.put, List.setIfInBounds_toArray, List.set_cons_zero, List.set_cons_succ]
      refine wpAnyH_ready (rs := [7]) (by kernel_rfl) (by simp) ?_
      refine AllReadyH.cons rfl (fun K hK => ?_) AllReadyH.nil
      clear hHeld
      go_simp
      refine (line_shape X0 Y0 X1 Y1 r g b a _ _ _ _ _ E _ (HE.out.ext (X_3.out.trans ha)) HR.out).mono ?_
      rintro e w6 ⟨rfl, hx6⟩
      have hb6 : Ext w3 w6 := Ext.trans ha hx6
      have BT := Lib.hid (Bk.ext (b := w3.heap.size) (cs := #[.int .i64 0, .int .i64 0, .slice none 0 0]) BT0.out hx6)
      have t0 := BT.out.cell 0
      have t1 := BT.out.cell 1
      have t2 := BT.out.cell 2
      have f0 := BT.out.frozen 0
      have f1 := BT.out.frozen 1
      have f2 := BT.out.frozen 2
      go_simp
      refine hK.out _ _ ⟨(B_3.out.ext hb6).cell 0, (B_3.out.ext hb6).cell 1, (B_3.out.ext hb6).cell 2, (Q_3.out.ext hb6).cell 0, (Q_3.out.ext hb6).cell 1, (Q_3.out.ext hb6).cell 2, (Q_3.out.ext hb6).cell 3⟩ (fun hHeld => ?_)
      clear hK K
      try simp only [Act.put, List.setIfInBounds_toArray, List.set_cons_zero, List.set_cons_succ]
      refine wpAnyH_take (i := 8) (v := ?_) rfl (by kernel_rfl) (by kernel_rfl) (by kernel_rfl) (fun _ _ _ h => h) (Or.inl ⟨by kernel_rfl, ?_⟩) hHeld ?_
      rotate_left
      · intro w hSw
        (try dsimp only at hSw)
        go_split_ands
        go_simp
        (try with_reducible rfl)
      try simp only [Act.put, List.setIfInBounds_toArray, List.set_cons_zero, List.set_cons_succ]
      refine wpAnyH_take (i := 9) (v := ?_) rfl (by kernel_rfl) (by kernel_rfl) (by kernel_rfl) (fun _ _ _ h => h) (Or.inl ⟨by kernel_rfl, ?_⟩) hHeld ?_
      rotate_left
      · intro w hSw
        (try dsimp only at hSw)
        go_split_ands
        go_simp
        (try with_reducible rfl)
      try simp only [Act.put, List.setIfInBounds_toArray, List.set_cons_zero, List.set_cons_succ]
      refine wpAnyH_take (i := 10) (v := ?_) rfl (by kernel_rfl) (by kernel_rfl) (by kernel_rfl) (fun _ _ _ h => h) (Or.inl ⟨by kernel_rfl, ?_⟩) hHeld ?_
      rotate_left
      · intro w hSw
        (try dsimp only at hSw)
        go_split_ands
        go_simp
        (try with_reducible rfl)
      try simp only [Act.put, List.setIfInBounds_toArray, List.set_cons_zero, List.set_cons_succ]
      have SF := Lib.hid (set3_all (x' := .int .i64 0) (y' := .int .i64 0) (z' := .slice none 0 0) hb6 (Nat.le_refl _) BT.out)
      refine wpAnyH_ready (rs := [12]) (by kernel_rfl) (by simp) ?_
      refine AllReadyH.cons rfl (fun K hK => ?_) AllReadyH.nil
      clear hHeld
      go_simp
      refine hK.out _ _ ⟨(B_3.out.ext SF.out.1).cell 0, (B_3.out.ext SF.out.1).cell 1, (B_3.out.ext SF.out.1).cell 2, (Q_3.out.ext SF.out.1).cell 0, (Q_3.out.ext SF.out.1).cell 1, (Q_3.out.ext SF.out.1).cell 2, (Q_3.out.ext SF.out.1).cell 3⟩ (fun hHeld => ?_)
      clear hK K
      try simp only [Act.put, List.setIfInBounds_toArray, List.set_cons_zero, List.set_cons_succ]
      refine wpAnyH_ready (rs := [13]) (by kernel_rfl) (by simp) ?_
      refine AllReadyH.cons rfl (fun K hK => ?_) AllReadyH.nil
      clear hHeld
      go_simp
      refine hK.out _ _ ⟨(B_3.out.ext SF.out.1).cell 0, (B_3.out.ext SF.out.1).cell 1, (B_3.out.ext SF.out.1).cell 2, (Q_3.out.ext SF.out.1).cell 0, (Q_3.out.ext SF.out.1).cell 1, (Q_3.out.ext SF.out.1).cell 2, (Q_3.out.ext SF.out.1).cell 3⟩ (fun hHeld => ?_)
      clear hK K
      try simp only [Act.put, List.setIfInBounds_toArray, List.set_cons_zero, List.set_cons_succ]
      refine wpAnyH_done (by kernel_rfl) ?_ _
      clear hHeld
      (try go_wp2_with fail)
      go_meet
      exact ⟨w3.heap.size, rfl, rfl, Lib.hid (X_3.out.trans SF.out.1), Lib.hid (B_3.out.ext SF.out.1), Lib.hid (Q_3.out.ext SF.out.1), Lib.hid SF.out.2.1⟩
  case rest =>
    obtain ⟨T, rfl, rfl, X_4, B_4, Q_4, F_4⟩ := hcut
    clear X_3 B_3 Q_3
    go_upto_region 6 with fail
    go_cut [54] (fun s54 wx => s54 = .bool (!nearAll (rf X0 Y0 X1 Y1) 4) ∧ Hid (Ext w wx) ∧ Hid (Bk wx w.heap.size #[.int .i64 W, .int .i64 H, .slice x n cap]) ∧ Hid (Bk wx (w.heap.size + 1) #[.int .u8 r, .int .u8 g, .int .u8 b, .int .u8 a]) ∧ Hid (Bk wx T #[.int .i64 0, .int .i64 0, .slice none 0 0]))
    case first =>
      go_wp2_with fail
      refine (refNear_any X0 _).mono ?_
      rintro e w9 ⟨rfl, rfl⟩
      cases n0 : nearB X0
      · have NV : Hid (nearAll (rf X0 Y0 X1 Y1) 4 = false) := Lib.hid (by simp [nearAll, rf, n0])
        go_wp2_with fail
        go_meet
        exact ⟨by rw [NV.out]; rfl, X_4, B_4, Q_4, F_4⟩
      · go_wp2_with fail
        refine (refNear_any Y0 _).mono ?_
        rintro e w9 ⟨rfl, rfl⟩
        cases n1 : nearB Y0
        · have NV : Hid (nearAll (rf X0 Y0 X1 Y1) 4 = false) := Lib.hid (by simp [nearAll, rf, n0, n1])
          go_wp2_with fail
          go_meet
          exact ⟨by rw [NV.out]; rfl, X_4, B_4, Q_4, F_4⟩
        · go_wp2_with fail
          refine (refNear_any X1 _).mono ?_
          rintro e w9 ⟨rfl, rfl⟩
          cases n2 : nearB X1
          · have NV : Hid (nearAll (rf X0 Y0 X1 Y1) 4 = false) := Lib.hid (by simp [nearAll, rf, n0, n1, n2])
            go_wp2_with fail
            go_meet
            exact ⟨by rw [NV.out]; rfl, X_4, B_4, Q_4, F_4⟩
          · go_wp2_with fail
            refine (refNear_any Y1 _).mono ?_
            rintro e w9 ⟨rfl, rfl⟩
            cases n3 : nearB Y1
            · have NV : Hid (nearAll (rf X0 Y0 X1 Y1) 4 = false) := Lib.hid (by simp [nearAll, rf, n0, n1, n2, n3])
              go_wp2_with fail
              go_meet
              exact ⟨by rw [NV.out]; rfl, X_4, B_4, Q_4, F_4⟩
            · have NV : Hid (nearAll (rf X0 Y0 X1 Y1) 4 = true) := Lib.hid (by simp [nearAll, rf, n0, n1, n2, n3])
              go_wp2_with fail
              go_meet
              exact ⟨by rw [NV.out]; rfl, X_4, B_4, Q_4, F_4⟩
    case rest =>
      obtain ⟨rfl, X_5, B_5, Q_5, F_5⟩ := hcut
      clear X_4 B_4 Q_4 F_4
      rw [HF.out]
      clear HF
      cases nb
      · have k0 := B_5.out.cell 0
        have k1 := B_5.out.cell 1
        have k2 := B_5.out.cell 2
        go_wp2_with fail
        refine (refRight_any _ _ _ _ _ _).mono ?_
        rintro e w25 ⟨rfl, h⟩
        have X_6 := Lib.hid (X_5.out.trans h)
        have B_6 := Lib.hid (B_5.out.ext h)
        have Q_6 := Lib.hid (Q_5.out.ext h)
        have F_6 := Lib.hid (F_5.out.ext h)
        clear h
        clear X_5 B_5 Q_5 F_5
        clear k0 k1 k2
        rw [HR.out]
        have k0 := F_6.out.cell 0
        have k1 := F_6.out.cell 1
        have k2 := F_6.out.cell 2
        have k3 := B_6.out.cell 0
        have k4 := B_6.out.cell 1
        have k5 := B_6.out.cell 2
        go_wp2_with fail
        refine (told_err _ 2 _ _ _ _ _ _ E (HE.out.ext X_6.out) (.sent 2 (by decide))).mono ?_
        rintro e w26 ⟨rfl, h⟩
        have X_7 := Lib.hid (X_6.out.trans h)
        have B_7 := Lib.hid (B_6.out.ext h)
        have Q_7 := Lib.hid (Q_6.out.ext h)
        have F_7 := Lib.hid (F_6.out.ext h)
        clear h
        clear X_6 B_6 Q_6 F_6
        clear k0 k1 k2 k3 k4 k5
        go_wp2_with fail
        go_ret
        exact ⟨rfl, X_7.out⟩
      · have k0 := B_5.out.cell 0
        have k1 := B_5.out.cell 1
        have k2 := B_5.out.cell 2
        go_wp2_with fail
        refine (refRight_any _ _ _ _ _ _).mono ?_
        rintro e w25 ⟨rfl, h⟩
        have X_6 := Lib.hid (X_5.out.trans h)
        have B_6 := Lib.hid (B_5.out.ext h)
        have Q_6 := Lib.hid (Q_5.out.ext h)
        have F_6 := Lib.hid (F_5.out.ext h)
        clear h
        clear X_5 B_5 Q_5 F_5
        clear k0 k1 k2
        rw [HR.out]
        have k0 := F_6.out.cell 0
        have k1 := F_6.out.cell 1
        have k2 := F_6.out.cell 2
        have k3 := B_6.out.cell 0
        have k4 := B_6.out.cell 1
        have k5 := B_6.out.cell 2
        go_wp2_with fail
        refine (told_err _ 2 _ _ _ _ _ _ E (HE.out.ext X_6.out) (.sent 2 (by decide))).mono ?_
        rintro e w26 ⟨rfl, h⟩
        have X_7 := Lib.hid (X_6.out.trans h)
        have B_7 := Lib.hid (B_6.out.ext h)
        have Q_7 := Lib.hid (Q_6.out.ext h)
        have F_7 := Lib.hid (F_6.out.ext h)
        clear h
        clear X_6 B_6 Q_6 F_6
        clear k0 k1 k2 k3 k4 k5
        go_wp2_with fail
        go_ret
        exact ⟨rfl, X_7.out⟩
set_option linter.unusedSimpArgs false in
set_option maxHeartbeats 4000000 in
theorem lines_bound (X0 Y0 X1 Y1 r g b a : Int) (W H : Nat) (ad : Addr) (cap : Nat) (px : Nat → P4) (w : World) (E : Nat → Addr) (hE : Errs w E) (hx : Pxs w (some ad) (W * H) px) (hp : (P4.mk r g b a).Ok) (hn : W * H ≤ 3000) (hr : rightB (W : Int) (H : Int) (W * H) = true) (hf : nearAll (rf X0 Y0 X1 Y1) 4 = false) :
    Calls Tryd.prog 7 #[.agg #[.int .i64 (W : Int), .int .i64 (H : Int), .slice (some ad) (W * H) cap], .int .i64 X0, .int .i64 Y0, .int .i64 X1, .int .i64 Y1, .agg #[.int .u8 r, .int .u8 g, .int .u8 b, .int .u8 a]] w fun e w' => e = .returned (.bool true) ∧ Ext w w' := by
  have HE := Lib.hid hE
  have HX := Lib.hid hx
  have HD := Lib.hid (decide_eq_true hn)
  have HR := Lib.hid hr
  have HP := Lib.hid hp
  have HF := Lib.hid hf
  obtain ⟨W', H', q1, q2, hW1, hW2, hH1, hH2, _⟩ := rightB_yes hr
  obtain rfl : W' = W := by omega
  obtain rfl : H' = H := by omega
  have HPO : Hid (0 < W' * H') := Lib.hid (Nat.mul_pos hW1 hH1)
  clear q1 q2 hE hx hp hr hf
  go_enter Tryd.func7, Tryd.ntmps7
  go_wp2_with fail
  refine calls_world (fun wz => Ext w wz ∧ wz.heap.size = w.heap.size + 1 + 1 ∧ Bk wz (w.heap.size) #[.int .i64 (W' : Int), .int .i64 (H' : Int), .slice (some ad) (W' * H') cap] ∧ Bk wz (w.heap.size + 1) #[.int .u8 r, .int .u8 g, .int .u8 b, .int .u8 a]) ⟨by repeat (first | exact Ext.refl _ | refine Ext.alloc ?_ _), by simp, by repeat (first | exact Bk.at (by simp) | refine Bk.old ?_), by repeat (first | exact Bk.at (by simp) | refine Bk.old ?_)⟩ ?_
  rintro w1 ⟨hX, hZ, hB0, hB1⟩
  have X_1 := Lib.hid hX
  have B_1 := Lib.hid hB0
  have Q_1 := Lib.hid hB1
  clear hX hZ hB0 hB1
  refine (plainly_any _).mono ?_
  rintro e w2 ⟨rfl, h⟩
  have X_2 := Lib.hid (X_1.out.trans h)
  have B_2 := Lib.hid (B_1.out.ext h)
  have Q_2 := Lib.hid (Q_1.out.ext h)
  clear h
  clear X_1 B_1 Q_1
  have k0 := B_2.out.cell 0
  have k1 := B_2.out.cell 1
  have k2 := B_2.out.cell 2
  go_wp2_with fail
  refine (small_any _ _ _ _ _ _ (by unfold maxLen; omega)).mono ?_
  rintro e w3 ⟨rfl, h⟩
  have X_3 := Lib.hid (X_2.out.trans h)
  have B_3 := Lib.hid (B_2.out.ext h)
  have Q_3 := Lib.hid (Q_2.out.ext h)
  clear h
  clear X_2 B_2 Q_2 k0 k1 k2
  rw [HD.out]
  go_upto_region 4 with fail
  go_cut [14, 15] (fun s14 s15 wx => ∃ T, s14 = .pointer (some ⟨T, 0, none⟩) ∧ s15 = .iface 171 (.pointer (some (E 1))) ∧ Hid (Ext w wx) ∧ Hid (Bk wx w.heap.size #[.int .i64 (W' : Int), .int .i64 (H' : Int), .slice (some ad) (W' * H') cap]) ∧ Hid (Bk wx (w.heap.size + 1) #[.int .u8 r, .int .u8 g, .int .u8 b, .int .u8 a]) ∧ Hid (Bk wx T #[.int .i64 0, .int .i64 0, .slice none 0 0]))
  case first =>
    have k0 := B_3.out.cell 0
    have k1 := B_3.out.cell 1
    have k2 := B_3.out.cell 2
    have k3 := Q_3.out.cell 0
    have k4 := Q_3.out.cell 1
    have k5 := Q_3.out.cell 2
    have k6 := Q_3.out.cell 3
    refine wp_region_held_drew (S := fun w' => w'.cell? ⟨w.heap.size, 0, none⟩ = some (.int .i64 (W' : Int)) ∧ w'.cell? ⟨w.heap.size, 1, none⟩ = some (.int .i64 (H' : Int)) ∧ w'.cell? ⟨w.heap.size, 2, none⟩ = some (.slice (some ad) (W' * H') cap) ∧ w'.cell? ⟨w.heap.size + 1, 0, none⟩ = some (.int .u8 r) ∧ w'.cell? ⟨w.heap.size + 1, 1, none⟩ = some (.int .u8 g) ∧ w'.cell? ⟨w.heap.size + 1, 2, none⟩ = some (.int .u8 b) ∧ w'.cell? ⟨w.heap.size + 1, 3, none⟩ = some (.int .u8 a)) (by kernel_rfl) ⟨k0, k1, k2, k3, k4, k5, k6⟩ (fun hHeld => ?_)
    refine wpAnyH_take (i := 0) (v := ?_) rfl (by kernel_rfl) (by kernel_rfl) (by kernel_rfl) (fun _ _ _ h => h) (Or.inl ⟨by kernel_rfl, ?_⟩) hHeld ?_
    rotate_left
    · intro w hSw
      (try dsimp only at hSw)
      go_split_ands
      go_simp
      (try with_reducible rfl)
    try simp only [Act.put, List.setIfInBounds_toArray, List.set_cons_zero, List.set_cons_succ]
    refine wpAnyH_take (i := 2) (v := ?_) rfl (by kernel_rfl) (by kernel_rfl) (by kernel_rfl) (fun _ _ _ h => h) (Or.inl ⟨by kernel_rfl, ?_⟩) hHeld ?_
    rotate_left
    · intro w hSw
      (try dsimp only at hSw)
      go_split_ands
      go_simp
      (try with_reducible rfl)
    try simp only [Act.put, List.setIfInBounds_toArray, List.set_cons_zero, List.set_cons_succ]
    refine wpAnyH_take (i := 3) (v := ?_) rfl (by kernel_rfl) (by kernel_rfl) (by kernel_rfl) (fun _ _ _ h => h) (Or.inl ⟨by kernel_rfl, ?_⟩) hHeld ?_
    rotate_left
    · intro w hSw
      (try dsimp only at hSw)
      go_split_ands
      go_simp
      (try with_reducible rfl)
    try simp only [Act.put, List.setIfInBounds_toArray, List.set_cons_zero, List.set_cons_succ]
    refine wpAnyH_take (i := 4) (v := ?_) rfl (by kernel_rfl) (by kernel_rfl) (by kernel_rfl) (fun _ _ _ h => h) (Or.inl ⟨by kernel_rfl, ?_⟩) hHeld ?_
    rotate_left
    · intro w hSw
      (try dsimp only at hSw)
      go_split_ands
      go_simp
      (try with_reducible rfl)
    try simp only [Act.put, List.setIfInBounds_toArray, List.set_cons_zero, List.set_cons_succ]
    refine wpAnyH_take (i := 5) (v := ?_) rfl (by kernel_rfl) (by kernel_rfl) (by kernel_rfl) (fun _ _ _ h => h) (Or.inl ⟨by kernel_rfl, ?_⟩) hHeld ?_
    rotate_left
    · intro w hSw
      (try dsimp only at hSw)
      go_split_ands
      go_simp
      (try with_reducible rfl)
    try simp only [Act.put, List.setIfInBounds_toArray, List.set_cons_zero, List.set_cons_succ]
    refine wpAnyH_take (i := 6) (v := ?_) rfl (by kernel_rfl) (by kernel_rfl) (by kernel_rfl) (fun _ _ _ h => h) (Or.inl ⟨by kernel_rfl, ?_⟩) hHeld ?_
    rotate_left
    · intro w hSw
      (try dsimp only at hSw)
      go_split_ands
      go_simp
      (try with_reducible rfl)
    try simp only [Act.put, List.setIfInBounds_toArray, List.set_cons_zero, List.set_cons_succ]
    refine wpAnyH_ready (rs := [1, 11]) (by kernel_rfl) (by simp) ?_
    refine AllReadyH.cons rfl (fun K hK => ?_) (AllReadyH.cons rfl (fun K hK => ?_) AllReadyH.nil)
    · clear hHeld
      go_simp
      refine (own_x _ _ (some ad) (W' * H') cap px _ (HX.out.ext (X_3.out.trans (show Ext w3 w3.drew from Below.drew (Ext.refl w3)))) (fun h => by cases h) (by omega)).mono ?_
      rintro e w5 ⟨⟨ox, oc, rfl, hox, _⟩, hx5⟩
      obtain ⟨oa, rfl⟩ := hox.isSome HPO.out
      have ha : Ext w3 w5 := Ext.trans (show Ext w3 w3.drew from Below.drew (Ext.refl w3)) hx5
      have OX := Lib.hid hox
      clear hox
      go_simp
      refine hK.out _ _ ⟨(B_3.out.ext ha).cell 0, (B_3.out.ext ha).cell 1, (B_3.out.ext ha).cell 2, (Q_3.out.ext ha).cell 0, (Q_3.out.ext ha).cell 1, (Q_3.out.ext ha).cell 2, (Q_3.out.ext ha).cell 3⟩ (fun hHeld => ?_)
      clear hK K
      try simp only [Act.put, List.setIfInBounds_toArray, List.set_cons_zero, List.set_cons_succ]
      refine wpAnyH_ready (rs := [7, 11]) (by kernel_rfl) (by simp) ?_
      refine AllReadyH.cons rfl (fun K hK => ?_) (AllReadyH.cons rfl (fun K hK => ?_) AllReadyH.nil)
      · clear hHeld
        go_simp
        refine (line_bound X0 Y0 X1 Y1 r g b a _ _ _ _ _ E _ (HE.out.ext (X_3.out.trans ha)) HF.out HR.out).mono ?_
        rintro e w6 ⟨rfl, hx6⟩
        have hb6 : Ext w3 w6 := Ext.trans ha hx6
        go_simp
        refine hK.out _ _ ⟨(B_3.out.ext hb6).cell 0, (B_3.out.ext hb6).cell 1, (B_3.out.ext hb6).cell 2, (Q_3.out.ext hb6).cell 0, (Q_3.out.ext hb6).cell 1, (Q_3.out.ext hb6).cell 2, (Q_3.out.ext hb6).cell 3⟩ (fun hHeld => ?_)
        clear hK K
        try simp only [Act.put, List.setIfInBounds_toArray, List.set_cons_zero, List.set_cons_succ]
        refine wpAnyH_take (i := 8) (v := ?_) rfl (by kernel_rfl) (by kernel_rfl) (by kernel_rfl) (fun _ _ _ h => h) (Or.inl ⟨by kernel_rfl, ?_⟩) hHeld ?_
        rotate_left
        · intro w hSw
          (try dsimp only at hSw)
          go_split_ands
          go_simp
          (try with_reducible rfl)
        try simp only [Act.put, List.setIfInBounds_toArray, List.set_cons_zero, List.set_cons_succ]
        refine wpAnyH_take (i := 9) (v := ?_) rfl (by kernel_rfl) (by kernel_rfl) (by kernel_rfl) (fun _ _ _ h => h) (Or.inl ⟨by kernel_rfl, ?_⟩) hHeld ?_
        rotate_left
        · intro w hSw
          (try dsimp only at hSw)
          go_split_ands
          go_simp
          (try with_reducible rfl)
        try simp only [Act.put, List.setIfInBounds_toArray, List.set_cons_zero, List.set_cons_succ]
        refine wpAnyH_take (i := 10) (v := ?_) rfl (by kernel_rfl) (by kernel_rfl) (by kernel_rfl) (fun _ _ _ h => h) (Or.inl ⟨by kernel_rfl, ?_⟩) hHeld ?_
        rotate_left
        · intro w hSw
          (try dsimp only at hSw)
          go_split_ands
          go_simp
          (try with_reducible rfl)
        try simp only [Act.put, List.setIfInBounds_toArray, List.set_cons_zero, List.set_cons_succ]
        refine wpAnyH_ready (rs := [11]) (by kernel_rfl) (by simp) ?_
        refine AllReadyH.cons rfl (fun K hK => ?_) AllReadyH.nil
        clear hHeld
        go_simp
        refine hK.out _ _ ⟨(B_3.out.ext (Ext.alloc hb6 _)).cell 0, (B_3.out.ext (Ext.alloc hb6 _)).cell 1, (B_3.out.ext (Ext.alloc hb6 _)).cell 2, (Q_3.out.ext (Ext.alloc hb6 _)).cell 0, (Q_3.out.ext (Ext.alloc hb6 _)).cell 1, (Q_3.out.ext (Ext.alloc hb6 _)).cell 2, (Q_3.out.ext (Ext.alloc hb6 _)).cell 3⟩ (fun hHeld => ?_)
        clear hK K
        try simp only [Act.put, List.setIfInBounds_toArray, List.set_cons_zero, List.set_cons_succ]
        refine wpAnyH_ready (rs := [12]) (by kernel_rfl) (by simp) ?_
        refine AllReadyH.cons rfl (fun K hK => ?_) AllReadyH.nil
        clear hHeld
        go_simp
        refine hK.out _ _ ⟨(B_3.out.ext (Ext.alloc hb6 _)).cell 0, (B_3.out.ext (Ext.alloc hb6 _)).cell 1, (B_3.out.ext (Ext.alloc hb6 _)).cell 2, (Q_3.out.ext (Ext.alloc hb6 _)).cell 0, (Q_3.out.ext (Ext.alloc hb6 _)).cell 1, (Q_3.out.ext (Ext.alloc hb6 _)).cell 2, (Q_3.out.ext (Ext.alloc hb6 _)).cell 3⟩ (fun hHeld => ?_)
        clear hK K
        try simp only [Act.put, List.setIfInBounds_toArray, List.set_cons_zero, List.set_cons_succ]
        refine wpAnyH_ready (rs := [13]) (by kernel_rfl) (by simp) ?_
        refine AllReadyH.cons rfl (fun K hK => ?_) AllReadyH.nil
        clear hHeld
        go_simp
        refine hK.out _ _ ⟨(B_3.out.ext (Ext.alloc hb6 _)).cell 0, (B_3.out.ext (Ext.alloc hb6 _)).cell 1, (B_3.out.ext (Ext.alloc hb6 _)).cell 2, (Q_3.out.ext (Ext.alloc hb6 _)).cell 0, (Q_3.out.ext (Ext.alloc hb6 _)).cell 1, (Q_3.out.ext (Ext.alloc hb6 _)).cell 2, (Q_3.out.ext (Ext.alloc hb6 _)).cell 3⟩ (fun hHeld => ?_)
        clear hK K
        try simp only [Act.put, List.setIfInBounds_toArray, List.set_cons_zero, List.set_cons_succ]
        refine wpAnyH_done (by kernel_rfl) ?_ _
        clear hHeld
        (try go_wp2_with fail)
        go_meet
        exact ⟨w6.heap.size, rfl, rfl, Lib.hid (X_3.out.trans (Ext.alloc hb6 _)), Lib.hid (B_3.out.ext (Ext.alloc hb6 _)), Lib.hid (Q_3.out.ext (Ext.alloc hb6 _)), Lib.hid (Bk.at rfl)⟩
      · clear hHeld
        go_simp
        refine hK.out _ _ ⟨(B_3.out.ext (Ext.alloc ha _)).cell 0, (B_3.out.ext (Ext.alloc ha _)).cell 1, (B_3.out.ext (Ext.alloc ha _)).cell 2, (Q_3.out.ext (Ext.alloc ha _)).cell 0, (Q_3.out.ext (Ext.alloc ha _)).cell 1, (Q_3.out.ext (Ext.alloc ha _)).cell 2, (Q_3.out.ext (Ext.alloc ha _)).cell 3⟩ (fun hHeld => ?_)
        clear hK K
        try simp only [Act.put, List.setIfInBounds_toArray, List.set_cons_zero, List.set_cons_succ]
        refine wpAnyH_ready (rs := [7]) (by kernel_rfl) (by simp) ?_
        refine AllReadyH.cons rfl (fun K hK => ?_) AllReadyH.nil
        clear hHeld
        go_simp
        refine (line_bound X0 Y0 X1 Y1 r g b a _ _ _ _ _ E _ (HE.out.ext (X_3.out.trans (Ext.alloc ha _))) HF.out HR.out).mono ?_
        rintro e w6 ⟨rfl, hx6⟩
        have hb6 : Ext w3 w6 := Ext.trans (Ext.alloc ha _) hx6
        have BT := Lib.hid (Bk.ext (b := w5.heap.size) (cs := #[.int .i64 0, .int .i64 0, .slice none 0 0]) (Bk.at rfl) hx6)
        have t0 := BT.out.cell 0
        have t1 := BT.out.cell 1
        have t2 := BT.out.cell 2
        have f0 := BT.out.frozen 0
        have f1 := BT.out.frozen 1
        have f2 := BT.out.frozen 2
        go_simp
        refine hK.out _ _ ⟨(B_3.out.ext hb6).cell 0, (B_3.out.ext hb6).cell 1, (B_3.out.ext hb6).cell 2, (Q_3.out.ext hb6).cell 0, (Q_3.out.ext hb6).cell 1, (Q_3.out.ext hb6).cell 2, (Q_3.out.ext hb6).cell 3⟩ (fun hHeld => ?_)
        clear hK K
        try simp only [Act.put, List.setIfInBounds_toArray, List.set_cons_zero, List.set_cons_succ]
        refine wpAnyH_take (i := 8) (v := ?_) rfl (by kernel_rfl) (by kernel_rfl) (by kernel_rfl) (fun _ _ _ h => h) (Or.inl ⟨by kernel_rfl, ?_⟩) hHeld ?_
        rotate_left
        · intro w hSw
          (try dsimp only at hSw)
          go_split_ands
          go_simp
          (try with_reducible rfl)
        try simp only [Act.put, List.setIfInBounds_toArray, List.set_cons_zero, List.set_cons_succ]
        refine wpAnyH_take (i := 9) (v := ?_) rfl (by kernel_rfl) (by kernel_rfl) (by kernel_rfl) (fun _ _ _ h => h) (Or.inl ⟨by kernel_rfl, ?_⟩) hHeld ?_
        rotate_left
        · intro w hSw
          (try dsimp only at hSw)
          go_split_ands
          go_simp
          (try with_reducible rfl)
        try simp only [Act.put, List.setIfInBounds_toArray, List.set_cons_zero, List.set_cons_succ]
        refine wpAnyH_take (i := 10) (v := ?_) rfl (by kernel_rfl) (by kernel_rfl) (by kernel_rfl) (fun _ _ _ h => h) (Or.inl ⟨by kernel_rfl, ?_⟩) hHeld ?_
        rotate_left
        · intro w hSw
          (try dsimp only at hSw)
          go_split_ands
          go_simp
          (try with_reducible rfl)
        try simp only [Act.put, List.setIfInBounds_toArray, List.set_cons_zero, List.set_cons_succ]
        have SF := Lib.hid (set3_all (x' := .int .i64 0) (y' := .int .i64 0) (z' := .slice none 0 0) hb6 ha.size BT.out)
        refine wpAnyH_ready (rs := [12]) (by kernel_rfl) (by simp) ?_
        refine AllReadyH.cons rfl (fun K hK => ?_) AllReadyH.nil
        clear hHeld
        go_simp
        refine hK.out _ _ ⟨(B_3.out.ext SF.out.1).cell 0, (B_3.out.ext SF.out.1).cell 1, (B_3.out.ext SF.out.1).cell 2, (Q_3.out.ext SF.out.1).cell 0, (Q_3.out.ext SF.out.1).cell 1, (Q_3.out.ext SF.out.1).cell 2, (Q_3.out.ext SF.out.1).cell 3⟩ (fun hHeld => ?_)
        clear hK K
        try simp only [Act.put, List.setIfInBounds_toArray, List.set_cons_zero, List.set_cons_succ]
        refine wpAnyH_ready (rs := [13]) (by kernel_rfl) (by simp) ?_
        refine AllReadyH.cons rfl (fun K hK => ?_) AllReadyH.nil
        clear hHeld
        go_simp
        refine hK.out _ _ ⟨(B_3.out.ext SF.out.1).cell 0, (B_3.out.ext SF.out.1).cell 1, (B_3.out.ext SF.out.1).cell 2, (Q_3.out.ext SF.out.1).cell 0, (Q_3.out.ext SF.out.1).cell 1, (Q_3.out.ext SF.out.1).cell 2, (Q_3.out.ext SF.out.1).cell 3⟩ (fun hHeld => ?_)
        clear hK K
        try simp only [Act.put, List.setIfInBounds_toArray, List.set_cons_zero, List.set_cons_succ]
        refine wpAnyH_done (by kernel_rfl) ?_ _
        clear hHeld
        (try go_wp2_with fail)
        go_meet
        exact ⟨w5.heap.size, rfl, rfl, Lib.hid (X_3.out.trans SF.out.1), Lib.hid (B_3.out.ext SF.out.1), Lib.hid (Q_3.out.ext SF.out.1), Lib.hid SF.out.2.1⟩
    · clear hHeld
      go_simp
      refine hK.out _ _ ⟨(B_3.out.ext (Ext.alloc (show Ext w3 w3.drew from Below.drew (Ext.refl w3)) _)).cell 0, (B_3.out.ext (Ext.alloc (show Ext w3 w3.drew from Below.drew (Ext.refl w3)) _)).cell 1, (B_3.out.ext (Ext.alloc (show Ext w3 w3.drew from Below.drew (Ext.refl w3)) _)).cell 2, (Q_3.out.ext (Ext.alloc (show Ext w3 w3.drew from Below.drew (Ext.refl w3)) _)).cell 0, (Q_3.out.ext (Ext.alloc (show Ext w3 w3.drew from Below.drew (Ext.refl w3)) _)).cell 1, (Q_3.out.ext (Ext.alloc (show Ext w3 w3.drew from Below.drew (Ext.refl w3)) _)).cell 2, (Q_3.out.ext (Ext.alloc (show Ext w3 w3.drew from Below.drew (Ext.refl w3)) _)).cell 3⟩ (fun hHeld => ?_)
      clear hK K
      try simp only [Act.put, List.setIfInBounds_toArray, List.set_cons_zero, List.set_cons_succ]
      refine wpAnyH_ready (rs := [1]) (by kernel_rfl) (by simp) ?_
      refine AllReadyH.cons rfl (fun K hK => ?_) AllReadyH.nil
      clear hHeld
      go_simp
      refine (own_x _ _ (some ad) (W' * H') cap px _ (HX.out.ext (X_3.out.trans (Ext.alloc (show Ext w3 w3.drew from Below.drew (Ext.refl w3)) _))) (fun h => by cases h) (by omega)).mono ?_
      rintro e w5 ⟨⟨ox, oc, rfl, hox, _⟩, hx5⟩
      obtain ⟨oa, rfl⟩ := hox.isSome HPO.out
      have ha : Ext w3 w5 := Ext.trans (Ext.alloc (show Ext w3 w3.drew from Below.drew (Ext.refl w3)) _) hx5
      have OX := Lib.hid hox
      clear hox
      have BT0 := Lib.hid (Bk.ext (b := w3.heap.size) (cs := #[.int .i64 0, .int .i64 0, .slice none 0 0]) (Bk.at (w := w3.drew) rfl) hx5)
      go_simp
      refine hK.out _ _ ⟨(B_3.out.ext ha).cell 0, (B_3.out.ext ha).cell 1, (B_3.out.ext ha).cell 2, (Q_3.out.ext ha).cell 0, (Q_3.out.ext ha).cell 1, (Q_3.out.ext ha).cell 2, (Q_3.out.ext ha).cell 3⟩ (fun hHeld => ?_)
      clear hK K
      try simp only [Act.put, List.setIfInBounds_toArray, List.set_cons_zero, List.set_cons_succ]
      refine wpAnyH_ready (rs := [7]) (by kernel_rfl) (by simp) ?_
      refine AllReadyH.cons rfl (fun K hK => ?_) AllReadyH.nil
      clear hHeld
      go_simp
      refine (line_bound X0 Y0 X1 Y1 r g b a _ _ _ _ _ E _ (HE.out.ext (X_3.out.trans ha)) HF.out HR.out).mono ?_
      rintro e w6 ⟨rfl, hx6⟩
      have hb6 : Ext w3 w6 := Ext.trans ha hx6
      have BT := Lib.hid (Bk.ext (b := w3.heap.size) (cs := #[.int .i64 0, .int .i64 0, .slice none 0 0]) BT0.out hx6)
      have t0 := BT.out.cell 0
      have t1 := BT.out.cell 1
      have t2 := BT.out.cell 2
      have f0 := BT.out.frozen 0
      have f1 := BT.out.frozen 1
      have f2 := BT.out.frozen 2
      go_simp
      refine hK.out _ _ ⟨(B_3.out.ext hb6).cell 0, (B_3.out.ext hb6).cell 1, (B_3.out.ext hb6).cell 2, (Q_3.out.ext hb6).cell 0, (Q_3.out.ext hb6).cell 1, (Q_3.out.ext hb6).cell 2, (Q_3.out.ext hb6).cell 3⟩ (fun hHeld => ?_)
      clear hK K
      try simp only [Act.put, List.setIfInBounds_toArray, List.set_cons_zero, List.set_cons_succ]
      refine wpAnyH_take (i := 8) (v := ?_) rfl (by kernel_rfl) (by kernel_rfl) (by kernel_rfl) (fun _ _ _ h => h) (Or.inl ⟨by kernel_rfl, ?_⟩) hHeld ?_
      rotate_left
      · intro w hSw
        (try dsimp only at hSw)
        go_split_ands
        go_simp
        (try with_reducible rfl)
      try simp only [Act.put, List.setIfInBounds_toArray, List.set_cons_zero, List.set_cons_succ]
      refine wpAnyH_take (i := 9) (v := ?_) rfl (by kernel_rfl) (by kernel_rfl) (by kernel_rfl) (fun _ _ _ h => h) (Or.inl ⟨by kernel_rfl, ?_⟩) hHeld ?_
      rotate_left
      · intro w hSw
        (try dsimp only at hSw)
        go_split_ands
        go_simp
        (try with_reducible rfl)
      try simp only [Act.put, List.setIfInBounds_toArray, List.set_cons_zero, List.set_cons_succ]
      refine wpAnyH_take (i := 10) (v := ?_) rfl (by kernel_rfl) (by kernel_rfl) (by kernel_rfl) (fun _ _ _ h => h) (Or.inl ⟨by kernel_rfl, ?_⟩) hHeld ?_
      rotate_left
      · intro w hSw
        (try dsimp only at hSw)
        go_split_ands
        go_simp
        (try with_reducible rfl)
      try simp only [Act.put, List.setIfInBounds_toArray, List.set_cons_zero, List.set_cons_succ]
      have SF := Lib.hid (set3_all (x' := .int .i64 0) (y' := .int .i64 0) (z' := .slice none 0 0) hb6 (Nat.le_refl _) BT.out)
      refine wpAnyH_ready (rs := [12]) (by kernel_rfl) (by simp) ?_
      refine AllReadyH.cons rfl (fun K hK => ?_) AllReadyH.nil
      clear hHeld
      go_simp
      refine hK.out _ _ ⟨(B_3.out.ext SF.out.1).cell 0, (B_3.out.ext SF.out.1).cell 1, (B_3.out.ext SF.out.1).cell 2, (Q_3.out.ext SF.out.1).cell 0, (Q_3.out.ext SF.out.1).cell 1, (Q_3.out.ext SF.out.1).cell 2, (Q_3.out.ext SF.out.1).cell 3⟩ (fun hHeld => ?_)
      clear hK K
      try simp only [Act.put, List.setIfInBounds_toArray, List.set_cons_zero, List.set_cons_succ]
      refine wpAnyH_ready (rs := [13]) (by kernel_rfl) (by simp) ?_
      refine AllReadyH.cons rfl (fun K hK => ?_) AllReadyH.nil
      clear hHeld
      go_simp
      refine hK.out _ _ ⟨(B_3.out.ext SF.out.1).cell 0, (B_3.out.ext SF.out.1).cell 1, (B_3.out.ext SF.out.1).cell 2, (Q_3.out.ext SF.out.1).cell 0, (Q_3.out.ext SF.out.1).cell 1, (Q_3.out.ext SF.out.1).cell 2, (Q_3.out.ext SF.out.1).cell 3⟩ (fun hHeld => ?_)
      clear hK K
      try simp only [Act.put, List.setIfInBounds_toArray, List.set_cons_zero, List.set_cons_succ]
      refine wpAnyH_done (by kernel_rfl) ?_ _
      clear hHeld
      (try go_wp2_with fail)
      go_meet
      exact ⟨w3.heap.size, rfl, rfl, Lib.hid (X_3.out.trans SF.out.1), Lib.hid (B_3.out.ext SF.out.1), Lib.hid (Q_3.out.ext SF.out.1), Lib.hid SF.out.2.1⟩
  case rest =>
    obtain ⟨T, rfl, rfl, X_4, B_4, Q_4, F_4⟩ := hcut
    clear X_3 B_3 Q_3
    go_upto_region 6 with fail
    go_cut [54] (fun s54 wx => s54 = .bool (!nearAll (rf X0 Y0 X1 Y1) 4) ∧ Hid (Ext w wx) ∧ Hid (Bk wx w.heap.size #[.int .i64 (W' : Int), .int .i64 (H' : Int), .slice (some ad) (W' * H') cap]) ∧ Hid (Bk wx (w.heap.size + 1) #[.int .u8 r, .int .u8 g, .int .u8 b, .int .u8 a]) ∧ Hid (Bk wx T #[.int .i64 0, .int .i64 0, .slice none 0 0]))
    case first =>
      go_wp2_with fail
      refine (refNear_any X0 _).mono ?_
      rintro e w9 ⟨rfl, rfl⟩
      cases n0 : nearB X0
      · have NV : Hid (nearAll (rf X0 Y0 X1 Y1) 4 = false) := Lib.hid (by simp [nearAll, rf, n0])
        go_wp2_with fail
        go_meet
        exact ⟨by rw [NV.out]; rfl, X_4, B_4, Q_4, F_4⟩
      · go_wp2_with fail
        refine (refNear_any Y0 _).mono ?_
        rintro e w9 ⟨rfl, rfl⟩
        cases n1 : nearB Y0
        · have NV : Hid (nearAll (rf X0 Y0 X1 Y1) 4 = false) := Lib.hid (by simp [nearAll, rf, n0, n1])
          go_wp2_with fail
          go_meet
          exact ⟨by rw [NV.out]; rfl, X_4, B_4, Q_4, F_4⟩
        · go_wp2_with fail
          refine (refNear_any X1 _).mono ?_
          rintro e w9 ⟨rfl, rfl⟩
          cases n2 : nearB X1
          · have NV : Hid (nearAll (rf X0 Y0 X1 Y1) 4 = false) := Lib.hid (by simp [nearAll, rf, n0, n1, n2])
            go_wp2_with fail
            go_meet
            exact ⟨by rw [NV.out]; rfl, X_4, B_4, Q_4, F_4⟩
          · go_wp2_with fail
            refine (refNear_any Y1 _).mono ?_
            rintro e w9 ⟨rfl, rfl⟩
            cases n3 : nearB Y1
            · have NV : Hid (nearAll (rf X0 Y0 X1 Y1) 4 = false) := Lib.hid (by simp [nearAll, rf, n0, n1, n2, n3])
              go_wp2_with fail
              go_meet
              exact ⟨by rw [NV.out]; rfl, X_4, B_4, Q_4, F_4⟩
            · have NV : Hid (nearAll (rf X0 Y0 X1 Y1) 4 = true) := Lib.hid (by simp [nearAll, rf, n0, n1, n2, n3])
              go_wp2_with fail
              go_meet
              exact ⟨by rw [NV.out]; rfl, X_4, B_4, Q_4, F_4⟩
    case rest =>
      obtain ⟨rfl, X_5, B_5, Q_5, F_5⟩ := hcut
      clear X_4 B_4 Q_4 F_4
      rw [HF.out]
      have k0 := B_5.out.cell 0
      have k1 := B_5.out.cell 1
      have k2 := B_5.out.cell 2
      go_wp2_with fail
      refine (refRight_any _ _ _ _ _ _).mono ?_
      rintro e w25 ⟨rfl, h⟩
      have X_6 := Lib.hid (X_5.out.trans h)
      have B_6 := Lib.hid (B_5.out.ext h)
      have Q_6 := Lib.hid (Q_5.out.ext h)
      have F_6 := Lib.hid (F_5.out.ext h)
      clear h
      clear X_5 B_5 Q_5 F_5
      clear k0 k1 k2
      rw [HR.out]
      have k0 := F_6.out.cell 0
      have k1 := F_6.out.cell 1
      have k2 := F_6.out.cell 2
      have k3 := B_6.out.cell 0
      have k4 := B_6.out.cell 1
      have k5 := B_6.out.cell 2
      go_wp2_with fail
      refine (told_err _ 1 _ _ _ _ _ _ E (HE.out.ext X_6.out) (.sent 1 (by decide))).mono ?_
      rintro e w26 ⟨rfl, h⟩
      have X_7 := Lib.hid (X_6.out.trans h)
      have B_7 := Lib.hid (B_6.out.ext h)
      have Q_7 := Lib.hid (Q_6.out.ext h)
      have F_7 := Lib.hid (F_6.out.ext h)
      clear h
      clear X_6 B_6 Q_6 F_6
      clear k0 k1 k2 k3 k4 k5
      go_wp2_with fail
      go_ret
      exact ⟨rfl, X_7.out⟩
set_option linter.unusedSimpArgs false in
set_option maxHeartbeats 4000000 in
theorem lines_ok (X0 Y0 X1 Y1 r g b a : Int) (W H : Nat) (ad : Addr) (cap : Nat) (px : Nat → P4) (w : World) (E : Nat → Addr) (hE : Errs w E) (hx : Pxs w (some ad) (W * H) px) (hp : (P4.mk r g b a).Ok) (hn : W * H ≤ 3000) (hr : rightB (W : Int) (H : Int) (W * H) = true) (hf : nearAll (rf X0 Y0 X1 Y1) 4 = true) :
    Calls Tryd.prog 7 #[.agg #[.int .i64 (W : Int), .int .i64 (H : Int), .slice (some ad) (W * H) cap], .int .i64 X0, .int .i64 Y0, .int .i64 X1, .int .i64 Y1, .agg #[.int .u8 r, .int .u8 g, .int .u8 b, .int .u8 a]] w fun e w' => e = .returned (.bool true) ∧ Ext w w' := by
  have HE := Lib.hid hE
  have HX := Lib.hid hx
  have HD := Lib.hid (decide_eq_true hn)
  have HR := Lib.hid hr
  have HP := Lib.hid hp
  have HF := Lib.hid hf
  obtain ⟨W', H', q1, q2, hW1, hW2, hH1, hH2, _⟩ := rightB_yes hr
  obtain rfl : W' = W := by omega
  obtain rfl : H' = H := by omega
  have HPO : Hid (0 < W' * H') := Lib.hid (Nat.mul_pos hW1 hH1)
  clear q1 q2 hE hx hp hr hf
  go_enter Tryd.func7, Tryd.ntmps7
  go_wp2_with fail
  refine calls_world (fun wz => Ext w wz ∧ wz.heap.size = w.heap.size + 1 + 1 ∧ Bk wz (w.heap.size) #[.int .i64 (W' : Int), .int .i64 (H' : Int), .slice (some ad) (W' * H') cap] ∧ Bk wz (w.heap.size + 1) #[.int .u8 r, .int .u8 g, .int .u8 b, .int .u8 a]) ⟨by repeat (first | exact Ext.refl _ | refine Ext.alloc ?_ _), by simp, by repeat (first | exact Bk.at (by simp) | refine Bk.old ?_), by repeat (first | exact Bk.at (by simp) | refine Bk.old ?_)⟩ ?_
  rintro w1 ⟨hX, hZ, hB0, hB1⟩
  have X_1 := Lib.hid hX
  have B_1 := Lib.hid hB0
  have Q_1 := Lib.hid hB1
  clear hX hZ hB0 hB1
  refine (plainly_any _).mono ?_
  rintro e w2 ⟨rfl, h⟩
  have X_2 := Lib.hid (X_1.out.trans h)
  have B_2 := Lib.hid (B_1.out.ext h)
  have Q_2 := Lib.hid (Q_1.out.ext h)
  clear h
  clear X_1 B_1 Q_1
  have k0 := B_2.out.cell 0
  have k1 := B_2.out.cell 1
  have k2 := B_2.out.cell 2
  go_wp2_with fail
  refine (small_any _ _ _ _ _ _ (by unfold maxLen; omega)).mono ?_
  rintro e w3 ⟨rfl, h⟩
  have X_3 := Lib.hid (X_2.out.trans h)
  have B_3 := Lib.hid (B_2.out.ext h)
  have Q_3 := Lib.hid (Q_2.out.ext h)
  clear h
  clear X_2 B_2 Q_2 k0 k1 k2
  rw [HD.out]
  go_upto_region 4 with fail
  go_cut [14, 15] (fun s14 s15 wx => ∃ T, s14 = .pointer (some ⟨T, 0, none⟩) ∧ s15 = .nilIface ∧ Hid (Ext w wx) ∧ Hid (Bk wx w.heap.size #[.int .i64 (W' : Int), .int .i64 (H' : Int), .slice (some ad) (W' * H') cap]) ∧ Hid (Bk wx (w.heap.size + 1) #[.int .u8 r, .int .u8 g, .int .u8 b, .int .u8 a]) ∧ ∃ fx fc, Hid (Bk wx T #[.int .i64 (W' : Int), .int .i64 (H' : Int), .slice fx (W' * H') fc]) ∧ Hid (Pxs wx fx (W' * H') (lnP W' H' X0 Y0 X1 Y1 ⟨r, g, b, a⟩ px (lnN X0 Y0 X1 Y1 + 1))))
  case first =>
    have k0 := B_3.out.cell 0
    have k1 := B_3.out.cell 1
    have k2 := B_3.out.cell 2
    have k3 := Q_3.out.cell 0
    have k4 := Q_3.out.cell 1
    have k5 := Q_3.out.cell 2
    have k6 := Q_3.out.cell 3
    refine wp_region_held_drew (S := fun w' => w'.cell? ⟨w.heap.size, 0, none⟩ = some (.int .i64 (W' : Int)) ∧ w'.cell? ⟨w.heap.size, 1, none⟩ = some (.int .i64 (H' : Int)) ∧ w'.cell? ⟨w.heap.size, 2, none⟩ = some (.slice (some ad) (W' * H') cap) ∧ w'.cell? ⟨w.heap.size + 1, 0, none⟩ = some (.int .u8 r) ∧ w'.cell? ⟨w.heap.size + 1, 1, none⟩ = some (.int .u8 g) ∧ w'.cell? ⟨w.heap.size + 1, 2, none⟩ = some (.int .u8 b) ∧ w'.cell? ⟨w.heap.size + 1, 3, none⟩ = some (.int .u8 a)) (by kernel_rfl) ⟨k0, k1, k2, k3, k4, k5, k6⟩ (fun hHeld => ?_)
    refine wpAnyH_take (i := 0) (v := ?_) rfl (by kernel_rfl) (by kernel_rfl) (by kernel_rfl) (fun _ _ _ h => h) (Or.inl ⟨by kernel_rfl, ?_⟩) hHeld ?_
    rotate_left
    · intro w hSw
      (try dsimp only at hSw)
      go_split_ands
      go_simp
      (try with_reducible rfl)
    try simp only [Act.put, List.setIfInBounds_toArray, List.set_cons_zero, List.set_cons_succ]
    refine wpAnyH_take (i := 2) (v := ?_) rfl (by kernel_rfl) (by kernel_rfl) (by kernel_rfl) (fun _ _ _ h => h) (Or.inl ⟨by kernel_rfl, ?_⟩) hHeld ?_
    rotate_left
    · intro w hSw
      (try dsimp only at hSw)
      go_split_ands
      go_simp
      (try with_reducible rfl)
    try simp only [Act.put, List.setIfInBounds_toArray, List.set_cons_zero, List.set_cons_succ]
    refine wpAnyH_take (i := 3) (v := ?_) rfl (by kernel_rfl) (by kernel_rfl) (by kernel_rfl) (fun _ _ _ h => h) (Or.inl ⟨by kernel_rfl, ?_⟩) hHeld ?_
    rotate_left
    · intro w hSw
      (try dsimp only at hSw)
      go_split_ands
      go_simp
      (try with_reducible rfl)
    try simp only [Act.put, List.setIfInBounds_toArray, List.set_cons_zero, List.set_cons_succ]
    refine wpAnyH_take (i := 4) (v := ?_) rfl (by kernel_rfl) (by kernel_rfl) (by kernel_rfl) (fun _ _ _ h => h) (Or.inl ⟨by kernel_rfl, ?_⟩) hHeld ?_
    rotate_left
    · intro w hSw
      (try dsimp only at hSw)
      go_split_ands
      go_simp
      (try with_reducible rfl)
    try simp only [Act.put, List.setIfInBounds_toArray, List.set_cons_zero, List.set_cons_succ]
    refine wpAnyH_take (i := 5) (v := ?_) rfl (by kernel_rfl) (by kernel_rfl) (by kernel_rfl) (fun _ _ _ h => h) (Or.inl ⟨by kernel_rfl, ?_⟩) hHeld ?_
    rotate_left
    · intro w hSw
      (try dsimp only at hSw)
      go_split_ands
      go_simp
      (try with_reducible rfl)
    try simp only [Act.put, List.setIfInBounds_toArray, List.set_cons_zero, List.set_cons_succ]
    refine wpAnyH_take (i := 6) (v := ?_) rfl (by kernel_rfl) (by kernel_rfl) (by kernel_rfl) (fun _ _ _ h => h) (Or.inl ⟨by kernel_rfl, ?_⟩) hHeld ?_
    rotate_left
    · intro w hSw
      (try dsimp only at hSw)
      go_split_ands
      go_simp
      (try with_reducible rfl)
    try simp only [Act.put, List.setIfInBounds_toArray, List.set_cons_zero, List.set_cons_succ]
    refine wpAnyH_ready (rs := [1, 11]) (by kernel_rfl) (by simp) ?_
    refine AllReadyH.cons rfl (fun K hK => ?_) (AllReadyH.cons rfl (fun K hK => ?_) AllReadyH.nil)
    · clear hHeld
      go_simp
      refine (own_x _ _ (some ad) (W' * H') cap px _ (HX.out.ext (X_3.out.trans (show Ext w3 w3.drew from Below.drew (Ext.refl w3)))) (fun h => by cases h) (by omega)).mono ?_
      rintro e w5 ⟨⟨ox, oc, rfl, hox, _⟩, hx5⟩
      obtain ⟨oa, rfl⟩ := hox.isSome HPO.out
      have ha : Ext w3 w5 := Ext.trans (show Ext w3 w3.drew from Below.drew (Ext.refl w3)) hx5
      have OX := Lib.hid hox
      clear hox
      go_simp
      refine hK.out _ _ ⟨(B_3.out.ext ha).cell 0, (B_3.out.ext ha).cell 1, (B_3.out.ext ha).cell 2, (Q_3.out.ext ha).cell 0, (Q_3.out.ext ha).cell 1, (Q_3.out.ext ha).cell 2, (Q_3.out.ext ha).cell 3⟩ (fun hHeld => ?_)
      clear hK K
      try simp only [Act.put, List.setIfInBounds_toArray, List.set_cons_zero, List.set_cons_succ]
      refine wpAnyH_ready (rs := [7, 11]) (by kernel_rfl) (by simp) ?_
      refine AllReadyH.cons rfl (fun K hK => ?_) (AllReadyH.cons rfl (fun K hK => ?_) AllReadyH.nil)
      · clear hHeld
        go_simp
        refine (line_px X0 Y0 X1 Y1 r g b a W' H' oa oc px _ HP.out HF.out HR.out OX.out).mono ?_
        rintro e w6 ⟨⟨fx, fc, rfl, hpx, hge⟩, hx6⟩
        have hb6 : Ext w3 w6 := Ext.trans ha hx6
        have FP := Lib.hid hpx
        clear hpx
        clear hge
        go_simp
        refine hK.out _ _ ⟨(B_3.out.ext hb6).cell 0, (B_3.out.ext hb6).cell 1, (B_3.out.ext hb6).cell 2, (Q_3.out.ext hb6).cell 0, (Q_3.out.ext hb6).cell 1, (Q_3.out.ext hb6).cell 2, (Q_3.out.ext hb6).cell 3⟩ (fun hHeld => ?_)
        clear hK K
        try simp only [Act.put, List.setIfInBounds_toArray, List.set_cons_zero, List.set_cons_succ]
        refine wpAnyH_take (i := 8) (v := ?_) rfl (by kernel_rfl) (by kernel_rfl) (by kernel_rfl) (fun _ _ _ h => h) (Or.inl ⟨by kernel_rfl, ?_⟩) hHeld ?_
        rotate_left
        · intro w hSw
          (try dsimp only at hSw)
          go_split_ands
          go_simp
          (try with_reducible rfl)
        try simp only [Act.put, List.setIfInBounds_toArray, List.set_cons_zero, List.set_cons_succ]
        refine wpAnyH_take (i := 9) (v := ?_) rfl (by kernel_rfl) (by kernel_rfl) (by kernel_rfl) (fun _ _ _ h => h) (Or.inl ⟨by kernel_rfl, ?_⟩) hHeld ?_
        rotate_left
        · intro w hSw
          (try dsimp only at hSw)
          go_split_ands
          go_simp
          (try with_reducible rfl)
        try simp only [Act.put, List.setIfInBounds_toArray, List.set_cons_zero, List.set_cons_succ]
        refine wpAnyH_take (i := 10) (v := ?_) rfl (by kernel_rfl) (by kernel_rfl) (by kernel_rfl) (fun _ _ _ h => h) (Or.inl ⟨by kernel_rfl, ?_⟩) hHeld ?_
        rotate_left
        · intro w hSw
          (try dsimp only at hSw)
          go_split_ands
          go_simp
          (try with_reducible rfl)
        try simp only [Act.put, List.setIfInBounds_toArray, List.set_cons_zero, List.set_cons_succ]
        refine wpAnyH_ready (rs := [11]) (by kernel_rfl) (by simp) ?_
        refine AllReadyH.cons rfl (fun K hK => ?_) AllReadyH.nil
        clear hHeld
        go_simp
        refine hK.out _ _ ⟨(B_3.out.ext (Ext.alloc hb6 _)).cell 0, (B_3.out.ext (Ext.alloc hb6 _)).cell 1, (B_3.out.ext (Ext.alloc hb6 _)).cell 2, (Q_3.out.ext (Ext.alloc hb6 _)).cell 0, (Q_3.out.ext (Ext.alloc hb6 _)).cell 1, (Q_3.out.ext (Ext.alloc hb6 _)).cell 2, (Q_3.out.ext (Ext.alloc hb6 _)).cell 3⟩ (fun hHeld => ?_)
        clear hK K
        try simp only [Act.put, List.setIfInBounds_toArray, List.set_cons_zero, List.set_cons_succ]
        refine wpAnyH_ready (rs := [12]) (by kernel_rfl) (by simp) ?_
        refine AllReadyH.cons rfl (fun K hK => ?_) AllReadyH.nil
        clear hHeld
        go_simp
        refine hK.out _ _ ⟨(B_3.out.ext (Ext.alloc hb6 _)).cell 0, (B_3.out.ext (Ext.alloc hb6 _)).cell 1, (B_3.out.ext (Ext.alloc hb6 _)).cell 2, (Q_3.out.ext (Ext.alloc hb6 _)).cell 0, (Q_3.out.ext (Ext.alloc hb6 _)).cell 1, (Q_3.out.ext (Ext.alloc hb6 _)).cell 2, (Q_3.out.ext (Ext.alloc hb6 _)).cell 3⟩ (fun hHeld => ?_)
        clear hK K
        try simp only [Act.put, List.setIfInBounds_toArray, List.set_cons_zero, List.set_cons_succ]
        refine wpAnyH_ready (rs := [13]) (by kernel_rfl) (by simp) ?_
        refine AllReadyH.cons rfl (fun K hK => ?_) AllReadyH.nil
        clear hHeld
        go_simp
        refine hK.out _ _ ⟨(B_3.out.ext (Ext.alloc hb6 _)).cell 0, (B_3.out.ext (Ext.alloc hb6 _)).cell 1, (B_3.out.ext (Ext.alloc hb6 _)).cell 2, (Q_3.out.ext (Ext.alloc hb6 _)).cell 0, (Q_3.out.ext (Ext.alloc hb6 _)).cell 1, (Q_3.out.ext (Ext.alloc hb6 _)).cell 2, (Q_3.out.ext (Ext.alloc hb6 _)).cell 3⟩ (fun hHeld => ?_)
        clear hK K
        try simp only [Act.put, List.setIfInBounds_toArray, List.set_cons_zero, List.set_cons_succ]
        refine wpAnyH_done (by kernel_rfl) ?_ _
        clear hHeld
        (try go_wp2_with fail)
        go_meet
        exact ⟨w6.heap.size, rfl, rfl, Lib.hid (X_3.out.trans (Ext.alloc hb6 _)), Lib.hid (B_3.out.ext (Ext.alloc hb6 _)), Lib.hid (Q_3.out.ext (Ext.alloc hb6 _)), fx, fc, Lib.hid (Bk.at rfl), Lib.hid (FP.out.ext (Ext.alloc (Ext.refl _) _))⟩
      · clear hHeld
        go_simp
        refine hK.out _ _ ⟨(B_3.out.ext (Ext.alloc ha _)).cell 0, (B_3.out.ext (Ext.alloc ha _)).cell 1, (B_3.out.ext (Ext.alloc ha _)).cell 2, (Q_3.out.ext (Ext.alloc ha _)).cell 0, (Q_3.out.ext (Ext.alloc ha _)).cell 1, (Q_3.out.ext (Ext.alloc ha _)).cell 2, (Q_3.out.ext (Ext.alloc ha _)).cell 3⟩ (fun hHeld => ?_)
        clear hK K
        try simp only [Act.put, List.setIfInBounds_toArray, List.set_cons_zero, List.set_cons_succ]
        refine wpAnyH_ready (rs := [7]) (by kernel_rfl) (by simp) ?_
        refine AllReadyH.cons rfl (fun K hK => ?_) AllReadyH.nil
        clear hHeld
        go_simp
        refine (line_px X0 Y0 X1 Y1 r g b a W' H' oa oc px _ HP.out HF.out HR.out (OX.out.ext (Ext.alloc (Ext.refl _) _))).mono ?_
        rintro e w6 ⟨⟨fx, fc, rfl, hpx, hge⟩, hx6⟩
        have hb6 : Ext w3 w6 := Ext.trans (Ext.alloc ha _) hx6
        have FP := Lib.hid hpx
        clear hpx
        have FK : Hid (∀ q : Addr, fx = some q → ¬ q.block = w5.heap.size) := Lib.hid (fun q hq e => by have h1 := hge q hq; have h2 := Bk.lt (b := w5.heap.size) (cs := #[.int .i64 0, .int .i64 0, .slice none 0 0]) (Bk.at (w := w5) (t := 24) rfl); omega)
        clear hge
        have BT := Lib.hid (Bk.ext (b := w5.heap.size) (cs := #[.int .i64 0, .int .i64 0, .slice none 0 0]) (Bk.at rfl) hx6)
        have t0 := BT.out.cell 0
        have t1 := BT.out.cell 1
        have t2 := BT.out.cell 2
        have f0 := BT.out.frozen 0
        have f1 := BT.out.frozen 1
        have f2 := BT.out.frozen 2
        go_simp
        refine hK.out _ _ ⟨(B_3.out.ext hb6).cell 0, (B_3.out.ext hb6).cell 1, (B_3.out.ext hb6).cell 2, (Q_3.out.ext hb6).cell 0, (Q_3.out.ext hb6).cell 1, (Q_3.out.ext hb6).cell 2, (Q_3.out.ext hb6).cell 3⟩ (fun hHeld => ?_)
        clear hK K
        try simp only [Act.put, List.setIfInBounds_toArray, List.set_cons_zero, List.set_cons_succ]
        refine wpAnyH_take (i := 8) (v := ?_) rfl (by kernel_rfl) (by kernel_rfl) (by kernel_rfl) (fun _ _ _ h => h) (Or.inl ⟨by kernel_rfl, ?_⟩) hHeld ?_
        rotate_left
        · intro w hSw
          (try dsimp only at hSw)
          go_split_ands
          go_simp
          (try with_reducible rfl)
        try simp only [Act.put, List.setIfInBounds_toArray, List.set_cons_zero, List.set_cons_succ]
        refine wpAnyH_take (i := 9) (v := ?_) rfl (by kernel_rfl) (by kernel_rfl) (by kernel_rfl) (fun _ _ _ h => h) (Or.inl ⟨by kernel_rfl, ?_⟩) hHeld ?_
        rotate_left
        · intro w hSw
          (try dsimp only at hSw)
          go_split_ands
          go_simp
          (try with_reducible rfl)
        try simp only [Act.put, List.setIfInBounds_toArray, List.set_cons_zero, List.set_cons_succ]
        refine wpAnyH_take (i := 10) (v := ?_) rfl (by kernel_rfl) (by kernel_rfl) (by kernel_rfl) (fun _ _ _ h => h) (Or.inl ⟨by kernel_rfl, ?_⟩) hHeld ?_
        rotate_left
        · intro w hSw
          (try dsimp only at hSw)
          go_split_ands
          go_simp
          (try with_reducible rfl)
        try simp only [Act.put, List.setIfInBounds_toArray, List.set_cons_zero, List.set_cons_succ]
        have SF := Lib.hid (set3_all (x' := .int .i64 (W' : Int)) (y' := .int .i64 (H' : Int)) (z' := .slice fx (W' * H') fc) hb6 ha.size BT.out)
        refine wpAnyH_ready (rs := [12]) (by kernel_rfl) (by simp) ?_
        refine AllReadyH.cons rfl (fun K hK => ?_) AllReadyH.nil
        clear hHeld
        go_simp
        refine hK.out _ _ ⟨(B_3.out.ext SF.out.1).cell 0, (B_3.out.ext SF.out.1).cell 1, (B_3.out.ext SF.out.1).cell 2, (Q_3.out.ext SF.out.1).cell 0, (Q_3.out.ext SF.out.1).cell 1, (Q_3.out.ext SF.out.1).cell 2, (Q_3.out.ext SF.out.1).cell 3⟩ (fun hHeld => ?_)
        clear hK K
        try simp only [Act.put, List.setIfInBounds_toArray, List.set_cons_zero, List.set_cons_succ]
        refine wpAnyH_ready (rs := [13]) (by kernel_rfl) (by simp) ?_
        refine AllReadyH.cons rfl (fun K hK => ?_) AllReadyH.nil
        clear hHeld
        go_simp
        refine hK.out _ _ ⟨(B_3.out.ext SF.out.1).cell 0, (B_3.out.ext SF.out.1).cell 1, (B_3.out.ext SF.out.1).cell 2, (Q_3.out.ext SF.out.1).cell 0, (Q_3.out.ext SF.out.1).cell 1, (Q_3.out.ext SF.out.1).cell 2, (Q_3.out.ext SF.out.1).cell 3⟩ (fun hHeld => ?_)
        clear hK K
        try simp only [Act.put, List.setIfInBounds_toArray, List.set_cons_zero, List.set_cons_succ]
        refine wpAnyH_done (by kernel_rfl) ?_ _
        clear hHeld
        (try go_wp2_with fail)
        go_meet
        exact ⟨w5.heap.size, rfl, rfl, Lib.hid (X_3.out.trans SF.out.1), Lib.hid (B_3.out.ext SF.out.1), Lib.hid (Q_3.out.ext SF.out.1), fx, fc, Lib.hid SF.out.2.1, Lib.hid (FP.out.keeps SF.out.2.2 FK.out)⟩
    · clear hHeld
      go_simp
      refine hK.out _ _ ⟨(B_3.out.ext (Ext.alloc (show Ext w3 w3.drew from Below.drew (Ext.refl w3)) _)).cell 0, (B_3.out.ext (Ext.alloc (show Ext w3 w3.drew from Below.drew (Ext.refl w3)) _)).cell 1, (B_3.out.ext (Ext.alloc (show Ext w3 w3.drew from Below.drew (Ext.refl w3)) _)).cell 2, (Q_3.out.ext (Ext.alloc (show Ext w3 w3.drew from Below.drew (Ext.refl w3)) _)).cell 0, (Q_3.out.ext (Ext.alloc (show Ext w3 w3.drew from Below.drew (Ext.refl w3)) _)).cell 1, (Q_3.out.ext (Ext.alloc (show Ext w3 w3.drew from Below.drew (Ext.refl w3)) _)).cell 2, (Q_3.out.ext (Ext.alloc (show Ext w3 w3.drew from Below.drew (Ext.refl w3)) _)).cell 3⟩ (fun hHeld => ?_)
      clear hK K
      try simp only [Act.put, List.setIfInBounds_toArray, List.set_cons_zero, List.set_cons_succ]
      refine wpAnyH_ready (rs := [1]) (by kernel_rfl) (by simp) ?_
      refine AllReadyH.cons rfl (fun K hK => ?_) AllReadyH.nil
      clear hHeld
      go_simp
      refine (own_x _ _ (some ad) (W' * H') cap px _ (HX.out.ext (X_3.out.trans (Ext.alloc (show Ext w3 w3.drew from Below.drew (Ext.refl w3)) _))) (fun h => by cases h) (by omega)).mono ?_
      rintro e w5 ⟨⟨ox, oc, rfl, hox, _⟩, hx5⟩
      obtain ⟨oa, rfl⟩ := hox.isSome HPO.out
      have ha : Ext w3 w5 := Ext.trans (Ext.alloc (show Ext w3 w3.drew from Below.drew (Ext.refl w3)) _) hx5
      have OX := Lib.hid hox
      clear hox
      have BT0 := Lib.hid (Bk.ext (b := w3.heap.size) (cs := #[.int .i64 0, .int .i64 0, .slice none 0 0]) (Bk.at (w := w3.drew) rfl) hx5)
      go_simp
      refine hK.out _ _ ⟨(B_3.out.ext ha).cell 0, (B_3.out.ext ha).cell 1, (B_3.out.ext ha).cell 2, (Q_3.out.ext ha).cell 0, (Q_3.out.ext ha).cell 1, (Q_3.out.ext ha).cell 2, (Q_3.out.ext ha).cell 3⟩ (fun hHeld => ?_)
      clear hK K
      try simp only [Act.put, List.setIfInBounds_toArray, List.set_cons_zero, List.set_cons_succ]
      refine wpAnyH_ready (rs := [7]) (by kernel_rfl) (by simp) ?_
      refine AllReadyH.cons rfl (fun K hK => ?_) AllReadyH.nil
      clear hHeld
      go_simp
      refine (line_px X0 Y0 X1 Y1 r g b a W' H' oa oc px _ HP.out HF.out HR.out OX.out).mono ?_
      rintro e w6 ⟨⟨fx, fc, rfl, hpx, hge⟩, hx6⟩
      have hb6 : Ext w3 w6 := Ext.trans ha hx6
      have FP := Lib.hid hpx
      clear hpx
      have FK : Hid (∀ q : Addr, fx = some q → ¬ q.block = w3.heap.size) := Lib.hid (fun q hq e => by have h1 := hge q hq; have h2 := Bk.lt (b := w3.heap.size) (cs := #[.int .i64 0, .int .i64 0, .slice none 0 0]) BT0.out; omega)
      clear hge
      have BT := Lib.hid (Bk.ext (b := w3.heap.size) (cs := #[.int .i64 0, .int .i64 0, .slice none 0 0]) BT0.out hx6)
      have t0 := BT.out.cell 0
      have t1 := BT.out.cell 1
      have t2 := BT.out.cell 2
      have f0 := BT.out.frozen 0
      have f1 := BT.out.frozen 1
      have f2 := BT.out.frozen 2
      go_simp
      refine hK.out _ _ ⟨(B_3.out.ext hb6).cell 0, (B_3.out.ext hb6).cell 1, (B_3.out.ext hb6).cell 2, (Q_3.out.ext hb6).cell 0, (Q_3.out.ext hb6).cell 1, (Q_3.out.ext hb6).cell 2, (Q_3.out.ext hb6).cell 3⟩ (fun hHeld => ?_)
      clear hK K
      try simp only [Act.put, List.setIfInBounds_toArray, List.set_cons_zero, List.set_cons_succ]
      refine wpAnyH_take (i := 8) (v := ?_) rfl (by kernel_rfl) (by kernel_rfl) (by kernel_rfl) (fun _ _ _ h => h) (Or.inl ⟨by kernel_rfl, ?_⟩) hHeld ?_
      rotate_left
      · intro w hSw
        (try dsimp only at hSw)
        go_split_ands
        go_simp
        (try with_reducible rfl)
      try simp only [Act.put, List.setIfInBounds_toArray, List.set_cons_zero, List.set_cons_succ]
      refine wpAnyH_take (i := 9) (v := ?_) rfl (by kernel_rfl) (by kernel_rfl) (by kernel_rfl) (fun _ _ _ h => h) (Or.inl ⟨by kernel_rfl, ?_⟩) hHeld ?_
      rotate_left
      · intro w hSw
        (try dsimp only at hSw)
        go_split_ands
        go_simp
        (try with_reducible rfl)
      try simp only [Act.put, List.setIfInBounds_toArray, List.set_cons_zero, List.set_cons_succ]
      refine wpAnyH_take (i := 10) (v := ?_) rfl (by kernel_rfl) (by kernel_rfl) (by kernel_rfl) (fun _ _ _ h => h) (Or.inl ⟨by kernel_rfl, ?_⟩) hHeld ?_
      rotate_left
      · intro w hSw
        (try dsimp only at hSw)
        go_split_ands
        go_simp
        (try with_reducible rfl)
      try simp only [Act.put, List.setIfInBounds_toArray, List.set_cons_zero, List.set_cons_succ]
      have SF := Lib.hid (set3_all (x' := .int .i64 (W' : Int)) (y' := .int .i64 (H' : Int)) (z' := .slice fx (W' * H') fc) hb6 (Nat.le_refl _) BT.out)
      refine wpAnyH_ready (rs := [12]) (by kernel_rfl) (by simp) ?_
      refine AllReadyH.cons rfl (fun K hK => ?_) AllReadyH.nil
      clear hHeld
      go_simp
      refine hK.out _ _ ⟨(B_3.out.ext SF.out.1).cell 0, (B_3.out.ext SF.out.1).cell 1, (B_3.out.ext SF.out.1).cell 2, (Q_3.out.ext SF.out.1).cell 0, (Q_3.out.ext SF.out.1).cell 1, (Q_3.out.ext SF.out.1).cell 2, (Q_3.out.ext SF.out.1).cell 3⟩ (fun hHeld => ?_)
      clear hK K
      try simp only [Act.put, List.setIfInBounds_toArray, List.set_cons_zero, List.set_cons_succ]
      refine wpAnyH_ready (rs := [13]) (by kernel_rfl) (by simp) ?_
      refine AllReadyH.cons rfl (fun K hK => ?_) AllReadyH.nil
      clear hHeld
      go_simp
      refine hK.out _ _ ⟨(B_3.out.ext SF.out.1).cell 0, (B_3.out.ext SF.out.1).cell 1, (B_3.out.ext SF.out.1).cell 2, (Q_3.out.ext SF.out.1).cell 0, (Q_3.out.ext SF.out.1).cell 1, (Q_3.out.ext SF.out.1).cell 2, (Q_3.out.ext SF.out.1).cell 3⟩ (fun hHeld => ?_)
      clear hK K
      try simp only [Act.put, List.setIfInBounds_toArray, List.set_cons_zero, List.set_cons_succ]
      refine wpAnyH_done (by kernel_rfl) ?_ _
      clear hHeld
      (try go_wp2_with fail)
      go_meet
      exact ⟨w3.heap.size, rfl, rfl, Lib.hid (X_3.out.trans SF.out.1), Lib.hid (B_3.out.ext SF.out.1), Lib.hid (Q_3.out.ext SF.out.1), fx, fc, Lib.hid SF.out.2.1, Lib.hid (FP.out.keeps SF.out.2.2 FK.out)⟩
  case rest =>
    obtain ⟨T, rfl, rfl, X_4, B_4, Q_4, fx, fc, F_4, P_4⟩ := hcut
    clear X_3 B_3 Q_3
    go_upto_region 6 with fail
    go_cut [54] (fun s54 wx => s54 = .bool (!nearAll (rf X0 Y0 X1 Y1) 4) ∧ Hid (Ext w wx) ∧ Hid (Bk wx w.heap.size #[.int .i64 (W' : Int), .int .i64 (H' : Int), .slice (some ad) (W' * H') cap]) ∧ Hid (Bk wx (w.heap.size + 1) #[.int .u8 r, .int .u8 g, .int .u8 b, .int .u8 a]) ∧ Hid (Bk wx T #[.int .i64 (W' : Int), .int .i64 (H' : Int), .slice fx (W' * H') fc]) ∧ Hid (Pxs wx fx (W' * H') (lnP W' H' X0 Y0 X1 Y1 ⟨r, g, b, a⟩ px (lnN X0 Y0 X1 Y1 + 1))))
    case first =>
      go_wp2_with fail
      refine (refNear_any X0 _).mono ?_
      rintro e w9 ⟨rfl, rfl⟩
      cases n0 : nearB X0
      · have NV : Hid (nearAll (rf X0 Y0 X1 Y1) 4 = false) := Lib.hid (by simp [nearAll, rf, n0])
        go_wp2_with fail
        go_meet
        exact ⟨by rw [NV.out]; rfl, X_4, B_4, Q_4, F_4, P_4⟩
      · go_wp2_with fail
        refine (refNear_any Y0 _).mono ?_
        rintro e w9 ⟨rfl, rfl⟩
        cases n1 : nearB Y0
        · have NV : Hid (nearAll (rf X0 Y0 X1 Y1) 4 = false) := Lib.hid (by simp [nearAll, rf, n0, n1])
          go_wp2_with fail
          go_meet
          exact ⟨by rw [NV.out]; rfl, X_4, B_4, Q_4, F_4, P_4⟩
        · go_wp2_with fail
          refine (refNear_any X1 _).mono ?_
          rintro e w9 ⟨rfl, rfl⟩
          cases n2 : nearB X1
          · have NV : Hid (nearAll (rf X0 Y0 X1 Y1) 4 = false) := Lib.hid (by simp [nearAll, rf, n0, n1, n2])
            go_wp2_with fail
            go_meet
            exact ⟨by rw [NV.out]; rfl, X_4, B_4, Q_4, F_4, P_4⟩
          · go_wp2_with fail
            refine (refNear_any Y1 _).mono ?_
            rintro e w9 ⟨rfl, rfl⟩
            cases n3 : nearB Y1
            · have NV : Hid (nearAll (rf X0 Y0 X1 Y1) 4 = false) := Lib.hid (by simp [nearAll, rf, n0, n1, n2, n3])
              go_wp2_with fail
              go_meet
              exact ⟨by rw [NV.out]; rfl, X_4, B_4, Q_4, F_4, P_4⟩
            · have NV : Hid (nearAll (rf X0 Y0 X1 Y1) 4 = true) := Lib.hid (by simp [nearAll, rf, n0, n1, n2, n3])
              go_wp2_with fail
              go_meet
              exact ⟨by rw [NV.out]; rfl, X_4, B_4, Q_4, F_4, P_4⟩
    case rest =>
      obtain ⟨rfl, X_5, B_5, Q_5, F_5, P_5⟩ := hcut
      clear X_4 B_4 Q_4 F_4 P_4
      rw [HF.out]
      have k0 := B_5.out.cell 0
      have k1 := B_5.out.cell 1
      have k2 := B_5.out.cell 2
      go_wp2_with fail
      refine (refRight_any _ _ _ _ _ _).mono ?_
      rintro e w25 ⟨rfl, h⟩
      have X_6 := Lib.hid (X_5.out.trans h)
      have B_6 := Lib.hid (B_5.out.ext h)
      have Q_6 := Lib.hid (Q_5.out.ext h)
      have F_6 := Lib.hid (F_5.out.ext h)
      have P_6 := Lib.hid (P_5.out.ext h)
      clear h
      clear X_5 B_5 Q_5 F_5 P_5
      clear k0 k1 k2
      rw [HR.out]
      have k0 := F_6.out.cell 0
      have k1 := F_6.out.cell 1
      have k2 := F_6.out.cell 2
      have k3 := B_6.out.cell 0
      have k4 := B_6.out.cell 1
      have k5 := B_6.out.cell 2
      have k6 := Q_6.out.cell 0
      have k7 := Q_6.out.cell 1
      have k8 := Q_6.out.cell 2
      have k9 := Q_6.out.cell 3
      go_upto_region 12 with fail
      go_region_held3 (fun w' => w'.cell? ⟨T, 0, none⟩ = some (.int .i64 (W' : Int)) ∧ w'.cell? ⟨T, 1, none⟩ = some (.int .i64 (H' : Int)) ∧ w'.cell? ⟨T, 2, none⟩ = some (.slice fx (W' * H') fc) ∧ w'.cell? ⟨w.heap.size, 0, none⟩ = some (.int .i64 (W' : Int)) ∧ w'.cell? ⟨w.heap.size, 1, none⟩ = some (.int .i64 (H' : Int)) ∧ w'.cell? ⟨w.heap.size, 2, none⟩ = some (.slice (some ad) (W' * H') cap) ∧ w'.cell? ⟨w.heap.size + 1, 0, none⟩ = some (.int .u8 r) ∧ w'.cell? ⟨w.heap.size + 1, 1, none⟩ = some (.int .u8 g) ∧ w'.cell? ⟨w.heap.size + 1, 2, none⟩ = some (.int .u8 b) ∧ w'.cell? ⟨w.heap.size + 1, 3, none⟩ = some (.int .u8 a)) (first | exact ⟨k0, k1, k2, k3, k4, k5, k6, k7, k8, k9⟩ | exact ⟨(F_6.out.ext hb9).cell 0, (F_6.out.ext hb9).cell 1, (F_6.out.ext hb9).cell 2, (B_6.out.ext hb9).cell 0, (B_6.out.ext hb9).cell 1, (B_6.out.ext hb9).cell 2, (Q_6.out.ext hb9).cell 0, (Q_6.out.ext hb9).cell 1, (Q_6.out.ext hb9).cell 2, (Q_6.out.ext hb9).cell 3⟩ | exact ⟨(F_6.out.ext ha).cell 0, (F_6.out.ext ha).cell 1, (F_6.out.ext ha).cell 2, (B_6.out.ext ha).cell 0, (B_6.out.ext ha).cell 1, (B_6.out.ext ha).cell 2, (Q_6.out.ext ha).cell 0, (Q_6.out.ext ha).cell 1, (Q_6.out.ext ha).cell 2, (Q_6.out.ext ha).cell 3⟩)
        (first
          | ((go_at_call 36; refine (lineOf_px X0 Y0 X1 Y1 r g b a W' H' ad cap px _ HP.out HF.out HR.out (HX.out.ext (Ext.trans X_6.out (Below.drew (Ext.refl w25))))).mono ?_; rintro e wa ⟨⟨hx_, hc_, rfl, hpo⟩, hx⟩; have ha : Ext w25 wa := ⟨hx.os, hx.tape, hx.output, hx.size, hx.block⟩; clear hx))
          | ((go_at_call 22; refine (told_ok _ _ _ _ _ _ _ (lnP W' H' X0 Y0 X1 Y1 ⟨r, g, b, a⟩ px (lnN X0 Y0 X1 Y1 + 1)) _ (P_6.out.ext ha) hpo (by omega)).mono ?_; rintro e wb ⟨rfl, hx⟩; have hb9 : Ext w25 wb := Ext.trans ha hx; clear hx)))
      have XF := Lib.hid (X_6.out.trans hb9)
      clear k0 k1 k2 k3 k4 k5 k6 k7 k8 k9 hpo ha hb9
      go_wp2_with fail
      go_ret
      exact ⟨rfl, XF.out⟩
end Go.Proofs.YtkfjcgcgfdibaaaDoor
