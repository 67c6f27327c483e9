/- raster.Line. -/
import Derived.Test.YtkfjcgcgfdibaaaDoorLineLaw
import Derived.Deep.DeepCutAuto
namespace Go.Proofs.YtkfjcgcgfdibaaaDoor
open Go.RowKit
set_option maxRecDepth 100000
set_option linter.unusedSimpArgs false in
set_option maxHeartbeats 2000000 in
theorem line_shape (X0 Y0 X1 Y1 r g b a : Int) (W H : Int) (x : Option Addr) (n c : Nat) (E : Nat → Addr) (w : World) (hE : Errs w E) (hr : rightB W H n = false) :
    Calls Tryd.prog 35 #[.agg #[.int .i64 W, .int .i64 H, .slice x n c], .int .i64 X0, .int .i64 Y0, .int .i64 X1, .int .i64 Y1, .agg #[.int .u8 r, .int .u8 g, .int .u8 b, .int .u8 a]] w fun e w' => e = .returned (.tuple #[.agg #[.int .i64 0, .int .i64 0, .slice none 0 0], .iface 171 (.pointer (some (E 2)))]) ∧ Ext w w' := by
  obtain ⟨nb, hN⟩ : ∃ nb, nearAll (rf X0 Y0 X1 Y1) 4 = nb := ⟨_, rfl⟩
  have NB := Lib.hid hN
  have HR := Lib.hid hr
  have HE := Lib.hid hE
  clear hE
  clear hN hr
  go_enter Tryd.func35, Tryd.ntmps35
  go_wp2_with fail
  refine wp_world (fun wz => Ext w wz ∧ wz.heap.size = w.heap.size + 1 + 1 + 1 ∧ Bk wz (w.heap.size) #[.int .i64 W, .int .i64 H, .slice x n c] ∧ Bk wz (w.heap.size + 1) #[.int .u8 r, .int .u8 g, .int .u8 b, .int .u8 a] ∧ Bk wz (w.heap.size + 1 + 1) #[.int .i64 0, .int .i64 0, .slice none 0 0]) ⟨by repeat (first | exact Ext.refl _ | refine Ext.alloc ?_ _), by simp, by repeat (first | exact Bk.at (by simp) | refine Bk.old ?_), by repeat (first | exact Bk.at (by simp) | refine Bk.old ?_), by repeat (first | exact Bk.at (by simp) | refine Bk.old ?_)⟩ ?_
  rintro wr ⟨hX, hZ, hB0, hB1, hB2⟩
  have q0 := hB0.cell 0
  have q1 := hB0.cell 1
  have q2 := hB0.cell 2
  have B0 := Lib.hid hB0
  have B1 := Lib.hid hB1
  have B2 := Lib.hid hB2
  have XR := Lib.hid hX
  have SZ := Lib.hid hZ
  clear hX hZ hB0 hB1 hB2
  refine wp_region_held_drew (S := fun w' => w'.cell? ⟨w.heap.size, 0, none⟩ = some (.int .i64 W) ∧ w'.cell? ⟨w.heap.size, 1, none⟩ = some (.int .i64 H) ∧ w'.cell? ⟨w.heap.size, 2, none⟩ = some (.slice x n c)) (by kernel_rfl) ⟨q0, q1, q2⟩ (fun hHeld => ?_)
  refine wpAnyH_take (i := 0) (v := ?_) rfl (by kernel_rfl) (by kernel_rfl) (by kernel_rfl) (fun _ _ _ h => h) (Or.inl ⟨by kernel_rfl, ?_⟩) hHeld ?_
  rotate_left
  · intro w hSw
    (try dsimp only at hSw)
    go_split_ands
    go_simp
    (try with_reducible rfl)
  try simp only [Act.put, List.setIfInBounds_toArray, List.set_cons_zero, List.set_cons_succ]
  refine wpAnyH_take (i := 1) (v := ?_) rfl (by kernel_rfl) (by kernel_rfl) (by kernel_rfl) (fun _ _ _ h => h) (Or.inl ⟨by kernel_rfl, ?_⟩) hHeld ?_
  rotate_left
  · intro w hSw
    (try dsimp only at hSw)
    go_split_ands
    go_simp
    (try with_reducible rfl)
  try simp only [Act.put, List.setIfInBounds_toArray, List.set_cons_zero, List.set_cons_succ]
  refine wpAnyH_take (i := 2) (v := ?_) rfl (by kernel_rfl) (by kernel_rfl) (by kernel_rfl) (fun _ _ _ h => h) (Or.inl ⟨by kernel_rfl, ?_⟩) hHeld ?_
  rotate_left
  · intro w hSw
    (try dsimp only at hSw)
    go_split_ands
    go_simp
    (try with_reducible rfl)
  try simp only [Act.put, List.setIfInBounds_toArray, List.set_cons_zero, List.set_cons_succ]
  refine wpAnyH_take (i := 3) (v := ?_) rfl (by kernel_rfl) (by kernel_rfl) (by kernel_rfl) (fun _ _ _ h => h) (Or.inl ⟨by kernel_rfl, ?_⟩) hHeld ?_
  rotate_left
  · intro w hSw
    (try dsimp only at hSw)
    go_split_ands
    go_simp
    (try with_reducible rfl)
  try simp only [Act.put, List.setIfInBounds_toArray, List.set_cons_zero, List.set_cons_succ]
  refine wpAnyH_take (i := 4) (v := ?_) rfl (by kernel_rfl) (by kernel_rfl) (by kernel_rfl) (fun _ _ _ h => h) (Or.inl ⟨by kernel_rfl, ?_⟩) hHeld ?_
  rotate_left
  · intro w hSw
    (try dsimp only at hSw)
    go_split_ands
    go_simp
    (try with_reducible rfl)
  try simp only [Act.put, List.setIfInBounds_toArray, List.set_cons_zero, List.set_cons_succ]
  refine wpAnyH_ready (rs := [5]) (by kernel_rfl) (by simp) ?_
  refine AllReadyH.cons rfl (fun K hK => ?_) AllReadyH.nil
  clear hHeld
  go_simp
  refine hK.out _ _ ⟨(Bk.old (Bk.drew B0.out)).cell 0, (Bk.old (Bk.drew B0.out)).cell 1, (Bk.old (Bk.drew B0.out)).cell 2⟩ (fun hHeld => ?_)
  clear hK K
  try simp only [Act.put, List.setIfInBounds_toArray, List.set_cons_zero, List.set_cons_succ]
  refine wpAnyH_ready (rs := [6]) (by kernel_rfl) (by simp) ?_
  refine AllReadyH.cons rfl (fun K hK => ?_) AllReadyH.nil
  clear hHeld
  go_simp
  refine (near_any _ 4 4 (rf X0 Y0 X1 Y1) _ (rf_born wr.drew X0 Y0 X1 Y1 _) (by decide)).mono ?_
  rintro e w5 ⟨rfl, hw5⟩
  rw [NB.out]
  have ha : Ext wr w5 := by rw [← hw5]; exact Ext.trans (Below.drew (Ext.refl wr)) (Ext.alloc (Ext.refl _) _)
  clear hw5
  go_simp
  refine hK.out _ _ ⟨(B0.out.ext ha).cell 0, (B0.out.ext ha).cell 1, (B0.out.ext ha).cell 2⟩ (fun hHeld => ?_)
  clear hK K
  try simp only [Act.put, List.setIfInBounds_toArray, List.set_cons_zero, List.set_cons_succ]
  refine wpAnyH_ready (rs := [7]) (by kernel_rfl) (by simp) ?_
  refine AllReadyH.cons rfl (fun K hK => ?_) AllReadyH.nil
  clear hHeld
  go_simp
  refine (check_shape _ _ _ _ _ _ _ E (HE.out.ext (Ext.trans XR.out ha)) HR.out).mono ?_
  rintro e w6 ⟨rfl, hx⟩
  have hb : Ext wr w6 := Ext.trans ha hx
  clear hx
  go_simp
  refine hK.out _ _ ⟨(B0.out.ext hb).cell 0, (B0.out.ext hb).cell 1, (B0.out.ext hb).cell 2⟩ (fun hHeld => ?_)
  clear hK K
  try simp only [Act.put, List.setIfInBounds_toArray, List.set_cons_zero, List.set_cons_succ]
  refine wpAnyH_take (i := 8) (v := ?_) rfl (by kernel_rfl) (by kernel_rfl) (by kernel_rfl) (fun _ _ _ h => h) (Or.inl ⟨by kernel_rfl, ?_⟩) hHeld ?_
  rotate_left
  · intro w hSw
    (try dsimp only at hSw)
    go_split_ands
    go_simp
    (try with_reducible rfl)
  try simp only [Act.put, List.setIfInBounds_toArray, List.set_cons_zero, List.set_cons_succ]
  refine wpAnyH_done (by kernel_rfl) ?_ _
  clear hHeld q0 q1 q2
  have XS := Lib.hid (Ext.trans XR.out hb)
  have B0S := Lib.hid (B0.out.ext hb)
  have B1S := Lib.hid (B1.out.ext hb)
  have B2S := Lib.hid (B2.out.ext hb)
  have SS := Lib.hid hb.size
  clear ha hb
  have d0 := B2S.out.cell 0
  have e0 := B2S.out.frozen 0
  have d1 := B2S.out.cell 1
  have e1 := B2S.out.frozen 1
  have d2 := B2S.out.cell 2
  have e2 := B2S.out.frozen 2
  have FR := Lib.hid (show Ext w _ from XS.out.set3 (b := w.heap.size + 1 + 1) (by omega) (.int .i64 0) (.int .i64 0) (.slice none 0 0))
  have PR := Lib.hid (B2S.out.pic.set (W' := 0) (H' := 0) (v' := .slice none 0 0))
  go_wp2_with fail
  obtain ⟨k0, k1, k2⟩ := PR.out
  exact bodyPost_ret (v := .tuple #[.agg #[.int .i64 0, .int .i64 0, .slice none 0 0], .iface 171 (.pointer (some (E 2)))]) (by simp [results, Tryd.results35, go_sem, k0, k1, k2]) rfl ⟨rfl, FR.out⟩
set_option linter.unusedSimpArgs false in
set_option maxHeartbeats 2000000 in
theorem line_bound (X0 Y0 X1 Y1 r g b a : Int) (W H : Int) (x : Option Addr) (n c : Nat) (E : Nat → Addr) (w : World) (hE : Errs w E) (hN : nearAll (rf X0 Y0 X1 Y1) 4 = false) (hr : rightB W H n = true) :
    Calls Tryd.prog 35 #[.agg #[.int .i64 W, .int .i64 H, .slice x n c], .int .i64 X0, .int .i64 Y0, .int .i64 X1, .int .i64 Y1, .agg #[.int .u8 r, .int .u8 g, .int .u8 b, .int .u8 a]] w fun e w' => e = .returned (.tuple #[.agg #[.int .i64 0, .int .i64 0, .slice none 0 0], .iface 171 (.pointer (some (E 1)))]) ∧ Ext w w' := by
  have NB := Lib.hid hN
  have HR := Lib.hid hr
  have HE := Lib.hid hE
  clear hE
  clear hN hr
  go_enter Tryd.func35, Tryd.ntmps35
  go_wp2_with fail
  refine wp_world (fun wz => Ext w wz ∧ wz.heap.size = w.heap.size + 1 + 1 + 1 ∧ Bk wz (w.heap.size) #[.int .i64 W, .int .i64 H, .slice x n c] ∧ Bk wz (w.heap.size + 1) #[.int .u8 r, .int .u8 g, .int .u8 b, .int .u8 a] ∧ Bk wz (w.heap.size + 1 + 1) #[.int .i64 0, .int .i64 0, .slice none 0 0]) ⟨by repeat (first | exact Ext.refl _ | refine Ext.alloc ?_ _), by simp, by repeat (first | exact Bk.at (by simp) | refine Bk.old ?_), by repeat (first | exact Bk.at (by simp) | refine Bk.old ?_), by repeat (first | exact Bk.at (by simp) | refine Bk.old ?_)⟩ ?_
  rintro wr ⟨hX, hZ, hB0, hB1, hB2⟩
  have q0 := hB0.cell 0
  have q1 := hB0.cell 1
  have q2 := hB0.cell 2
  have B0 := Lib.hid hB0
  have B1 := Lib.hid hB1
  have B2 := Lib.hid hB2
  have XR := Lib.hid hX
  have SZ := Lib.hid hZ
  clear hX hZ hB0 hB1 hB2
  refine wp_region_held_drew (S := fun w' => w'.cell? ⟨w.heap.size, 0, none⟩ = some (.int .i64 W) ∧ w'.cell? ⟨w.heap.size, 1, none⟩ = some (.int .i64 H) ∧ w'.cell? ⟨w.heap.size, 2, none⟩ = some (.slice x n c)) (by kernel_rfl) ⟨q0, q1, q2⟩ (fun hHeld => ?_)
  refine wpAnyH_take (i := 0) (v := ?_) rfl (by kernel_rfl) (by kernel_rfl) (by kernel_rfl) (fun _ _ _ h => h) (Or.inl ⟨by kernel_rfl, ?_⟩) hHeld ?_
  rotate_left
  · intro w hSw
    (try dsimp only at hSw)
    go_split_ands
    go_simp
    (try with_reducible rfl)
  try simp only [Act.put, List.setIfInBounds_toArray, List.set_cons_zero, List.set_cons_succ]
  refine wpAnyH_take (i := 1) (v := ?_) rfl (by kernel_rfl) (by kernel_rfl) (by kernel_rfl) (fun _ _ _ h => h) (Or.inl ⟨by kernel_rfl, ?_⟩) hHeld ?_
  rotate_left
  · intro w hSw
    (try dsimp only at hSw)
    go_split_ands
    go_simp
    (try with_reducible rfl)
  try simp only [Act.put, List.setIfInBounds_toArray, List.set_cons_zero, List.set_cons_succ]
  refine wpAnyH_take (i := 2) (v := ?_) rfl (by kernel_rfl) (by kernel_rfl) (by kernel_rfl) (fun _ _ _ h => h) (Or.inl ⟨by kernel_rfl, ?_⟩) hHeld ?_
  rotate_left
  · intro w hSw
    (try dsimp only at hSw)
    go_split_ands
    go_simp
    (try with_reducible rfl)
  try simp only [Act.put, List.setIfInBounds_toArray, List.set_cons_zero, List.set_cons_succ]
  refine wpAnyH_take (i := 3) (v := ?_) rfl (by kernel_rfl) (by kernel_rfl) (by kernel_rfl) (fun _ _ _ h => h) (Or.inl ⟨by kernel_rfl, ?_⟩) hHeld ?_
  rotate_left
  · intro w hSw
    (try dsimp only at hSw)
    go_split_ands
    go_simp
    (try with_reducible rfl)
  try simp only [Act.put, List.setIfInBounds_toArray, List.set_cons_zero, List.set_cons_succ]
  refine wpAnyH_take (i := 4) (v := ?_) rfl (by kernel_rfl) (by kernel_rfl) (by kernel_rfl) (fun _ _ _ h => h) (Or.inl ⟨by kernel_rfl, ?_⟩) hHeld ?_
  rotate_left
  · intro w hSw
    (try dsimp only at hSw)
    go_split_ands
    go_simp
    (try with_reducible rfl)
  try simp only [Act.put, List.setIfInBounds_toArray, List.set_cons_zero, List.set_cons_succ]
  refine wpAnyH_ready (rs := [5]) (by kernel_rfl) (by simp) ?_
  refine AllReadyH.cons rfl (fun K hK => ?_) AllReadyH.nil
  clear hHeld
  go_simp
  refine hK.out _ _ ⟨(Bk.old (Bk.drew B0.out)).cell 0, (Bk.old (Bk.drew B0.out)).cell 1, (Bk.old (Bk.drew B0.out)).cell 2⟩ (fun hHeld => ?_)
  clear hK K
  try simp only [Act.put, List.setIfInBounds_toArray, List.set_cons_zero, List.set_cons_succ]
  refine wpAnyH_ready (rs := [6]) (by kernel_rfl) (by simp) ?_
  refine AllReadyH.cons rfl (fun K hK => ?_) AllReadyH.nil
  clear hHeld
  go_simp
  refine (near_any _ 4 4 (rf X0 Y0 X1 Y1) _ (rf_born wr.drew X0 Y0 X1 Y1 _) (by decide)).mono ?_
  rintro e w5 ⟨rfl, hw5⟩
  rw [NB.out]
  have ha : Ext wr w5 := by rw [← hw5]; exact Ext.trans (Below.drew (Ext.refl wr)) (Ext.alloc (Ext.refl _) _)
  clear hw5
  go_simp
  refine hK.out _ _ ⟨(B0.out.ext ha).cell 0, (B0.out.ext ha).cell 1, (B0.out.ext ha).cell 2⟩ (fun hHeld => ?_)
  clear hK K
  try simp only [Act.put, List.setIfInBounds_toArray, List.set_cons_zero, List.set_cons_succ]
  refine wpAnyH_ready (rs := [7]) (by kernel_rfl) (by simp) ?_
  refine AllReadyH.cons rfl (fun K hK => ?_) AllReadyH.nil
  clear hHeld
  go_simp
  refine (check_bound _ _ _ _ _ _ E (HE.out.ext (Ext.trans XR.out ha)) HR.out).mono ?_
  rintro e w6 ⟨rfl, hx⟩
  have hb : Ext wr w6 := Ext.trans ha hx
  clear hx
  go_simp
  refine hK.out _ _ ⟨(B0.out.ext hb).cell 0, (B0.out.ext hb).cell 1, (B0.out.ext hb).cell 2⟩ (fun hHeld => ?_)
  clear hK K
  try simp only [Act.put, List.setIfInBounds_toArray, List.set_cons_zero, List.set_cons_succ]
  refine wpAnyH_take (i := 8) (v := ?_) rfl (by kernel_rfl) (by kernel_rfl) (by kernel_rfl) (fun _ _ _ h => h) (Or.inl ⟨by kernel_rfl, ?_⟩) hHeld ?_
  rotate_left
  · intro w hSw
    (try dsimp only at hSw)
    go_split_ands
    go_simp
    (try with_reducible rfl)
  try simp only [Act.put, List.setIfInBounds_toArray, List.set_cons_zero, List.set_cons_succ]
  refine wpAnyH_done (by kernel_rfl) ?_ _
  clear hHeld q0 q1 q2
  have XS := Lib.hid (Ext.trans XR.out hb)
  have B0S := Lib.hid (B0.out.ext hb)
  have B1S := Lib.hid (B1.out.ext hb)
  have B2S := Lib.hid (B2.out.ext hb)
  have SS := Lib.hid hb.size
  clear ha hb
  have d0 := B2S.out.cell 0
  have e0 := B2S.out.frozen 0
  have d1 := B2S.out.cell 1
  have e1 := B2S.out.frozen 1
  have d2 := B2S.out.cell 2
  have e2 := B2S.out.frozen 2
  have FR := Lib.hid (show Ext w _ from XS.out.set3 (b := w.heap.size + 1 + 1) (by omega) (.int .i64 0) (.int .i64 0) (.slice none 0 0))
  have PR := Lib.hid (B2S.out.pic.set (W' := 0) (H' := 0) (v' := .slice none 0 0))
  go_wp2_with fail
  obtain ⟨k0, k1, k2⟩ := PR.out
  exact bodyPost_ret (v := .tuple #[.agg #[.int .i64 0, .int .i64 0, .slice none 0 0], .iface 171 (.pointer (some (E 1)))]) (by simp [results, Tryd.results35, go_sem, k0, k1, k2]) rfl ⟨rfl, FR.out⟩
set_option linter.unusedSimpArgs false in
set_option maxHeartbeats 2000000 in
theorem line_ok (X0 Y0 X1 Y1 r g_ b a : Int) (W H : Nat) (ad : Addr) (c : Nat) (px : Nat → P4) (w : World) (hN : nearAll (rf X0 Y0 X1 Y1) 4 = true) (hr : rightB (W : Int) (H : Int) (W * H) = true) (hx : Pxs w (some ad) (W * H) px) :
    Calls Tryd.prog 35 #[.agg #[.int .i64 (W : Int), .int .i64 (H : Int), .slice (some ad) (W * H) c], .int .i64 X0, .int .i64 Y0, .int .i64 X1, .int .i64 Y1, .agg #[.int .u8 r, .int .u8 g_, .int .u8 b, .int .u8 a]] w fun e w' => (∃ g c', e = .returned (.tuple #[.agg #[.int .i64 (W : Int), .int .i64 (H : Int), .slice (some ⟨g, 0, none⟩) (W * H) c'], .nilIface]) ∧ Po w' g (W * H) (lnP W H X0 Y0 X1 Y1 ⟨r, g_, b, a⟩ px (lnN X0 Y0 X1 Y1 + 1)) ∧ w.heap.size ≤ g) ∧ Ext w w' := by
  have NB := Lib.hid hN
  have HR := Lib.hid hr
  obtain ⟨W', H', q1, q2, hW1, hW2, hH1, hH2, _⟩ := rightB_yes hr
  obtain rfl : W' = W := by omega
  obtain rfl : H' = H := by omega
  have HX := Lib.hid hx
  clear q1 q2 hx
  obtain ⟨N, hN_⟩ : ∃ N, W' * H' = N := ⟨_, rfl⟩
  have hNl : N ≤ 65536 := by rw [← hN_]; exact Nat.mul_le_mul hW2 hH2
  have hN0 : 0 < N := by rw [← hN_]; exact Nat.mul_pos hW1 hH1
  rw [hN_] at HX HR ⊢
  have NN := Lib.hid hN_
  clear hN_
  clear hN hr
  go_enter Tryd.func35, Tryd.ntmps35
  go_wp2_with fail
  refine wp_world (fun wz => Ext w wz ∧ wz.heap.size = w.heap.size + 1 + 1 + 1 ∧ Bk wz (w.heap.size) #[.int .i64 (W' : Int), .int .i64 (H' : Int), .slice (some ad) N c] ∧ Bk wz (w.heap.size + 1) #[.int .u8 r, .int .u8 g_, .int .u8 b, .int .u8 a] ∧ Bk wz (w.heap.size + 1 + 1) #[.int .i64 0, .int .i64 0, .slice none 0 0]) ⟨by repeat (first | exact Ext.refl _ | refine Ext.alloc ?_ _), by simp, by repeat (first | exact Bk.at (by simp) | refine Bk.old ?_), by repeat (first | exact Bk.at (by simp) | refine Bk.old ?_), by repeat (first | exact Bk.at (by simp) | refine Bk.old ?_)⟩ ?_
  rintro wr ⟨hX, hZ, hB0, hB1, hB2⟩
  have q0 := hB0.cell 0
  have q1 := hB0.cell 1
  have q2 := hB0.cell 2
  have B0 := Lib.hid hB0
  have B1 := Lib.hid hB1
  have B2 := Lib.hid hB2
  have XR := Lib.hid hX
  have SZ := Lib.hid hZ
  clear hX hZ hB0 hB1 hB2
  refine wp_region_held_drew (S := fun w' => w'.cell? ⟨w.heap.size, 0, none⟩ = some (.int .i64 (W' : Int)) ∧ w'.cell? ⟨w.heap.size, 1, none⟩ = some (.int .i64 (H' : Int)) ∧ w'.cell? ⟨w.heap.size, 2, none⟩ = some (.slice (some ad) N c)) (by kernel_rfl) ⟨q0, q1, q2⟩ (fun hHeld => ?_)
  refine wpAnyH_take (i := 0) (v := ?_) rfl (by kernel_rfl) (by kernel_rfl) (by kernel_rfl) (fun _ _ _ h => h) (Or.inl ⟨by kernel_rfl, ?_⟩) hHeld ?_
  rotate_left
  · intro w hSw
    (try dsimp only at hSw)
    go_split_ands
    go_simp
    (try with_reducible rfl)
  try simp only [Act.put, List.setIfInBounds_toArray, List.set_cons_zero, List.set_cons_succ]
  refine wpAnyH_take (i := 1) (v := ?_) rfl (by kernel_rfl) (by kernel_rfl) (by kernel_rfl) (fun _ _ _ h => h) (Or.inl ⟨by kernel_rfl, ?_⟩) hHeld ?_
  rotate_left
  · intro w hSw
    (try dsimp only at hSw)
    go_split_ands
    go_simp
    (try with_reducible rfl)
  try simp only [Act.put, List.setIfInBounds_toArray, List.set_cons_zero, List.set_cons_succ]
  refine wpAnyH_take (i := 2) (v := ?_) rfl (by kernel_rfl) (by kernel_rfl) (by kernel_rfl) (fun _ _ _ h => h) (Or.inl ⟨by kernel_rfl, ?_⟩) hHeld ?_
  rotate_left
  · intro w hSw
    (try dsimp only at hSw)
    go_split_ands
    go_simp
    (try with_reducible rfl)
  try simp only [Act.put, List.setIfInBounds_toArray, List.set_cons_zero, List.set_cons_succ]
  refine wpAnyH_take (i := 3) (v := ?_) rfl (by kernel_rfl) (by kernel_rfl) (by kernel_rfl) (fun _ _ _ h => h) (Or.inl ⟨by kernel_rfl, ?_⟩) hHeld ?_
  rotate_left
  · intro w hSw
    (try dsimp only at hSw)
    go_split_ands
    go_simp
    (try with_reducible rfl)
  try simp only [Act.put, List.setIfInBounds_toArray, List.set_cons_zero, List.set_cons_succ]
  refine wpAnyH_take (i := 4) (v := ?_) rfl (by kernel_rfl) (by kernel_rfl) (by kernel_rfl) (fun _ _ _ h => h) (Or.inl ⟨by kernel_rfl, ?_⟩) hHeld ?_
  rotate_left
  · intro w hSw
    (try dsimp only at hSw)
    go_split_ands
    go_simp
    (try with_reducible rfl)
  try simp only [Act.put, List.setIfInBounds_toArray, List.set_cons_zero, List.set_cons_succ]
  refine wpAnyH_ready (rs := [5]) (by kernel_rfl) (by simp) ?_
  refine AllReadyH.cons rfl (fun K hK => ?_) AllReadyH.nil
  clear hHeld
  go_simp
  refine hK.out _ _ ⟨(Bk.old (Bk.drew B0.out)).cell 0, (Bk.old (Bk.drew B0.out)).cell 1, (Bk.old (Bk.drew B0.out)).cell 2⟩ (fun hHeld => ?_)
  clear hK K
  try simp only [Act.put, List.setIfInBounds_toArray, List.set_cons_zero, List.set_cons_succ]
  refine wpAnyH_ready (rs := [6]) (by kernel_rfl) (by simp) ?_
  refine AllReadyH.cons rfl (fun K hK => ?_) AllReadyH.nil
  clear hHeld
  go_simp
  refine (near_any _ 4 4 (rf X0 Y0 X1 Y1) _ (rf_born wr.drew X0 Y0 X1 Y1 _) (by decide)).mono ?_
  rintro e w5 ⟨rfl, hw5⟩
  rw [NB.out]
  have ha : Ext wr w5 := by rw [← hw5]; exact Ext.trans (Below.drew (Ext.refl wr)) (Ext.alloc (Ext.refl _) _)
  clear hw5
  go_simp
  refine hK.out _ _ ⟨(B0.out.ext ha).cell 0, (B0.out.ext ha).cell 1, (B0.out.ext ha).cell 2⟩ (fun hHeld => ?_)
  clear hK K
  try simp only [Act.put, List.setIfInBounds_toArray, List.set_cons_zero, List.set_cons_succ]
  refine wpAnyH_ready (rs := [7]) (by kernel_rfl) (by simp) ?_
  refine AllReadyH.cons rfl (fun K hK => ?_) AllReadyH.nil
  clear hHeld
  go_simp
  refine (check_ok _ _ _ _ _ _ HR.out).mono ?_
  rintro e w6 ⟨rfl, hx⟩
  have hb : Ext wr w6 := Ext.trans ha hx
  clear hx
  go_simp
  refine hK.out _ _ ⟨(B0.out.ext hb).cell 0, (B0.out.ext hb).cell 1, (B0.out.ext hb).cell 2⟩ (fun hHeld => ?_)
  clear hK K
  try simp only [Act.put, List.setIfInBounds_toArray, List.set_cons_zero, List.set_cons_succ]
  refine wpAnyH_take (i := 8) (v := ?_) rfl (by kernel_rfl) (by kernel_rfl) (by kernel_rfl) (fun _ _ _ h => h) (Or.inl ⟨by kernel_rfl, ?_⟩) hHeld ?_
  rotate_left
  · intro w hSw
    (try dsimp only at hSw)
    go_split_ands
    go_simp
    (try with_reducible rfl)
  try simp only [Act.put, List.setIfInBounds_toArray, List.set_cons_zero, List.set_cons_succ]
  refine wpAnyH_done (by kernel_rfl) ?_ _
  clear hHeld q0 q1 q2
  have XS := Lib.hid (Ext.trans XR.out hb)
  have B0S := Lib.hid (B0.out.ext hb)
  have B1S := Lib.hid (B1.out.ext hb)
  have B2S := Lib.hid (B2.out.ext hb)
  have SS := Lib.hid hb.size
  clear ha hb
  have q0 := B0S.out.cell 0
  have q1 := B0S.out.cell 1
  have q2 := B0S.out.cell 2
  obtain ⟨⟨n1, n2⟩, ⟨n3, n4⟩, ⟨n5, n6⟩, n7, n8⟩ := rf_near NB.out
  go_wp2_with fail
  refine (rown_any _ _ (some ad) N c px _ (HX.out.ext XS.out) (fun h => by cases h) (by omega)).mono ?_
  rintro e w2 ⟨⟨v, rfl, hown⟩, h⟩
  have X2 := Lib.hid (h)
  have OWN := Lib.hid (hown)
  clear h hown
  clear q0 q1 q2
  obtain ⟨g, cc, rfl, _, hg⟩ := ownsRow_some OWN.out hN0
  have HG := Lib.hid (And.intro hg (ownsRow_ge OWN.out))
  clear hg
  have hmx := fun (w : World) (ts : Array TypeId) (t : TypeId) => run_max_int4 (P := Tryd.prog) w ts t .i64 .i64 .i64 .i64 (X1 - X0) (X0 - X1) (Y1 - Y0) (Y0 - Y1)
  simp only [lnN_max] at hmx
  obtain ⟨nn, hnn⟩ : ∃ nn, lnN X0 Y0 X1 Y1 = nn := ⟨_, rfl⟩
  have LN := Lib.hid hnn
  have hn2 : nn ≤ 20000 := by rw [← hnn]; unfold lnN; omega
  rw [hnn] at hmx
  clear hnn
  go_wp2_with fail
  have E_ := (Ext.refl w2).alloc (.cells #[.int .i64 (W' : Int), .int .i64 (H' : Int), .slice (some ⟨g, 0, none⟩) N cc] 24)
  have FA : Hid (FAt w (w2.alloc (.cells #[.int .i64 (W' : Int), .int .i64 (H' : Int), .slice (some ⟨g, 0, none⟩) N cc] 24)) (w.heap.size + 1 + 1) w2.heap.size g (W' : Int) (H' : Int) N cc (lnP W' H' X0 Y0 X1 Y1 ⟨r, g_, b, a⟩ px 0)) := Lib.hid (by
    obtain ⟨z1, z2⟩ := HG.out
    have z3 := SZ.out
    have z4 := SS.out
    exact ⟨XS.out.trans (X2.out.trans E_), (B2S.out.ext X2.out).ext E_, Bk.at rfl, (Po.of_own OWN.out).ext E_, by omega, by omega, by omega⟩)
  have B0' := Lib.hid (B0S.out.ext (X2.out.trans E_))
  have B1' := Lib.hid (B1S.out.ext (X2.out.trans E_))
  clear E_
  refine wp_world (fun wz => Hid (FAt w wz (w.heap.size + 1 + 1) w2.heap.size g (W' : Int) (H' : Int) N cc (lnP W' H' X0 Y0 X1 Y1 ⟨r, g_, b, a⟩ px 0)) ∧ Hid (Bk wz w.heap.size #[.int .i64 (W' : Int), .int .i64 (H' : Int), .slice (some ad) N c]) ∧ Hid (Bk wz (w.heap.size + 1) #[.int .u8 r, .int .u8 g_, .int .u8 b, .int .u8 a])) ⟨FA, B0', B1'⟩ ?_
  obtain ⟨T, hT⟩ : ∃ T, w2.heap.size = T := ⟨_, rfl⟩
  rw [hT] at *
  have NBL : Hid (w.heap.size ≠ g ∧ w.heap.size + 1 ≠ g) := Lib.hid (by have := HG.out; have := SZ.out; have := SS.out; omega)
  clear FA B0' B1' OWN B0 B1 B2 B0S B1S B2S XR XS X2 HG SZ SS hT HX hmx
  rintro wz ⟨FA, B0, B1⟩
  go_loopw [49] (fun c_ wr => ∃ k : Nat, k ≤ nn + 1 ∧ c_ = .int .i64 k ∧ Hid (FAt w wr (w.heap.size + 1 + 1) T g (W' : Int) (H' : Int) N cc (lnP W' H' X0 Y0 X1 Y1 ⟨r, g_, b, a⟩ px k)) ∧ Hid (Bk wr w.heap.size #[.int .i64 (W' : Int), .int .i64 (H' : Int), .slice (some ad) N c]) ∧ Hid (Bk wr (w.heap.size + 1) #[.int .u8 r, .int .u8 g_, .int .u8 b, .int .u8 a])) (fun c_ _ => nn + 1 - (intOf c_).toNat)
  case atStart => exact ⟨0, by omega, rfl, FA, B0, B1⟩
  case round =>
    clear FA B0 B1
    obtain ⟨k, hk, rfl, FA, B0, B1⟩ := hrel
    by_cases hlt : k < nn + 1
    · by_cases h0 : 0 < nn
      · have hdX := prod_bound (a := 2 * (k : Int)) (b := X1 - X0) (A := 40000) (B := 20000) (by omega) (by omega)
        obtain ⟨DX, hDX⟩ : ∃ D, 2 * (k : Int) * (X1 - X0) = D := ⟨_, rfl⟩
        rw [hDX] at hdX
        have hqX := ediv_small (n := DX + (nn : Int)) (f := 2 * (nn : Int)) (C := 1000000000) (by omega) (by omega)
        have hfX := fun w : World => floor_any (DX + (nn : Int)) (2 * (nn : Int)) w (by omega) (by omega) (by omega)
        have HXE : Hid (lnC X0 X1 nn k = X0 + (DX + (nn : Int)) / (2 * (nn : Int))) := Lib.hid (by unfold lnC; rw [if_pos (by omega), hDX])
        obtain ⟨QX, hQX⟩ : ∃ Q, (DX + (nn : Int)) / (2 * (nn : Int)) = Q := ⟨_, rfl⟩
        rw [hQX] at hqX hfX HXE
        have QHX := Lib.hid hQX
        clear hQX
        have FLX := Lib.hid hfX
        clear hfX
        have hdY := prod_bound (a := 2 * (k : Int)) (b := Y1 - Y0) (A := 40000) (B := 20000) (by omega) (by omega)
        obtain ⟨DY, hDY⟩ : ∃ D, 2 * (k : Int) * (Y1 - Y0) = D := ⟨_, rfl⟩
        rw [hDY] at hdY
        have hqY := ediv_small (n := DY + (nn : Int)) (f := 2 * (nn : Int)) (C := 1000000000) (by omega) (by omega)
        have hfY := fun w : World => floor_any (DY + (nn : Int)) (2 * (nn : Int)) w (by omega) (by omega) (by omega)
        have HYE : Hid (lnC Y0 Y1 nn k = Y0 + (DY + (nn : Int)) / (2 * (nn : Int))) := Lib.hid (by unfold lnC; rw [if_pos (by omega), hDY])
        obtain ⟨QY, hQY⟩ : ∃ Q, (DY + (nn : Int)) / (2 * (nn : Int)) = Q := ⟨_, rfl⟩
        rw [hQY] at hqY hfY HYE
        have QHY := Lib.hid hQY
        clear hQY
        have FLY := Lib.hid hfY
        clear hfY
        have k0 := B0.out.cell 0
        have k1 := B0.out.cell 1
        have k2 := B0.out.cell 2
        go_wp2_with fail
        refine (FLX.out _).mono ?_
        rintro e w8 ⟨rfl, rfl⟩
        go_wp2_with fail
        refine (FLY.out _).mono ?_
        rintro e w8 ⟨rfl, rfl⟩
        go_wp2_with fail
        refine (in_any (W' : Int) (H' : Int) _ (X0 + QX) (Y0 + QY) _ ⟨_, _, _, rfl⟩).mono ?_
        rintro e w9 ⟨rfl, h9⟩
        have FA9 := Lib.hid (FA.out.step h9)
        have B09 := Lib.hid (B0.out.ext h9)
        have B19 := Lib.hid (B1.out.ext h9)
        clear h9 FA B0 B1 k0 k1 k2
        cases hi : inB (W' : Int) (H' : Int) (X0 + QX) (Y0 + QY)
        · have FN := Lib.hid (FA9.out.congr fun i _ => lnP_no LN.out HXE.out HYE.out hi i)
          clear hi
          go_wp2_with fail
          go_roundw
          case rel => exact ⟨k + 1, by omega, by go_num, FN, B09, B19⟩
          case measure => simp [intOf]; omega
        · obtain ⟨i1, i2, i3, i4⟩ := of_decide_eq_true hi
          obtain ⟨x, hx⟩ : ∃ m : Nat, X0 + QX = m := ⟨(X0 + QX).toNat, by omega⟩
          obtain ⟨y, hy⟩ : ∃ m : Nat, Y0 + QY = m := ⟨(Y0 + QY).toNat, by omega⟩
          have HXF := Lib.hid (HXE.out.trans hx)
          have HYF := Lib.hid (HYE.out.trans hy)
          have hii : inB (W' : Int) (H' : Int) (x : Int) (y : Int) = true := by rw [← hx, ← hy]; exact hi
          have FN := Lib.hid ((FA9.out.put (y * W' + x) ⟨r, g_, b, a⟩).congr fun i _ => lnP_yes LN.out HXF.out HYF.out hii i)
          have K := set4_keeps w9 g (y * W' + x) ⟨r, g_, b, a⟩
          have B0N := Lib.hid (B09.out.keeps K NBL.out.1)
          have B1N := Lib.hid (B19.out.keeps K NBL.out.2)
          have hkN : y * W' + x < N := by rw [← NN.out]; exact mul_lt_of (by omega) (by omega)
          have hMI : (Y0 + QY) * (W' : Int) = ((y * W' : Nat) : Int) := by rw [hy]; simp
          clear hii K
          unfold set4 at *
          obtain ⟨M, hM⟩ : ∃ M, y * W' = M := ⟨_, rfl⟩
          rw [hM] at FN B0N B1N hkN hMI
          have MM := Lib.hid hM
          clear hM
          have v1_ : (M : Int) + (X0 + QX) < (N : Int) := by omega
          have v2_ : 0 ≤ (M : Int) + (X0 + QX) := by omega
          have v3_ : ((M : Int) + (X0 + QX)).toNat = M + x := by omega
          clear hi i1 i2 i3 i4 hx hy
          have p0 := B19.out.cell 0
          have p1 := B19.out.cell 1
          have p2 := B19.out.cell 2
          have p3 := B19.out.cell 3
          have k0 := B09.out.cell 0
          have k2 := FA9.out.bk.cell 2
          obtain ⟨c0, f0⟩ := FA9.out.row ((M + x) * 4) (by omega)
          obtain ⟨c1, f1⟩ := FA9.out.row ((M + x) * 4 + 1) (by omega)
          obtain ⟨c2, f2⟩ := FA9.out.row ((M + x) * 4 + 2) (by omega)
          obtain ⟨c3, f3⟩ := FA9.out.row ((M + x) * 4 + 3) (by omega)
          go_wp2_with fail
          go_roundw
          case rel => exact ⟨k + 1, by omega, by go_num, FN, B0N, B1N⟩
          case measure => simp [intOf]; omega
      · have HXE : Hid (lnC X0 X1 nn k = X0) := Lib.hid (by unfold lnC; rw [if_neg (by omega)])
        have HYE : Hid (lnC Y0 Y1 nn k = Y0) := Lib.hid (by unfold lnC; rw [if_neg (by omega)])
        have t0 : decide ((0 : Int) < (nn : Int)) = false := decide_eq_false (by omega)
        have k0 := B0.out.cell 0
        have k1 := B0.out.cell 1
        have k2 := B0.out.cell 2
        go_wp2_with fail
        refine (in_any (W' : Int) (H' : Int) _ (X0) (Y0) _ ⟨_, _, _, rfl⟩).mono ?_
        rintro e w9 ⟨rfl, h9⟩
        have FA9 := Lib.hid (FA.out.step h9)
        have B09 := Lib.hid (B0.out.ext h9)
        have B19 := Lib.hid (B1.out.ext h9)
        clear h9 FA B0 B1 k0 k1 k2
        cases hi : inB (W' : Int) (H' : Int) (X0) (Y0)
        · have FN := Lib.hid (FA9.out.congr fun i _ => lnP_no LN.out HXE.out HYE.out hi i)
          clear hi
          go_wp2_with fail
          go_roundw
          case rel => exact ⟨k + 1, by omega, by go_num, FN, B09, B19⟩
          case measure => simp [intOf]; omega
        · obtain ⟨i1, i2, i3, i4⟩ := of_decide_eq_true hi
          obtain ⟨x, hx⟩ : ∃ m : Nat, X0 = m := ⟨(X0).toNat, by omega⟩
          obtain ⟨y, hy⟩ : ∃ m : Nat, Y0 = m := ⟨(Y0).toNat, by omega⟩
          have HXF := Lib.hid (HXE.out.trans hx)
          have HYF := Lib.hid (HYE.out.trans hy)
          have hii : inB (W' : Int) (H' : Int) (x : Int) (y : Int) = true := by rw [← hx, ← hy]; exact hi
          have FN := Lib.hid ((FA9.out.put (y * W' + x) ⟨r, g_, b, a⟩).congr fun i _ => lnP_yes LN.out HXF.out HYF.out hii i)
          have K := set4_keeps w9 g (y * W' + x) ⟨r, g_, b, a⟩
          have B0N := Lib.hid (B09.out.keeps K NBL.out.1)
          have B1N := Lib.hid (B19.out.keeps K NBL.out.2)
          have hkN : y * W' + x < N := by rw [← NN.out]; exact mul_lt_of (by omega) (by omega)
          have hMI : (Y0) * (W' : Int) = ((y * W' : Nat) : Int) := by rw [hy]; simp
          clear hii K
          unfold set4 at *
          obtain ⟨M, hM⟩ : ∃ M, y * W' = M := ⟨_, rfl⟩
          rw [hM] at FN B0N B1N hkN hMI
          have MM := Lib.hid hM
          clear hM
          have v1_ : (M : Int) + (X0) < (N : Int) := by omega
          have v2_ : 0 ≤ (M : Int) + (X0) := by omega
          have v3_ : ((M : Int) + (X0)).toNat = M + x := by omega
          clear hi i1 i2 i3 i4 hx hy
          have p0 := B19.out.cell 0
          have p1 := B19.out.cell 1
          have p2 := B19.out.cell 2
          have p3 := B19.out.cell 3
          have k0 := B09.out.cell 0
          have k2 := FA9.out.bk.cell 2
          obtain ⟨c0, f0⟩ := FA9.out.row ((M + x) * 4) (by omega)
          obtain ⟨c1, f1⟩ := FA9.out.row ((M + x) * 4 + 1) (by omega)
          obtain ⟨c2, f2⟩ := FA9.out.row ((M + x) * 4 + 2) (by omega)
          obtain ⟨c3, f3⟩ := FA9.out.row ((M + x) * 4 + 3) (by omega)
          go_wp2_with fail
          go_roundw
          case rel => exact ⟨k + 1, by omega, by go_num, FN, B0N, B1N⟩
          case measure => simp [intOf]; omega
    · obtain rfl : k = nn + 1 := by omega
      have k0 := FA.out.bk.cell 0
      have d0 := FA.out.res.cell 0
      have e0 := FA.out.res.frozen 0
      have k1 := FA.out.bk.cell 1
      have d1 := FA.out.res.cell 1
      have e1 := FA.out.res.frozen 1
      have k2 := FA.out.bk.cell 2
      have d2 := FA.out.res.cell 2
      have e2 := FA.out.res.frozen 2
      have PC := Lib.hid (FA.out.close (by omega : w.heap.size ≤ w.heap.size + 1 + 1))
      have GN := Lib.hid FA.out.gn
      clear FA B0 B1
      rw [← LN.out] at PC
      have PC2 := Lib.hid PC.out
      clear PC
      go_wp2_with fail
      obtain ⟨k0, k1, k2, hP, hX⟩ := PC2.out
      exact bodyPost_ret (v := .tuple #[.agg #[.int .i64 (W' : Int), .int .i64 (H' : Int), .slice (some ⟨g, 0, none⟩) N cc], .nilIface]) (by simp [results, Tryd.results35, go_sem, k0, k1, k2]) rfl ⟨⟨g, ⟨cc, rfl⟩, hP, GN.out⟩, hX⟩
end Go.Proofs.YtkfjcgcgfdibaaaDoor
