/-
  raster.Flood.
-/
import Derived.Test.YtkfjcgcgfdibaaaDoorRasterFloodsG5
import Derived.Test.YtkfjcgcgfdibaaaDoorRasterFloodsG3
import Derived.Deep.LoopGhost
import Derived.Deep.DeepCutAuto
import Derived.Deep.RegionHeld3
import Derived.StillTailTactics
import Derived.Maps.AppendAt
namespace Go.Proofs.YtkfjcgcgfdibaaaDoor
open Go.RowKit
set_option maxRecDepth 100000
def okF (W x0 y0 : Nat) (px : Nat → P4) (u v : Nat) : Prop := px (v * W + u) = px (y0 * W + x0)
set_option linter.unusedSimpArgs false in
set_option maxHeartbeats 6000000 in
theorem flood_shape (W H : Int) (x : Option Addr) (n cap : Nat) (u v : Int) (c : P4) (E : Nat → Addr) (w : World) (hE : Errs w E) (h : rightB W H n = false) :
    Calls Tryd.prog 33 #[.agg #[.int .i64 W, .int .i64 H, .slice x n cap], .int .i64 u, .int .i64 v, .agg #[.int .u8 c.r, .int .u8 c.g, .int .u8 c.b, .int .u8 c.a]] w fun e w' => e = .returned (.tuple #[.agg #[.int .i64 0, .int .i64 0, .slice none 0 0], .iface 171 (.pointer (some (E 2)))]) ∧ Ext w w' := by
  have HE := Lib.hid hE
  have HR := Lib.hid h
  clear hE h
  go_enter Tryd.func33, Tryd.ntmps33
  go_wp2_with fail
  refine wp_world (fun wz => Ext w wz ∧ wz.heap.size = w.heap.size + 1 + 1 + 1 ∧ Bk wz (w.heap.size) #[.int .i64 W, .int .i64 H, .slice x n cap] ∧ Bk wz (w.heap.size + 1) #[.int .u8 c.r, .int .u8 c.g, .int .u8 c.b, .int .u8 c.a] ∧ Bk wz (w.heap.size + 1 + 1) #[.int .i64 0, .int .i64 0, .slice none 0 0]) ⟨by repeat (first | exact Ext.refl _ | refine Ext.alloc ?_ _), by simp, by repeat (first | exact Bk.at (by simp) | refine Bk.old ?_), by repeat (first | exact Bk.at (by simp) | refine Bk.old ?_), by repeat (first | exact Bk.at (by simp) | refine Bk.old ?_)⟩ ?_
  rintro wr ⟨hX, hZ, hB0, hB1, hB2⟩
  have q0 := hB0.cell 0
  have q1 := hB0.cell 1
  have q2 := hB0.cell 2
  have B0 := Lib.hid hB0
  have B1 := Lib.hid hB1
  have B2 := Lib.hid hB2
  have XR := Lib.hid hX
  have SZ := Lib.hid hZ
  clear hX hZ hB0 hB1 hB2
  go_region_held3 (fun w' => w'.cell? ⟨w.heap.size, 0, none⟩ = some (.int .i64 W) ∧ w'.cell? ⟨w.heap.size, 1, none⟩ = some (.int .i64 H) ∧ w'.cell? ⟨w.heap.size, 2, none⟩ = some (.slice x n cap)) (first | exact ⟨q0, q1, q2⟩ | exact ⟨(B0.out.ext hb).cell 0, (B0.out.ext hb).cell 1, (B0.out.ext hb).cell 2⟩ | exact ⟨(B0.out.ext ha).cell 0, (B0.out.ext ha).cell 1, (B0.out.ext ha).cell 2⟩)
    (first
      | ((go_at_call 62; refine (in_any _ _ (.slice x n cap) _ _ _ ⟨_, _, _, rfl⟩).mono ?_; rintro e w5 ⟨rfl, hx⟩; have ha : Ext wr w5 := ⟨hx.os, hx.tape, hx.output, hx.size, hx.block⟩; clear hx))
      | ((go_at_call 55; refine (check_shape _ _ _ _ _ _ _ E (HE.out.ext (Ext.trans XR.out ha)) HR.out).mono ?_; rintro e w6 ⟨rfl, hx⟩; have hb : Ext wr w6 := Ext.trans ha hx; clear hx)))
  have XS := Lib.hid (Ext.trans XR.out hb)
  have B0S := Lib.hid (B0.out.ext hb)
  have B1S := Lib.hid (B1.out.ext hb)
  have B2S := Lib.hid (B2.out.ext hb)
  have SS := Lib.hid hb.size
  clear q0 q1 q2 ha hb B0 B1 B2
  have d0 := B2S.out.cell 0
  have e0 := B2S.out.frozen 0
  have d1 := B2S.out.cell 1
  have e1 := B2S.out.frozen 1
  have d2 := B2S.out.cell 2
  have e2 := B2S.out.frozen 2
  have FR := Lib.hid (show Ext w _ from XS.out.set3 (b := w.heap.size + 1 + 1) (by omega) (.int .i64 0) (.int .i64 0) (.slice none 0 0))
  have PR := Lib.hid (B2S.out.pic.set (W' := 0) (H' := 0) (v' := .slice none 0 0))
  go_wp2_with fail
  obtain ⟨k0, k1, k2⟩ := PR.out
  exact bodyPost_ret (v := .tuple #[.agg #[.int .i64 0, .int .i64 0, .slice none 0 0], .iface 171 (.pointer (some (E 2)))]) (by simp [results, Tryd.results33, go_sem, k0, k1, k2]) rfl ⟨rfl, FR.out⟩
set_option linter.unusedSimpArgs false in
set_option maxHeartbeats 6000000 in
theorem flood_bound (W H : Int) (x : Option Addr) (n cap : Nat) (u v : Int) (c : P4) (E : Nat → Addr) (w : World) (hE : Errs w E) (h : rightB W H n = true) (hi : inB W H u v = false) :
    Calls Tryd.prog 33 #[.agg #[.int .i64 W, .int .i64 H, .slice x n cap], .int .i64 u, .int .i64 v, .agg #[.int .u8 c.r, .int .u8 c.g, .int .u8 c.b, .int .u8 c.a]] w fun e w' => e = .returned (.tuple #[.agg #[.int .i64 0, .int .i64 0, .slice none 0 0], .iface 171 (.pointer (some (E 1)))]) ∧ Ext w w' := by
  have HE := Lib.hid hE
  have HR := Lib.hid h
  have HI := Lib.hid hi
  clear hi
  clear hE h
  go_enter Tryd.func33, Tryd.ntmps33
  go_wp2_with fail
  refine wp_world (fun wz => Ext w wz ∧ wz.heap.size = w.heap.size + 1 + 1 + 1 ∧ Bk wz (w.heap.size) #[.int .i64 W, .int .i64 H, .slice x n cap] ∧ Bk wz (w.heap.size + 1) #[.int .u8 c.r, .int .u8 c.g, .int .u8 c.b, .int .u8 c.a] ∧ Bk wz (w.heap.size + 1 + 1) #[.int .i64 0, .int .i64 0, .slice none 0 0]) ⟨by repeat (first | exact Ext.refl _ | refine Ext.alloc ?_ _), by simp, by repeat (first | exact Bk.at (by simp) | refine Bk.old ?_), by repeat (first | exact Bk.at (by simp) | refine Bk.old ?_), by repeat (first | exact Bk.at (by simp) | refine Bk.old ?_)⟩ ?_
  rintro wr ⟨hX, hZ, hB0, hB1, hB2⟩
  have q0 := hB0.cell 0
  have q1 := hB0.cell 1
  have q2 := hB0.cell 2
  have B0 := Lib.hid hB0
  have B1 := Lib.hid hB1
  have B2 := Lib.hid hB2
  have XR := Lib.hid hX
  have SZ := Lib.hid hZ
  clear hX hZ hB0 hB1 hB2
  go_region_held3 (fun w' => w'.cell? ⟨w.heap.size, 0, none⟩ = some (.int .i64 W) ∧ w'.cell? ⟨w.heap.size, 1, none⟩ = some (.int .i64 H) ∧ w'.cell? ⟨w.heap.size, 2, none⟩ = some (.slice x n cap)) (first | exact ⟨q0, q1, q2⟩ | exact ⟨(B0.out.ext hb).cell 0, (B0.out.ext hb).cell 1, (B0.out.ext hb).cell 2⟩ | exact ⟨(B0.out.ext ha).cell 0, (B0.out.ext ha).cell 1, (B0.out.ext ha).cell 2⟩)
    (first
      | ((go_at_call 62; refine (in_any _ _ (.slice x n cap) _ _ _ ⟨_, _, _, rfl⟩).mono ?_; rintro e w5 ⟨rfl, hx⟩; have ha : Ext wr w5 := ⟨hx.os, hx.tape, hx.output, hx.size, hx.block⟩; clear hx; rw [HI.out]))
      | ((go_at_call 55; refine (check_bound _ _ _ _ _ _ E (HE.out.ext (Ext.trans XR.out ha)) HR.out).mono ?_; rintro e w6 ⟨rfl, hx⟩; have hb : Ext wr w6 := Ext.trans ha hx; clear hx)))
  have XS := Lib.hid (Ext.trans XR.out hb)
  have B0S := Lib.hid (B0.out.ext hb)
  have B1S := Lib.hid (B1.out.ext hb)
  have B2S := Lib.hid (B2.out.ext hb)
  have SS := Lib.hid hb.size
  clear q0 q1 q2 ha hb B0 B1 B2
  have d0 := B2S.out.cell 0
  have e0 := B2S.out.frozen 0
  have d1 := B2S.out.cell 1
  have e1 := B2S.out.frozen 1
  have d2 := B2S.out.cell 2
  have e2 := B2S.out.frozen 2
  have FR := Lib.hid (show Ext w _ from XS.out.set3 (b := w.heap.size + 1 + 1) (by omega) (.int .i64 0) (.int .i64 0) (.slice none 0 0))
  have PR := Lib.hid (B2S.out.pic.set (W' := 0) (H' := 0) (v' := .slice none 0 0))
  go_wp2_with fail
  obtain ⟨k0, k1, k2⟩ := PR.out
  exact bodyPost_ret (v := .tuple #[.agg #[.int .i64 0, .int .i64 0, .slice none 0 0], .iface 171 (.pointer (some (E 1)))]) (by simp [results, Tryd.results33, go_sem, k0, k1, k2]) rfl ⟨rfl, FR.out⟩
set_option linter.unusedSimpArgs false in
set_option maxHeartbeats 6000000 in
theorem flood_ok (W H x0 y0 : Nat) (ad : Addr) (cap : Nat) (px : Nat → P4) (c : P4) (w : World) (hx : Pxs w (some ad) (W * H) px) (hr : rightB (W : Int) (H : Int) (W * H) = true) (hx0 : x0 < W) (hy0 : y0 < H) :
    Calls Tryd.prog 33 #[.agg #[.int .i64 (W : Int), .int .i64 (H : Int), .slice (some ad) (W * H) cap], .int .i64 (x0 : Int), .int .i64 (y0 : Int), .agg #[.int .u8 c.r, .int .u8 c.g, .int .u8 c.b, .int .u8 c.a]] w fun e w' => ∃ qx : Nat → P4, ((∀ I : Nat → Bool, (∀ u v, u < W → v < H → (I (v * W + u) = true ↔ Fl.Rch W H (okF W x0 y0 px) x0 y0 u v)) → ∀ i, i < W * H → qx i = fldP I c px i) ∧ qx (y0 * W + x0) = c) ∧ (∃ g cc, e = .returned (.tuple #[.agg #[.int .i64 (W : Int), .int .i64 (H : Int), .slice (some ⟨g, 0, none⟩) (W * H) cc], .nilIface]) ∧ Po w' g (W * H) qx ∧ w.heap.size ≤ g) ∧ Ext w w' := by
  have HR := Lib.hid hr
  have HI : Hid (inB (W : Int) (H : Int) (x0 : Int) (y0 : Int) = true) := Lib.hid (decide_eq_true ⟨by omega, by omega, by omega, by omega⟩)
  have HX := Lib.hid hx
  obtain ⟨hW1, hW2, hH1, hH2⟩ : 1 ≤ W ∧ W ≤ 256 ∧ 1 ≤ H ∧ H ≤ 256 := by
    obtain ⟨W', H', q1, q2, a1, a2, a3, a4, _⟩ := rightB_yes hr
    omega
  have hk0 : y0 * W + x0 < W * H := mul_lt_of hy0 hx0
  obtain ⟨pz, hpz⟩ : ∃ q, px (y0 * W + x0) = q := ⟨_, rfl⟩
  have HPZ := Lib.hid hpz
  clear hpz
  obtain ⟨N, hN⟩ : ∃ N, W * H = N := ⟨_, rfl⟩
  have hNl : N ≤ 65536 := by rw [← hN]; exact Nat.mul_le_mul hW2 hH2
  have hN0 : 0 < N := by rw [← hN]; exact Nat.mul_pos hW1 hH1
  rw [hN] at HX HR hk0 ⊢
  have HN := Lib.hid hN
  clear hx hr hN
  obtain ⟨M0, hM0⟩ : ∃ M, y0 * W = M := ⟨_, rfl⟩
  have MI0 : (y0 : Int) * (W : Int) = (M0 : Int) := by rw [← hM0]; simp
  rw [hM0] at hk0 HPZ
  obtain ⟨K0, hK0⟩ : ∃ k, M0 + x0 = k := ⟨_, rfl⟩
  rw [hK0] at hk0 HPZ
  have MK0 : (M0 : Int) + (x0 : Int) = (K0 : Int) := by omega
  have HMK := Lib.hid (show y0 * W + x0 = K0 by rw [hM0]; exact hK0)
  have WP0 := Lib.hid (And.intro (wrap_n M0 (by omega)) (wrap_n K0 (by omega)))
  have MM0 := Lib.hid (And.intro MI0 MK0)
  clear hM0 hK0 MI0 MK0
  go_enter Tryd.func33, Tryd.ntmps33
  go_wp2_with fail
  refine wp_world (fun wz => Ext w wz ∧ wz.heap.size = w.heap.size + 1 + 1 + 1 ∧ Bk wz (w.heap.size) #[.int .i64 (W : Int), .int .i64 (H : Int), .slice (some ad) N cap] ∧ Bk wz (w.heap.size + 1) #[.int .u8 c.r, .int .u8 c.g, .int .u8 c.b, .int .u8 c.a] ∧ Bk wz (w.heap.size + 1 + 1) #[.int .i64 0, .int .i64 0, .slice none 0 0]) ⟨by repeat (first | exact Ext.refl _ | refine Ext.alloc ?_ _), by simp, by repeat (first | exact Bk.at (by simp) | refine Bk.old ?_), by repeat (first | exact Bk.at (by simp) | refine Bk.old ?_), by repeat (first | exact Bk.at (by simp) | refine Bk.old ?_)⟩ ?_
  rintro wr ⟨hX, hZ, hB0, hB1, hB2⟩
  have q0 := hB0.cell 0
  have q1 := hB0.cell 1
  have q2 := hB0.cell 2
  have B0 := Lib.hid hB0
  have B1 := Lib.hid hB1
  have B2 := Lib.hid hB2
  have XR := Lib.hid hX
  have SZ := Lib.hid hZ
  clear hX hZ hB0 hB1 hB2
  go_region_held3 (fun w' => w'.cell? ⟨w.heap.size, 0, none⟩ = some (.int .i64 (W : Int)) ∧ w'.cell? ⟨w.heap.size, 1, none⟩ = some (.int .i64 (H : Int)) ∧ w'.cell? ⟨w.heap.size, 2, none⟩ = some (.slice (some ad) N cap)) (first | exact ⟨q0, q1, q2⟩ | exact ⟨(B0.out.ext hb).cell 0, (B0.out.ext hb).cell 1, (B0.out.ext hb).cell 2⟩ | exact ⟨(B0.out.ext ha).cell 0, (B0.out.ext ha).cell 1, (B0.out.ext ha).cell 2⟩)
    (first
      | ((go_at_call 62; refine (in_any _ _ (.slice (some ad) N cap) _ _ _ ⟨_, _, _, rfl⟩).mono ?_; rintro e w5 ⟨rfl, hx⟩; have ha : Ext wr w5 := ⟨hx.os, hx.tape, hx.output, hx.size, hx.block⟩; clear hx; rw [HI.out]))
      | ((go_at_call 55; refine (check_ok _ _ _ _ _ _ HR.out).mono ?_; rintro e w6 ⟨rfl, hx⟩; have hb : Ext wr w6 := Ext.trans ha hx; clear hx)))
  have XS := Lib.hid (Ext.trans XR.out hb)
  have B0S := Lib.hid (B0.out.ext hb)
  have B1S := Lib.hid (B1.out.ext hb)
  have B2S := Lib.hid (B2.out.ext hb)
  have SS := Lib.hid hb.size
  clear q0 q1 q2 ha hb B0 B1 B2
  have q0 := B0S.out.cell 0
  have q1 := B0S.out.cell 1
  have q2 := B0S.out.cell 2
  go_wp2_with fail
  refine (rown_any _ _ (some ad) N cap px _ (HX.out.ext XS.out) (fun h => by cases h) (by omega)).mono ?_
  rintro e w2 ⟨⟨v, rfl, hown⟩, h⟩
  have X2 := Lib.hid (h)
  have OWN := Lib.hid (hown)
  clear h hown
  clear q0 q1 q2
  obtain ⟨g, cc, rfl, _, hg⟩ := ownsRow_some OWN.out hN0
  have HG := Lib.hid (And.intro hg (ownsRow_ge OWN.out))
  clear hg
  go_upto_region 5 with fail
  have E_ := (Ext.refl w2).alloc (.cells #[.int .i64 (W : Int), .int .i64 (H : Int), .slice (some ⟨g, 0, none⟩) N cc] 24)
  have FA : Hid (FAt w (w2.alloc (.cells #[.int .i64 (W : Int), .int .i64 (H : Int), .slice (some ⟨g, 0, none⟩) N cc] 24)) (w.heap.size + 1 + 1) w2.heap.size g (W : Int) (H : Int) N cc px) := Lib.hid (by
    obtain ⟨z1, z2⟩ := HG.out
    have z3 := SZ.out
    have z4 := SS.out
    exact ⟨XS.out.trans (X2.out.trans E_), (B2S.out.ext X2.out).ext E_, Bk.at rfl, (Po.of_own OWN.out).ext E_, by omega, by omega, by omega⟩)
  have B0T := Lib.hid (B0S.out.ext (X2.out.trans E_))
  have B1T := Lib.hid (B1S.out.ext (X2.out.trans E_))
  have HS : Hid (w.heap.size + 1 + 1 < g ∧ g < w2.heap.size ∧ w2.heap.size + 1 ≤ (w2.alloc (.cells #[.int .i64 (W : Int), .int .i64 (H : Int), .slice (some ⟨g, 0, none⟩) N cc] 24)).heap.size) := Lib.hid (by have := HG.out; have := SZ.out; have := SS.out; simp; omega)
  clear E_
  refine wp_world (fun wz => Hid (FAt w wz (w.heap.size + 1 + 1) w2.heap.size g (W : Int) (H : Int) N cc px) ∧ Hid (Bk wz w.heap.size #[.int .i64 (W : Int), .int .i64 (H : Int), .slice (some ad) N cap]) ∧ Hid (Bk wz (w.heap.size + 1) #[.int .u8 c.r, .int .u8 c.g, .int .u8 c.b, .int .u8 c.a]) ∧ Hid (w.heap.size + 1 + 1 < g ∧ g < w2.heap.size ∧ w2.heap.size + 1 ≤ wz.heap.size)) ⟨FA, B0T, B1T, HS⟩ ?_
  obtain ⟨T, hT⟩ : ∃ T, w2.heap.size = T := ⟨_, rfl⟩
  rw [hT]
  clear FA B0T B1T HS HG SZ SS OWN X2 XS B0S B1S B2S XR hT
  rintro w3 ⟨FA, B0, B1, HS⟩
  obtain ⟨a0, a1, a2, a3, _⟩ := (HX.out.ext FA.out.ext).2 ad rfl K0 hk0
  rw [HPZ.out] at a0 a1 a2 a3
  obtain ⟨MI0, MK0⟩ := MM0.out
  obtain ⟨⟨wa0, wb0⟩, wa1, wb1⟩ := And.intro (wq WP0.out.1) (wq WP0.out.2)
  have q0 := B0.out.cell 0
  have q1 := B0.out.cell 1
  have q2 := B0.out.cell 2
  go_upto_region 6 with fail
  have E_ := (Ext.refl w3).alloc (.cells #[.int .u8 pz.r, .int .u8 pz.g, .int .u8 pz.b, .int .u8 pz.a] 36)
  have FA2 := Lib.hid (FA.out.step E_)
  have B02 := Lib.hid (B0.out.ext E_)
  have B12 := Lib.hid (B1.out.ext E_)
  have HS2 : Hid (w.heap.size + 1 + 1 < g ∧ g < T ∧ T < w3.heap.size ∧ w3.heap.size + 1 ≤ (w3.alloc (.cells #[.int .u8 pz.r, .int .u8 pz.g, .int .u8 pz.b, .int .u8 pz.a] 36)).heap.size) := Lib.hid (by have := HS.out; simp; omega)
  clear E_ a0 a1 a2 a3 q0 q1 q2 wa0 wb0 wa1 wb1 MI0 MK0
  refine wp_world (fun wz => Hid (FAt w wz (w.heap.size + 1 + 1) T g (W : Int) (H : Int) N cc px) ∧ Hid (Bk wz w.heap.size #[.int .i64 (W : Int), .int .i64 (H : Int), .slice (some ad) N cap]) ∧ Hid (Bk wz (w.heap.size + 1) #[.int .u8 c.r, .int .u8 c.g, .int .u8 c.b, .int .u8 c.a]) ∧ Hid (Bk wz w3.heap.size #[.int .u8 pz.r, .int .u8 pz.g, .int .u8 pz.b, .int .u8 pz.a]) ∧ Hid (w.heap.size + 1 + 1 < g ∧ g < T ∧ T < w3.heap.size ∧ w3.heap.size + 1 ≤ wz.heap.size)) ⟨FA2, B02, B12, Lib.hid (Bk.at rfl), HS2⟩ ?_
  obtain ⟨Q, hQ⟩ : ∃ Q, w3.heap.size = Q := ⟨_, rfl⟩
  rw [hQ]
  clear FA2 B02 B12 HS2 FA B0 B1 HS hQ
  rintro w4 ⟨FA, B0, B1, BQ, HS⟩
  have u0 := B1.out.cell 0
  have v0 := BQ.out.cell 0
  have u1 := B1.out.cell 1
  have v1 := BQ.out.cell 1
  have u2 := B1.out.cell 2
  have v2 := BQ.out.cell 2
  have u3 := B1.out.cell 3
  have v3 := BQ.out.cell 3
  cases hq : peq pz c
  all_goals (have PN := pix_eql pz c _ hq)
  · have hne : ¬ pz = c := fun e => by have := (peq_iff pz c).2 e; rw [hq] at this; cases this
    have HNE := Lib.hid hne
    clear hq hne
    go_wp2_with fail
    clear PN u0 u1 u2 u3 v0 v1 v2 v3
    have E_ := (Ext.refl w4).alloc (.cells #[.int .i64 (x0 : Int), .int .i64 (y0 : Int)] 97)
    have FS := Lib.hid (show FL w (w4.alloc (.cells #[.int .i64 (x0 : Int), .int .i64 (y0 : Int)] 97)) W H N ad cap T Q g cc w4.heap.size c pz (fldP (fun _ => false) c px) (.slice (some ⟨w4.heap.size, 0, none⟩) 1 1) [((x0 : Int), (y0 : Int))] from by
      obtain ⟨z1, z2, z3, z4⟩ := HS.out
      have r1 : (w4.alloc (.cells #[.int .i64 (x0 : Int), .int .i64 (y0 : Int)] 97)).ownsRow w4.heap.size 97 2 (.slice (some ⟨w4.heap.size, 0, none⟩) 1 1) [((x0 : Int), (y0 : Int))].length (stV [((x0 : Int), (y0 : Int))]) := ⟨rfl, .inr ⟨w4.heap.size, 1, _, rfl, Nat.le_refl _, heap_alloc_new w4 _, Nat.le_refl _, by decide, rfl, rfl⟩⟩
      exact ⟨(FA.out.step E_).congr (fun i _ => by simp [fldP]), B0.out.ext E_, B1.out.ext E_, BQ.out.ext E_, r1, by omega, by omega, by omega, by omega, by omega, by omega, by simp⟩)
    refine wp_world (fun wz => Hid (FL w wz W H N ad cap T Q g cc w4.heap.size c pz (fldP (fun _ => false) c px) (.slice (some ⟨w4.heap.size, 0, none⟩) 1 1) [((x0 : Int), (y0 : Int))])) FS ?_
    obtain ⟨B, hB⟩ : ∃ B, w4.heap.size = B := ⟨_, rfl⟩
    rw [hB]
    clear FS FA B0 B1 BQ HS hB E_
    rintro w5 FF
    have HD0 := Lib.hid (Fl.Dfs.start W H (okF W x0 y0 px) x0 y0)
    obtain ⟨i0, hi0, hz0, hz1, hz2⟩ := info_parts pairinf
    go_loopg [13] (5 * N + 1) (fun q v wr => ∃ (F : Nat → Bool) (st : List (Int × Int)), Hid (FL w wr W H N ad cap T Q g cc B c pz (fldP F c px) v st) ∧ Hid (Fl.Dfs W H (okF W x0 y0 px) x0 y0 F st) ∧ Hid (5 * Fl.cnt F N + st.length ≤ q) ∧ Hid (q ≤ 5 * N + 1))
    case atStart => exact ⟨_, _, FF, HD0, Lib.hid (by have := Fl.cnt_le (fun _ => false) N; simp; omega), Lib.hid (Nat.le_refl _)⟩
    case round =>
      clear FF HD0
      obtain ⟨F, st, FF, HD, HM, HQ⟩ := hrel
      rcases List.eq_nil_or_concat st with rfl | ⟨st, xy, rfl⟩
      · obtain ⟨vx, vc, rfl⟩ := own_slice FF.out.row
        have k0 := FF.out.fa.bk.cell 0
        have k1 := FF.out.fa.bk.cell 1
        have k2 := FF.out.fa.bk.cell 2
        have d0 := FF.out.fa.res.cell 0
        have e0 := FF.out.fa.res.frozen 0
        have d1 := FF.out.fa.res.cell 1
        have e1 := FF.out.fa.res.frozen 1
        have d2 := FF.out.fa.res.cell 2
        have e2 := FF.out.fa.res.frozen 2
        have PC := Lib.hid (FF.out.fa.close (by omega : w.heap.size ≤ w.heap.size + 1 + 1))
        have GN := Lib.hid FF.out.fa.gn
        have HF := Lib.hid (fun (u v : Nat) (hu : u < W) (hv : v < H) => HD.out.done ⟨hx0, hy0⟩ hu hv)
        clear FF HD HM HQ
        go_wp2_with fail
        obtain ⟨k0, k1, k2, hP, hX⟩ := PC.out
        exact bodyPost_ret (v := .tuple #[.agg #[.int .i64 (W : Int), .int .i64 (H : Int), .slice (some ⟨g, 0, none⟩) N cc], .nilIface]) (by simp [results, Tryd.results33, go_sem, k0, k1, k2]) rfl ⟨fldP F c px, ⟨fun I hI i hi => flood_uniq HN.out HF.out hI i hi, by rw [HMK.out]; unfold fldP; rw [if_pos (by have := (HF.out x0 y0 hx0 hy0).2 .start; rw [HMK.out] at this; exact this)]⟩, ⟨g, ⟨cc, rfl⟩, hP, GN.out⟩, hX⟩
      · obtain ⟨x, y⟩ := xy
        rw [List.concat_eq_append] at FF HD HM
        obtain ⟨s, sc, rfl, hsc⟩ := FF.out.lit (by simp)
        obtain ⟨n, hn⟩ : ∃ n, st.length = n := ⟨_, rfl⟩
        obtain ⟨n1, hn1⟩ : ∃ n1, n + 1 = n1 := ⟨_, rfl⟩
        have e : (st ++ [(x, y)]).length = n1 := by simp [hn, hn1]
        rw [e] at FF hsc HM ⊢
        obtain ⟨t0, t1⟩ := FF.out.top
        rw [hn] at t0 t1
        have FP := Lib.hid FF.out.pop
        rw [hn] at FP
        have hgk : 1 ≤ gk ∧ n1 ≤ 5 * N + 1 := by have := HM.out; have := HQ.out; omega
        have hnn : (n1 : Int) - 1 = (n : Int) := by omega
        have hn0 : 0 < (n1 : Int) := by omega
        have hnc : n ≤ sc := by omega
        have hnl : n < n1 := by omega
        have HNN := Lib.hid (And.intro hn hn1)
        have HG1 := Lib.hid hgk
        have hn6 : n ≤ 1000000 := by omega
        clear hn hn1 e hgk FF
        go_upto_region 10 with fail
        have wn1 := wrapN
        have wn2 := wrapN64
        refine wp_region_still_tail 15 (by kernel_rfl) (by kernel_rfl) ?_
        simp only [List.take_succ_cons, List.take_zero, List.drop_succ_cons, List.drop_zero]
        repeat still_step
        refine wpStill_nil ?_
        change wpList _ _ _ _ _ wr.drew
        clear wn1 wn2
        go_upto_region 11 with fail
        have wn1 := wrapN
        have wn2 := wrapN64
        go_upto_region 12 with fail
        clear t0 t1 wn1 wn2 hnn hn0 hnc hnl hsc hn6
        refine wp_world (fun wz => Ext wr wz) (show Ext wr wr.drew from Below.drew (Ext.refl wr)) ?_
        rintro w6 h6
        have F6 := Lib.hid (FP.out.ext h6)
        clear h6 FP
        cases hin : inB (W : Int) (H : Int) x y
        · have HIN := Lib.hid hin
          clear hin
          have X_0 := Lib.hid (Ext.refl w6)
          refine wp_region_held_drew (S := fun w' => w'.cell? ⟨w.heap.size, 0, none⟩ = some (.int .i64 (W : Int)) ∧ w'.cell? ⟨w.heap.size, 1, none⟩ = some (.int .i64 (H : Int)) ∧ w'.cell? ⟨w.heap.size, 2, none⟩ = some (.slice (some ad) N cap)) (by kernel_rfl) ⟨(F6.out.ext X_0.out).b.cell 0, (F6.out.ext X_0.out).b.cell 1, (F6.out.ext X_0.out).b.cell 2⟩ (fun hHeld => ?_)
          clear hHeld
          refine anyH_world (fun wz => Ext w6 wz) (show Ext w6 w6.drew from Below.drew (Ext.refl w6)) ?_
          rintro wc1 h
          have X_1 := Lib.hid (X_0.out.trans h)
          clear h X_0
          have hHeld : wc1.cell? ⟨w.heap.size, 0, none⟩ = some (.int .i64 (W : Int)) ∧ wc1.cell? ⟨w.heap.size, 1, none⟩ = some (.int .i64 (H : Int)) ∧ wc1.cell? ⟨w.heap.size, 2, none⟩ = some (.slice (some ad) N cap) := ⟨(F6.out.ext X_1.out).b.cell 0, (F6.out.ext X_1.out).b.cell 1, (F6.out.ext X_1.out).b.cell 2⟩
          refine wpAnyH_take (i := 0) (v := ?_) rfl (by kernel_rfl) (by kernel_rfl) (by kernel_rfl) (fun _ _ _ h => h) (Or.inl ⟨by kernel_rfl, ?_⟩) hHeld ?_
          rotate_left
          · intro w hSw
            (try dsimp only at hSw)
            go_split_ands
            go_simp
            (try with_reducible rfl)
          try simp only [Act.put, List.getElem_toArray, List.getElem_cons_succ, List.getElem_cons_zero, List.setIfInBounds_toArray, List.set_cons_zero, List.set_cons_succ]
          refine wpAnyH_take (i := 1) (v := ?_) rfl (by kernel_rfl) (by kernel_rfl) (by kernel_rfl) (fun _ _ _ h => h) (Or.inl ⟨by kernel_rfl, ?_⟩) hHeld ?_
          rotate_left
          · intro w hSw
            (try dsimp only at hSw)
            go_split_ands
            go_simp
            (try with_reducible rfl)
          try simp only [Act.put, List.getElem_toArray, List.getElem_cons_succ, List.getElem_cons_zero, List.setIfInBounds_toArray, List.set_cons_zero, List.set_cons_succ]
          refine wpAnyH_take (i := 2) (v := ?_) rfl (by kernel_rfl) (by kernel_rfl) (by kernel_rfl) (fun _ _ _ h => h) (Or.inl ⟨by kernel_rfl, ?_⟩) hHeld ?_
          rotate_left
          · intro w hSw
            (try dsimp only at hSw)
            go_split_ands
            go_simp
            (try with_reducible rfl)
          try simp only [Act.put, List.getElem_toArray, List.getElem_cons_succ, List.getElem_cons_zero, List.setIfInBounds_toArray, List.set_cons_zero, List.set_cons_succ]
          refine wpAnyH_ready (rs := [3]) (by kernel_rfl) (by simp) ?_
          refine AllReadyH.cons rfl (fun KK hK => ?_) AllReadyH.nil
          clear hHeld
          go_simp
          refine (in_any _ _ (.slice (some ad) N cap) _ _ _ ⟨_, _, _, rfl⟩).mono ?_
          rintro e wc2 ⟨rfl, h⟩
          rw [HIN.out]
          have X_2 := Lib.hid (X_1.out.trans h)
          clear h X_1
          go_simp
          refine hK.out _ _ ⟨(F6.out.ext X_2.out).b.cell 0, (F6.out.ext X_2.out).b.cell 1, (F6.out.ext X_2.out).b.cell 2⟩ (fun hHeld => ?_)
          clear hK KK
          try simp only [Act.put, List.getElem_toArray, List.getElem_cons_succ, List.getElem_cons_zero, List.setIfInBounds_toArray, List.set_cons_zero, List.set_cons_succ]
          refine wpAnyH_take (i := 4) (v := ?_) rfl (by kernel_rfl) (by kernel_rfl) (by kernel_rfl) (fun _ _ _ h => h) (Or.inl ⟨by kernel_rfl, ?_⟩) hHeld ?_
          rotate_left
          · intro w hSw
            (try dsimp only at hSw)
            go_split_ands
            go_simp
            (try with_reducible rfl)
          try simp only [Act.put, List.getElem_toArray, List.getElem_cons_succ, List.getElem_cons_zero, List.setIfInBounds_toArray, List.set_cons_zero, List.set_cons_succ]
          refine wpAnyH_take (i := 5) (v := ?_) rfl (by kernel_rfl) (by kernel_rfl) (by kernel_rfl) (fun _ _ _ h => h) (Or.inl ⟨by kernel_rfl, ?_⟩) hHeld ?_
          rotate_left
          · intro w hSw
            (try dsimp only at hSw)
            go_split_ands
            go_simp
            (try with_reducible rfl)
          try simp only [Act.put, List.getElem_toArray, List.getElem_cons_succ, List.getElem_cons_zero, List.setIfInBounds_toArray, List.set_cons_zero, List.set_cons_succ]
          refine wpAnyH_take (i := 6) (v := undef) rfl (by kernel_rfl) (by kernel_rfl) (by kernel_rfl) (fun _ _ _ h => h) (Or.inr ⟨by kernel_rfl, rfl⟩) hHeld ?_
          try simp only [Act.put, List.getElem_toArray, List.getElem_cons_succ, List.getElem_cons_zero, List.setIfInBounds_toArray, List.set_cons_zero, List.set_cons_succ]
          refine wpAnyH_take (i := 7) (v := undef) rfl (by kernel_rfl) (by kernel_rfl) (by kernel_rfl) (fun _ _ _ h => h) (Or.inr ⟨by kernel_rfl, rfl⟩) hHeld ?_
          try simp only [Act.put, List.getElem_toArray, List.getElem_cons_succ, List.getElem_cons_zero, List.setIfInBounds_toArray, List.set_cons_zero, List.set_cons_succ]
          refine wpAnyH_take (i := 8) (v := undef) rfl (by kernel_rfl) (by kernel_rfl) (by kernel_rfl) (fun _ _ _ h => h) (Or.inr ⟨by kernel_rfl, rfl⟩) hHeld ?_
          try simp only [Act.put, List.getElem_toArray, List.getElem_cons_succ, List.getElem_cons_zero, List.setIfInBounds_toArray, List.set_cons_zero, List.set_cons_succ]
          refine wpAnyH_take (i := 9) (v := undef) rfl (by kernel_rfl) (by kernel_rfl) (by kernel_rfl) (fun _ _ _ h => h) (Or.inr ⟨by kernel_rfl, rfl⟩) hHeld ?_
          try simp only [Act.put, List.getElem_toArray, List.getElem_cons_succ, List.getElem_cons_zero, List.setIfInBounds_toArray, List.set_cons_zero, List.set_cons_succ]
          refine wpAnyH_take (i := 10) (v := undef) rfl (by kernel_rfl) (by kernel_rfl) (by kernel_rfl) (fun _ _ _ h => h) (Or.inr ⟨by kernel_rfl, rfl⟩) hHeld ?_
          try simp only [Act.put, List.getElem_toArray, List.getElem_cons_succ, List.getElem_cons_zero, List.setIfInBounds_toArray, List.set_cons_zero, List.set_cons_succ]
          refine wpAnyH_take (i := 11) (v := undef) rfl (by kernel_rfl) (by kernel_rfl) (by kernel_rfl) (fun _ _ _ h => h) (Or.inr ⟨by kernel_rfl, rfl⟩) hHeld ?_
          try simp only [Act.put, List.getElem_toArray, List.getElem_cons_succ, List.getElem_cons_zero, List.setIfInBounds_toArray, List.set_cons_zero, List.set_cons_succ]
          refine wpAnyH_take (i := 12) (v := undef) rfl (by kernel_rfl) (by kernel_rfl) (by kernel_rfl) (fun _ _ _ h => h) (Or.inr ⟨by kernel_rfl, rfl⟩) hHeld ?_
          try simp only [Act.put, List.getElem_toArray, List.getElem_cons_succ, List.getElem_cons_zero, List.setIfInBounds_toArray, List.set_cons_zero, List.set_cons_succ]
          refine wpAnyH_take (i := 13) (v := undef) rfl (by kernel_rfl) (by kernel_rfl) (by kernel_rfl) (fun _ _ _ h => h) (Or.inr ⟨by kernel_rfl, rfl⟩) hHeld ?_
          try simp only [Act.put, List.getElem_toArray, List.getElem_cons_succ, List.getElem_cons_zero, List.setIfInBounds_toArray, List.set_cons_zero, List.set_cons_succ]
          refine wpAnyH_take (i := 14) (v := undef) rfl (by kernel_rfl) (by kernel_rfl) (by kernel_rfl) (fun _ _ _ h => h) (Or.inr ⟨by kernel_rfl, rfl⟩) hHeld ?_
          try simp only [Act.put, List.getElem_toArray, List.getElem_cons_succ, List.getElem_cons_zero, List.setIfInBounds_toArray, List.set_cons_zero, List.set_cons_succ]
          refine wpAnyH_take (i := 15) (v := undef) rfl (by kernel_rfl) (by kernel_rfl) (by kernel_rfl) (fun _ _ _ h => h) (Or.inr ⟨by kernel_rfl, rfl⟩) hHeld ?_
          try simp only [Act.put, List.getElem_toArray, List.getElem_cons_succ, List.getElem_cons_zero, List.setIfInBounds_toArray, List.set_cons_zero, List.set_cons_succ]
          refine wpAnyH_take (i := 16) (v := undef) rfl (by kernel_rfl) (by kernel_rfl) (by kernel_rfl) (fun _ _ _ h => h) (Or.inr ⟨by kernel_rfl, rfl⟩) hHeld ?_
          try simp only [Act.put, List.getElem_toArray, List.getElem_cons_succ, List.getElem_cons_zero, List.setIfInBounds_toArray, List.set_cons_zero, List.set_cons_succ]
          refine wpAnyH_take (i := 17) (v := undef) rfl (by kernel_rfl) (by kernel_rfl) (by kernel_rfl) (fun _ _ _ h => h) (Or.inr ⟨by kernel_rfl, rfl⟩) hHeld ?_
          try simp only [Act.put, List.getElem_toArray, List.getElem_cons_succ, List.getElem_cons_zero, List.setIfInBounds_toArray, List.set_cons_zero, List.set_cons_succ]
          refine wpAnyH_take (i := 18) (v := ?_) rfl (by kernel_rfl) (by kernel_rfl) (by kernel_rfl) (fun _ _ _ h => h) (Or.inl ⟨by kernel_rfl, ?_⟩) hHeld ?_
          rotate_left
          · intro w hSw
            (try dsimp only at hSw)
            go_split_ands
            go_simp
            (try with_reducible rfl)
          try simp only [Act.put, List.getElem_toArray, List.getElem_cons_succ, List.getElem_cons_zero, List.setIfInBounds_toArray, List.set_cons_zero, List.set_cons_succ]
          refine wpAnyH_done (by kernel_rfl) ?_ _
          clear hHeld
          go_wp2_with fail
          have HD2 := Lib.hid (HD.out.skip ⟨hx0, hy0⟩ rfl (fun u v hu hv h1 h2 _ => by have h := HIN.out; subst hu hv; rw [show inB (W : Int) (H : Int) (u : Int) (v : Int) = true from decide_eq_true ⟨by omega, by omega, by omega, by omega⟩] at h; cases h))
          go_roundg (gk - 1)
          case measure => have := HG1.out; omega
          case rel => exact ⟨F, st, Lib.hid (F6.out.ext X_2.out), HD2, Lib.hid (by have := HM.out; have := HNN.out; omega), Lib.hid (by have := HQ.out; omega)⟩
        · obtain ⟨i1, i2, i3, i4⟩ := of_decide_eq_true hin
          have HIN := Lib.hid hin
          clear hin
          obtain ⟨a, rfl⟩ : ∃ m : Nat, x = m := ⟨x.toNat, by omega⟩
          obtain ⟨b, rfl⟩ : ∃ m : Nat, y = m := ⟨y.toNat, by omega⟩
          have ha : a < W := by omega
          have hb : b < H := by omega
          clear i1 i2 i3 i4
          have hk : b * W + a < N := by rw [← HN.out]; exact mul_lt_of hb ha
          have MI : (b : Int) * (W : Int) = ((b * W : Nat) : Int) := by simp
          obtain ⟨M, hM⟩ : ∃ M, b * W = M := ⟨_, rfl⟩
          rw [hM] at hk MI
          obtain ⟨K, hK⟩ : ∃ K, M + a = K := ⟨_, rfl⟩
          rw [hK] at hk
          have MK : (M : Int) + (a : Int) = (K : Int) := by omega
          have HK := Lib.hid (show b * W + a = K by rw [hM]; exact hK)
          have WPK := Lib.hid (And.intro (wrap_n M (by omega)) (wrap_n K (by omega)))
          clear hM hK
          obtain ⟨pk, hpk⟩ : ∃ q, fldP F c px K = q := ⟨_, rfl⟩
          have HPK := Lib.hid hpk
          clear hpk
          cases hq : peq pk pz
          all_goals (have PN := pix_neq pk pz _ hq)
          · have HNQ := Lib.hid (show ¬ pk = pz from fun e => by have := (peq_iff pk pz).2 e; rw [hq] at this; cases this)
            clear hq
            have X_0 := Lib.hid (Ext.refl w6)
            have PX : Hid (∀ wz, Ext w6 wz → wz.cell? ⟨g, K * 4, none⟩ = some (.int .u8 pk.r) ∧ wz.cell? ⟨g, K * 4 + 1, none⟩ = some (.int .u8 pk.g) ∧ wz.cell? ⟨g, K * 4 + 2, none⟩ = some (.int .u8 pk.b) ∧ wz.cell? ⟨g, K * 4 + 3, none⟩ = some (.int .u8 pk.a)) := Lib.hid (fun wz hE => by
              have h := (F6.out.ext hE).fa.row.px4 K hk
              rw [HPK.out] at h
              exact h)
            obtain ⟨⟨wa0, wb0⟩, wa1, wb1⟩ := And.intro (wq WPK.out.1) (wq WPK.out.2)
            refine wp_region_held_drew (S := fun w' => w'.cell? ⟨w.heap.size, 0, none⟩ = some (.int .i64 (W : Int)) ∧ w'.cell? ⟨w.heap.size, 1, none⟩ = some (.int .i64 (H : Int)) ∧ w'.cell? ⟨w.heap.size, 2, none⟩ = some (.slice (some ad) N cap) ∧ w'.cell? ⟨T, 2, none⟩ = some (.slice (some ⟨g, 0, none⟩) N cc) ∧ w'.cell? ⟨Q, 0, none⟩ = some (.int .u8 pz.r) ∧ w'.cell? ⟨Q, 1, none⟩ = some (.int .u8 pz.g) ∧ w'.cell? ⟨Q, 2, none⟩ = some (.int .u8 pz.b) ∧ w'.cell? ⟨Q, 3, none⟩ = some (.int .u8 pz.a) ∧ w'.cell? ⟨g, K * 4, none⟩ = some (.int .u8 pk.r) ∧ w'.cell? ⟨g, K * 4 + 1, none⟩ = some (.int .u8 pk.g) ∧ w'.cell? ⟨g, K * 4 + 2, none⟩ = some (.int .u8 pk.b) ∧ w'.cell? ⟨g, K * 4 + 3, none⟩ = some (.int .u8 pk.a)) (by kernel_rfl) ⟨(F6.out.ext X_0.out).b.cell 0, (F6.out.ext X_0.out).b.cell 1, (F6.out.ext X_0.out).b.cell 2, (F6.out.ext X_0.out).fa.bk.cell 2, (F6.out.ext X_0.out).q.cell 0, (F6.out.ext X_0.out).q.cell 1, (F6.out.ext X_0.out).q.cell 2, (F6.out.ext X_0.out).q.cell 3, (PX.out w6 X_0.out).1, (PX.out w6 X_0.out).2.1, (PX.out w6 X_0.out).2.2.1, (PX.out w6 X_0.out).2.2.2⟩ (fun hHeld => ?_)
            clear hHeld
            refine anyH_world (fun wz => Ext w6 wz) (show Ext w6 w6.drew from Below.drew (Ext.refl w6)) ?_
            rintro wc1 h
            have X_1 := Lib.hid (X_0.out.trans h)
            clear h X_0
            have hHeld : wc1.cell? ⟨w.heap.size, 0, none⟩ = some (.int .i64 (W : Int)) ∧ wc1.cell? ⟨w.heap.size, 1, none⟩ = some (.int .i64 (H : Int)) ∧ wc1.cell? ⟨w.heap.size, 2, none⟩ = some (.slice (some ad) N cap) ∧ wc1.cell? ⟨T, 2, none⟩ = some (.slice (some ⟨g, 0, none⟩) N cc) ∧ wc1.cell? ⟨Q, 0, none⟩ = some (.int .u8 pz.r) ∧ wc1.cell? ⟨Q, 1, none⟩ = some (.int .u8 pz.g) ∧ wc1.cell? ⟨Q, 2, none⟩ = some (.int .u8 pz.b) ∧ wc1.cell? ⟨Q, 3, none⟩ = some (.int .u8 pz.a) ∧ wc1.cell? ⟨g, K * 4, none⟩ = some (.int .u8 pk.r) ∧ wc1.cell? ⟨g, K * 4 + 1, none⟩ = some (.int .u8 pk.g) ∧ wc1.cell? ⟨g, K * 4 + 2, none⟩ = some (.int .u8 pk.b) ∧ wc1.cell? ⟨g, K * 4 + 3, none⟩ = some (.int .u8 pk.a) := ⟨(F6.out.ext X_1.out).b.cell 0, (F6.out.ext X_1.out).b.cell 1, (F6.out.ext X_1.out).b.cell 2, (F6.out.ext X_1.out).fa.bk.cell 2, (F6.out.ext X_1.out).q.cell 0, (F6.out.ext X_1.out).q.cell 1, (F6.out.ext X_1.out).q.cell 2, (F6.out.ext X_1.out).q.cell 3, (PX.out wc1 X_1.out).1, (PX.out wc1 X_1.out).2.1, (PX.out wc1 X_1.out).2.2.1, (PX.out wc1 X_1.out).2.2.2⟩
            refine wpAnyH_take (i := 0) (v := ?_) rfl (by kernel_rfl) (by kernel_rfl) (by kernel_rfl) (fun _ _ _ h => h) (Or.inl ⟨by kernel_rfl, ?_⟩) hHeld ?_
            rotate_left
            · intro w hSw
              (try dsimp only at hSw)
              go_split_ands
              go_simp
              (try with_reducible rfl)
            try simp only [Act.put, List.getElem_toArray, List.getElem_cons_succ, List.getElem_cons_zero, List.setIfInBounds_toArray, List.set_cons_zero, List.set_cons_succ]
            refine wpAnyH_take (i := 1) (v := ?_) rfl (by kernel_rfl) (by kernel_rfl) (by kernel_rfl) (fun _ _ _ h => h) (Or.inl ⟨by kernel_rfl, ?_⟩) hHeld ?_
            rotate_left
            · intro w hSw
              (try dsimp only at hSw)
              go_split_ands
              go_simp
              (try with_reducible rfl)
            try simp only [Act.put, List.getElem_toArray, List.getElem_cons_succ, List.getElem_cons_zero, List.setIfInBounds_toArray, List.set_cons_zero, List.set_cons_succ]
            refine wpAnyH_take (i := 2) (v := ?_) rfl (by kernel_rfl) (by kernel_rfl) (by kernel_rfl) (fun _ _ _ h => h) (Or.inl ⟨by kernel_rfl, ?_⟩) hHeld ?_
            rotate_left
            · intro w hSw
              (try dsimp only at hSw)
              go_split_ands
              go_simp
              (try with_reducible rfl)
            try simp only [Act.put, List.getElem_toArray, List.getElem_cons_succ, List.getElem_cons_zero, List.setIfInBounds_toArray, List.set_cons_zero, List.set_cons_succ]
            refine wpAnyH_ready (rs := [3]) (by kernel_rfl) (by simp) ?_
            refine AllReadyH.cons rfl (fun KK hK => ?_) AllReadyH.nil
            clear hHeld
            go_simp
            refine (in_any _ _ (.slice (some ad) N cap) _ _ _ ⟨_, _, _, rfl⟩).mono ?_
            rintro e wc2 ⟨rfl, h⟩
            rw [HIN.out]
            have X_2 := Lib.hid (X_1.out.trans h)
            clear h X_1
            go_simp
            refine hK.out _ _ ⟨(F6.out.ext X_2.out).b.cell 0, (F6.out.ext X_2.out).b.cell 1, (F6.out.ext X_2.out).b.cell 2, (F6.out.ext X_2.out).fa.bk.cell 2, (F6.out.ext X_2.out).q.cell 0, (F6.out.ext X_2.out).q.cell 1, (F6.out.ext X_2.out).q.cell 2, (F6.out.ext X_2.out).q.cell 3, (PX.out wc2 X_2.out).1, (PX.out wc2 X_2.out).2.1, (PX.out wc2 X_2.out).2.2.1, (PX.out wc2 X_2.out).2.2.2⟩ (fun hHeld => ?_)
            clear hK KK
            try simp only [Act.put, List.getElem_toArray, List.getElem_cons_succ, List.getElem_cons_zero, List.setIfInBounds_toArray, List.set_cons_zero, List.set_cons_succ]
            refine wpAnyH_take (i := 4) (v := ?_) rfl (by kernel_rfl) (by kernel_rfl) (by kernel_rfl) (fun _ _ _ h => h) (Or.inl ⟨by kernel_rfl, ?_⟩) hHeld ?_
            rotate_left
            · intro w hSw
              (try dsimp only at hSw)
              go_split_ands
              go_simp
              (try with_reducible rfl)
            try simp only [Act.put, List.getElem_toArray, List.getElem_cons_succ, List.getElem_cons_zero, List.setIfInBounds_toArray, List.set_cons_zero, List.set_cons_succ]
            refine wpAnyH_take (i := 5) (v := ?_) rfl (by kernel_rfl) (by kernel_rfl) (by kernel_rfl) (fun _ _ _ h => h) (Or.inl ⟨by kernel_rfl, ?_⟩) hHeld ?_
            rotate_left
            · intro w hSw
              (try dsimp only at hSw)
              go_split_ands
              go_simp
              (try with_reducible rfl)
            try simp only [Act.put, List.getElem_toArray, List.getElem_cons_succ, List.getElem_cons_zero, List.setIfInBounds_toArray, List.set_cons_zero, List.set_cons_succ]
            refine wpAnyH_take (i := 6) (v := ?_) rfl (by kernel_rfl) (by kernel_rfl) (by kernel_rfl) (fun _ _ _ h => h) (Or.inl ⟨by kernel_rfl, ?_⟩) hHeld ?_
            rotate_left
            · intro w hSw
              (try dsimp only at hSw)
              go_split_ands
              go_simp
              (try with_reducible rfl)
            try simp only [Act.put, List.getElem_toArray, List.getElem_cons_succ, List.getElem_cons_zero, List.setIfInBounds_toArray, List.set_cons_zero, List.set_cons_succ]
            refine wpAnyH_take (i := 7) (v := ?_) rfl (by kernel_rfl) (by kernel_rfl) (by kernel_rfl) (fun _ _ _ h => h) (Or.inl ⟨by kernel_rfl, ?_⟩) hHeld ?_
            rotate_left
            · intro w hSw
              (try dsimp only at hSw)
              go_split_ands
              go_simp
              (try with_reducible rfl)
            try simp only [Act.put, List.getElem_toArray, List.getElem_cons_succ, List.getElem_cons_zero, List.setIfInBounds_toArray, List.set_cons_zero, List.set_cons_succ]
            refine wpAnyH_take (i := 8) (v := ?_) rfl (by kernel_rfl) (by kernel_rfl) (by kernel_rfl) (fun _ _ _ h => h) (Or.inl ⟨by kernel_rfl, ?_⟩) hHeld ?_
            rotate_left
            · intro w hSw
              (try dsimp only at hSw)
              go_split_ands
              go_simp
              (try with_reducible rfl)
            try simp only [Act.put, List.getElem_toArray, List.getElem_cons_succ, List.getElem_cons_zero, List.setIfInBounds_toArray, List.set_cons_zero, List.set_cons_succ]
            refine wpAnyH_take (i := 9) (v := ?_) rfl (by kernel_rfl) (by kernel_rfl) (by kernel_rfl) (fun _ _ _ h => h) (Or.inl ⟨by kernel_rfl, ?_⟩) hHeld ?_
            rotate_left
            · intro w hSw
              (try dsimp only at hSw)
              go_split_ands
              go_simp
              (try with_reducible rfl)
            try simp only [Act.put, List.getElem_toArray, List.getElem_cons_succ, List.getElem_cons_zero, List.setIfInBounds_toArray, List.set_cons_zero, List.set_cons_succ]
            refine wpAnyH_take (i := 10) (v := ?_) rfl (by kernel_rfl) (by kernel_rfl) (by kernel_rfl) (fun _ _ _ h => h) (Or.inl ⟨by kernel_rfl, ?_⟩) hHeld ?_
            rotate_left
            · intro w hSw
              (try dsimp only at hSw)
              go_split_ands
              go_simp
              (try with_reducible rfl)
            try simp only [Act.put, List.getElem_toArray, List.getElem_cons_succ, List.getElem_cons_zero, List.setIfInBounds_toArray, List.set_cons_zero, List.set_cons_succ]
            refine wpAnyH_take (i := 11) (v := ?_) rfl (by kernel_rfl) (by kernel_rfl) (by kernel_rfl) (fun _ _ _ h => h) (Or.inl ⟨by kernel_rfl, ?_⟩) hHeld ?_
            rotate_left
            · intro w hSw
              (try dsimp only at hSw)
              go_split_ands
              go_simp
              (try with_reducible rfl)
            try simp only [Act.put, List.getElem_toArray, List.getElem_cons_succ, List.getElem_cons_zero, List.setIfInBounds_toArray, List.set_cons_zero, List.set_cons_succ]
            refine wpAnyH_take (i := 12) (v := ?_) rfl (by kernel_rfl) (by kernel_rfl) (by kernel_rfl) (fun _ _ _ h => h) (Or.inl ⟨by kernel_rfl, ?_⟩) hHeld ?_
            rotate_left
            · intro w hSw
              (try dsimp only at hSw)
              go_split_ands
              go_simp
              (try with_reducible rfl)
            try simp only [Act.put, List.getElem_toArray, List.getElem_cons_succ, List.getElem_cons_zero, List.setIfInBounds_toArray, List.set_cons_zero, List.set_cons_succ]
            refine wpAnyH_take (i := 13) (v := ?_) rfl (by kernel_rfl) (by kernel_rfl) (by kernel_rfl) (fun _ _ _ h => h) (Or.inl ⟨by kernel_rfl, ?_⟩) hHeld ?_
            rotate_left
            · intro w hSw
              (try dsimp only at hSw)
              go_split_ands
              go_simp
              (try with_reducible rfl)
            try simp only [Act.put, List.getElem_toArray, List.getElem_cons_succ, List.getElem_cons_zero, List.setIfInBounds_toArray, List.set_cons_zero, List.set_cons_succ]
            refine wpAnyH_take (i := 14) (v := ?_) rfl (by kernel_rfl) (by kernel_rfl) (by kernel_rfl) (fun _ _ _ h => h) (Or.inl ⟨by kernel_rfl, ?_⟩) hHeld ?_
            rotate_left
            · intro w hSw
              (try dsimp only at hSw)
              go_split_ands
              go_simp
              (try with_reducible rfl)
            try simp only [Act.put, List.getElem_toArray, List.getElem_cons_succ, List.getElem_cons_zero, List.setIfInBounds_toArray, List.set_cons_zero, List.set_cons_succ]
            refine wpAnyH_take (i := 15) (v := ?_) rfl (by kernel_rfl) (by kernel_rfl) (by kernel_rfl) (fun _ _ _ h => h) (Or.inl ⟨by kernel_rfl, ?_⟩) hHeld ?_
            rotate_left
            · intro w hSw
              (try dsimp only at hSw)
              go_split_ands
              go_simp
              (try with_reducible rfl)
            try simp only [Act.put, List.getElem_toArray, List.getElem_cons_succ, List.getElem_cons_zero, List.setIfInBounds_toArray, List.set_cons_zero, List.set_cons_succ]
            refine wpAnyH_take (i := 16) (v := ?_) rfl (by kernel_rfl) (by kernel_rfl) (by kernel_rfl) (fun _ _ _ h => h) (Or.inl ⟨by kernel_rfl, ?_⟩) hHeld ?_
            rotate_left
            · intro w hSw
              (try dsimp only at hSw)
              go_split_ands
              go_simp
              (try with_reducible rfl)
            try simp only [Act.put, List.getElem_toArray, List.getElem_cons_succ, List.getElem_cons_zero, List.setIfInBounds_toArray, List.set_cons_zero, List.set_cons_succ]
            refine wpAnyH_take (i := 17) (v := ?_) rfl (by kernel_rfl) (by kernel_rfl) (by kernel_rfl) (fun _ _ _ h => h) (Or.inl ⟨by kernel_rfl, ?_⟩) hHeld ?_
            rotate_left
            · intro w hSw
              (try dsimp only at hSw)
              go_split_ands
              go_simp
              (try with_reducible rfl)
            try simp only [Act.put, List.getElem_toArray, List.getElem_cons_succ, List.getElem_cons_zero, List.setIfInBounds_toArray, List.set_cons_zero, List.set_cons_succ]
            refine wpAnyH_take (i := 18) (v := ?_) rfl (by kernel_rfl) (by kernel_rfl) (by kernel_rfl) (fun _ _ _ h => h) (Or.inl ⟨by kernel_rfl, ?_⟩) hHeld ?_
            rotate_left
            · intro w hSw
              (try dsimp only at hSw)
              go_split_ands
              go_simp
              (try with_reducible rfl)
            try simp only [Act.put, List.getElem_toArray, List.getElem_cons_succ, List.getElem_cons_zero, List.setIfInBounds_toArray, List.set_cons_zero, List.set_cons_succ]
            refine wpAnyH_done (by kernel_rfl) ?_ _
            clear hHeld
            clear PX wa0 wb0 wa1 wb1
            go_wp2_with fail
            have HD2 := Lib.hid (HD.out.skip ⟨hx0, hy0⟩ rfl (fun u v hu hv h1 h2 hok => by
              obtain rfl : a = u := by omega
              obtain rfl : b = v := by omega
              unfold okF at hok
              rw [HK.out, HMK.out, HPZ.out] at hok
              rw [HK.out]
              cases hF : F K with
              | true => rfl
              | false => exact absurd (by rw [← HPK.out]; unfold fldP; rw [hF]; exact hok) HNQ.out))
            go_roundg (gk - 1)
            case measure => have := HG1.out; omega
            case rel => exact ⟨F, st, Lib.hid (F6.out.ext X_2.out), HD2, Lib.hid (by have := HM.out; have := HNN.out; omega), Lib.hid (by have := HQ.out; omega)⟩
          · have HEQ := Lib.hid ((peq_iff pk pz).1 hq)
            clear hq
            have X_0 := Lib.hid (Ext.refl w6)
            have PX : Hid (∀ wz, Ext w6 wz → wz.cell? ⟨g, K * 4, none⟩ = some (.int .u8 pk.r) ∧ wz.cell? ⟨g, K * 4 + 1, none⟩ = some (.int .u8 pk.g) ∧ wz.cell? ⟨g, K * 4 + 2, none⟩ = some (.int .u8 pk.b) ∧ wz.cell? ⟨g, K * 4 + 3, none⟩ = some (.int .u8 pk.a)) := Lib.hid (fun wz hE => by
              have h := (F6.out.ext hE).fa.row.px4 K hk
              rw [HPK.out] at h
              exact h)
            obtain ⟨⟨wa0, wb0⟩, wa1, wb1⟩ := And.intro (wq WPK.out.1) (wq WPK.out.2)
            refine wp_region_held_drew (S := fun w' => w'.cell? ⟨w.heap.size, 0, none⟩ = some (.int .i64 (W : Int)) ∧ w'.cell? ⟨w.heap.size, 1, none⟩ = some (.int .i64 (H : Int)) ∧ w'.cell? ⟨w.heap.size, 2, none⟩ = some (.slice (some ad) N cap) ∧ w'.cell? ⟨T, 2, none⟩ = some (.slice (some ⟨g, 0, none⟩) N cc) ∧ w'.cell? ⟨Q, 0, none⟩ = some (.int .u8 pz.r) ∧ w'.cell? ⟨Q, 1, none⟩ = some (.int .u8 pz.g) ∧ w'.cell? ⟨Q, 2, none⟩ = some (.int .u8 pz.b) ∧ w'.cell? ⟨Q, 3, none⟩ = some (.int .u8 pz.a) ∧ w'.cell? ⟨g, K * 4, none⟩ = some (.int .u8 pk.r) ∧ w'.cell? ⟨g, K * 4 + 1, none⟩ = some (.int .u8 pk.g) ∧ w'.cell? ⟨g, K * 4 + 2, none⟩ = some (.int .u8 pk.b) ∧ w'.cell? ⟨g, K * 4 + 3, none⟩ = some (.int .u8 pk.a)) (by kernel_rfl) ⟨(F6.out.ext X_0.out).b.cell 0, (F6.out.ext X_0.out).b.cell 1, (F6.out.ext X_0.out).b.cell 2, (F6.out.ext X_0.out).fa.bk.cell 2, (F6.out.ext X_0.out).q.cell 0, (F6.out.ext X_0.out).q.cell 1, (F6.out.ext X_0.out).q.cell 2, (F6.out.ext X_0.out).q.cell 3, (PX.out w6 X_0.out).1, (PX.out w6 X_0.out).2.1, (PX.out w6 X_0.out).2.2.1, (PX.out w6 X_0.out).2.2.2⟩ (fun hHeld => ?_)
            clear hHeld
            refine anyH_world (fun wz => Ext w6 wz) (show Ext w6 w6.drew from Below.drew (Ext.refl w6)) ?_
            rintro wc1 h
            have X_1 := Lib.hid (X_0.out.trans h)
            clear h X_0
            have hHeld : wc1.cell? ⟨w.heap.size, 0, none⟩ = some (.int .i64 (W : Int)) ∧ wc1.cell? ⟨w.heap.size, 1, none⟩ = some (.int .i64 (H : Int)) ∧ wc1.cell? ⟨w.heap.size, 2, none⟩ = some (.slice (some ad) N cap) ∧ wc1.cell? ⟨T, 2, none⟩ = some (.slice (some ⟨g, 0, none⟩) N cc) ∧ wc1.cell? ⟨Q, 0, none⟩ = some (.int .u8 pz.r) ∧ wc1.cell? ⟨Q, 1, none⟩ = some (.int .u8 pz.g) ∧ wc1.cell? ⟨Q, 2, none⟩ = some (.int .u8 pz.b) ∧ wc1.cell? ⟨Q, 3, none⟩ = some (.int .u8 pz.a) ∧ wc1.cell? ⟨g, K * 4, none⟩ = some (.int .u8 pk.r) ∧ wc1.cell? ⟨g, K * 4 + 1, none⟩ = some (.int .u8 pk.g) ∧ wc1.cell? ⟨g, K * 4 + 2, none⟩ = some (.int .u8 pk.b) ∧ wc1.cell? ⟨g, K * 4 + 3, none⟩ = some (.int .u8 pk.a) := ⟨(F6.out.ext X_1.out).b.cell 0, (F6.out.ext X_1.out).b.cell 1, (F6.out.ext X_1.out).b.cell 2, (F6.out.ext X_1.out).fa.bk.cell 2, (F6.out.ext X_1.out).q.cell 0, (F6.out.ext X_1.out).q.cell 1, (F6.out.ext X_1.out).q.cell 2, (F6.out.ext X_1.out).q.cell 3, (PX.out wc1 X_1.out).1, (PX.out wc1 X_1.out).2.1, (PX.out wc1 X_1.out).2.2.1, (PX.out wc1 X_1.out).2.2.2⟩
            refine wpAnyH_take (i := 0) (v := ?_) rfl (by kernel_rfl) (by kernel_rfl) (by kernel_rfl) (fun _ _ _ h => h) (Or.inl ⟨by kernel_rfl, ?_⟩) hHeld ?_
            rotate_left
            · intro w hSw
              (try dsimp only at hSw)
              go_split_ands
              go_simp
              (try with_reducible rfl)
            try simp only [Act.put, List.getElem_toArray, List.getElem_cons_succ, List.getElem_cons_zero, List.setIfInBounds_toArray, List.set_cons_zero, List.set_cons_succ]
            refine wpAnyH_take (i := 1) (v := ?_) rfl (by kernel_rfl) (by kernel_rfl) (by kernel_rfl) (fun _ _ _ h => h) (Or.inl ⟨by kernel_rfl, ?_⟩) hHeld ?_
            rotate_left
            · intro w hSw
              (try dsimp only at hSw)
              go_split_ands
              go_simp
              (try with_reducible rfl)
            try simp only [Act.put, List.getElem_toArray, List.getElem_cons_succ, List.getElem_cons_zero, List.setIfInBounds_toArray, List.set_cons_zero, List.set_cons_succ]
            refine wpAnyH_take (i := 2) (v := ?_) rfl (by kernel_rfl) (by kernel_rfl) (by kernel_rfl) (fun _ _ _ h => h) (Or.inl ⟨by kernel_rfl, ?_⟩) hHeld ?_
            rotate_left
            · intro w hSw
              (try dsimp only at hSw)
              go_split_ands
              go_simp
              (try with_reducible rfl)
            try simp only [Act.put, List.getElem_toArray, List.getElem_cons_succ, List.getElem_cons_zero, List.setIfInBounds_toArray, List.set_cons_zero, List.set_cons_succ]
            refine wpAnyH_ready (rs := [3]) (by kernel_rfl) (by simp) ?_
            refine AllReadyH.cons rfl (fun KK hK => ?_) AllReadyH.nil
            clear hHeld
            go_simp
            refine (in_any _ _ (.slice (some ad) N cap) _ _ _ ⟨_, _, _, rfl⟩).mono ?_
            rintro e wc2 ⟨rfl, h⟩
            rw [HIN.out]
            have X_2 := Lib.hid (X_1.out.trans h)
            clear h X_1
            go_simp
            refine hK.out _ _ ⟨(F6.out.ext X_2.out).b.cell 0, (F6.out.ext X_2.out).b.cell 1, (F6.out.ext X_2.out).b.cell 2, (F6.out.ext X_2.out).fa.bk.cell 2, (F6.out.ext X_2.out).q.cell 0, (F6.out.ext X_2.out).q.cell 1, (F6.out.ext X_2.out).q.cell 2, (F6.out.ext X_2.out).q.cell 3, (PX.out wc2 X_2.out).1, (PX.out wc2 X_2.out).2.1, (PX.out wc2 X_2.out).2.2.1, (PX.out wc2 X_2.out).2.2.2⟩ (fun hHeld => ?_)
            clear hK KK
            try simp only [Act.put, List.getElem_toArray, List.getElem_cons_succ, List.getElem_cons_zero, List.setIfInBounds_toArray, List.set_cons_zero, List.set_cons_succ]
            refine wpAnyH_take (i := 4) (v := ?_) rfl (by kernel_rfl) (by kernel_rfl) (by kernel_rfl) (fun _ _ _ h => h) (Or.inl ⟨by kernel_rfl, ?_⟩) hHeld ?_
            rotate_left
            · intro w hSw
              (try dsimp only at hSw)
              go_split_ands
              go_simp
              (try with_reducible rfl)
            try simp only [Act.put, List.getElem_toArray, List.getElem_cons_succ, List.getElem_cons_zero, List.setIfInBounds_toArray, List.set_cons_zero, List.set_cons_succ]
            refine wpAnyH_take (i := 5) (v := ?_) rfl (by kernel_rfl) (by kernel_rfl) (by kernel_rfl) (fun _ _ _ h => h) (Or.inl ⟨by kernel_rfl, ?_⟩) hHeld ?_
            rotate_left
            · intro w hSw
              (try dsimp only at hSw)
              go_split_ands
              go_simp
              (try with_reducible rfl)
            try simp only [Act.put, List.getElem_toArray, List.getElem_cons_succ, List.getElem_cons_zero, List.setIfInBounds_toArray, List.set_cons_zero, List.set_cons_succ]
            refine wpAnyH_take (i := 6) (v := ?_) rfl (by kernel_rfl) (by kernel_rfl) (by kernel_rfl) (fun _ _ _ h => h) (Or.inl ⟨by kernel_rfl, ?_⟩) hHeld ?_
            rotate_left
            · intro w hSw
              (try dsimp only at hSw)
              go_split_ands
              go_simp
              (try with_reducible rfl)
            try simp only [Act.put, List.getElem_toArray, List.getElem_cons_succ, List.getElem_cons_zero, List.setIfInBounds_toArray, List.set_cons_zero, List.set_cons_succ]
            refine wpAnyH_take (i := 7) (v := ?_) rfl (by kernel_rfl) (by kernel_rfl) (by kernel_rfl) (fun _ _ _ h => h) (Or.inl ⟨by kernel_rfl, ?_⟩) hHeld ?_
            rotate_left
            · intro w hSw
              (try dsimp only at hSw)
              go_split_ands
              go_simp
              (try with_reducible rfl)
            try simp only [Act.put, List.getElem_toArray, List.getElem_cons_succ, List.getElem_cons_zero, List.setIfInBounds_toArray, List.set_cons_zero, List.set_cons_succ]
            refine wpAnyH_take (i := 8) (v := ?_) rfl (by kernel_rfl) (by kernel_rfl) (by kernel_rfl) (fun _ _ _ h => h) (Or.inl ⟨by kernel_rfl, ?_⟩) hHeld ?_
            rotate_left
            · intro w hSw
              (try dsimp only at hSw)
              go_split_ands
              go_simp
              (try with_reducible rfl)
            try simp only [Act.put, List.getElem_toArray, List.getElem_cons_succ, List.getElem_cons_zero, List.setIfInBounds_toArray, List.set_cons_zero, List.set_cons_succ]
            refine wpAnyH_take (i := 9) (v := ?_) rfl (by kernel_rfl) (by kernel_rfl) (by kernel_rfl) (fun _ _ _ h => h) (Or.inl ⟨by kernel_rfl, ?_⟩) hHeld ?_
            rotate_left
            · intro w hSw
              (try dsimp only at hSw)
              go_split_ands
              go_simp
              (try with_reducible rfl)
            try simp only [Act.put, List.getElem_toArray, List.getElem_cons_succ, List.getElem_cons_zero, List.setIfInBounds_toArray, List.set_cons_zero, List.set_cons_succ]
            refine wpAnyH_take (i := 10) (v := ?_) rfl (by kernel_rfl) (by kernel_rfl) (by kernel_rfl) (fun _ _ _ h => h) (Or.inl ⟨by kernel_rfl, ?_⟩) hHeld ?_
            rotate_left
            · intro w hSw
              (try dsimp only at hSw)
              go_split_ands
              go_simp
              (try with_reducible rfl)
            try simp only [Act.put, List.getElem_toArray, List.getElem_cons_succ, List.getElem_cons_zero, List.setIfInBounds_toArray, List.set_cons_zero, List.set_cons_succ]
            refine wpAnyH_take (i := 11) (v := ?_) rfl (by kernel_rfl) (by kernel_rfl) (by kernel_rfl) (fun _ _ _ h => h) (Or.inl ⟨by kernel_rfl, ?_⟩) hHeld ?_
            rotate_left
            · intro w hSw
              (try dsimp only at hSw)
              go_split_ands
              go_simp
              (try with_reducible rfl)
            try simp only [Act.put, List.getElem_toArray, List.getElem_cons_succ, List.getElem_cons_zero, List.setIfInBounds_toArray, List.set_cons_zero, List.set_cons_succ]
            refine wpAnyH_take (i := 12) (v := ?_) rfl (by kernel_rfl) (by kernel_rfl) (by kernel_rfl) (fun _ _ _ h => h) (Or.inl ⟨by kernel_rfl, ?_⟩) hHeld ?_
            rotate_left
            · intro w hSw
              (try dsimp only at hSw)
              go_split_ands
              go_simp
              (try with_reducible rfl)
            try simp only [Act.put, List.getElem_toArray, List.getElem_cons_succ, List.getElem_cons_zero, List.setIfInBounds_toArray, List.set_cons_zero, List.set_cons_succ]
            refine wpAnyH_take (i := 13) (v := ?_) rfl (by kernel_rfl) (by kernel_rfl) (by kernel_rfl) (fun _ _ _ h => h) (Or.inl ⟨by kernel_rfl, ?_⟩) hHeld ?_
            rotate_left
            · intro w hSw
              (try dsimp only at hSw)
              go_split_ands
              go_simp
              (try with_reducible rfl)
            try simp only [Act.put, List.getElem_toArray, List.getElem_cons_succ, List.getElem_cons_zero, List.setIfInBounds_toArray, List.set_cons_zero, List.set_cons_succ]
            refine wpAnyH_take (i := 14) (v := ?_) rfl (by kernel_rfl) (by kernel_rfl) (by kernel_rfl) (fun _ _ _ h => h) (Or.inl ⟨by kernel_rfl, ?_⟩) hHeld ?_
            rotate_left
            · intro w hSw
              (try dsimp only at hSw)
              go_split_ands
              go_simp
              (try with_reducible rfl)
            try simp only [Act.put, List.getElem_toArray, List.getElem_cons_succ, List.getElem_cons_zero, List.setIfInBounds_toArray, List.set_cons_zero, List.set_cons_succ]
            refine wpAnyH_take (i := 15) (v := ?_) rfl (by kernel_rfl) (by kernel_rfl) (by kernel_rfl) (fun _ _ _ h => h) (Or.inl ⟨by kernel_rfl, ?_⟩) hHeld ?_
            rotate_left
            · intro w hSw
              (try dsimp only at hSw)
              go_split_ands
              go_simp
              (try with_reducible rfl)
            try simp only [Act.put, List.getElem_toArray, List.getElem_cons_succ, List.getElem_cons_zero, List.setIfInBounds_toArray, List.set_cons_zero, List.set_cons_succ]
            refine wpAnyH_take (i := 16) (v := ?_) rfl (by kernel_rfl) (by kernel_rfl) (by kernel_rfl) (fun _ _ _ h => h) (Or.inl ⟨by kernel_rfl, ?_⟩) hHeld ?_
            rotate_left
            · intro w hSw
              (try dsimp only at hSw)
              go_split_ands
              go_simp
              (try with_reducible rfl)
            try simp only [Act.put, List.getElem_toArray, List.getElem_cons_succ, List.getElem_cons_zero, List.setIfInBounds_toArray, List.set_cons_zero, List.set_cons_succ]
            refine wpAnyH_take (i := 17) (v := ?_) rfl (by kernel_rfl) (by kernel_rfl) (by kernel_rfl) (fun _ _ _ h => h) (Or.inl ⟨by kernel_rfl, ?_⟩) hHeld ?_
            rotate_left
            · intro w hSw
              (try dsimp only at hSw)
              go_split_ands
              go_simp
              (try with_reducible rfl)
            try simp only [Act.put, List.getElem_toArray, List.getElem_cons_succ, List.getElem_cons_zero, List.setIfInBounds_toArray, List.set_cons_zero, List.set_cons_succ]
            refine wpAnyH_take (i := 18) (v := ?_) rfl (by kernel_rfl) (by kernel_rfl) (by kernel_rfl) (fun _ _ _ h => h) (Or.inl ⟨by kernel_rfl, ?_⟩) hHeld ?_
            rotate_left
            · intro w hSw
              (try dsimp only at hSw)
              go_split_ands
              go_simp
              (try with_reducible rfl)
            try simp only [Act.put, List.getElem_toArray, List.getElem_cons_succ, List.getElem_cons_zero, List.setIfInBounds_toArray, List.set_cons_zero, List.set_cons_succ]
            refine wpAnyH_done (by kernel_rfl) ?_ _
            clear hHeld
            clear PX wa0 wb0 wa1 wb1
            go_upto_region 13 with fail
            have HFK : Hid (F K = false) := Lib.hid (by
              cases hF : F K with
              | false => rfl
              | true => exact absurd (by rw [← HEQ.out, ← HPK.out]; unfold fldP; rw [hF]; rfl) HNE.out)
            have HOK : Hid (okF W x0 y0 px a b) := Lib.hid (by unfold okF; rw [HK.out, HMK.out, HPZ.out, ← HEQ.out, ← HPK.out]; unfold fldP; rw [HFK.out]; rfl)
            have HD2 := Lib.hid (HD.out.fill ha hb HOK.out)
            rw [HK.out] at HD2
            have HCN := Lib.hid (Fl.cnt_set HFK.out hk)
            have F7 := Lib.hid (F6.out.ext X_2.out)
            obtain ⟨w7, hw7⟩ : ∃ z, wc2 = z := ⟨_, rfl⟩
            rw [hw7] at F7 ⊢
            clear hw7 F6 PN
            have F8 := Lib.hid ((F7.out.put K c).congr (fun i _ => fld_set K i))
            unfold set4 at F8
            have p0 := F7.out.c.cell 0
            obtain ⟨c0, f0⟩ := F7.out.fa.row (K * 4) (by omega)
            have p1 := F7.out.c.cell 1
            obtain ⟨c1, f1⟩ := F7.out.fa.row (K * 4 + 1) (by omega)
            have p2 := F7.out.c.cell 2
            obtain ⟨c2, f2⟩ := F7.out.fa.row (K * 4 + 2) (by omega)
            have p3 := F7.out.c.cell 3
            obtain ⟨c3, f3⟩ := F7.out.fa.row (K * 4 + 3) (by omega)
            have k0 := F7.out.b.cell 0
            have k2 := F7.out.fa.bk.cell 2
            obtain ⟨⟨wa0, wb0⟩, wa1, wb1⟩ := And.intro (wq WPK.out.1) (wq WPK.out.2)
            go_upto_region 14 with fail
            clear p0 p1 p2 p3 c0 c1 c2 c3 f0 f1 f2 f3 k0 k2 wa0 wb0 wa1 wb1 F7
            refine wp_world (fun wz => Hid (FL w wz W H N ad cap T Q g cc B c pz (fldP (Fl.setF F K) c px) (.slice (some ⟨s, 0, none⟩) n sc) st)) F8 ?_
            clear F8
            rintro w8 F8
            have HRow := Lib.hid F8.out.row
            rw [HNN.out.1] at HRow
            have hBw := F8.out.Bw
            have hn3 := HG1.out.2
            have hn4 := HNN.out.2
            have WA := Lib.hid (And.intro (wrap_z ((a : Int) - 1) (by omega)) (And.intro (wrap_z ((a : Int) + 1) (by omega)) (And.intro (wrap_z ((b : Int) - 1) (by omega)) (wrap_z ((b : Int) + 1) (by omega)))))
            obtain ⟨⟨wa0, wb0⟩, ⟨wa1, wb1⟩, ⟨wa2, wb2⟩, wa3, wb3⟩ := And.intro (wq WA.out.1) (And.intro (wq WA.out.2.1) (And.intro (wq WA.out.2.2.1) (wq WA.out.2.2.2)))
            go_wp2_with (at_builtin; refine wpList_append_own_at _ rfl _ _ 98 rfl B 97 i0 _ 2 16 Tryd.underlying98 hi0 hz0 hz1 hz2 rfl (by decide) _ _ _ rfl (HRow.out.alloc _) ⟨w8.heap.size, 0, none⟩ 4 4 (stV (Fl.four (a : Int) (b : Int))) rfl rfl ?c1 ?c2 ?c3 ?c4 ?c5 ?_)
            case c1 =>
              intro j u hu
              rw [add_plain]
              exact (Bk.at (w := w8) rfl).cell j |>.trans (by simpa [four_V] using hu)
            case c2 => intro u hu; rw [four_V] at hu; simp at hu; rcases hu with hu | hu | hu | hu | hu | hu | hu | hu <;> (subst hu; rfl)
            case c3 => clear wa0 wb0 wa1 wb1 wa2 wb2 wa3 wb3; unfold maxLen; omega
            case c4 => clear wa0 wb0 wa1 wb1 wa2 wb2 wa3 wb3; omega
            case c5 => clear wa0 wb0 wa1 wb1 wa2 wb2 wa3 wb3; rw [World.size_alloc]; omega
            intro v9 w9 hown hgrow _ hat
            clear wa0 wb0 wa1 wb1 wa2 wb2 wa3 wb3
            have F9 := Lib.hid (FL.push (st' := Fl.four (a : Int) (b : Int)) F8.out (o := .cells (stV (Fl.four (a : Int) (b : Int))).toArray 97) hgrow (by rw [stV_append, List.length_append, HNN.out.1, four_len]; exact hown))
            clear hown hgrow hat F8 HRow
            go_wp2_with fail
            go_roundg (gk - 1)
            case measure => have := HG1.out; omega
            case rel => exact ⟨Fl.setF F K, _, F9, HD2, Lib.hid (by have q1 := HCN.out; have q2 := HM.out; have q3 := HNN.out.1; have q4 := HNN.out.2; rw [List.length_append, four_len]; omega), Lib.hid (by have := HQ.out; omega)⟩
  · have HQE := Lib.hid ((peq_iff pz c).1 hq)
    clear hq
    have k0 := FA.out.bk.cell 0
    have k1 := FA.out.bk.cell 1
    have k2 := FA.out.bk.cell 2
    have d0 := FA.out.res.cell 0
    have e0 := FA.out.res.frozen 0
    have d1 := FA.out.res.cell 1
    have e1 := FA.out.res.frozen 1
    have d2 := FA.out.res.cell 2
    have e2 := FA.out.res.frozen 2
    have PC := Lib.hid (FA.out.close (by omega : w.heap.size ≤ w.heap.size + 1 + 1))
    have GN := Lib.hid FA.out.gn
    clear FA B0 B1 BQ
    go_wp2_with fail
    obtain ⟨k0, k1, k2, hP, hX⟩ := PC.out
    have hpx : ∀ I : Nat → Bool, (∀ u v, u < W → v < H → (I (v * W + u) = true ↔ Fl.Rch W H (okF W x0 y0 px) x0 y0 u v)) → ∀ i, i < N → px i = fldP I c px i := fun I hI i hi => by
      obtain ⟨u, v, hu, hv, rfl⟩ := lin_sur (by rw [HN.out]; exact hi)
      unfold fldP
      split
      · rename_i hh
        have := Rch_ok ((hI u v hu hv).1 hh) rfl
        unfold okF at this
        rw [this, HMK.out, HPZ.out, HQE.out]
      · rfl
    exact bodyPost_ret (v := .tuple #[.agg #[.int .i64 (W : Int), .int .i64 (H : Int), .slice (some ⟨g, 0, none⟩) N cc], .nilIface]) (by simp [results, Tryd.results33, go_sem, k0, k1, k2]) rfl ⟨px, ⟨hpx, by rw [HMK.out, HPZ.out, HQE.out]⟩, ⟨g, ⟨cc, rfl⟩, hP, GN.out⟩, hX⟩
end Go.Proofs.YtkfjcgcgfdibaaaDoor
