/- raster.At. -/
import Derived.Test.YtkfjcgcgfdibaaaDoorBlank
import Derived.Deep.RegionHeld3
namespace Go.Proofs.YtkfjcgcgfdibaaaDoor
open Go.RowKit
set_option maxRecDepth 100000
/-- a result's pixel, filled -/
theorem res4 {w0 w : World} {R : Nat} {a b c d : Value} {r g bb aa : Int} (h : Bk w R #[a, b, c, d]) (hX : Ext w0 w) (hR : w0.heap.size ≤ R) :
    let wz := (((w.setCell ⟨R, 0, none⟩ (.int .u8 r)).setCell ⟨R, 1, none⟩ (.int .u8 g)).setCell ⟨R, 2, none⟩ (.int .u8 bb)).setCell ⟨R, 3, none⟩ (.int .u8 aa)
    wz.cell? ⟨R, 0, none⟩ = some (.int .u8 r) ∧ wz.cell? ⟨R, 1, none⟩ = some (.int .u8 g) ∧ wz.cell? ⟨R, 2, none⟩ = some (.int .u8 bb) ∧ wz.cell? ⟨R, 3, none⟩ = some (.int .u8 aa) ∧ Ext w0 wz := by
  have q := (((h.set_ 0 (.int .u8 r)).set_ 1 (.int .u8 g)).set_ 2 (.int .u8 bb)).set_ 3 (.int .u8 aa)
  exact ⟨q.cell 0, q.cell 1, q.cell 2, q.cell 3, (((Below.setCell hX hR _).setCell hR _).setCell hR _).setCell hR _⟩
theorem at_shape (W H : Int) (x : Option Addr) (n cap : Nat) (u v : Int) (w : World) (E : Nat → Addr) (hE : Errs w E) (h : rightB W H n = false) :
    Calls Tryd.prog 24 #[.agg #[.int .i64 W, .int .i64 H, .slice x n cap], .int .i64 u, .int .i64 v] w fun e w' => e = .returned (.tuple #[.agg #[.int .u8 0, .int .u8 0, .int .u8 0, .int .u8 0], .iface 171 (.pointer (some (E 2)))]) ∧ Ext w w' := by
  have HE := Lib.hid hE
  have HR := Lib.hid h
  clear hE h
  go_enter Tryd.func24, Tryd.ntmps24
  go_wp2_with fail
  refine wp_world (fun wz => Ext w wz ∧ wz.heap.size = w.heap.size + 1 + 1 ∧ Bk wz (w.heap.size) #[.int .i64 W, .int .i64 H, .slice x n cap] ∧ Bk wz (w.heap.size + 1) #[.int .u8 0, .int .u8 0, .int .u8 0, .int .u8 0]) ⟨by repeat (first | exact Ext.refl _ | refine Ext.alloc ?_ _), by simp, by repeat (first | exact Bk.at (by simp) | refine Bk.old ?_), by repeat (first | exact Bk.at (by simp) | refine Bk.old ?_)⟩ ?_
  rintro wr ⟨hX, hZ, hB0, hB1⟩
  have q0 := hB0.cell 0
  have q1 := hB0.cell 1
  have q2 := hB0.cell 2
  have B0 := Lib.hid hB0
  have B1 := Lib.hid hB1
  have XR := Lib.hid hX
  have SZ := Lib.hid hZ
  clear hX hZ hB0 hB1
  go_region_held3 (fun w' => w'.cell? ⟨w.heap.size, 0, none⟩ = some (.int .i64 W) ∧ w'.cell? ⟨w.heap.size, 1, none⟩ = some (.int .i64 H) ∧ w'.cell? ⟨w.heap.size, 2, none⟩ = some (.slice x n cap)) (first | exact ⟨q0, q1, q2⟩ | exact ⟨(B0.out.ext hb).cell 0, (B0.out.ext hb).cell 1, (B0.out.ext hb).cell 2⟩ | exact ⟨(B0.out.ext ha).cell 0, (B0.out.ext ha).cell 1, (B0.out.ext ha).cell 2⟩)
    (first
      | ((go_at_call 62; refine (in_any W H (.slice x n cap) u v _ ⟨_, _, _, rfl⟩).mono ?_; rintro e w5 ⟨rfl, hx⟩; have ha : Ext wr w5 := ⟨hx.os, hx.tape, hx.output, hx.size, hx.block⟩; clear hx))
      | ((go_at_call 55; refine (check_shape W H x n cap _ _ E (HE.out.ext (Ext.trans XR.out ha)) HR.out).mono ?_; rintro e w6 ⟨rfl, hx⟩; have hb : Ext wr w6 := Ext.trans ha hx; clear hx)))
  have XS := Lib.hid (Ext.trans XR.out hb)
  have BS := Lib.hid (B0.out.ext hb)
  have RS := Lib.hid (B1.out.ext hb)
  clear q0 q1 q2 ha hb
  have d0 := RS.out.cell 0
  have d1 := RS.out.cell 1
  have d2 := RS.out.cell 2
  have d3 := RS.out.cell 3
  have e0 := RS.out.frozen 0
  have e1 := RS.out.frozen 1
  have e2 := RS.out.frozen 2
  have e3 := RS.out.frozen 3
  go_wp2_with fail
  obtain ⟨k0, k1, k2, k3, hX⟩ := res4 (r := 0) (g := 0) (bb := 0) (aa := 0) RS.out XS.out (show w.heap.size ≤ w.heap.size + 1 by omega)
  exact bodyPost_ret (v := .tuple #[.agg #[.int .u8 0, .int .u8 0, .int .u8 0, .int .u8 0], .iface 171 (.pointer (some (E 2)))]) (by simp [results, Tryd.results24, go_sem, k0, k1, k2, k3]) rfl ⟨rfl, hX⟩
theorem at_bound (W H : Int) (x : Option Addr) (n cap : Nat) (u v : Int) (w : World) (E : Nat → Addr) (hE : Errs w E) (h : rightB W H n = true) (hi : inB W H u v = false) :
    Calls Tryd.prog 24 #[.agg #[.int .i64 W, .int .i64 H, .slice x n cap], .int .i64 u, .int .i64 v] w fun e w' => e = .returned (.tuple #[.agg #[.int .u8 0, .int .u8 0, .int .u8 0, .int .u8 0], .iface 171 (.pointer (some (E 1)))]) ∧ Ext w w' := by
  have HE := Lib.hid hE
  have HR := Lib.hid h
  have HI := Lib.hid hi
  clear hE h hi
  go_enter Tryd.func24, Tryd.ntmps24
  go_wp2_with fail
  refine wp_world (fun wz => Ext w wz ∧ wz.heap.size = w.heap.size + 1 + 1 ∧ Bk wz (w.heap.size) #[.int .i64 W, .int .i64 H, .slice x n cap] ∧ Bk wz (w.heap.size + 1) #[.int .u8 0, .int .u8 0, .int .u8 0, .int .u8 0]) ⟨by repeat (first | exact Ext.refl _ | refine Ext.alloc ?_ _), by simp, by repeat (first | exact Bk.at (by simp) | refine Bk.old ?_), by repeat (first | exact Bk.at (by simp) | refine Bk.old ?_)⟩ ?_
  rintro wr ⟨hX, hZ, hB0, hB1⟩
  have q0 := hB0.cell 0
  have q1 := hB0.cell 1
  have q2 := hB0.cell 2
  have B0 := Lib.hid hB0
  have B1 := Lib.hid hB1
  have XR := Lib.hid hX
  have SZ := Lib.hid hZ
  clear hX hZ hB0 hB1
  go_region_held3 (fun w' => w'.cell? ⟨w.heap.size, 0, none⟩ = some (.int .i64 W) ∧ w'.cell? ⟨w.heap.size, 1, none⟩ = some (.int .i64 H) ∧ w'.cell? ⟨w.heap.size, 2, none⟩ = some (.slice x n cap)) (first | exact ⟨q0, q1, q2⟩ | exact ⟨(B0.out.ext hb).cell 0, (B0.out.ext hb).cell 1, (B0.out.ext hb).cell 2⟩ | exact ⟨(B0.out.ext ha).cell 0, (B0.out.ext ha).cell 1, (B0.out.ext ha).cell 2⟩)
    (first
      | ((go_at_call 62; refine (in_any W H (.slice x n cap) u v _ ⟨_, _, _, rfl⟩).mono ?_; rintro e w5 ⟨rfl, hx⟩; have ha : Ext wr w5 := ⟨hx.os, hx.tape, hx.output, hx.size, hx.block⟩; clear hx; rw [HI.out]))
      | ((go_at_call 55; refine (check_bound W H x n cap _ E (HE.out.ext (Ext.trans XR.out ha)) HR.out).mono ?_; rintro e w6 ⟨rfl, hx⟩; have hb : Ext wr w6 := Ext.trans ha hx; clear hx)))
  have XS := Lib.hid (Ext.trans XR.out hb)
  have BS := Lib.hid (B0.out.ext hb)
  have RS := Lib.hid (B1.out.ext hb)
  clear q0 q1 q2 ha hb
  have d0 := RS.out.cell 0
  have d1 := RS.out.cell 1
  have d2 := RS.out.cell 2
  have d3 := RS.out.cell 3
  have e0 := RS.out.frozen 0
  have e1 := RS.out.frozen 1
  have e2 := RS.out.frozen 2
  have e3 := RS.out.frozen 3
  go_wp2_with fail
  obtain ⟨k0, k1, k2, k3, hX⟩ := res4 (r := 0) (g := 0) (bb := 0) (aa := 0) RS.out XS.out (show w.heap.size ≤ w.heap.size + 1 by omega)
  exact bodyPost_ret (v := .tuple #[.agg #[.int .u8 0, .int .u8 0, .int .u8 0, .int .u8 0], .iface 171 (.pointer (some (E 1)))]) (by simp [results, Tryd.results24, go_sem, k0, k1, k2, k3]) rfl ⟨rfl, hX⟩
theorem rat_ok (W H u v : Nat) (a : Addr) (c : Nat) (px : Nat → P4) (w : World) (hr : rightB (W : Int) (H : Int) (W * H) = true) (hx : Pxs w (some a) (W * H) px) (hu : u < W) (hv : v < H) :
    Calls Tryd.prog 24 #[.agg #[.int .i64 (W : Int), .int .i64 (H : Int), .slice (some a) (W * H) c], .int .i64 (u : Int), .int .i64 (v : Int)] w fun e w' => e = .returned (.tuple #[.agg #[.int .u8 (px (v * W + u)).r, .int .u8 (px (v * W + u)).g, .int .u8 (px (v * W + u)).b, .int .u8 (px (v * W + u)).a], .nilIface]) ∧ Ext w w' := by
  have HR := Lib.hid hr
  have HI : Hid (inB (W : Int) (H : Int) (u : Int) (v : Int) = true) := Lib.hid (decide_eq_true ⟨by omega, by omega, by omega, by omega⟩)
  have HX := Lib.hid hx
  obtain ⟨W', H', q1, q2, hW1, hW2, hH1, hH2, _⟩ := rightB_yes hr
  obtain rfl : W' = W := by omega
  obtain rfl : H' = H := by omega
  have hi : v * W' + u < W' * H' := mul_lt_of hv hu
  obtain ⟨M, hM⟩ : ∃ M, v * W' = M := ⟨_, rfl⟩
  have hM1 : M ≤ 65536 := by rw [← hM]; exact Nat.mul_le_mul (show v ≤ 256 by omega) hW2
  have hMI : (v : Int) * (W' : Int) = (M : Int) := by rw [← hM]; simp
  rw [hM] at hi ⊢
  obtain ⟨N, hN⟩ : ∃ N, W' * H' = N := ⟨_, rfl⟩
  have hNl : N ≤ 65536 := by rw [← hN]; exact Nat.mul_le_mul hW2 hH2
  rw [hN] at hi HX HR ⊢
  have MM := Lib.hid hM
  have NN := Lib.hid hN
  have MI := Lib.hid hMI
  clear hM hN hx hr q1 q2 hMI
  go_enter Tryd.func24, Tryd.ntmps24
  go_wp2_with fail
  refine wp_world (fun wz => Ext w wz ∧ wz.heap.size = w.heap.size + 1 + 1 ∧ Bk wz (w.heap.size) #[.int .i64 (W' : Int), .int .i64 (H' : Int), .slice (some a) N c] ∧ Bk wz (w.heap.size + 1) #[.int .u8 0, .int .u8 0, .int .u8 0, .int .u8 0]) ⟨by repeat (first | exact Ext.refl _ | refine Ext.alloc ?_ _), by simp, by repeat (first | exact Bk.at (by simp) | refine Bk.old ?_), by repeat (first | exact Bk.at (by simp) | refine Bk.old ?_)⟩ ?_
  rintro wr ⟨hX, hZ, hB0, hB1⟩
  have q0 := hB0.cell 0
  have q1 := hB0.cell 1
  have q2 := hB0.cell 2
  have B0 := Lib.hid hB0
  have B1 := Lib.hid hB1
  have XR := Lib.hid hX
  have SZ := Lib.hid hZ
  clear hX hZ hB0 hB1
  go_region_held3 (fun w' => w'.cell? ⟨w.heap.size, 0, none⟩ = some (.int .i64 (W' : Int)) ∧ w'.cell? ⟨w.heap.size, 1, none⟩ = some (.int .i64 (H' : Int)) ∧ w'.cell? ⟨w.heap.size, 2, none⟩ = some (.slice (some a) N c)) (first | exact ⟨q0, q1, q2⟩ | exact ⟨(B0.out.ext hb).cell 0, (B0.out.ext hb).cell 1, (B0.out.ext hb).cell 2⟩ | exact ⟨(B0.out.ext ha).cell 0, (B0.out.ext ha).cell 1, (B0.out.ext ha).cell 2⟩)
    (first
      | ((go_at_call 62; refine (in_any _ _ (.slice (some a) N c) _ _ _ ⟨_, _, _, rfl⟩).mono ?_; rintro e w5 ⟨rfl, hx⟩; have ha : Ext wr w5 := ⟨hx.os, hx.tape, hx.output, hx.size, hx.block⟩; clear hx; rw [HI.out]))
      | ((go_at_call 55; refine (check_ok _ _ _ _ _ _ HR.out).mono ?_; rintro e w6 ⟨rfl, hx⟩; have hb : Ext wr w6 := Ext.trans ha hx; clear hx)))
  have XS := Lib.hid (Ext.trans XR.out hb)
  have BS := Lib.hid (B0.out.ext hb)
  have RS := Lib.hid (B1.out.ext hb)
  clear q0 q1 q2 ha hb
  have hMI := MI.out
  have p0 := BS.out.cell 0
  have p1 := BS.out.cell 1
  have p2 := BS.out.cell 2
  obtain ⟨c0, c1, c2, c3, _⟩ := (HX.out.ext XS.out).2 a rfl (M + u) hi
  have d0 := RS.out.cell 0
  have d1 := RS.out.cell 1
  have d2 := RS.out.cell 2
  have d3 := RS.out.cell 3
  have e0 := RS.out.frozen 0
  have e1 := RS.out.frozen 1
  have e2 := RS.out.frozen 2
  have e3 := RS.out.frozen 3
  go_wp2_with fail
  obtain ⟨k0, k1, k2, k3, hX⟩ := res4 (r := (px (M + u)).r) (g := (px (M + u)).g) (bb := (px (M + u)).b) (aa := (px (M + u)).a) RS.out XS.out (show w.heap.size ≤ w.heap.size + 1 by omega)
  exact bodyPost_ret (v := .tuple #[.agg #[.int .u8 (px (M + u)).r, .int .u8 (px (M + u)).g, .int .u8 (px (M + u)).b, .int .u8 (px (M + u)).a], .nilIface]) (by simp [results, Tryd.results24, go_sem, k0, k1, k2, k3]) rfl ⟨rfl, hX⟩
theorem own_x (W H : Int) (x : Option Addr) (n cap : Nat) (px : Nat → P4) (w : World) (hx : Pxs w x n px) (h0 : x = none → cap = 0) (hn : n ≤ 10000000) :
    Calls Tryd.prog 17 #[.agg #[.int .i64 W, .int .i64 H, .slice x n cap]] w fun e w' => (∃ ox oc, e = .returned (.agg #[.int .i64 W, .int .i64 H, .slice ox n oc]) ∧ Pxs w' ox n px ∧ (ox = none → oc = 0)) ∧ Ext w w' := by
  have hok : ∀ i, i < n → (px i).Ok := by
    intro i hi
    obtain ⟨a, rfl⟩ := hx.isSome hi
    exact (hx.2 a rfl i hi).2.2.2.2
  refine (own_any W H x n cap px w hx h0 hn).mono ?_
  rintro e w2 ⟨⟨v, rfl, ho⟩, h2⟩
  rcases ownsRow_slice ho with ⟨rfl, h0⟩ | ⟨g, c, rfl⟩
  · subst h0
    exact ⟨⟨none, 0, rfl, ⟨fun _ => rfl, fun a h => by cases h⟩, fun _ => rfl⟩, h2⟩
  · exact ⟨⟨some ⟨g, 0, none⟩, c, rfl, (Po.of_own ho).pxs hok, fun h => by cases h⟩, h2⟩
end Go.Proofs.YtkfjcgcgfdibaaaDoor
