/- raster.Flip: what it makes; the closed fact. -/
import Derived.Test.YtkfjcgcgfdibaaaDoorFlip
namespace Go.Proofs.YtkfjcgcgfdibaaaDoor
open Go.RowKit
set_option maxRecDepth 100000
theorem mul_lt_of {y x W H : Nat} (hy : y < H) (hx : x < W) : y * W + x < W * H := by
  have h : (y + 1) * W ≤ H * W := Nat.mul_le_mul_right _ hy
  rw [Nat.succ_mul, Nat.mul_comm H] at h; omega
theorem flip1_down (x y W H : Nat) (a : Addr) (c P D : Nat) (px : Nat → P4) (w : World) (hP : PicAt w P (W : Int) (H : Int) (.slice (some a) (W * H) c)) (hD : w.cell? ⟨D, 0, none⟩ = some (.bool true)) (hx : Pxs w (some a) (W * H) px) (hW : W ≤ 256) (hH : H ≤ 256) (hxW : x < W) (hyH : y < H) :
    Calls Tryd.prog 57 #[.int .i64 (x : Int), .int .i64 (y : Int), .pointer (some ⟨D, 0, none⟩), .pointer (some ⟨P, 0, none⟩)] w fun e w' => e = .returned (.agg #[.int .u8 (px ((H - 1 - y) * W + x)).r, .int .u8 (px ((H - 1 - y) * W + x)).g, .int .u8 (px ((H - 1 - y) * W + x)).b, .int .u8 (px ((H - 1 - y) * W + x)).a]) ∧ Ext w w' := by
  obtain ⟨K, rfl⟩ : ∃ K, H = K + 1 + y := ⟨H - 1 - y, by omega⟩
  have hi : K * W + x < W * (K + 1 + y) := mul_lt_of (by omega) hxW
  rw [show K + 1 + y - 1 - y = K by omega]
  obtain ⟨M, hM⟩ : ∃ M, K * W = M := ⟨_, rfl⟩
  have hM1 : M ≤ 65536 := by rw [← hM]; exact Nat.mul_le_mul (show K ≤ 256 by omega) hW
  rw [hM] at hi ⊢
  have hMI : (K : Int) * (W : Int) = (M : Int) := by rw [← hM]; simp
  have hKI : (((K + 1 + y : Nat) : Int) - 1 - (y : Int)) = (K : Int) := by omega
  have hX0 : Ext w (w.alloc (.cells #[.int .u8 0, .int .u8 0, .int .u8 0, .int .u8 0] 36)) := (Ext.refl w).alloc _
  obtain ⟨c0, c1, c2, c3, _⟩ := (hx.ext hX0).2 a rfl (M + x) hi
  obtain ⟨p0, p1, p2⟩ := hP.ext hX0
  have d0 := (hX0.cell (p := ⟨D, 0, none⟩) (World.block_lt_of_cell? w _ hD)).trans hD
  clear hX0 hP hD
  obtain ⟨N, hN⟩ : ∃ N, W * (K + 1 + y) = N := ⟨_, rfl⟩
  have hNl : N ≤ 65536 := by rw [← hN]; exact Nat.mul_le_mul hW hH
  obtain ⟨HH, hHH⟩ : ∃ HH, K + 1 + y = HH := ⟨_, rfl⟩
  rw [hN] at hi p2
  rw [hHH] at p1 hKI hH
  have hHK : y + 1 ≤ HH := by omega
  have LL := Lib.hid hHH
  have MM := Lib.hid hM
  have NN := Lib.hid hN
  clear hHH hM hN hx
  go_enter Tryd.func57, Tryd.ntmps57
  go_wp2_with fail
  exact bodyPost_ret (v := .agg #[.int .u8 (px (M + x)).r, .int .u8 (px (M + x)).g, .int .u8 (px (M + x)).b, .int .u8 (px (M + x)).a]) (by simp [results, Tryd.results57, go_sem]) rfl ⟨rfl, by repeat (first | exact Ext.refl _ | refine Ext.alloc ?_ _)⟩
theorem flip1_right (x y W H : Nat) (a : Addr) (c P D : Nat) (px : Nat → P4) (w : World) (hP : PicAt w P (W : Int) (H : Int) (.slice (some a) (W * H) c)) (hD : w.cell? ⟨D, 0, none⟩ = some (.bool false)) (hx : Pxs w (some a) (W * H) px) (hW : W ≤ 256) (hH : H ≤ 256) (hxW : x < W) (hyH : y < H) :
    Calls Tryd.prog 57 #[.int .i64 (x : Int), .int .i64 (y : Int), .pointer (some ⟨D, 0, none⟩), .pointer (some ⟨P, 0, none⟩)] w fun e w' => e = .returned (.agg #[.int .u8 (px (y * W + (W - 1 - x))).r, .int .u8 (px (y * W + (W - 1 - x))).g, .int .u8 (px (y * W + (W - 1 - x))).b, .int .u8 (px (y * W + (W - 1 - x))).a]) ∧ Ext w w' := by
  have hi : y * W + (W - 1 - x) < W * H := mul_lt_of hyH (by omega)
  have hX0 : Ext w (w.alloc (.cells #[.int .u8 0, .int .u8 0, .int .u8 0, .int .u8 0] 36)) := (Ext.refl w).alloc _
  obtain ⟨p0, p1, p2⟩ := hP.ext hX0
  have d0 := (hX0.cell (p := ⟨D, 0, none⟩) (World.block_lt_of_cell? w _ hD)).trans hD
  obtain ⟨M, hM⟩ : ∃ M, y * W = M := ⟨_, rfl⟩
  have hM1 : M ≤ 65536 := by rw [← hM]; exact Nat.mul_le_mul (show y ≤ 256 by omega) hW
  have hMI : (y : Int) * (W : Int) = (M : Int) := by rw [← hM]; simp
  rw [hM] at hi ⊢
  rw [show M + (W - 1 - x) = M + W - 1 - x by omega] at hi ⊢
  obtain ⟨c0, c1, c2, c3, _⟩ := (hx.ext hX0).2 a rfl (M + W - 1 - x) hi
  obtain ⟨N, hN⟩ : ∃ N, W * H = N := ⟨_, rfl⟩
  have hNl : N ≤ 65536 := by rw [← hN]; exact Nat.mul_le_mul hW hH
  rw [hN] at hi p2
  have MM := Lib.hid hM
  have NN := Lib.hid hN
  clear hX0 hP hD hM hN hx
  go_enter Tryd.func57, Tryd.ntmps57
  go_wp2_with fail
  exact bodyPost_ret (v := .agg #[.int .u8 (px (M + W - 1 - x)).r, .int .u8 (px (M + W - 1 - x)).g, .int .u8 (px (M + W - 1 - x)).b, .int .u8 (px (M + W - 1 - x)).a]) (by simp [results, Tryd.results57, go_sem]) rfl ⟨rfl, by repeat (first | exact Ext.refl _ | refine Ext.alloc ?_ _)⟩
theorem turn1_any (x y W H : Nat) (a : Addr) (c P : Nat) (px : Nat → P4) (w : World) (hP : PicAt w P (W : Int) (H : Int) (.slice (some a) (W * H) c)) (hx : Pxs w (some a) (W * H) px) (hW : W ≤ 256) (hH : H ≤ 256) (hxH : x < H) (hyW : y < W) :
    Calls Tryd.prog 59 #[.int .i64 (x : Int), .int .i64 (y : Int), .pointer (some ⟨P, 0, none⟩)] w fun e w' => e = .returned (.agg #[.int .u8 (px ((H - 1 - x) * W + y)).r, .int .u8 (px ((H - 1 - x) * W + y)).g, .int .u8 (px ((H - 1 - x) * W + y)).b, .int .u8 (px ((H - 1 - x) * W + y)).a]) ∧ Ext w w' := by
  obtain ⟨K, rfl⟩ : ∃ K, H = K + 1 + x := ⟨H - 1 - x, by omega⟩
  have hi : K * W + y < W * (K + 1 + x) := mul_lt_of (by omega) hyW
  rw [show K + 1 + x - 1 - x = K by omega]
  have hX0 : Ext w (w.alloc (.cells #[.int .u8 0, .int .u8 0, .int .u8 0, .int .u8 0] 36)) := (Ext.refl w).alloc _
  obtain ⟨p0, p1, p2⟩ := hP.ext hX0
  obtain ⟨M, hM⟩ : ∃ M, K * W = M := ⟨_, rfl⟩
  have hM1 : M ≤ 65536 := by rw [← hM]; exact Nat.mul_le_mul (show K ≤ 256 by omega) hW
  rw [hM] at hi ⊢
  have hMI : (K : Int) * (W : Int) = (M : Int) := by rw [← hM]; simp
  have hKI : (((K + 1 + x : Nat) : Int) - 1 - (x : Int)) = (K : Int) := by omega
  obtain ⟨c0, c1, c2, c3, _⟩ := (hx.ext hX0).2 a rfl (M + y) hi
  obtain ⟨N, hN⟩ : ∃ N, W * (K + 1 + x) = N := ⟨_, rfl⟩
  have hNl : N ≤ 65536 := by rw [← hN]; exact Nat.mul_le_mul hW hH
  obtain ⟨HH, hHH⟩ : ∃ HH, K + 1 + x = HH := ⟨_, rfl⟩
  rw [hN] at hi p2
  rw [hHH] at p1 hKI hH
  have hHK : x + 1 ≤ HH := by omega
  have LL := Lib.hid hHH
  have MM := Lib.hid hM
  have NN := Lib.hid hN
  clear hX0 hP hHH hM hN hx
  go_enter Tryd.func59, Tryd.ntmps59
  go_wp2_with fail
  exact bodyPost_ret (v := .agg #[.int .u8 (px (M + y)).r, .int .u8 (px (M + y)).g, .int .u8 (px (M + y)).b, .int .u8 (px (M + y)).a]) (by simp [results, Tryd.results59, go_sem]) rfl ⟨rfl, by repeat (first | exact Ext.refl _ | refine Ext.alloc ?_ _)⟩
theorem flip1_both (x y W H : Nat) (a : Addr) (c P D : Nat) (px : Nat → P4) (down : Bool) (w : World) (hP : PicAt w P (W : Int) (H : Int) (.slice (some a) (W * H) c)) (hD : w.cell? ⟨D, 0, none⟩ = some (.bool down)) (hx : Pxs w (some a) (W * H) px) (hW : W ≤ 256) (hH : H ≤ 256) (hxW : x < W) (hyH : y < H) :
    Calls Tryd.prog 57 #[.int .i64 (x : Int), .int .i64 (y : Int), .pointer (some ⟨D, 0, none⟩), .pointer (some ⟨P, 0, none⟩)] w fun e w' => e = .returned (.agg #[.int .u8 (px (if down then (H - 1 - y) * W + x else y * W + (W - 1 - x))).r, .int .u8 (px (if down then (H - 1 - y) * W + x else y * W + (W - 1 - x))).g, .int .u8 (px (if down then (H - 1 - y) * W + x else y * W + (W - 1 - x))).b, .int .u8 (px (if down then (H - 1 - y) * W + x else y * W + (W - 1 - x))).a]) ∧ Ext w w' := by
  cases down with
  | true => exact flip1_down x y W H a c P D px w hP hD hx hW hH hxW hyH
  | false => exact flip1_right x y W H a c P D px w hP hD hx hW hH hxW hyH
theorem enters_flip1 : ∀ (args : Array Value) (w : World), (callFunc 57 args).run Tryd.prog w = .ok (.enter 57 args) w := enters_fn Tryd.func57 (by kernel_rfl) rfl
theorem enters_turn1 : ∀ (args : Array Value) (w : World), (callFunc 59 args).run Tryd.prog w = .ok (.enter 59 args) w := enters_fn Tryd.func59 (by kernel_rfl) rfl
end Go.Proofs.YtkfjcgcgfdibaaaDoor
