/- Parts of pictures: the closures of Fill and Crop. -/
import Derived.Test.YtkfjcgcgfdibaaaDoorNear
import Derived.Test.YtkfjcgcgfdibaaaDoorRAt
namespace Go.Proofs.YtkfjcgcgfdibaaaDoor
open Go.RowKit
set_option maxRecDepth 100000
/-- a rectangle in memory -/
def Rc (w : World) (b : Nat) (X Y W H : Int) : Prop := Bk w b #[.int .i64 X, .int .i64 Y, .int .i64 W, .int .i64 H]
def inR (X Y W H x y : Int) : Bool := decide (X ≤ x ∧ x < X + W ∧ Y ≤ y ∧ y < Y + H)
theorem Rc.ext {w w' : World} {b : Nat} {X Y W H : Int} (h : Rc w b X Y W H) (hE : Ext w w') : Rc w' b X Y W H := Bk.ext h hE
theorem crop1_any (x y W H X Y : Nat) (RW RH : Int) (a : Addr) (c P R : Nat) (px : Nat → P4) (w : World) (hP : PicAt w P (W : Int) (H : Int) (.slice (some a) (W * H) c)) (hR : Rc w R (X : Int) (Y : Int) RW RH) (hx : Pxs w (some a) (W * H) px) (hW : W ≤ 256) (hH : H ≤ 256) (hxW : X + x < W) (hyH : y + Y < H) :
    Calls Tryd.prog 66 #[.int .i64 (x : Int), .int .i64 (y : Int), .pointer (some ⟨P, 0, none⟩), .pointer (some ⟨R, 0, none⟩)] w fun e w' => e = .returned (.agg #[.int .u8 (px ((y + Y) * W + (X + x))).r, .int .u8 (px ((y + Y) * W + (X + x))).g, .int .u8 (px ((y + Y) * W + (X + x))).b, .int .u8 (px ((y + Y) * W + (X + x))).a]) ∧ Ext w w' := by
  have hi : (y + Y) * W + (X + x) < W * H := mul_lt_of hyH hxW
  have hX0 : Ext w (w.alloc (.cells #[.int .u8 0, .int .u8 0, .int .u8 0, .int .u8 0] 36)) := (Ext.refl w).alloc _
  obtain ⟨p0, p1, p2⟩ := hP.ext hX0
  have r0 := (hR.ext hX0).cell 0
  have r1 := (hR.ext hX0).cell 1
  obtain ⟨M, hM⟩ : ∃ M, (y + Y) * W = M := ⟨_, rfl⟩
  have hM1 : M ≤ 65536 := by rw [← hM]; exact Nat.mul_le_mul (show y + Y ≤ 256 by omega) hW
  have hMI : ((y : Int) + (Y : Int)) * (W : Int) = (M : Int) := by rw [← hM]; simp
  rw [hM] at hi ⊢
  rw [show M + (X + x) = M + x + X by omega] at hi ⊢
  obtain ⟨c0, c1, c2, c3, _⟩ := (hx.ext hX0).2 a rfl (M + x + X) hi
  obtain ⟨N, hN⟩ : ∃ N, W * H = N := ⟨_, rfl⟩
  have hNl : N ≤ 65536 := by rw [← hN]; exact Nat.mul_le_mul hW hH
  rw [hN] at hi p2
  have MM := Lib.hid hM
  have NN := Lib.hid hN
  clear hX0 hP hR hM hN hx
  go_enter Tryd.func66, Tryd.ntmps66
  go_wp2_with fail
  exact bodyPost_ret (v := .agg #[.int .u8 (px (M + x + X)).r, .int .u8 (px (M + x + X)).g, .int .u8 (px (M + x + X)).b, .int .u8 (px (M + x + X)).a]) (by simp [results, Tryd.results66, go_sem]) rfl ⟨rfl, by repeat (first | exact Ext.refl _ | refine Ext.alloc ?_ _)⟩
theorem fill1_in (x y : Nat) (X Y RW RH r g b a : Int) (P R C : Nat) (w : World) (hR : Rc w R X Y RW RH) (hC : Bk w C #[.int .u8 r, .int .u8 g, .int .u8 b, .int .u8 a]) (hn : (-10000 ≤ X ∧ X ≤ 10000) ∧ (-10000 ≤ Y ∧ Y ≤ 10000) ∧ (-10000 ≤ RW ∧ RW ≤ 10000) ∧ (-10000 ≤ RH ∧ RH ≤ 10000)) (hi : inR X Y RW RH (x : Int) (y : Int) = true) :
    Calls Tryd.prog 65 #[.int .i64 (x : Int), .int .i64 (y : Int), .pointer (some ⟨R, 0, none⟩), .pointer (some ⟨C, 0, none⟩), .pointer (some ⟨P, 0, none⟩)] w fun e w' => e = .returned (.agg #[.int .u8 r, .int .u8 g, .int .u8 b, .int .u8 a]) ∧ Ext w w' := by
  obtain ⟨i1, i2, i3, i4⟩ := of_decide_eq_true hi
  obtain ⟨⟨n1, n2⟩, ⟨n3, n4⟩, ⟨n5, n6⟩, n7, n8⟩ := hn
  have hX0 : Ext w (w.alloc (.cells #[.int .u8 0, .int .u8 0, .int .u8 0, .int .u8 0] 36)) := (Ext.refl w).alloc _
  have r0 := (hR.ext hX0).cell 0
  have r1 := (hR.ext hX0).cell 1
  have r2 := (hR.ext hX0).cell 2
  have r3 := (hR.ext hX0).cell 3
  have c0 := (hC.ext hX0).cell 0
  have c1 := (hC.ext hX0).cell 1
  have c2 := (hC.ext hX0).cell 2
  have c3 := (hC.ext hX0).cell 3
  have t1 : decide (X ≤ (x : Int)) = true := decide_eq_true i1
  have t2 : decide ((x : Int) < X + RW) = true := decide_eq_true i2
  have t3 : decide (Y ≤ (y : Int)) = true := decide_eq_true i3
  have t4 : decide ((y : Int) < Y + RH) = true := decide_eq_true i4
  clear hX0 hR hC hi
  go_enter Tryd.func65, Tryd.ntmps65
  go_wp2_with fail
  exact bodyPost_ret (v := .agg #[.int .u8 r, .int .u8 g, .int .u8 b, .int .u8 a]) (by simp [results, Tryd.results65, go_sem]) rfl ⟨rfl, by repeat (first | exact Ext.refl _ | refine Ext.alloc ?_ _)⟩
theorem fill1_out (x y W H : Nat) (X Y RW RH : Int) (ad : Addr) (c P R C : Nat) (px : Nat → P4) (w : World) (hP : PicAt w P (W : Int) (H : Int) (.slice (some ad) (W * H) c)) (hR : Rc w R X Y RW RH) (hx : Pxs w (some ad) (W * H) px) (hW : W ≤ 256) (hH : H ≤ 256) (hxW : x < W) (hyH : y < H) (hn : (-10000 ≤ X ∧ X ≤ 10000) ∧ (-10000 ≤ Y ∧ Y ≤ 10000) ∧ (-10000 ≤ RW ∧ RW ≤ 10000) ∧ (-10000 ≤ RH ∧ RH ≤ 10000)) (hi : inR X Y RW RH (x : Int) (y : Int) = false) :
    Calls Tryd.prog 65 #[.int .i64 (x : Int), .int .i64 (y : Int), .pointer (some ⟨R, 0, none⟩), .pointer (some ⟨C, 0, none⟩), .pointer (some ⟨P, 0, none⟩)] w fun e w' => e = .returned (.agg #[.int .u8 (px (y * W + x)).r, .int .u8 (px (y * W + x)).g, .int .u8 (px (y * W + x)).b, .int .u8 (px (y * W + x)).a]) ∧ Ext w w' := by
  have hi' := of_decide_eq_false hi
  obtain ⟨⟨n1, n2⟩, ⟨n3, n4⟩, ⟨n5, n6⟩, n7, n8⟩ := hn
  have hid : y * W + x < W * H := mul_lt_of hyH hxW
  have hX0 : Ext w (w.alloc (.cells #[.int .u8 0, .int .u8 0, .int .u8 0, .int .u8 0] 36)) := (Ext.refl w).alloc _
  have r0 := (hR.ext hX0).cell 0
  have r1 := (hR.ext hX0).cell 1
  have r2 := (hR.ext hX0).cell 2
  have r3 := (hR.ext hX0).cell 3
  obtain ⟨p0, p1, p2⟩ := hP.ext hX0
  obtain ⟨M, hM⟩ : ∃ M, y * W = M := ⟨_, rfl⟩
  have hM1 : M ≤ 65536 := by rw [← hM]; exact Nat.mul_le_mul (show y ≤ 256 by omega) hW
  have hMI : (y : Int) * (W : Int) = (M : Int) := by rw [← hM]; simp
  rw [hM] at hid ⊢
  obtain ⟨c0, c1, c2, c3, _⟩ := (hx.ext hX0).2 ad rfl (M + x) hid
  obtain ⟨N, hN⟩ : ∃ N, W * H = N := ⟨_, rfl⟩
  have hNl : N ≤ 65536 := by rw [← hN]; exact Nat.mul_le_mul hW hH
  rw [hN] at hid p2
  have MM := Lib.hid hM
  have NN := Lib.hid hN
  clear hX0 hP hR hM hN hx hi
  by_cases i1 : X ≤ (x : Int)
  · have t1 : decide (X ≤ (x : Int)) = true := decide_eq_true i1
    by_cases i2 : (x : Int) < X + RW
    · have t2 : decide ((x : Int) < X + RW) = true := decide_eq_true i2
      by_cases i3 : Y ≤ (y : Int)
      · have t3 : decide (Y ≤ (y : Int)) = true := decide_eq_true i3
        have t4 : decide ((y : Int) < Y + RH) = false := decide_eq_false (fun h => hi' ⟨i1, i2, i3, h⟩)
        clear hi'
        go_enter Tryd.func65, Tryd.ntmps65
        go_wp2_with fail
        exact bodyPost_ret (v := .agg #[.int .u8 (px (M + x)).r, .int .u8 (px (M + x)).g, .int .u8 (px (M + x)).b, .int .u8 (px (M + x)).a]) (by simp [results, Tryd.results65, go_sem]) rfl ⟨rfl, by repeat (first | exact Ext.refl _ | refine Ext.alloc ?_ _)⟩
      · have t3 : decide (Y ≤ (y : Int)) = false := decide_eq_false i3
        clear hi'
        go_enter Tryd.func65, Tryd.ntmps65
        go_wp2_with fail
        exact bodyPost_ret (v := .agg #[.int .u8 (px (M + x)).r, .int .u8 (px (M + x)).g, .int .u8 (px (M + x)).b, .int .u8 (px (M + x)).a]) (by simp [results, Tryd.results65, go_sem]) rfl ⟨rfl, by repeat (first | exact Ext.refl _ | refine Ext.alloc ?_ _)⟩
    · have t2 : decide ((x : Int) < X + RW) = false := decide_eq_false i2
      clear hi'
      go_enter Tryd.func65, Tryd.ntmps65
      go_wp2_with fail
      exact bodyPost_ret (v := .agg #[.int .u8 (px (M + x)).r, .int .u8 (px (M + x)).g, .int .u8 (px (M + x)).b, .int .u8 (px (M + x)).a]) (by simp [results, Tryd.results65, go_sem]) rfl ⟨rfl, by repeat (first | exact Ext.refl _ | refine Ext.alloc ?_ _)⟩
  · have t1 : decide (X ≤ (x : Int)) = false := decide_eq_false i1
    clear hi'
    go_enter Tryd.func65, Tryd.ntmps65
    go_wp2_with fail
    exact bodyPost_ret (v := .agg #[.int .u8 (px (M + x)).r, .int .u8 (px (M + x)).g, .int .u8 (px (M + x)).b, .int .u8 (px (M + x)).a]) (by simp [results, Tryd.results65, go_sem]) rfl ⟨rfl, by repeat (first | exact Ext.refl _ | refine Ext.alloc ?_ _)⟩
theorem enters_fill1 : ∀ (args : Array Value) (w : World), (callFunc 65 args).run Tryd.prog w = .ok (.enter 65 args) w := enters_fn Tryd.func65 (by kernel_rfl) rfl
theorem enters_crop1 : ∀ (args : Array Value) (w : World), (callFunc 66 args).run Tryd.prog w = .ok (.enter 66 args) w := enters_fn Tryd.func66 (by kernel_rfl) rfl
end Go.Proofs.YtkfjcgcgfdibaaaDoor
