/- told, In, at, Near: of pictures. -/
import Derived.Test.YtkfjcgcgfdibaaaDoorPo
import Derived.Test.YtkfjcgcgfdibaaaDoorCoded2
import Derived.Test.YtkfjcgcgfdibaaaDoorBackLaw
namespace Go.Proofs.YtkfjcgcgfdibaaaDoor
open Go.RowKit
set_option maxRecDepth 100000
theorem told_err (err : Value) (k : Nat) (W H : Int) (x : Option Addr) (n cap : Nat) (w : World) (E : Nat → Addr) (hE : Errs w E) (hv : ErrV w E err ((k : Int) + 1) (-1)) :
    Calls Tryd.prog 22 #[.agg #[.int .i64 0, .int .i64 0, .slice none 0 0], err, .agg #[.int .i64 W, .int .i64 H, .slice x n cap], .int .i64 ((k : Int) + 1)] w fun e w' => e = .returned (.bool true) ∧ Ext w w' := by
  have HE := Lib.hid hE
  have HV := Lib.hid hv
  have t1 : decide ((0 : Int) < (k : Int) + 1) = true := decide_eq_true (by omega)
  clear hE hv
  go_enter Tryd.func22, Tryd.ntmps22
  go_wp2_with fail
  clear t1
  refine calls_world (fun wz => Ext w wz ∧ wz.heap.size = w.heap.size + 1 + 1 ∧ Bk wz (w.heap.size) #[.int .i64 0, .int .i64 0, .slice none 0 0] ∧ Bk wz (w.heap.size + 1) #[.int .i64 W, .int .i64 H, .slice x n cap]) ⟨by repeat (first | exact Ext.refl _ | refine Ext.alloc ?_ _), by simp, by repeat (first | exact Bk.at (by simp) | refine Bk.old ?_), by repeat (first | exact Bk.at (by simp) | refine Bk.old ?_)⟩ ?_
  rintro wa ⟨hX, hZ, hB0, hB1⟩
  have X1 := Lib.hid hX
  have B1 := Lib.hid hB0
  clear hX hZ hB0 hB1
  refine (coded_any _ E (HE.out.ext X1.out) _ _ _ ((k : Int) + 1) (HV.out.ext X1.out)).mono ?_
  rintro e w2 ⟨he, h2⟩
  have X2 := Lib.hid (X1.out.trans h2)
  have B2 := Lib.hid (B1.out.ext h2)
  clear h2
  obtain rfl : e = .returned (.bool true) := by rw [he]; exact ret_bool (by simp)
  clear he
  have c0 := B2.out.cell 0
  have c1 := B2.out.cell 1
  have c2 := B2.out.cell 2
  go_wp2_with fail
  refine (same_yes 0 0 none none 0 0 0 (fun _ => P4.zero) _ ⟨fun _ => rfl, fun a h => by cases h⟩ ⟨fun _ => rfl, fun a h => by cases h⟩ (by decide)).mono ?_
  rintro e w3 ⟨rfl, h3⟩
  have X3 := Lib.hid (X2.out.trans h3)
  clear h3
  clear c0 c1 c2
  go_wp2_with fail
  go_ret
  exact ⟨rfl, X3.out⟩
theorem told_ok (W H : Int) (x y : Option Addr) (n cap cap' : Nat) (px : Nat → P4) (w : World) (hx : Pxs w x n px) (hy : Pxs w y n px) (hn : n ≤ 10000000) :
    Calls Tryd.prog 22 #[.agg #[.int .i64 W, .int .i64 H, .slice x n cap], .nilIface, .agg #[.int .i64 W, .int .i64 H, .slice y n cap'], .int .i64 0] w fun e w' => e = .returned (.bool true) ∧ Ext w w' := by
  have HX := Lib.hid hx
  have HY := Lib.hid hy
  clear hx hy
  go_enter Tryd.func22, Tryd.ntmps22
  go_wp2_with fail
  refine calls_world (fun wz => Ext w wz ∧ wz.heap.size = w.heap.size + 1 + 1 ∧ Bk wz (w.heap.size) #[.int .i64 W, .int .i64 H, .slice x n cap] ∧ Bk wz (w.heap.size + 1) #[.int .i64 W, .int .i64 H, .slice y n cap']) ⟨by repeat (first | exact Ext.refl _ | refine Ext.alloc ?_ _), by simp, by repeat (first | exact Bk.at (by simp) | refine Bk.old ?_), by repeat (first | exact Bk.at (by simp) | refine Bk.old ?_)⟩ ?_
  rintro wa ⟨hX, hZ, hB0, hB1⟩
  have X1 := Lib.hid hX
  clear hX hZ hB0 hB1
  refine (same_yes W H x y n cap cap' px _ (HX.out.ext X1.out) (HY.out.ext X1.out) hn).mono ?_
  rintro e w3 ⟨rfl, h3⟩
  have X3 := Lib.hid (X1.out.trans h3)
  clear h3
  go_wp2_with fail
  go_ret
  exact ⟨rfl, X3.out⟩
def inB (W H x y : Int) : Bool := decide (0 ≤ x ∧ 0 ≤ y ∧ x < W ∧ y < H)
theorem refIn_any (W H : Int) (v : Value) (x y : Int) (w : World) (hv : ∃ a n c, v = .slice a n c) :
    Calls Tryd.prog 25 #[.agg #[.int .i64 W, .int .i64 H, v], .int .i64 x, .int .i64 y] w fun e w' => e = .returned (.bool (inB W H x y)) ∧ Ext w w' := by
  obtain ⟨a, n, c, rfl⟩ := hv
  have HX := Lib.hid ((Ext.refl w).alloc (.cells #[.int .i64 W, .int .i64 H, .slice a n c] 24))
  by_cases h1 : 0 ≤ x
  · have t1 : decide ((0 : Int) ≤ x) = true := decide_eq_true h1
    by_cases h2 : 0 ≤ y
    · have t2 : decide ((0 : Int) ≤ y) = true := decide_eq_true h2
      by_cases h3 : x < W
      · have t3 : decide (x < W) = true := decide_eq_true h3
        go_enter Tryd.func25, Tryd.ntmps25
        go_wp2_with fail
        go_ret
        exact ⟨ret_bool (by unfold inB; rw [Bool.eq_iff_iff]; simp only [decide_eq_true_eq]; exact ⟨fun h => ⟨h1, h2, h3, h⟩, fun h => h.2.2.2⟩), HX.out⟩
      · have t3 : decide (x < W) = false := decide_eq_false h3
        go_enter Tryd.func25, Tryd.ntmps25
        go_wp2_with fail
        go_ret
        exact ⟨ret_bool (by unfold inB; simp; omega), HX.out⟩
    · have t2 : decide ((0 : Int) ≤ y) = false := decide_eq_false h2
      go_enter Tryd.func25, Tryd.ntmps25
      go_wp2_with fail
      go_ret
      exact ⟨ret_bool (by unfold inB; simp; omega), HX.out⟩
  · have t1 : decide ((0 : Int) ≤ x) = false := decide_eq_false h1
    go_enter Tryd.func25, Tryd.ntmps25
    go_wp2_with fail
    go_ret
    exact ⟨ret_bool (by unfold inB; simp; omega), HX.out⟩
theorem in_any (W H : Int) (v : Value) (x y : Int) (w : World) (hv : ∃ a n c, v = .slice a n c) :
    Calls Tryd.prog 62 #[.agg #[.int .i64 W, .int .i64 H, v], .int .i64 x, .int .i64 y] w fun e w' => e = .returned (.bool (inB W H x y)) ∧ Ext w w' := by
  obtain ⟨a, n, c, rfl⟩ := hv
  have HX := Lib.hid ((Ext.refl w).alloc (.cells #[.int .i64 W, .int .i64 H, .slice a n c] 24))
  by_cases h1 : 0 ≤ x
  · have t1 : decide ((0 : Int) ≤ x) = true := decide_eq_true h1
    by_cases h3 : x < W
    · have t3 : decide (x < W) = true := decide_eq_true h3
      by_cases h2 : 0 ≤ y
      · have t2 : decide ((0 : Int) ≤ y) = true := decide_eq_true h2
        go_enter Tryd.func62, Tryd.ntmps62
        go_wp2_with fail
        go_ret
        exact ⟨ret_bool (by unfold inB; rw [Bool.eq_iff_iff]; simp only [decide_eq_true_eq]; exact ⟨fun h => ⟨h1, h2, h3, h⟩, fun h => h.2.2.2⟩), HX.out⟩
      · have t2 : decide ((0 : Int) ≤ y) = false := decide_eq_false h2
        go_enter Tryd.func62, Tryd.ntmps62
        go_wp2_with fail
        go_ret
        exact ⟨ret_bool (by unfold inB; simp; omega), HX.out⟩
    · have t3 : decide (x < W) = false := decide_eq_false h3
      go_enter Tryd.func62, Tryd.ntmps62
      go_wp2_with fail
      go_ret
      exact ⟨ret_bool (by unfold inB; simp; omega), HX.out⟩
  · have t1 : decide ((0 : Int) ≤ x) = false := decide_eq_false h1
    go_enter Tryd.func62, Tryd.ntmps62
    go_wp2_with fail
    go_ret
    exact ⟨ret_bool (by unfold inB; simp; omega), HX.out⟩
theorem at_any (x y W H : Nat) (a : Addr) (c : Nat) (px : Nat → P4) (w : World) (hx : Pxs w (some a) (W * H) px) (hW : W ≤ 256) (hH : H ≤ 256) (hxW : x < W) (hyH : y < H) :
    Calls Tryd.prog 67 #[.agg #[.int .i64 (W : Int), .int .i64 (H : Int), .slice (some a) (W * H) c], .int .i64 (x : Int), .int .i64 (y : Int)] w fun e w' => e = .returned (.agg #[.int .u8 (px (y * W + x)).r, .int .u8 (px (y * W + x)).g, .int .u8 (px (y * W + x)).b, .int .u8 (px (y * W + x)).a]) ∧ Ext w w' := by
  have hi : y * W + x < W * H := mul_lt_of hyH hxW
  obtain ⟨M, hM⟩ : ∃ M, y * W = M := ⟨_, rfl⟩
  have hM1 : M ≤ 65536 := by rw [← hM]; exact Nat.mul_le_mul (show y ≤ 256 by omega) hW
  have hMI : (y : Int) * (W : Int) = (M : Int) := by rw [← hM]; simp
  rw [hM] at hi ⊢
  have hX0 : Ext w ((w.alloc (.cells #[.int .i64 (W : Int), .int .i64 (H : Int), .slice (some a) (W * H) c] 24)).alloc (.cells #[.int .u8 0, .int .u8 0, .int .u8 0, .int .u8 0] 36)) := ((Ext.refl w).alloc _).alloc _
  obtain ⟨c0, c1, c2, c3, _⟩ := (hx.ext hX0).2 a rfl (M + x) hi
  obtain ⟨N, hN⟩ : ∃ N, W * H = N := ⟨_, rfl⟩
  have hNl : N ≤ 65536 := by rw [← hN]; exact Nat.mul_le_mul hW hH
  rw [hN] at hi c0 c1 c2 c3 ⊢
  have MM := Lib.hid hM
  clear hM hN hx hX0
  go_enter Tryd.func67, Tryd.ntmps67
  go_wp2_with fail
  exact bodyPost_ret (v := .agg #[.int .u8 (px (M + x)).r, .int .u8 (px (M + x)).g, .int .u8 (px (M + x)).b, .int .u8 (px (M + x)).a]) (by simp [results, Tryd.results67, go_sem]) rfl ⟨rfl, by repeat (first | exact Ext.refl _ | refine Ext.alloc ?_ _)⟩
end Go.Proofs.YtkfjcgcgfdibaaaDoor
