/- RasterLines' walk, joined. -/
import Derived.Test.YtkfjcgcgfdibaaaDoorLinesW
namespace Go.Proofs.YtkfjcgcgfdibaaaDoor
open Go.RowKit
set_option maxRecDepth 100000
theorem lines_small (X0 Y0 X1 Y1 r g b a W H : Int) (x : Option Addr) (n cap : Nat) (w : World) (hn : n ≤ maxLen) (h : 3000 < n) :
    Calls Tryd.prog 7 #[.agg #[.int .i64 W, .int .i64 H, .slice x n cap], .int .i64 X0, .int .i64 Y0, .int .i64 X1, .int .i64 Y1, .agg #[.int .u8 r, .int .u8 g, .int .u8 b, .int .u8 a]] w fun e w' => e = .returned (.bool true) ∧ Ext w w' := by
  have hd := Lib.hid (decide_eq_false (show ¬ n ≤ 3000 by omega))
  go_enter Tryd.func7, Tryd.ntmps7
  go_wp2_with fail
  refine calls_world (fun wz => Ext w wz ∧ wz.heap.size = w.heap.size + 1 + 1 ∧ Bk wz (w.heap.size) #[.int .i64 W, .int .i64 H, .slice x n cap] ∧ Bk wz (w.heap.size + 1) #[.int .u8 r, .int .u8 g, .int .u8 b, .int .u8 a]) ⟨by repeat (first | exact Ext.refl _ | refine Ext.alloc ?_ _), by simp, by repeat (first | exact Bk.at (by simp) | refine Bk.old ?_), by repeat (first | exact Bk.at (by simp) | refine Bk.old ?_)⟩ ?_
  rintro wa ⟨hX, hZ, hB0, hB1⟩
  refine (plainly_any _).mono ?_
  rintro e w2 ⟨rfl, h2⟩
  have X2 := Lib.hid (hX.trans h2)
  have B2 := Lib.hid (hB0.ext h2)
  clear h2
  have c0 := B2.out.cell 0
  have c1 := B2.out.cell 1
  have c2 := B2.out.cell 2
  go_wp2_with fail
  refine (small_any W H x n cap _ hn).mono ?_
  rintro e w3 ⟨rfl, h3⟩
  have X3 := Lib.hid (X2.out.trans h3)
  clear h3
  rw [hd.out]
  go_wp2_with fail
  go_ret
  exact ⟨rfl, X3.out⟩
theorem lines_any (X0 Y0 X1 Y1 r g b a W H : Int) (x : Option Addr) (n cap : Nat) (px : Nat → P4) (w : World) (E : Nat → Addr) (hE : Errs w E) (hp : (P4.mk r g b a).Ok) (hx : Pxs w x n px) (hx0 : x = none → cap = 0) (hn : n ≤ maxLen) :
    Calls Tryd.prog 7 #[.agg #[.int .i64 W, .int .i64 H, .slice x n cap], .int .i64 X0, .int .i64 Y0, .int .i64 X1, .int .i64 Y1, .agg #[.int .u8 r, .int .u8 g, .int .u8 b, .int .u8 a]] w fun e w' => e = .returned (.bool true) ∧ Ext w w' := by
  by_cases h1 : 3000 < n
  · exact lines_small X0 Y0 X1 Y1 r g b a W H x n cap w hn h1
  have hn' : n ≤ 3000 := by omega
  cases hr : rightB W H n
  · exact lines_shape X0 Y0 X1 Y1 r g b a W H x n cap px w E hE hx hx0 hn' hr
  · obtain ⟨A, B, rfl, rfl, a1, a2, b1, b2, rfl⟩ := rightB_yes hr
    obtain ⟨ad, rfl⟩ := hx.isSome (Nat.mul_pos a1 b1)
    cases hf : nearAll (rf X0 Y0 X1 Y1) 4
    · exact lines_bound X0 Y0 X1 Y1 r g b a A B ad cap px w E hE hx hp hn' hr hf
    · exact lines_ok X0 Y0 X1 Y1 r g b a A B ad cap px w E hE hx hp hn' hr hf
end Go.Proofs.YtkfjcgcgfdibaaaDoor
