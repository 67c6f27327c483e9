/- RasterParts' walk, joined. -/
import Derived.Test.YtkfjcgcgfdibaaaDoorPartsSS
import Derived.Test.YtkfjcgcgfdibaaaDoorPartsBB
import Derived.Test.YtkfjcgcgfdibaaaDoorPartsBO
import Derived.Test.YtkfjcgcgfdibaaaDoorPartsOB
import Derived.Test.YtkfjcgcgfdibaaaDoorPartsOO
namespace Go.Proofs.YtkfjcgcgfdibaaaDoor
open Go.RowKit
set_option maxRecDepth 100000
theorem parts_small (X Y RW RH r g b a W H : Int) (x : Option Addr) (n cap : Nat) (w : World) (hn : n ≤ maxLen) (h : 3000 < n) :
    Calls Tryd.prog 5 #[.agg #[.int .i64 W, .int .i64 H, .slice x n cap], .agg #[.int .i64 X, .int .i64 Y, .int .i64 RW, .int .i64 RH], .agg #[.int .u8 r, .int .u8 g, .int .u8 b, .int .u8 a]] w fun e w' => e = .returned (.bool true) ∧ Ext w w' := by
  have hd := Lib.hid (decide_eq_false (show ¬ n ≤ 3000 by omega))
  go_enter Tryd.func5, Tryd.ntmps5
  go_wp2_with fail
  refine calls_world (fun wz => Ext w wz ∧ wz.heap.size = w.heap.size + 1 + 1 + 1 ∧ Bk wz (w.heap.size) #[.int .i64 W, .int .i64 H, .slice x n cap] ∧ Bk wz (w.heap.size + 1) #[.int .i64 X, .int .i64 Y, .int .i64 RW, .int .i64 RH] ∧ Bk wz (w.heap.size + 1 + 1) #[.int .u8 r, .int .u8 g, .int .u8 b, .int .u8 a]) ⟨by repeat (first | exact Ext.refl _ | refine Ext.alloc ?_ _), by simp, by repeat (first | exact Bk.at (by simp) | refine Bk.old ?_), by repeat (first | exact Bk.at (by simp) | refine Bk.old ?_), by repeat (first | exact Bk.at (by simp) | refine Bk.old ?_)⟩ ?_
  rintro wa ⟨hX, hZ, hB0, hB1, hB2⟩
  refine (plainly_any _).mono ?_
  rintro e w2 ⟨rfl, h2⟩
  have X2 := Lib.hid (hX.trans h2)
  have B2 := Lib.hid (hB0.ext h2)
  clear h2
  have c0 := B2.out.cell 0
  have c1 := B2.out.cell 1
  have c2 := B2.out.cell 2
  go_wp2_with fail
  refine (small_any W H x n cap _ hn).mono ?_
  rintro e w3 ⟨rfl, h3⟩
  have X3 := Lib.hid (X2.out.trans h3)
  clear h3
  rw [hd.out]
  go_wp2_with fail
  go_ret
  exact ⟨rfl, X3.out⟩
theorem parts_any (X Y RW RH r g b a W H : Int) (x : Option Addr) (n cap : Nat) (px : Nat → P4) (w : World) (E : Nat → Addr) (hE : Errs w E) (hp : (P4.mk r g b a).Ok) (hx : Pxs w x n px) (hx0 : x = none → cap = 0) (hn : n ≤ maxLen) (hb : W ≤ 9223372036854775807 ∧ H ≤ 9223372036854775807) :
    Calls Tryd.prog 5 #[.agg #[.int .i64 W, .int .i64 H, .slice x n cap], .agg #[.int .i64 X, .int .i64 Y, .int .i64 RW, .int .i64 RH], .agg #[.int .u8 r, .int .u8 g, .int .u8 b, .int .u8 a]] w fun e w' => e = .returned (.bool true) ∧ Ext w w' := by
  by_cases h1 : 3000 < n
  · exact parts_small X Y RW RH r g b a W H x n cap w hn h1
  have hn' : n ≤ 3000 := by omega
  cases hr : rightB W H n
  · exact parts_shape_shape X Y RW RH r g b a W H x n cap px w E hE hx hx0 hb hn' hr
  · obtain ⟨A, B, rfl, rfl, a1, a2, b1, b2, rfl⟩ := rightB_yes hr
    obtain ⟨ad, rfl⟩ := hx.isSome (Nat.mul_pos a1 b1)
    cases hc : cropB X Y RW RH (A : Int) (B : Int)
    · cases hf : fillB X Y RW RH
      · exact parts_bound_bound X Y RW RH r g b a A B ad cap px w E hE hx hp hn' hr hf hc
      · exact parts_ok_bound X Y RW RH r g b a A B ad cap px w E hE hx hp hn' hr hf hc
    · obtain ⟨c1, c2, c3, c4, c5, c6, c7, c8⟩ := of_decide_eq_true hc
      obtain ⟨X', rfl⟩ : ∃ m : Nat, X = m := ⟨X.toNat, by omega⟩
      obtain ⟨Y', rfl⟩ : ∃ m : Nat, Y = m := ⟨Y.toNat, by omega⟩
      obtain ⟨RW', rfl⟩ : ∃ m : Nat, RW = m := ⟨RW.toNat, by omega⟩
      obtain ⟨RH', rfl⟩ : ∃ m : Nat, RH = m := ⟨RH.toNat, by omega⟩
      cases hf : fillB (X' : Int) (Y' : Int) (RW' : Int) (RH' : Int)
      · exact parts_bound_ok X' Y' RW' RH' r g b a A B ad cap px w E hE hx hp hn' hr hf (by omega) (by omega) (by omega) (by omega)
      · exact parts_ok_ok X' Y' RW' RH' r g b a A B ad cap px w E hE hx hp hn' hr hf (by omega) (by omega) (by omega) (by omega)
end Go.Proofs.YtkfjcgcgfdibaaaDoor
