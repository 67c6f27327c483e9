/-
  RasterStamps: for every two pictures, every place and every mode the statement returns true. No condition beside the tied variables.
-/
import Derived.Test.YtkfjcgcgfdibaaaDoorRows
import Derived.Test.YtkfjcgcgfdibaaaDoorStampsW
import Derived.Test.YtkfjcgcgfdibaaaDoorErrsLaid
import Derived.Test.YtkfjcgcgfdibaaaDoorOpenPic
import Derived.Test.YtkfjcgcgfdibaaaDoorLaw
import Derived.Test.YtkfjcgcgfdibaaaDoorCards
import Derived.Test.YtkfjcgcgfdibaaaDoorTie
import Derived.SevenTiedAt
import Derived.LaidMore
import Derived.Stop.Joined
import Derived.Lib.SmallJoins
namespace Go.Proofs.YtkfjcgcgfdibaaaDoor
open Go.RowKit
set_option maxRecDepth 100000
theorem stamps_small1 (X Y m W H QW QH : Int) (xa xb : Option Addr) (n c k d : Nat) (w : World) (hn : n ≤ maxLen) (h : 3000 < n) :
    Calls Tryd.prog 8 #[.agg #[.int .i64 W, .int .i64 H, .slice xa n c], .agg #[.int .i64 QW, .int .i64 QH, .slice xb k d], .int .i64 X, .int .i64 Y, .int .i64 m] w fun e w' => e = .returned (.bool true) ∧ Ext w w' := by
  have hd := Lib.hid (decide_eq_false (show ¬ n ≤ 3000 by omega))
  go_enter Tryd.func8, Tryd.ntmps8
  go_wp2_with fail
  refine calls_world (fun wz => Ext w wz ∧ wz.heap.size = w.heap.size + 1 + 1 ∧ Bk wz (w.heap.size) #[.int .i64 W, .int .i64 H, .slice xa n c] ∧ Bk wz (w.heap.size + 1) #[.int .i64 QW, .int .i64 QH, .slice xb k d]) ⟨by repeat (first | exact Ext.refl _ | refine Ext.alloc ?_ _), by simp, by repeat (first | exact Bk.at (by simp) | refine Bk.old ?_), by repeat (first | exact Bk.at (by simp) | refine Bk.old ?_)⟩ ?_
  rintro wa ⟨hX, hZ, hB0, hB1⟩
  refine (plainly_any _).mono ?_
  rintro e w2 ⟨rfl, h2⟩
  have X2 := Lib.hid (hX.trans h2)
  have B2 := Lib.hid (hB0.ext h2)
  clear h2
  have c0 := B2.out.cell 0
  have c1 := B2.out.cell 1
  have c2 := B2.out.cell 2
  go_wp2_with fail
  refine (small_any W H xa n c _ hn).mono ?_
  rintro e w3 ⟨rfl, h3⟩
  have X3 := Lib.hid (X2.out.trans h3)
  clear h3
  rw [hd.out]
  go_wp2_with fail
  go_ret
  exact ⟨rfl, X3.out⟩
theorem stamps_small2 (X Y m W H QW QH : Int) (xa xb : Option Addr) (n c k d : Nat) (w : World) (hn : n ≤ 3000) (hk : k ≤ maxLen) (h : 3000 < k) :
    Calls Tryd.prog 8 #[.agg #[.int .i64 W, .int .i64 H, .slice xa n c], .agg #[.int .i64 QW, .int .i64 QH, .slice xb k d], .int .i64 X, .int .i64 Y, .int .i64 m] w fun e w' => e = .returned (.bool true) ∧ Ext w w' := by
  have hd0 := Lib.hid (decide_eq_true hn)
  have hd := Lib.hid (decide_eq_false (show ¬ k ≤ 3000 by omega))
  go_enter Tryd.func8, Tryd.ntmps8
  go_wp2_with fail
  refine calls_world (fun wz => Ext w wz ∧ wz.heap.size = w.heap.size + 1 + 1 ∧ Bk wz (w.heap.size) #[.int .i64 W, .int .i64 H, .slice xa n c] ∧ Bk wz (w.heap.size + 1) #[.int .i64 QW, .int .i64 QH, .slice xb k d]) ⟨by repeat (first | exact Ext.refl _ | refine Ext.alloc ?_ _), by simp, by repeat (first | exact Bk.at (by simp) | refine Bk.old ?_), by repeat (first | exact Bk.at (by simp) | refine Bk.old ?_)⟩ ?_
  rintro wa ⟨hX, hZ, hB0, hB1⟩
  have X1 := Lib.hid hX
  have P1 := Lib.hid hB0
  have Q1 := Lib.hid hB1
  clear hX hZ hB0 hB1
  refine (plainly_any _).mono ?_
  rintro e w2 ⟨rfl, h2⟩
  have X2 := Lib.hid (X1.out.trans h2)
  have B2 := Lib.hid (P1.out.ext h2)
  have Q2 := Lib.hid (Q1.out.ext h2)
  clear h2
  have c0 := B2.out.cell 0
  have c1 := B2.out.cell 1
  have c2 := B2.out.cell 2
  go_wp2_with fail
  refine (small_any W H xa n c _ (by unfold maxLen; omega)).mono ?_
  rintro e w3 ⟨rfl, h3⟩
  have X3 := Lib.hid (X2.out.trans h3)
  have Q3 := Lib.hid (Q2.out.ext h3)
  clear h3
  clear c0 c1 c2
  rw [hd0.out]
  have c0 := Q3.out.cell 0
  have c1 := Q3.out.cell 1
  have c2 := Q3.out.cell 2
  go_wp2_with fail
  refine (small_any QW QH xb k d _ hk).mono ?_
  rintro e w4 ⟨rfl, h4⟩
  have X4 := Lib.hid (X3.out.trans h4)
  clear h4
  rw [hd.out]
  go_wp2_with fail
  go_ret
  exact ⟨rfl, X4.out⟩
theorem stamps_any (X Y m W H QW QH : Int) (xa xb : Option Addr) (n c k d : Nat) (px qx : Nat → P4) (w : World) (E : Nat → Addr) (hE : Errs w E) (hx : Pxs w xa n px) (hx0 : xa = none → c = 0) (hn : n ≤ maxLen) (hy : Pxs w xb k qx) (hy0 : xb = none → d = 0) (hk : k ≤ maxLen) :
    Calls Tryd.prog 8 #[.agg #[.int .i64 W, .int .i64 H, .slice xa n c], .agg #[.int .i64 QW, .int .i64 QH, .slice xb k d], .int .i64 X, .int .i64 Y, .int .i64 m] w fun e w' => e = .returned (.bool true) ∧ Ext w w' := by
  by_cases h1 : 3000 < n
  · exact stamps_small1 X Y m W H QW QH xa xb n c k d w hn h1
  have hn' : n ≤ 3000 := by omega
  by_cases h2 : 3000 < k
  · exact stamps_small2 X Y m W H QW QH xa xb n c k d w hn' hk h2
  have hk' : k ≤ 3000 := by omega
  cases hr : rightB W H n
  · exact stamps_shapep W H QW QH X Y m xa xb n c k d px qx w E hE hx hx0 hy hy0 hn' hk' hr
  · cases hs : rightB QW QH k
    · exact stamps_shapeq W H QW QH X Y m xa xb n c k d px qx w E hE hx hx0 hy hy0 hn' hk' hr hs
    · obtain ⟨A, B, rfl, rfl, a1, a2, b1, b2, rfl⟩ := rightB_yes hr
      obtain ⟨C, D, rfl, rfl, c1, c2, d1, d2, rfl⟩ := rightB_yes hs
      obtain ⟨ad, rfl⟩ := hx.isSome (Nat.mul_pos a1 b1)
      obtain ⟨bd, rfl⟩ := hy.isSome (Nat.mul_pos c1 d1)
      cases hB : goodB X Y m
      · exact stamps_bound A B C D X Y m ad bd c d px qx w E hE hx hy hn' hk' ⟨a1, a2, b1, b2⟩ ⟨c1, c2, d1, d2⟩ hB
      · exact stamps_ok A B C D X Y m ad bd c d px qx w E hE hx hy hn' hk' ⟨a1, a2, b1, b2⟩ ⟨c1, c2, d1, d2⟩ hB
end Go.Proofs.YtkfjcgcgfdibaaaDoor
namespace Go.Proofs.YtkfjcgcgfdibaaaDoor
open Go.ChangeShapes Go.WideShapes Go.ChangeAt Go.RowKit
open Go.WideMaps Go.WideElems
open Go.ChangeMaps (open_string shut_string)
open Go.Joins
theorem rasterStamps_laidOk : laidOutB Tryd.prog = true := by kernel_rfl
theorem rasterStamps_own : ownKnob Tryd.prog.godebug = none := by kernel_rfl
theorem rasterStamps_doorMet (os : Os) (args : Array Value) : laidMetH Tryd.prog Rows.rasterStampsRow.laid ((World.doorLaid Tryd.prog 1000 os).forCall (fun _ _ => 0) ⟨#[], args, []⟩).memory :=
  laidMetH_of_parts3 (fuel := 8) (laidMet_of_run' 8 (by kernel_rfl) (by kernel_rfl)) (by kernel_rfl) (by kernel_rfl)
set_option maxRecDepth 100000 in
set_option maxHeartbeats 1000000 in
theorem rasterStamps_lifted (os : Os) (started : os.Started) (H : Type) (enc : TypeId × Value → H) :
    ReturnsInHanded {} Tryd.checked os 8 .any (fun w args => (Rows.rasterStampsSpec.pre enc Tryd.prog Tryd.f8 [] false w args ∧ laidMetH Tryd.prog Rows.rasterStampsRow.laid w) ∧ sizedMet enc Tryd.prog Tryd.f8 (OpenSpec.ofChange Rows.rasterStampsSpec) false w args)
      (Rows.rasterStampsSpec.post enc Tryd.prog Tryd.f8 false true false false) := by
  refine returnsInHanded_of_change_and (C := Tryd.checked) (X := fun w _ => laidMetH Tryd.prog Rows.rasterStampsRow.laid w) (fun _ _ _ hh h => h.of_heap hh) rasterStamps_own started (by kernel_rfl) Tryd.func8
    (ChangeSpec.witness_shaped (enc := enc) (C := Tryd.checked) (os := os) (X := fun w _ => laidMetH Tryd.prog Rows.rasterStampsRow.laid w) false (World.doorLaid Tryd.prog 1000 os) #[.agg #[.int .i64 0, .int .i64 0, .slice none 0 0], .agg #[.int .i64 0, .int .i64 0, .slice none 0 0], .int .i64 0, .int .i64 0, .int .i64 0] 8 rfl (World.shaped_of_RefB (by kernel_rfl) (by kernel_rfl)) (by kernel_rfl) (by kernel_rfl) (by kernel_rfl) (rasterStamps_doorMet os _)) ?_
  intro W base args ds gs before hval0 hW _ _ hL _
  have hval : ∀ (j : Nat) t v, Tryd.f8.params[j]? = some t → args[j]? = some v → Value.okWide Tryd.prog W .any base t v := hval0
  have hW' := hW
  obtain ⟨p, q, hA0, hV, rfl, hfz, hnd⟩ := hW
  have hA : DataW.TrodAll enc Tryd.prog W 0 (fun _ => true) true Tryd.f8.params.toList args.toList ds p := hA0
  rw [Tryd.params8] at hA hval
  obtain ⟨v0, vs0, d0, ds0, p0, q0, hargs, rfl, rfl, h0, rest0⟩ := trodAll_cons hA
  obtain ⟨v1, vs1, d1, ds1, p1, q1, rfl, rfl, rfl, h1, rest1⟩ := trodAll_cons rest0
  obtain ⟨v2, vs2, d2, ds2, p2, q2, rfl, rfl, rfl, h2, rest2⟩ := trodAll_cons rest1
  obtain ⟨v3, vs3, d3, ds3, p3, q3, rfl, rfl, rfl, h3, rest3⟩ := trodAll_cons rest2
  obtain ⟨v4, vs4, d4, ds4, p4, q4, rfl, rfl, rfl, h4, rest4⟩ := trodAll_cons rest3
  obtain ⟨rfl, rfl, rfl⟩ := trodAll_nil rest4
  obtain ⟨args⟩ := args
  simp only at hargs
  subst hargs
  obtain ⟨rfl, rfl⟩ := trodVars_none hV
  have hv0 := hval 0 24 v0 rfl rfl
  have hv1 := hval 1 24 v1 rfl rfl
  obtain ⟨x2, rfl, rfl, rfl, w2⟩ := open_int Tryd.underlying3 (hval 2 3 v2 rfl rfl) h2
  have b2 := bounds_i64 w2
  obtain ⟨x3, rfl, rfl, rfl, w3⟩ := open_int Tryd.underlying3 (hval 3 3 v3 rfl rfl) h3
  have b3 := bounds_i64 w3
  obtain ⟨x4, rfl, rfl, rfl, w4⟩ := open_int Tryd.underlying3 (hval 4 3 v4 rfl rfl) h4
  have b4 := bounds_i64 w4
  clear hA0 hval0
  simp only [List.append_nil] at hW'
  obtain ⟨W0, H0, a0, n0, cap0, px0, rfl, bW0, bH0, hn0, hc0, hx0⟩ := open_pic hv0 h0
  obtain ⟨W1, H1, a1, n1, cap1, px1, rfl, bW1, bH1, hn1, hc1, hx1⟩ := open_pic hv1 h1
  obtain ⟨E, hE, _⟩ := errs_of_laid hL rfl rfl rfl rfl rfl rfl rfl rfl rfl rfl
  refine (stamps_any x2 x3 x4 W0 H0 W1 H1 a0 a1 n0 cap0 n1 cap1 px0 px1 W E hE hx0 hc0 hn0 hx1 hc1 hn1).mono fun e W' ⟨he, hB⟩ => ?_
  exact ⟨_, he, law_post rasterStamps_laidOk hW' rfl rfl (by kernel_rfl) rfl Tryd.underlying4 hB⟩
theorem rasterStamps_holds : Rows.RasterStampsSaid :=
  OpenClaim.holds_of_wide 8 Tryd.f8 rfl rfl rfl rfl rfl rfl rfl ⟨rfl, rfl, rfl, rfl, rfl⟩ rfl rfl rfl rfl rfl (by kernel_rfl) Tryd.func8 (by kernel_rfl)
    (of_decide_eq_true (by kernel_rfl)) (by unfold Func.isWrapper; rw [if_neg (of_decide_eq_false (by kernel_rfl))]; exact ⟨rfl, rfl⟩)
    (fun os started H enc _ => rasterStamps_lifted os started H enc)
theorem rasterStamps_card : Rows.RasterStampsCardSaid :=
  Claim7.holds_tied_plain_at .later [] _ true _ _
    rasterStamps_holds (fun _ h => by cases h) (by kernel_rfl) (fun _ h => by cases h) rasterStamps_row_tie rfl ⟨rfl, rfl⟩ (by kernel_rfl) rfl
    (fun f fn hf hfn => by
      obtain rfl : f = 8 := Option.some.inj ((show Tryd.prog.funcNamed "layercake/layercakelaw2.RasterStamps" = some 8 by kernel_rfl).symm.trans hf) |>.symm
      obtain rfl : fn = Tryd.f8 := (Option.some.inj (Tryd.func8.symm.trans hfn)).symm
      exact ⟨by kernel_rfl, fun j t ht => by
        rw [Tryd.params8] at ht
        have hm : t ∈ [24, 24, 3, 3, 3] := by simpa using Array.mem_of_getElem? ht
        have hall : ([24, 24, 3, 3, 3].all fun u => !Tryd.prog.wantsStandIn u) = true := by kernel_rfl
        exact (show Tryd.prog.wantsStandIn t = false by simpa using List.all_eq_true.1 hall t hm)⟩)
    (by kernel_rfl)
end Go.Proofs.YtkfjcgcgfdibaaaDoor
