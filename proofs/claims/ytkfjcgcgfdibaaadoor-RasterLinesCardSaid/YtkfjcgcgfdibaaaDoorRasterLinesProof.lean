/-
  RasterLines: for every picture, every two places and every pixel the statement returns true. No condition beside the tied variables.
-/
import Derived.Test.YtkfjcgcgfdibaaaDoorRows
import Derived.Test.YtkfjcgcgfdibaaaDoorLinesWalk
import Derived.Test.YtkfjcgcgfdibaaaDoorErrsLaid
import Derived.Test.YtkfjcgcgfdibaaaDoorOpenPic
import Derived.Test.YtkfjcgcgfdibaaaDoorLaw
import Derived.Test.YtkfjcgcgfdibaaaDoorCards
import Derived.Test.YtkfjcgcgfdibaaaDoorTie
import Derived.SevenTiedAt
import Derived.LaidMore
import Derived.Stop.Joined
import Derived.Lib.SmallJoins
namespace Go.Proofs.YtkfjcgcgfdibaaaDoor
open Go.ChangeShapes Go.WideShapes Go.ChangeAt Go.RowKit
open Go.WideMaps Go.WideElems
open Go.ChangeMaps (open_string shut_string)
open Go.Joins
theorem rasterLines_laidOk : laidOutB Tryd.prog = true := by kernel_rfl
theorem rasterLines_own : ownKnob Tryd.prog.godebug = none := by kernel_rfl
theorem rasterLines_doorMet (os : Os) (args : Array Value) : laidMetH Tryd.prog Rows.rasterLinesRow.laid ((World.doorLaid Tryd.prog 1000 os).forCall (fun _ _ => 0) ⟨#[], args, []⟩).memory :=
  laidMetH_of_parts3 (fuel := 8) (laidMet_of_run' 8 (by kernel_rfl) (by kernel_rfl)) (by kernel_rfl) (by kernel_rfl)
set_option maxRecDepth 100000 in
set_option maxHeartbeats 1000000 in
theorem rasterLines_lifted (os : Os) (started : os.Started) (H : Type) (enc : TypeId × Value → H) :
    ReturnsInHanded {} Tryd.checked os 7 .any (fun w args => (Rows.rasterLinesSpec.pre enc Tryd.prog Tryd.f7 [] false w args ∧ laidMetH Tryd.prog Rows.rasterLinesRow.laid w) ∧ sizedMet enc Tryd.prog Tryd.f7 (OpenSpec.ofChange Rows.rasterLinesSpec) false w args)
      (Rows.rasterLinesSpec.post enc Tryd.prog Tryd.f7 false true false false) := by
  refine returnsInHanded_of_change_and (C := Tryd.checked) (X := fun w _ => laidMetH Tryd.prog Rows.rasterLinesRow.laid w) (fun _ _ _ hh h => h.of_heap hh) rasterLines_own started (by kernel_rfl) Tryd.func7
    (ChangeSpec.witness_shaped (enc := enc) (C := Tryd.checked) (os := os) (X := fun w _ => laidMetH Tryd.prog Rows.rasterLinesRow.laid w) false (World.doorLaid Tryd.prog 1000 os) #[.agg #[.int .i64 0, .int .i64 0, .slice none 0 0], .int .i64 0, .int .i64 0, .int .i64 0, .int .i64 0, .agg #[.int .u8 0, .int .u8 0, .int .u8 0, .int .u8 0]] 8 rfl (World.shaped_of_RefB (by kernel_rfl) (by kernel_rfl)) (by kernel_rfl) (by kernel_rfl) (by kernel_rfl) (rasterLines_doorMet os _)) ?_
  intro W base args ds gs before hval0 hW _ _ hL _
  have hval : ∀ (j : Nat) t v, Tryd.f7.params[j]? = some t → args[j]? = some v → Value.okWide Tryd.prog W .any base t v := hval0
  have hW' := hW
  obtain ⟨p, q, hA0, hV, rfl, hfz, hnd⟩ := hW
  have hA : DataW.TrodAll enc Tryd.prog W 0 (fun _ => true) true Tryd.f7.params.toList args.toList ds p := hA0
  rw [Tryd.params7] at hA hval
  obtain ⟨v0, vs0, d0, ds0, p0, q0, hargs, rfl, rfl, h0, rest0⟩ := trodAll_cons hA
  obtain ⟨v1, vs1, d1, ds1, p1, q1, rfl, rfl, rfl, h1, rest1⟩ := trodAll_cons rest0
  obtain ⟨v2, vs2, d2, ds2, p2, q2, rfl, rfl, rfl, h2, rest2⟩ := trodAll_cons rest1
  obtain ⟨v3, vs3, d3, ds3, p3, q3, rfl, rfl, rfl, h3, rest3⟩ := trodAll_cons rest2
  obtain ⟨v4, vs4, d4, ds4, p4, q4, rfl, rfl, rfl, h4, rest4⟩ := trodAll_cons rest3
  obtain ⟨v5, vs5, d5, ds5, p5, q5, rfl, rfl, rfl, h5, rest5⟩ := trodAll_cons rest4
  obtain ⟨rfl, rfl, rfl⟩ := trodAll_nil rest5
  obtain ⟨args⟩ := args
  simp only at hargs
  subst hargs
  obtain ⟨rfl, rfl⟩ := trodVars_none hV
  have hv0 := hval 0 24 v0 rfl rfl
  obtain ⟨x1, rfl, rfl, rfl, w1⟩ := open_int Tryd.underlying3 (hval 1 3 v1 rfl rfl) h1
  have b1 := bounds_i64 w1
  obtain ⟨x2, rfl, rfl, rfl, w2⟩ := open_int Tryd.underlying3 (hval 2 3 v2 rfl rfl) h2
  have b2 := bounds_i64 w2
  obtain ⟨x3, rfl, rfl, rfl, w3⟩ := open_int Tryd.underlying3 (hval 3 3 v3 rfl rfl) h3
  have b3 := bounds_i64 w3
  obtain ⟨x4, rfl, rfl, rfl, w4⟩ := open_int Tryd.underlying3 (hval 4 3 v4 rfl rfl) h4
  have b4 := bounds_i64 w4
  obtain ⟨cr5, cg5, cb5, ca5, yr5, yg5, yb5, ya5, m5, rfl, rfl, rfl, hr5, hg5, hb5, ha5⟩ := open_agg4 Tryd.underlying36 (by kernel_rfl) (show Tryd.prog.cellsOf 36 = 4 by kernel_rfl) (hval 5 36 v5 rfl rfl) h5
  obtain ⟨r5, er5, kr5, wr5⟩ := DataW.trod_int Tryd.underlying5 hr5
  simp at er5; subst er5
  have br5 := bounds_u8 wr5
  obtain ⟨g5, eg5, kg5, wg5⟩ := DataW.trod_int Tryd.underlying5 hg5
  simp at eg5; subst eg5
  have bg5 := bounds_u8 wg5
  obtain ⟨b5, eb5, kb5, wb5⟩ := DataW.trod_int Tryd.underlying5 hb5
  simp at eb5; subst eb5
  have bb5 := bounds_u8 wb5
  obtain ⟨a5, ea5, ka5, wa5⟩ := DataW.trod_int Tryd.underlying5 ha5
  simp at ea5; subst ea5
  have ba5 := bounds_u8 wa5
  clear hA0 hval0
  simp only [List.append_nil] at hW'
  obtain ⟨W0, H0, a0, n0, cap0, px0, rfl, bW0, bH0, hn0, hc0, hx0⟩ := open_pic hv0 h0
  obtain ⟨E, hE, _⟩ := errs_of_laid hL rfl rfl rfl rfl rfl rfl rfl rfl rfl rfl
  refine (lines_any x1 x2 x3 x4 r5 g5 b5 a5 W0 H0 a0 n0 cap0 px0 W E hE ⟨br5, bg5, bb5, ba5⟩ hx0 hc0 hn0).mono fun e W' ⟨he, hB⟩ => ?_
  exact ⟨_, he, law_post rasterLines_laidOk hW' rfl rfl (by kernel_rfl) rfl Tryd.underlying4 hB⟩
theorem rasterLines_holds : Rows.RasterLinesSaid :=
  OpenClaim.holds_of_wide 7 Tryd.f7 rfl rfl rfl rfl rfl rfl rfl ⟨rfl, rfl, rfl, rfl, rfl⟩ rfl rfl rfl rfl rfl (by kernel_rfl) Tryd.func7 (by kernel_rfl)
    (of_decide_eq_true (by kernel_rfl)) (by unfold Func.isWrapper; rw [if_neg (of_decide_eq_false (by kernel_rfl))]; exact ⟨rfl, rfl⟩)
    (fun os started H enc _ => rasterLines_lifted os started H enc)
theorem rasterLines_card : Rows.RasterLinesCardSaid :=
  Claim7.holds_tied_plain_at .later [] _ true _ _
    rasterLines_holds (fun _ h => by cases h) (by kernel_rfl) (fun _ h => by cases h) rasterLines_row_tie rfl ⟨rfl, rfl⟩ (by kernel_rfl) rfl
    (fun f fn hf hfn => by
      obtain rfl : f = 7 := Option.some.inj ((show Tryd.prog.funcNamed "layercake/layercakelaw2.RasterLines" = some 7 by kernel_rfl).symm.trans hf) |>.symm
      obtain rfl : fn = Tryd.f7 := (Option.some.inj (Tryd.func7.symm.trans hfn)).symm
      exact ⟨by kernel_rfl, fun j t ht => by
        rw [Tryd.params7] at ht
        have hm : t ∈ [24, 3, 3, 3, 3, 36] := by simpa using Array.mem_of_getElem? ht
        have hall : ([24, 3, 3, 3, 3, 36].all fun u => !Tryd.prog.wantsStandIn u) = true := by kernel_rfl
        exact (show Tryd.prog.wantsStandIn t = false by simpa using List.all_eq_true.1 hall t hm)⟩)
    (by kernel_rfl)
end Go.Proofs.YtkfjcgcgfdibaaaDoor
