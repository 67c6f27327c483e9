/-
  RasterNew: for every sizes, every pixel, every picture and every place the statement returns true. No condition beside the tied variables.
-/
import Derived.Test.YtkfjcgcgfdibaaaDoorRows
import Derived.Test.YtkfjcgcgfdibaaaDoorRNewWalk
import Derived.Test.YtkfjcgcgfdibaaaDoorErrsLaid
import Derived.Test.YtkfjcgcgfdibaaaDoorOpenPic
import Derived.Test.YtkfjcgcgfdibaaaDoorLaw
import Derived.Test.YtkfjcgcgfdibaaaDoorCards
import Derived.Test.YtkfjcgcgfdibaaaDoorTie
import Derived.SevenTiedAt
import Derived.LaidMore
import Derived.Stop.Joined
import Derived.Lib.SmallJoins
namespace Go.Proofs.YtkfjcgcgfdibaaaDoor
open Go.ChangeShapes Go.WideShapes Go.ChangeAt Go.RowKit
open Go.WideMaps Go.WideElems
open Go.ChangeMaps (open_string shut_string)
open Go.Joins
theorem rasterNew_laidOk : laidOutB Tryd.prog = true := by kernel_rfl
theorem rasterNew_own : ownKnob Tryd.prog.godebug = none := by kernel_rfl
theorem rasterNew_doorMet (os : Os) (args : Array Value) : laidMetH Tryd.prog Rows.rasterNewRow.laid ((World.doorLaid Tryd.prog 1000 os).forCall (fun _ _ => 0) ⟨#[], args, []⟩).memory :=
  laidMetH_of_parts3 (fuel := 8) (laidMet_of_run' 8 (by kernel_rfl) (by kernel_rfl)) (by kernel_rfl) (by kernel_rfl)
set_option maxRecDepth 100000 in
theorem rasterNew_lifted (os : Os) (started : os.Started) (H : Type) (enc : TypeId × Value → H) :
    ReturnsInHanded {} Tryd.checked os 4 .any (fun w args => (Rows.rasterNewSpec.pre enc Tryd.prog Tryd.f4 [] false w args ∧ laidMetH Tryd.prog Rows.rasterNewRow.laid w) ∧ sizedMet enc Tryd.prog Tryd.f4 (OpenSpec.ofChange Rows.rasterNewSpec) false w args)
      (Rows.rasterNewSpec.post enc Tryd.prog Tryd.f4 false true false false) := by
  refine returnsInHanded_of_change_and (C := Tryd.checked) (X := fun w _ => laidMetH Tryd.prog Rows.rasterNewRow.laid w) (fun _ _ _ hh h => h.of_heap hh) rasterNew_own started (by kernel_rfl) Tryd.func4
    (ChangeSpec.witness_shaped (enc := enc) (C := Tryd.checked) (os := os) (X := fun w _ => laidMetH Tryd.prog Rows.rasterNewRow.laid w) false (World.doorLaid Tryd.prog 1000 os) #[.int .i64 0, .int .i64 0, .agg #[.int .u8 0, .int .u8 0, .int .u8 0, .int .u8 0], .agg #[.int .i64 0, .int .i64 0, .slice none 0 0], .int .i64 0, .int .i64 0] 8 rfl (World.shaped_of_RefB (by kernel_rfl) (by kernel_rfl)) (by kernel_rfl) (by kernel_rfl) (by kernel_rfl) (rasterNew_doorMet os _)) ?_
  intro W base args ds gs before hval0 hW _ _ hL _
  have hval : ∀ (j : Nat) t v, Tryd.f4.params[j]? = some t → args[j]? = some v → Value.okWide Tryd.prog W .any base t v := hval0
  have hW' := hW
  obtain ⟨p, q, hA0, hV, rfl, hfz, hnd⟩ := hW
  have hA : DataW.TrodAll enc Tryd.prog W 0 (fun _ => true) true Tryd.f4.params.toList args.toList ds p := hA0
  rw [Tryd.params4] at hA hval
  obtain ⟨v0, vs0, d0, ds0, p0, q0, hargs, rfl, rfl, h0, rest0⟩ := trodAll_cons hA
  obtain ⟨v1, vs1, d1, ds1, p1, q1, rfl, rfl, rfl, h1, rest1⟩ := trodAll_cons rest0
  obtain ⟨v2, vs2, d2, ds2, p2, q2, rfl, rfl, rfl, h2, rest2⟩ := trodAll_cons rest1
  obtain ⟨v3, vs3, d3, ds3, p3, q3, rfl, rfl, rfl, h3, rest3⟩ := trodAll_cons rest2
  obtain ⟨v4, vs4, d4, ds4, p4, q4, rfl, rfl, rfl, h4, rest4⟩ := trodAll_cons rest3
  obtain ⟨v5, vs5, d5, ds5, p5, q5, rfl, rfl, rfl, h5, rest5⟩ := trodAll_cons rest4
  obtain ⟨rfl, rfl, rfl⟩ := trodAll_nil rest5
  obtain ⟨args⟩ := args
  simp only at hargs
  subst hargs
  obtain ⟨rfl, rfl⟩ := trodVars_none hV
  obtain ⟨x0, rfl, rfl, rfl, w0⟩ := open_int Tryd.underlying3 (hval 0 3 v0 rfl rfl) h0
  have b0 := bounds_i64 w0
  obtain ⟨x1, rfl, rfl, rfl, w1⟩ := open_int Tryd.underlying3 (hval 1 3 v1 rfl rfl) h1
  have b1 := bounds_i64 w1
  obtain ⟨cr2, cg2, cb2, ca2, yr2, yg2, yb2, ya2, m2, rfl, rfl, rfl, hr2, hg2, hb2, ha2⟩ := open_agg4 Tryd.underlying36 (by kernel_rfl) (show Tryd.prog.cellsOf 36 = 4 by kernel_rfl) (hval 2 36 v2 rfl rfl) h2
  obtain ⟨r2, er2, kr2, wr2⟩ := DataW.trod_int Tryd.underlying5 hr2
  simp at er2; subst er2
  have br2 := bounds_u8 wr2
  obtain ⟨g2, eg2, kg2, wg2⟩ := DataW.trod_int Tryd.underlying5 hg2
  simp at eg2; subst eg2
  have bg2 := bounds_u8 wg2
  obtain ⟨b2, eb2, kb2, wb2⟩ := DataW.trod_int Tryd.underlying5 hb2
  simp at eb2; subst eb2
  have bb2 := bounds_u8 wb2
  obtain ⟨a2, ea2, ka2, wa2⟩ := DataW.trod_int Tryd.underlying5 ha2
  simp at ea2; subst ea2
  have ba2 := bounds_u8 wa2
  have hv3 := hval 3 24 v3 rfl rfl
  obtain ⟨x4, rfl, rfl, rfl, w4⟩ := open_int Tryd.underlying3 (hval 4 3 v4 rfl rfl) h4
  have b4 := bounds_i64 w4
  obtain ⟨x5, rfl, rfl, rfl, w5⟩ := open_int Tryd.underlying3 (hval 5 3 v5 rfl rfl) h5
  have b5 := bounds_i64 w5
  clear hA0 hval0
  simp only [List.append_nil] at hW'
  obtain ⟨W3, H3, a3, n3, cap3, px3, rfl, _, _, hn3, hc3, hx3⟩ := open_pic hv3 h3
  obtain ⟨E, hE, _⟩ := errs_of_laid hL rfl rfl rfl rfl rfl rfl rfl rfl rfl rfl
  refine (rnew_any x0 x1 r2 g2 b2 a2 W3 H3 a3 n3 cap3 x4 x5 px3 W E hE ⟨br2, bg2, bb2, ba2⟩ hx3 hc3 hn3).mono fun e W' ⟨he, hB⟩ => ?_
  exact ⟨_, he, law_post rasterNew_laidOk hW' rfl rfl (by kernel_rfl) rfl Tryd.underlying4 hB⟩
theorem rasterNew_holds : Rows.RasterNewSaid :=
  OpenClaim.holds_of_wide 4 Tryd.f4 rfl rfl rfl rfl rfl rfl rfl ⟨rfl, rfl, rfl, rfl, rfl⟩ rfl rfl rfl rfl rfl (by kernel_rfl) Tryd.func4 (by kernel_rfl)
    (of_decide_eq_true (by kernel_rfl)) (by unfold Func.isWrapper; rw [if_neg (of_decide_eq_false (by kernel_rfl))]; exact ⟨rfl, rfl⟩)
    (fun os started H enc _ => rasterNew_lifted os started H enc)
theorem rasterNew_card : Rows.RasterNewCardSaid :=
  Claim7.holds_tied_plain_at .later [] _ true _ _
    rasterNew_holds (fun _ h => by cases h) (by kernel_rfl) (fun _ h => by cases h) rasterNew_row_tie rfl ⟨rfl, rfl⟩ (by kernel_rfl) rfl
    (fun f fn hf hfn => by
      obtain rfl : f = 4 := Option.some.inj ((show Tryd.prog.funcNamed "layercake/layercakelaw2.RasterNew" = some 4 by kernel_rfl).symm.trans hf) |>.symm
      obtain rfl : fn = Tryd.f4 := (Option.some.inj (Tryd.func4.symm.trans hfn)).symm
      exact ⟨by kernel_rfl, fun j t ht => by
        rw [Tryd.params4] at ht
        have hm : t ∈ [3, 3, 36, 24, 3, 3] := by simpa using Array.mem_of_getElem? ht
        have hall : ([3, 3, 36, 24, 3, 3].all fun u => !Tryd.prog.wantsStandIn u) = true := by kernel_rfl
        exact (show Tryd.prog.wantsStandIn t = false by simpa using List.all_eq_true.1 hall t hm)⟩)
    (by kernel_rfl)
end Go.Proofs.YtkfjcgcgfdibaaaDoor
