/-
  RasterParts: for every picture, every rectangle and every pixel the statement returns true. No condition beside the tied variables.
-/
import Derived.Test.YtkfjcgcgfdibaaaDoorRows
import Derived.Test.YtkfjcgcgfdibaaaDoorPartsWalk
import Derived.Test.YtkfjcgcgfdibaaaDoorErrsLaid
import Derived.Test.YtkfjcgcgfdibaaaDoorOpenPic
import Derived.Test.YtkfjcgcgfdibaaaDoorLaw
import Derived.Test.YtkfjcgcgfdibaaaDoorCards
import Derived.Test.YtkfjcgcgfdibaaaDoorTie
import Derived.SevenTiedAt
import Derived.LaidMore
import Derived.Stop.Joined
import Derived.Lib.SmallJoins
namespace Go.Proofs.YtkfjcgcgfdibaaaDoor
open Go.ChangeShapes Go.WideShapes Go.ChangeAt Go.RowKit
open Go.WideMaps Go.WideElems
open Go.ChangeMaps (open_string shut_string)
open Go.Joins
theorem rasterParts_laidOk : laidOutB Tryd.prog = true := by kernel_rfl
theorem rasterParts_own : ownKnob Tryd.prog.godebug = none := by kernel_rfl
theorem rasterParts_doorMet (os : Os) (args : Array Value) : laidMetH Tryd.prog Rows.rasterPartsRow.laid ((World.doorLaid Tryd.prog 1000 os).forCall (fun _ _ => 0) ⟨#[], args, []⟩).memory :=
  laidMetH_of_parts3 (fuel := 8) (laidMet_of_run' 8 (by kernel_rfl) (by kernel_rfl)) (by kernel_rfl) (by kernel_rfl)
set_option maxRecDepth 100000 in
set_option maxHeartbeats 1000000 in
theorem rasterParts_lifted (os : Os) (started : os.Started) (H : Type) (enc : TypeId × Value → H) :
    ReturnsInHanded {} Tryd.checked os 5 .any (fun w args => (Rows.rasterPartsSpec.pre enc Tryd.prog Tryd.f5 [] false w args ∧ laidMetH Tryd.prog Rows.rasterPartsRow.laid w) ∧ sizedMet enc Tryd.prog Tryd.f5 (OpenSpec.ofChange Rows.rasterPartsSpec) false w args)
      (Rows.rasterPartsSpec.post enc Tryd.prog Tryd.f5 false true false false) := by
  refine returnsInHanded_of_change_and (C := Tryd.checked) (X := fun w _ => laidMetH Tryd.prog Rows.rasterPartsRow.laid w) (fun _ _ _ hh h => h.of_heap hh) rasterParts_own started (by kernel_rfl) Tryd.func5
    (ChangeSpec.witness_shaped (enc := enc) (C := Tryd.checked) (os := os) (X := fun w _ => laidMetH Tryd.prog Rows.rasterPartsRow.laid w) false (World.doorLaid Tryd.prog 1000 os) #[.agg #[.int .i64 0, .int .i64 0, .slice none 0 0], .agg #[.int .i64 0, .int .i64 0, .int .i64 0, .int .i64 0], .agg #[.int .u8 0, .int .u8 0, .int .u8 0, .int .u8 0]] 8 rfl (World.shaped_of_RefB (by kernel_rfl) (by kernel_rfl)) (by kernel_rfl) (by kernel_rfl) (by kernel_rfl) (rasterParts_doorMet os _)) ?_
  intro W base args ds gs before hval0 hW _ _ hL _
  have hval : ∀ (j : Nat) t v, Tryd.f5.params[j]? = some t → args[j]? = some v → Value.okWide Tryd.prog W .any base t v := hval0
  have hW' := hW
  obtain ⟨p, q, hA0, hV, rfl, hfz, hnd⟩ := hW
  have hA : DataW.TrodAll enc Tryd.prog W 0 (fun _ => true) true Tryd.f5.params.toList args.toList ds p := hA0
  rw [Tryd.params5] at hA hval
  obtain ⟨v0, v1, v2, d0, d1, d2, p0, p1, p2, rfl, rfl, rfl, h0, h1, h2⟩ := trodAll_three hA
  obtain ⟨rfl, rfl⟩ := trodVars_none hV
  have hv0 := hval 0 24 v0 rfl rfl
  obtain ⟨cx1, cy1, ct1, cz1, yx1, yy1, yt1, yz1, m1, rfl, rfl, rfl, hx1, hy1, ht1, hz1⟩ := open_agg4 Tryd.underlying47 (by kernel_rfl) (show Tryd.prog.cellsOf 47 = 4 by kernel_rfl) (hval 1 47 v1 rfl rfl) h1
  obtain ⟨x1, ex1, kx1, wx1⟩ := DataW.trod_int Tryd.underlying3 hx1
  simp at ex1; subst ex1
  have bx1 := bounds_i64 wx1
  obtain ⟨y1, ey1, ky1, wy1⟩ := DataW.trod_int Tryd.underlying3 hy1
  simp at ey1; subst ey1
  have by1 := bounds_i64 wy1
  obtain ⟨t1, et1, kt1, wt1⟩ := DataW.trod_int Tryd.underlying3 ht1
  simp at et1; subst et1
  have bt1 := bounds_i64 wt1
  obtain ⟨z1, ez1, kz1, wz1⟩ := DataW.trod_int Tryd.underlying3 hz1
  simp at ez1; subst ez1
  have bz1 := bounds_i64 wz1
  obtain ⟨cr2, cg2, cb2, ca2, yr2, yg2, yb2, ya2, m2, rfl, rfl, rfl, hr2, hg2, hb2, ha2⟩ := open_agg4 Tryd.underlying36 (by kernel_rfl) (show Tryd.prog.cellsOf 36 = 4 by kernel_rfl) (hval 2 36 v2 rfl rfl) h2
  obtain ⟨r2, er2, kr2, wr2⟩ := DataW.trod_int Tryd.underlying5 hr2
  simp at er2; subst er2
  have br2 := bounds_u8 wr2
  obtain ⟨g2, eg2, kg2, wg2⟩ := DataW.trod_int Tryd.underlying5 hg2
  simp at eg2; subst eg2
  have bg2 := bounds_u8 wg2
  obtain ⟨b2, eb2, kb2, wb2⟩ := DataW.trod_int Tryd.underlying5 hb2
  simp at eb2; subst eb2
  have bb2 := bounds_u8 wb2
  obtain ⟨a2, ea2, ka2, wa2⟩ := DataW.trod_int Tryd.underlying5 ha2
  simp at ea2; subst ea2
  have ba2 := bounds_u8 wa2
  clear hA0 hval0
  simp only [List.append_nil] at hW'
  obtain ⟨W0, H0, a0, n0, cap0, px0, rfl, bW0, bH0, hn0, hc0, hx0⟩ := open_pic hv0 h0
  obtain ⟨E, hE, _⟩ := errs_of_laid hL rfl rfl rfl rfl rfl rfl rfl rfl rfl rfl
  refine (parts_any x1 y1 t1 z1 r2 g2 b2 a2 W0 H0 a0 n0 cap0 px0 W E hE ⟨br2, bg2, bb2, ba2⟩ hx0 hc0 hn0 ⟨bW0.2, bH0.2⟩).mono fun e W' ⟨he, hB⟩ => ?_
  exact ⟨_, he, law_post rasterParts_laidOk hW' rfl rfl (by kernel_rfl) rfl Tryd.underlying4 hB⟩
theorem rasterParts_holds : Rows.RasterPartsSaid :=
  OpenClaim.holds_of_wide 5 Tryd.f5 rfl rfl rfl rfl rfl rfl rfl ⟨rfl, rfl, rfl, rfl, rfl⟩ rfl rfl rfl rfl rfl (by kernel_rfl) Tryd.func5 (by kernel_rfl)
    (of_decide_eq_true (by kernel_rfl)) (by unfold Func.isWrapper; rw [if_neg (of_decide_eq_false (by kernel_rfl))]; exact ⟨rfl, rfl⟩)
    (fun os started H enc _ => rasterParts_lifted os started H enc)
theorem rasterParts_card : Rows.RasterPartsCardSaid :=
  Claim7.holds_tied_plain_at .later [] _ true _ _
    rasterParts_holds (fun _ h => by cases h) (by kernel_rfl) (fun _ h => by cases h) rasterParts_row_tie rfl ⟨rfl, rfl⟩ (by kernel_rfl) rfl
    (fun f fn hf hfn => by
      obtain rfl : f = 5 := Option.some.inj ((show Tryd.prog.funcNamed "layercake/layercakelaw2.RasterParts" = some 5 by kernel_rfl).symm.trans hf) |>.symm
      obtain rfl : fn = Tryd.f5 := (Option.some.inj (Tryd.func5.symm.trans hfn)).symm
      exact ⟨by kernel_rfl, fun j t ht => by
        rw [Tryd.params5] at ht
        have hm : t ∈ [24, 47, 36] := by simpa using Array.mem_of_getElem? ht
        have hall : ([24, 47, 36].all fun u => !Tryd.prog.wantsStandIn u) = true := by kernel_rfl
        exact (show Tryd.prog.wantsStandIn t = false by simpa using List.all_eq_true.1 hall t hm)⟩)
    (by kernel_rfl)
end Go.Proofs.YtkfjcgcgfdibaaaDoor
