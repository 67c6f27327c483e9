/-
  for every picture, every place and every pixel the statement returns true. No condition beside the tied variables.
-/
import Derived.Test.YtkfjcgcgfdibaaaDoorRows
import Derived.Test.YtkfjcgcgfdibaaaDoorRasterFloodsG16
import Derived.Test.YtkfjcgcgfdibaaaDoorRasterFloodsG17
import Derived.Test.YtkfjcgcgfdibaaaDoorCards
import Derived.Test.YtkfjcgcgfdibaaaDoorTie
import Derived.SevenTiedAt
import Derived.LaidMore
import Derived.Stop.Joined
import Derived.Lib.SmallJoins
namespace Go.Proofs.YtkfjcgcgfdibaaaDoor
open Go.ChangeShapes Go.WideShapes Go.ChangeAt Go.RowKit
open Go.WideMaps Go.WideElems
open Go.ChangeMaps (open_string shut_string)
open Go.Joins
theorem rasterFloods_laidOk : laidOutB Tryd.prog = true := by kernel_rfl
theorem rasterFloods_own : ownKnob Tryd.prog.godebug = none := by kernel_rfl
theorem rasterFloods_doorMet (os : Os) (args : Array Value) : laidMetH Tryd.prog Rows.rasterFloodsRow.laid ((World.doorLaid Tryd.prog 1000 os).forCall (fun _ _ => 0) ⟨#[], args, []⟩).memory :=
  laidMetH_of_parts3 (fuel := 8) (laidMet_of_run' 8 (by kernel_rfl) (by kernel_rfl)) (by kernel_rfl) (by kernel_rfl)
set_option maxRecDepth 100000 in
theorem rasterFloods_lifted (os : Os) (started : os.Started) (H : Type) (enc : TypeId × Value → H) :
    ReturnsInHanded {} Tryd.checked os 6 .any (fun w args => (Rows.rasterFloodsSpec.pre enc Tryd.prog Tryd.f6 [] false w args ∧ laidMetH Tryd.prog Rows.rasterFloodsRow.laid w) ∧ sizedMet enc Tryd.prog Tryd.f6 (OpenSpec.ofChange Rows.rasterFloodsSpec) false w args)
      (Rows.rasterFloodsSpec.post enc Tryd.prog Tryd.f6 false true false false) := by
  refine returnsInHanded_of_change_and (C := Tryd.checked) (X := fun w _ => laidMetH Tryd.prog Rows.rasterFloodsRow.laid w) (fun _ _ _ hh h => h.of_heap hh) rasterFloods_own started (by kernel_rfl) Tryd.func6
    (ChangeSpec.witness_shaped (enc := enc) (C := Tryd.checked) (os := os) (X := fun w _ => laidMetH Tryd.prog Rows.rasterFloodsRow.laid w) false (World.doorLaid Tryd.prog 1000 os) #[.agg #[.int .i64 0, .int .i64 0, .slice none 0 0], .int .i64 0, .int .i64 0, .agg #[.int .u8 0, .int .u8 0, .int .u8 0, .int .u8 0]] 8 rfl (World.shaped_of_RefB (by kernel_rfl) (by kernel_rfl)) (by kernel_rfl) (by kernel_rfl) (by kernel_rfl) (rasterFloods_doorMet os _)) ?_
  intro W base args ds gs before hval0 hW _ _ hL _
  have hval : ∀ (j : Nat) t v, Tryd.f6.params[j]? = some t → args[j]? = some v → Value.okWide Tryd.prog W .any base t v := hval0
  have hW' := hW
  obtain ⟨p, q, hA0, hV, rfl, hfz, hnd⟩ := hW
  have hA : DataW.TrodAll enc Tryd.prog W 0 (fun _ => true) true Tryd.f6.params.toList args.toList ds p := hA0
  rw [Tryd.params6] at hA hval
  obtain ⟨v0, vs0, d0, ds0, p0, q0, hargs, rfl, rfl, h0, rest0⟩ := trodAll_cons hA
  obtain ⟨v1, vs1, d1, ds1, p1, q1, rfl, rfl, rfl, h1, rest1⟩ := trodAll_cons rest0
  obtain ⟨v2, vs2, d2, ds2, p2, q2, rfl, rfl, rfl, h2, rest2⟩ := trodAll_cons rest1
  obtain ⟨v3, vs3, d3, ds3, p3, q3, rfl, rfl, rfl, h3, rest3⟩ := trodAll_cons rest2
  obtain ⟨rfl, rfl, rfl⟩ := trodAll_nil rest3
  obtain ⟨args⟩ := args
  simp only at hargs
  subst hargs
  obtain ⟨rfl, rfl⟩ := trodVars_none hV
  have hv0 := hval 0 24 v0 rfl rfl
  obtain ⟨x1, rfl, rfl, rfl, w1⟩ := open_int Tryd.underlying3 (hval 1 3 v1 rfl rfl) h1
  have b1 := bounds_i64 w1
  obtain ⟨x2, rfl, rfl, rfl, w2⟩ := open_int Tryd.underlying3 (hval 2 3 v2 rfl rfl) h2
  have b2 := bounds_i64 w2
  obtain ⟨cr3, cg3, cb3, ca3, yr3, yg3, yb3, ya3, m3, rfl, rfl, rfl, hr3, hg3, hb3, ha3⟩ := open_agg4 Tryd.underlying36 (by kernel_rfl) (show Tryd.prog.cellsOf 36 = 4 by kernel_rfl) (hval 3 36 v3 rfl rfl) h3
  obtain ⟨r3, er3, kr3, wr3⟩ := DataW.trod_int Tryd.underlying5 hr3
  simp at er3; subst er3
  have br3 := bounds_u8 wr3
  obtain ⟨g3, eg3, kg3, wg3⟩ := DataW.trod_int Tryd.underlying5 hg3
  simp at eg3; subst eg3
  have bg3 := bounds_u8 wg3
  obtain ⟨b3, eb3, kb3, wb3⟩ := DataW.trod_int Tryd.underlying5 hb3
  simp at eb3; subst eb3
  have bb3 := bounds_u8 wb3
  obtain ⟨a3, ea3, ka3, wa3⟩ := DataW.trod_int Tryd.underlying5 ha3
  simp at ea3; subst ea3
  have ba3 := bounds_u8 wa3
  clear hA0 hval0
  simp only [List.append_nil] at hW'
  obtain ⟨W0, H0, a0, n0, cap0, px0, rfl, bW0, bH0, hn0, hc0, hx0⟩ := open_pic hv0 h0
  obtain ⟨E, hE, _⟩ := errs_of_laid hL rfl rfl rfl rfl rfl rfl rfl rfl rfl rfl
  refine (floods_any x1 x2 r3 g3 b3 a3 W0 H0 a0 n0 cap0 px0 W E hE ⟨br3, bg3, bb3, ba3⟩ hx0 hc0 hn0).mono fun e W' ⟨he, hB⟩ => ?_
  exact ⟨_, he, law_post rasterFloods_laidOk hW' rfl rfl (by kernel_rfl) rfl Tryd.underlying4 hB⟩
theorem rasterFloods_holds : Rows.RasterFloodsSaid :=
  OpenClaim.holds_of_wide 6 Tryd.f6 rfl rfl rfl rfl rfl rfl rfl ⟨rfl, rfl, rfl, rfl, rfl⟩ rfl rfl rfl rfl rfl (by kernel_rfl) Tryd.func6 (by kernel_rfl)
    (of_decide_eq_true (by kernel_rfl)) (by unfold Func.isWrapper; rw [if_neg (of_decide_eq_false (by kernel_rfl))]; exact ⟨rfl, rfl⟩)
    (fun os started H enc _ => rasterFloods_lifted os started H enc)
theorem rasterFloods_card : Rows.RasterFloodsCardSaid :=
  Claim7.holds_tied_plain_at .later [] _ true _ _
    rasterFloods_holds (fun _ h => by cases h) (by kernel_rfl) (fun _ h => by cases h) rasterFloods_row_tie rfl ⟨rfl, rfl⟩ (by kernel_rfl) rfl
    (fun f fn hf hfn => by
      obtain rfl : f = 6 := Option.some.inj ((show Tryd.prog.funcNamed "layercake/layercakelaw2.RasterFloods" = some 6 by kernel_rfl).symm.trans hf) |>.symm
      obtain rfl : fn = Tryd.f6 := (Option.some.inj (Tryd.func6.symm.trans hfn)).symm
      exact ⟨by kernel_rfl, fun j t ht => by
        rw [Tryd.params6] at ht
        have hm : t ∈ [24, 3, 3, 36] := by simpa using Array.mem_of_getElem? ht
        have hall : ([24, 3, 3, 36].all fun u => !Tryd.prog.wantsStandIn u) = true := by kernel_rfl
        exact (show Tryd.prog.wantsStandIn t = false by simpa using List.all_eq_true.1 hall t hm)⟩)
    (by kernel_rfl)
end Go.Proofs.YtkfjcgcgfdibaaaDoor
