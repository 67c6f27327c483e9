/-
  PixelOver: for every mode and two pixels the statement returns true. No condition beside the tied variables.
-/
import Derived.Test.YteacjlalekbhpaaDoorRows
import Derived.Test.YteacjlalekbhpaaDoorPixOverLaw
import Derived.Test.YteacjlalekbhpaaDoorErrsLaid
import Derived.Test.YteacjlalekbhpaaDoorLaw
import Derived.Test.YteacjlalekbhpaaDoorCards
import Derived.Test.YteacjlalekbhpaaDoorTie
import Derived.SevenTiedAt
import Derived.LaidMore
import Derived.Stop.Joined
import Derived.Lib.SmallJoins
namespace Go.Proofs.YteacjlalekbhpaaDoor
open Go.ChangeShapes Go.WideShapes Go.ChangeAt Go.RowKit
open Go.WideMaps Go.WideElems
open Go.ChangeMaps (open_string shut_string)
open Go.Joins
theorem pixelOver_laidOk : laidOutB Tryd.prog = true := by kernel_rfl
theorem pixelOver_own : ownKnob Tryd.prog.godebug = none := by kernel_rfl
theorem pixelOver_doorMet (os : Os) (args : Array Value) : laidMetH Tryd.prog Rows.pixelOverRow.laid ((World.doorLaid Tryd.prog 1000 os).forCall (fun _ _ => 0) ⟨#[], args, []⟩).memory :=
  laidMetH_of_parts3 (fuel := 8) (laidMet_of_run' 8 (by kernel_rfl) (by kernel_rfl)) (by kernel_rfl) (by kernel_rfl)
set_option maxRecDepth 100000 in
theorem pixelOver_lifted (os : Os) (started : os.Started) (H : Type) (enc : TypeId × Value → H) :
    ReturnsInHanded {} Tryd.checked os 7 .any (fun w args => (Rows.pixelOverSpec.pre enc Tryd.prog Tryd.f7 [] false w args ∧ laidMetH Tryd.prog Rows.pixelOverRow.laid w) ∧ sizedMet enc Tryd.prog Tryd.f7 (OpenSpec.ofChange Rows.pixelOverSpec) false w args)
      (Rows.pixelOverSpec.post enc Tryd.prog Tryd.f7 false true false false) := by
  refine returnsInHanded_of_change_and (C := Tryd.checked) (X := fun w _ => laidMetH Tryd.prog Rows.pixelOverRow.laid w) (fun _ _ _ hh h => h.of_heap hh) pixelOver_own started (by kernel_rfl) Tryd.func7
    (ChangeSpec.witness_shaped (enc := enc) (C := Tryd.checked) (os := os) (X := fun w _ => laidMetH Tryd.prog Rows.pixelOverRow.laid w) false (World.doorLaid Tryd.prog 1000 os) #[.int .i64 0, .agg #[.int .u8 0, .int .u8 0, .int .u8 0, .int .u8 0], .agg #[.int .u8 0, .int .u8 0, .int .u8 0, .int .u8 0]] 8 rfl (World.shaped_of_RefB (by kernel_rfl) (by kernel_rfl)) (by kernel_rfl) (by kernel_rfl) (by kernel_rfl) (pixelOver_doorMet os _)) ?_
  intro W base args ds gs before hval0 hW _ _ hL _
  have hval : ∀ (j : Nat) t v, Tryd.f7.params[j]? = some t → args[j]? = some v → Value.okWide Tryd.prog W .any base t v := hval0
  have hW' := hW
  obtain ⟨p, q, hA0, hV, rfl, hfz, hnd⟩ := hW
  have hA : DataW.TrodAll enc Tryd.prog W 0 (fun _ => true) true Tryd.f7.params.toList args.toList ds p := hA0
  rw [Tryd.params7] at hA hval
  obtain ⟨v0, v1, v2, d0, d1, d2, p0, p1, p2, rfl, rfl, rfl, h0, h1, h2⟩ := trodAll_three hA
  obtain ⟨rfl, rfl⟩ := trodVars_none hV
  obtain ⟨x0, rfl, rfl, rfl, w0⟩ := open_int Tryd.underlying3 (hval 0 3 v0 rfl rfl) h0
  have b0 := bounds_i64 w0
  obtain ⟨cr1, cg1, cb1, ca1, yr1, yg1, yb1, ya1, m1, rfl, rfl, rfl, hr1, hg1, hb1, ha1⟩ := open_agg4 Tryd.underlying34 (by kernel_rfl) (show Tryd.prog.cellsOf 34 = 4 by kernel_rfl) (hval 1 34 v1 rfl rfl) h1
  obtain ⟨r1, er1, kr1, wr1⟩ := DataW.trod_int Tryd.underlying5 hr1
  simp at er1; subst er1
  have br1 := bounds_u8 wr1
  obtain ⟨g1, eg1, kg1, wg1⟩ := DataW.trod_int Tryd.underlying5 hg1
  simp at eg1; subst eg1
  have bg1 := bounds_u8 wg1
  obtain ⟨b1, eb1, kb1, wb1⟩ := DataW.trod_int Tryd.underlying5 hb1
  simp at eb1; subst eb1
  have bb1 := bounds_u8 wb1
  obtain ⟨a1, ea1, ka1, wa1⟩ := DataW.trod_int Tryd.underlying5 ha1
  simp at ea1; subst ea1
  have ba1 := bounds_u8 wa1
  obtain ⟨cr2, cg2, cb2, ca2, yr2, yg2, yb2, ya2, m2, rfl, rfl, rfl, hr2, hg2, hb2, ha2⟩ := open_agg4 Tryd.underlying34 (by kernel_rfl) (show Tryd.prog.cellsOf 34 = 4 by kernel_rfl) (hval 2 34 v2 rfl rfl) h2
  obtain ⟨r2, er2, kr2, wr2⟩ := DataW.trod_int Tryd.underlying5 hr2
  simp at er2; subst er2
  have br2 := bounds_u8 wr2
  obtain ⟨g2, eg2, kg2, wg2⟩ := DataW.trod_int Tryd.underlying5 hg2
  simp at eg2; subst eg2
  have bg2 := bounds_u8 wg2
  obtain ⟨b2, eb2, kb2, wb2⟩ := DataW.trod_int Tryd.underlying5 hb2
  simp at eb2; subst eb2
  have bb2 := bounds_u8 wb2
  obtain ⟨a2, ea2, ka2, wa2⟩ := DataW.trod_int Tryd.underlying5 ha2
  simp at ea2; subst ea2
  have ba2 := bounds_u8 wa2
  clear hA0 hval0
  simp only [List.append_nil] at hW'
  obtain ⟨E, hE, _⟩ := errs_of_laid hL rfl rfl rfl rfl rfl rfl rfl rfl rfl rfl
  refine (pixelOver_any x0 r1 g1 b1 a1 r2 g2 b2 a2 W E hE ⟨br1, bg1, bb1, ba1⟩ ⟨br2, bg2, bb2, ba2⟩).mono fun e W' ⟨he, hB⟩ => ?_
  exact ⟨_, he, law_post pixelOver_laidOk hW' rfl rfl (by kernel_rfl) rfl Tryd.underlying4 hB⟩
theorem pixelOver_holds : Rows.PixelOverSaid :=
  OpenClaim.holds_of_wide 7 Tryd.f7 rfl rfl rfl rfl rfl rfl rfl ⟨rfl, rfl, rfl, rfl, rfl⟩ rfl rfl rfl rfl rfl (by kernel_rfl) Tryd.func7 (by kernel_rfl)
    (of_decide_eq_true (by kernel_rfl)) (by unfold Func.isWrapper; rw [if_neg (of_decide_eq_false (by kernel_rfl))]; exact ⟨rfl, rfl⟩)
    (fun os started H enc _ => pixelOver_lifted os started H enc)
theorem pixelOver_card : Rows.PixelOverCardSaid :=
  Claim7.holds_tied_plain_at .later [] _ true _ _
    pixelOver_holds (fun _ h => by cases h) (by kernel_rfl) (fun _ h => by cases h) pixelOver_row_tie rfl ⟨rfl, rfl⟩ (by kernel_rfl) rfl
    (fun f fn hf hfn => by
      obtain rfl : f = 7 := Option.some.inj ((show Tryd.prog.funcNamed "layercake/layercakelaw2.PixelOver" = some 7 by kernel_rfl).symm.trans hf) |>.symm
      obtain rfl : fn = Tryd.f7 := (Option.some.inj (Tryd.func7.symm.trans hfn)).symm
      exact ⟨by kernel_rfl, fun j t ht => by
        rw [Tryd.params7] at ht
        have hm : t ∈ [3, 34, 34] := by simpa using Array.mem_of_getElem? ht
        have hall : ([3, 34, 34].all fun u => !Tryd.prog.wantsStandIn u) = true := by kernel_rfl
        exact (show Tryd.prog.wantsStandIn t = false by simpa using List.all_eq_true.1 hall t hm)⟩)
    (by kernel_rfl)
end Go.Proofs.YteacjlalekbhpaaDoor
