/-
  PixelFades: for every pixel, opacity, row of pixels and text the statement returns true. No condition beside the tied variables.
-/
import Derived.Test.YteacjlalekbhpaaDoorRows
import Derived.Test.YteacjlalekbhpaaDoorPixelFadesG5
import Derived.Test.YteacjlalekbhpaaDoorPixelFadesG6
import Derived.Test.YteacjlalekbhpaaDoorCards
import Derived.Test.YteacjlalekbhpaaDoorTie
import Derived.SevenTiedAt
import Derived.LaidMore
import Derived.Stop.Joined
import Derived.Lib.SmallJoins
namespace Go.Proofs.YteacjlalekbhpaaDoor
open Go.ChangeShapes Go.WideShapes Go.ChangeAt Go.RowKit
set_option linter.unusedSimpArgs false
open Go.WideMaps Go.WideElems
open Go.ChangeMaps (open_string shut_string)
open Go.Joins
theorem pixelFades_laidOk : laidOutB Tryd.prog = true := by kernel_rfl
theorem pixelFades_own : ownKnob Tryd.prog.godebug = none := by kernel_rfl
theorem pixelFades_doorMet (os : Os) (args : Array Value) : laidMetH Tryd.prog Rows.pixelFadesRow.laid ((World.doorLaid Tryd.prog 1000 os).forCall (fun _ _ => 0) ⟨#[], args, []⟩).memory :=
  laidMetH_of_parts3 (fuel := 8) (laidMet_of_run' 8 (by kernel_rfl) (by kernel_rfl)) (by kernel_rfl) (by kernel_rfl)
set_option maxRecDepth 100000 in
theorem pixelFades_lifted (os : Os) (started : os.Started) (H : Type) (enc : TypeId × Value → H) :
    ReturnsInHanded {} Tryd.checked os 8 .any (fun w args => (Rows.pixelFadesSpec.pre enc Tryd.prog Tryd.f8 [] false w args ∧ laidMetH Tryd.prog Rows.pixelFadesRow.laid w) ∧ sizedMet enc Tryd.prog Tryd.f8 (OpenSpec.ofChange Rows.pixelFadesSpec) false w args)
      (Rows.pixelFadesSpec.post enc Tryd.prog Tryd.f8 false true false false) := by
  refine returnsInHanded_of_change_and (C := Tryd.checked) (X := fun w _ => laidMetH Tryd.prog Rows.pixelFadesRow.laid w) (fun _ _ _ hh h => h.of_heap hh) pixelFades_own started (by kernel_rfl) Tryd.func8
    (ChangeSpec.witness_shaped (enc := enc) (C := Tryd.checked) (os := os) (X := fun w _ => laidMetH Tryd.prog Rows.pixelFadesRow.laid w) false (World.doorLaid Tryd.prog 1000 os) #[.agg #[.int .u8 0, .int .u8 0, .int .u8 0, .int .u8 0], .int .i64 0, .slice none 0 0, .string ByteArray.empty] 8 rfl (World.shaped_of_RefB (by kernel_rfl) (by kernel_rfl)) (by kernel_rfl) (by kernel_rfl) (by kernel_rfl) (pixelFades_doorMet os _)) ?_
  intro W base args ds gs before hval0 hW _ _ hL _
  have hval : ∀ (j : Nat) t v, Tryd.f8.params[j]? = some t → args[j]? = some v → Value.okWide Tryd.prog W .any base t v := hval0
  have hW' := hW
  obtain ⟨p, q, hA0, hV, rfl, hfz, hnd⟩ := hW
  have hA : DataW.TrodAll enc Tryd.prog W 0 (fun _ => true) true Tryd.f8.params.toList args.toList ds p := hA0
  rw [Tryd.params8] at hA hval
  obtain ⟨v0, vs0, d0, ds0, p0, q0, hargs, rfl, rfl, h0, rest0⟩ := trodAll_cons hA
  obtain ⟨v1, vs1, d1, ds1, p1, q1, rfl, rfl, rfl, h1, rest1⟩ := trodAll_cons rest0
  obtain ⟨v2, vs2, d2, ds2, p2, q2, rfl, rfl, rfl, h2, rest2⟩ := trodAll_cons rest1
  obtain ⟨v3, vs3, d3, ds3, p3, q3, rfl, rfl, rfl, h3, rest3⟩ := trodAll_cons rest2
  obtain ⟨rfl, rfl, rfl⟩ := trodAll_nil rest3
  obtain ⟨args⟩ := args
  simp only at hargs
  subst hargs
  obtain ⟨rfl, rfl⟩ := trodVars_none hV
  obtain ⟨cr0, cg0, cb0, ca0, yr0, yg0, yb0, ya0, m0, rfl, rfl, rfl, hr0, hg0, hb0, ha0⟩ := open_agg4 Tryd.underlying34 (by kernel_rfl) (show Tryd.prog.cellsOf 34 = 4 by kernel_rfl) (hval 0 34 v0 rfl rfl) h0
  obtain ⟨r0, er0, kr0, wr0⟩ := DataW.trod_int Tryd.underlying5 hr0
  simp at er0; subst er0
  have br0 := bounds_u8 wr0
  obtain ⟨g0, eg0, kg0, wg0⟩ := DataW.trod_int Tryd.underlying5 hg0
  simp at eg0; subst eg0
  have bg0 := bounds_u8 wg0
  obtain ⟨b0, eb0, kb0, wb0⟩ := DataW.trod_int Tryd.underlying5 hb0
  simp at eb0; subst eb0
  have bb0 := bounds_u8 wb0
  obtain ⟨a0, ea0, ka0, wa0⟩ := DataW.trod_int Tryd.underlying5 ha0
  simp at ea0; subst ea0
  have ba0 := bounds_u8 wa0
  obtain ⟨x1, rfl, rfl, rfl, w1⟩ := open_int Tryd.underlying3 (hval 1 3 v1 rfl rfl) h1
  have b1 := bounds_i64 w1
  have hv2 := hval 2 41 v2 rfl rfl
  obtain ⟨x3, rfl, rfl, rfl, w3⟩ := open_string Tryd.underlying9 (hval 3 9 v3 rfl rfl) h3
  obtain ⟨x2, n2, cap2, px2, rfl, hn2, hx2, hp2⟩ := open_pxRow h2 (okWide_slice Tryd.underlying41 hv2)
  obtain ⟨E, hE, _⟩ := errs_of_laid hL rfl rfl rfl rfl rfl rfl rfl rfl rfl rfl
  obtain ⟨r, rfl⟩ : ∃ n : Nat, r0 = n := ⟨r0.toNat, by omega⟩
  obtain ⟨g, rfl⟩ : ∃ n : Nat, g0 = n := ⟨g0.toNat, by omega⟩
  obtain ⟨b, rfl⟩ : ∃ n : Nat, b0 = n := ⟨b0.toNat, by omega⟩
  obtain ⟨a, rfl⟩ : ∃ n : Nat, a0 = n := ⟨a0.toNat, by omega⟩
  refine (fades_any r g b a x1 x2 n2 cap2 px2 x3 W E hE (by omega) (by omega) (by omega) (by omega) hp2 hx2).mono fun e W' ⟨he, hB⟩ => ?_
  exact ⟨_, he, law_post pixelFades_laidOk hW' rfl rfl (by kernel_rfl) rfl Tryd.underlying4 hB⟩
theorem pixelFades_holds : Rows.PixelFadesSaid :=
  OpenClaim.holds_of_wide 8 Tryd.f8 rfl rfl rfl rfl rfl rfl rfl ⟨rfl, rfl, rfl, rfl, rfl⟩ rfl rfl rfl rfl rfl (by kernel_rfl) Tryd.func8 (by kernel_rfl)
    (of_decide_eq_true (by kernel_rfl)) (by unfold Func.isWrapper; rw [if_neg (of_decide_eq_false (by kernel_rfl))]; exact ⟨rfl, rfl⟩)
    (fun os started H enc _ => pixelFades_lifted os started H enc)
theorem pixelFades_card : Rows.PixelFadesCardSaid :=
  Claim7.holds_tied_plain_at .later [] _ true _ _
    pixelFades_holds (fun _ h => by cases h) (by kernel_rfl) (fun _ h => by cases h) pixelFades_row_tie rfl ⟨rfl, rfl⟩ (by kernel_rfl) rfl
    (fun f fn hf hfn => by
      obtain rfl : f = 8 := Option.some.inj ((show Tryd.prog.funcNamed "layercake/layercakelaw2.PixelFades" = some 8 by kernel_rfl).symm.trans hf) |>.symm
      obtain rfl : fn = Tryd.f8 := (Option.some.inj (Tryd.func8.symm.trans hfn)).symm
      exact ⟨by kernel_rfl, fun j t ht => by
        rw [Tryd.params8] at ht
        have hm : t ∈ [34, 3, 41, 9] := by simpa using Array.mem_of_getElem? ht
        have hall : ([34, 3, 41, 9].all fun u => !Tryd.prog.wantsStandIn u) = true := by kernel_rfl
        exact (show Tryd.prog.wantsStandIn t = false by simpa using List.all_eq_true.1 hall t hm)⟩)
    (by kernel_rfl)
end Go.Proofs.YteacjlalekbhpaaDoor
