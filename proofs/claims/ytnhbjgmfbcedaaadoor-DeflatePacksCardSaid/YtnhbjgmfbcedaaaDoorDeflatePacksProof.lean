/-
  DeflatePacks: for every text the statement returns true. No condition beside the tied variables.
-/
import Derived.Test.YtnhbjgmfbcedaaaDoorDeflatePacksG1
import Derived.Test.YtnhbjgmfbcedaaaDoorRows
import Derived.Test.YtnhbjgmfbcedaaaDoorDeflatePacksG25
import Derived.Test.YtnhbjgmfbcedaaaDoorCards
import Derived.Test.YtnhbjgmfbcedaaaDoorTie
import Derived.SevenTiedAt
import Derived.LaidMore
import Derived.Stop.Joined
set_option linter.unusedSimpArgs false
set_option linter.unusedVariables false
set_option maxRecDepth 100000
namespace Go.Proofs.YtnhbjgmfbcedaaaDoor
open Go.ChangeShapes Go.WideShapes Go.ChangeAt Go.RowKit
open Go.WideMaps Go.WideElems
open Go.ChangeMaps (open_string shut_string)
theorem deflatePacks_laidOk : laidOutB Tryd.prog = true := by kernel_rfl
theorem deflatePacks_own : ownKnob Tryd.prog.godebug = none := by kernel_rfl
theorem deflatePacks_doorMet (os : Os) (args : Array Value) : laidMetH Tryd.prog Rows.deflatePacksRow.laid ((World.doorLaid Tryd.prog 1000 os).forCall (fun _ _ => 0) ⟨#[], args, []⟩).memory :=
 laidMetH_of_parts3 (fuel := 8) (laidMet_of_run' 8 (by kernel_rfl) (by kernel_rfl)) (by kernel_rfl) (by kernel_rfl)
set_option maxRecDepth 100000 in
theorem deflatePacks_lifted (os : Os) (started : os.Started) (H : Type) (enc : TypeId × Value → H) :
  ReturnsInHanded {} Tryd.checked os 7 .any (fun w args => (Rows.deflatePacksSpec.pre enc Tryd.prog Tryd.f7 [] false w args ∧ laidMetH Tryd.prog Rows.deflatePacksRow.laid w) ∧ sizedMet enc Tryd.prog Tryd.f7 (OpenSpec.ofChange Rows.deflatePacksSpec) false w args)
   (Rows.deflatePacksSpec.post enc Tryd.prog Tryd.f7 false true false false) := by
 refine returnsInHanded_of_change_and (C := Tryd.checked) (X := fun w _ => laidMetH Tryd.prog Rows.deflatePacksRow.laid w) (fun _ _ _ hh h => h.of_heap hh) deflatePacks_own started (by kernel_rfl) Tryd.func7
  (ChangeSpec.witness_shaped (enc := enc) (C := Tryd.checked) (os := os) (X := fun w _ => laidMetH Tryd.prog Rows.deflatePacksRow.laid w) false (World.doorLaid Tryd.prog 1000 os) #[.string ByteArray.empty] 8 rfl (World.shaped_of_RefB (by kernel_rfl) (by kernel_rfl)) (by kernel_rfl) (by kernel_rfl) (by kernel_rfl) (deflatePacks_doorMet os _)) ?_
 intro W base args ds gs before hval0 hW _ _ hL _;have hval : ∀ (j : Nat) t v, Tryd.f7.params[j]? = some t → args[j]? = some v → Value.okWide Tryd.prog W .any base t v := hval0;have hW' := hW;obtain ⟨p, q, hA0, hV, rfl, hfz, hnd⟩ := hW;have hA : DataW.TrodAll enc Tryd.prog W 0 (fun _ => true) true Tryd.f7.params.toList args.toList ds p := hA0;rw [Tryd.params7] at hA hval;obtain ⟨v0, d0, rfl, rfl, h0⟩ := trodAll_one hA;obtain ⟨rfl, rfl⟩ := trodVars_none hV;obtain ⟨x0, rfl, rfl, rfl, w0⟩ := open_string Tryd.underlying9 (hval 0 9 v0 rfl rfl) h0;clear hA0 hval0;simp only [List.append_nil] at hW';obtain ⟨e1, _, k1, _⟩ := sentinel hL (n := "layercake/api.ErrBound") (g := 0) rfl (by kernel_rfl) (by kernel_rfl) Tryd.underlying24
 obtain ⟨e2, _, k2, _⟩ := sentinel hL (n := "layercake/api.ErrShape") (g := 3) rfl (by kernel_rfl) (by kernel_rfl) Tryd.underlying24
 have hT := tabs_of_laid hL rfl rfl rfl rfl rfl;refine (deflatePacks_any x0 W hT _ _ k1 k2 w0).mono fun e W' ⟨he, hB⟩ => ?_;exact ⟨_, he, law_post deflatePacks_laidOk hW' rfl rfl (by kernel_rfl) rfl Tryd.underlying4 hB⟩
theorem deflatePacks_holds : Rows.DeflatePacksSaid :=
 OpenClaim.holds_of_wide 7 Tryd.f7 rfl rfl rfl rfl rfl rfl rfl ⟨rfl, rfl, rfl, rfl, rfl⟩ rfl rfl rfl rfl rfl (by kernel_rfl) Tryd.func7 (by kernel_rfl)
  (of_decide_eq_true (by kernel_rfl)) (by unfold Func.isWrapper; rw [if_neg (of_decide_eq_false (by kernel_rfl))]; exact ⟨rfl, rfl⟩)
  (fun os started H enc _ => deflatePacks_lifted os started H enc)
theorem deflatePacks_card : Rows.DeflatePacksCardSaid :=
 Claim7.holds_tied_plain_at .later [] _ true _ _
  deflatePacks_holds (fun _ h => by cases h) (by kernel_rfl) (fun _ h => by cases h) deflatePacks_row_tie rfl ⟨rfl, rfl⟩ (by kernel_rfl) rfl
  (fun f fn hf hfn => by
   obtain rfl : f = 7 := Option.some.inj ((show Tryd.prog.funcNamed "layercake/layercakelaw1.DeflatePacks" = some 7 by kernel_rfl).symm.trans hf) |>.symm
   obtain rfl : fn = Tryd.f7 := (Option.some.inj (Tryd.func7.symm.trans hfn)).symm;exact ⟨by kernel_rfl, fun j t ht => by
    rw [Tryd.params7] at ht;have hm : t ∈ [9] := by simpa using Array.mem_of_getElem? ht
    have hall : ([9].all fun u => !Tryd.prog.wantsStandIn u) = true := by kernel_rfl
    exact (show Tryd.prog.wantsStandIn t = false by simpa using List.all_eq_true.1 hall t hm)⟩)
  (by kernel_rfl)
end Go.Proofs.YtnhbjgmfbcedaaaDoor
