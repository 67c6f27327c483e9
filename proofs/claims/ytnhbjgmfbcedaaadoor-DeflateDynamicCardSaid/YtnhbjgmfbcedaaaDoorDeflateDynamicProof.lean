/-
  DeflateDynamic: for every tokens the statement returns true. No condition beside the tied variables.
-/
import Derived.Test.YtnhbjgmfbcedaaaDoorDeflateDynamicG1
import Derived.Test.YtnhbjgmfbcedaaaDoorRows
import Derived.Test.YtnhbjgmfbcedaaaDoorDeflateDynamicG23
import Derived.Test.YtnhbjgmfbcedaaaDoorCards
import Derived.Test.YtnhbjgmfbcedaaaDoorTie
import Derived.SevenTiedAt
import Derived.LaidMore
import Derived.Stop.Joined
set_option linter.unusedSimpArgs false
set_option linter.unusedVariables false
set_option maxRecDepth 100000
namespace Go.Proofs.YtnhbjgmfbcedaaaDoor
open Go.ChangeShapes Go.WideShapes Go.ChangeAt Go.RowKit
open Go.WideMaps Go.WideElems
open Go.ChangeMaps (open_string shut_string)
theorem deflateDynamic_laidOk : laidOutB Tryd.prog = true := by kernel_rfl
theorem deflateDynamic_own : ownKnob Tryd.prog.godebug = none := by kernel_rfl
theorem deflateDynamic_doorMet (os : Os) (args : Array Value) : laidMetH Tryd.prog Rows.deflateDynamicRow.laid ((World.doorLaid Tryd.prog 1000 os).forCall (fun _ _ => 0) ⟨#[], args, []⟩).memory :=
 laidMetH_of_parts3 (fuel := 8) (laidMet_of_run' 8 (by kernel_rfl) (by kernel_rfl)) (by kernel_rfl) (by kernel_rfl)
set_option maxRecDepth 100000 in
theorem deflateDynamic_lifted (os : Os) (started : os.Started) (H : Type) (enc : TypeId × Value → H) :
  ReturnsInHanded {} Tryd.checked os 9 .any (fun w args => (Rows.deflateDynamicSpec.pre enc Tryd.prog Tryd.f9 [] false w args ∧ laidMetH Tryd.prog Rows.deflateDynamicRow.laid w) ∧ sizedMet enc Tryd.prog Tryd.f9 (OpenSpec.ofChange Rows.deflateDynamicSpec) false w args)
   (Rows.deflateDynamicSpec.post enc Tryd.prog Tryd.f9 false true false false) := by
 refine returnsInHanded_of_change_and (C := Tryd.checked) (X := fun w _ => laidMetH Tryd.prog Rows.deflateDynamicRow.laid w) (fun _ _ _ hh h => h.of_heap hh) deflateDynamic_own started (by kernel_rfl) Tryd.func9
  (ChangeSpec.witness_shaped (enc := enc) (C := Tryd.checked) (os := os) (X := fun w _ => laidMetH Tryd.prog Rows.deflateDynamicRow.laid w) false (World.doorLaid Tryd.prog 1000 os) #[.slice none 0 0] 8 rfl (World.shaped_of_RefB (by kernel_rfl) (by kernel_rfl)) (by kernel_rfl) (by kernel_rfl) (by kernel_rfl) (deflateDynamic_doorMet os _)) ?_
 intro W base args ds gs before hval0 hW _ _ hL _;have hval : ∀ (j : Nat) t v, Tryd.f9.params[j]? = some t → args[j]? = some v → Value.okWide Tryd.prog W .any base t v := hval0;have hW' := hW;obtain ⟨p, q, hA0, hV, rfl, hfz, hnd⟩ := hW;have hA : DataW.TrodAll enc Tryd.prog W 0 (fun _ => true) true Tryd.f9.params.toList args.toList ds p := hA0;rw [Tryd.params9] at hA hval;obtain ⟨v0, d0, rfl, rfl, h0⟩ := trodAll_one hA;obtain ⟨rfl, rfl⟩ := trodVars_none hV;have hv0 := hval 0 32 v0 rfl rfl;clear hA0 hval0;simp only [List.append_nil] at hW';obtain ⟨x, len, cap, tk, rfl, hlen, hx0, hx⟩ := open_toks h0 (okWide_slice Tryd.underlying32 hv0);obtain ⟨E, hE, _⟩ := errs_of_laid hL rfl rfl rfl rfl rfl rfl rfl rfl rfl rfl;have hTb := tabs_of_laid hL rfl rfl rfl rfl rfl;refine (deflateDynamic_any x len cap tk W E hE hTb hx hx0 hlen).mono fun e W' ⟨he, hB⟩ => ?_;exact ⟨_, he, law_post deflateDynamic_laidOk hW' rfl rfl (by kernel_rfl) rfl Tryd.underlying4 hB⟩
theorem deflateDynamic_holds : Rows.DeflateDynamicSaid :=
 OpenClaim.holds_of_wide 9 Tryd.f9 rfl rfl rfl rfl rfl rfl rfl ⟨rfl, rfl, rfl, rfl, rfl⟩ rfl rfl rfl rfl rfl (by kernel_rfl) Tryd.func9 (by kernel_rfl)
  (of_decide_eq_true (by kernel_rfl)) (by unfold Func.isWrapper; rw [if_neg (of_decide_eq_false (by kernel_rfl))]; exact ⟨rfl, rfl⟩)
  (fun os started H enc _ => deflateDynamic_lifted os started H enc)
theorem deflateDynamic_card : Rows.DeflateDynamicCardSaid :=
 Claim7.holds_tied_plain_at .later [] _ true _ _
  deflateDynamic_holds (fun _ h => by cases h) (by kernel_rfl) (fun _ h => by cases h) deflateDynamic_row_tie rfl ⟨rfl, rfl⟩ (by kernel_rfl) rfl
  (fun f fn hf hfn => by
   obtain rfl : f = 9 := Option.some.inj ((show Tryd.prog.funcNamed "layercake/layercakelaw1.DeflateDynamic" = some 9 by kernel_rfl).symm.trans hf) |>.symm
   obtain rfl : fn = Tryd.f9 := (Option.some.inj (Tryd.func9.symm.trans hfn)).symm;exact ⟨by kernel_rfl, fun j t ht => by
    rw [Tryd.params9] at ht;have hm : t ∈ [32] := by simpa using Array.mem_of_getElem? ht
    have hall : ([32].all fun u => !Tryd.prog.wantsStandIn u) = true := by kernel_rfl
    exact (show Tryd.prog.wantsStandIn t = false by simpa using List.all_eq_true.1 hall t hm)⟩)
  (by kernel_rfl)
end Go.Proofs.YtnhbjgmfbcedaaaDoor
