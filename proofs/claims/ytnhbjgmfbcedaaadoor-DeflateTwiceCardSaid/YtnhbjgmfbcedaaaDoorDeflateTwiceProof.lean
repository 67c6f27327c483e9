/-
  DeflateTwice: for every text and every number the statement returns true. No condition beside the tied variables.
-/
import Derived.Test.YtnhbjgmfbcedaaaDoorDeflateTwiceG1
import Derived.Test.YtnhbjgmfbcedaaaDoorRows
import Derived.Test.YtnhbjgmfbcedaaaDoorDeflateTwiceG22
import Derived.Test.YtnhbjgmfbcedaaaDoorCards
import Derived.Test.YtnhbjgmfbcedaaaDoorTie
import Derived.SevenTiedAt
import Derived.LaidMore
import Derived.Stop.Joined
set_option linter.unusedSimpArgs false
set_option linter.unusedVariables false
set_option maxRecDepth 100000
namespace Go.Proofs.YtnhbjgmfbcedaaaDoor
open Go.ChangeShapes Go.WideShapes Go.ChangeAt Go.RowKit
open Go.WideMaps Go.WideElems
open Go.ChangeMaps (open_string shut_string)
theorem deflateTwice_laidOk : laidOutB Tryd.prog = true := by kernel_rfl
theorem deflateTwice_own : ownKnob Tryd.prog.godebug = none := by kernel_rfl
theorem deflateTwice_doorMet (os : Os) (args : Array Value) : laidMetH Tryd.prog Rows.deflateTwiceRow.laid ((World.doorLaid Tryd.prog 1000 os).forCall (fun _ _ => 0) ⟨#[], args, []⟩).memory :=
 laidMetH_of_parts3 (fuel := 8) (laidMet_of_run' 8 (by kernel_rfl) (by kernel_rfl)) (by kernel_rfl) (by kernel_rfl)
set_option maxRecDepth 100000 in
theorem deflateTwice_lifted (os : Os) (started : os.Started) (H : Type) (enc : TypeId × Value → H) :
  ReturnsInHanded {} Tryd.checked os 10 .any (fun w args => (Rows.deflateTwiceSpec.pre enc Tryd.prog Tryd.f10 [] false w args ∧ laidMetH Tryd.prog Rows.deflateTwiceRow.laid w) ∧ sizedMet enc Tryd.prog Tryd.f10 (OpenSpec.ofChange Rows.deflateTwiceSpec) false w args)
   (Rows.deflateTwiceSpec.post enc Tryd.prog Tryd.f10 false true false false) := by
 refine returnsInHanded_of_change_and (C := Tryd.checked) (X := fun w _ => laidMetH Tryd.prog Rows.deflateTwiceRow.laid w) (fun _ _ _ hh h => h.of_heap hh) deflateTwice_own started (by kernel_rfl) Tryd.func10
  (ChangeSpec.witness_shaped (enc := enc) (C := Tryd.checked) (os := os) (X := fun w _ => laidMetH Tryd.prog Rows.deflateTwiceRow.laid w) false (World.doorLaid Tryd.prog 1000 os) #[.string ByteArray.empty, .int .i64 0] 8 rfl (World.shaped_of_RefB (by kernel_rfl) (by kernel_rfl)) (by kernel_rfl) (by kernel_rfl) (by kernel_rfl) (deflateTwice_doorMet os _)) ?_
 intro W base args ds gs before hval0 hW _ _ hL _;have hval : ∀ (j : Nat) t v, Tryd.f10.params[j]? = some t → args[j]? = some v → Value.okWide Tryd.prog W .any base t v := hval0;have hW' := hW;obtain ⟨p, q, hA0, hV, rfl, hfz, hnd⟩ := hW;have hA : DataW.TrodAll enc Tryd.prog W 0 (fun _ => true) true Tryd.f10.params.toList args.toList ds p := hA0;rw [Tryd.params10] at hA hval;obtain ⟨v0, v1, d0, d1, p0, p1, rfl, rfl, rfl, h0, h1⟩ := trodAll_two hA;obtain ⟨rfl, rfl⟩ := trodVars_none hV;obtain ⟨x0, rfl, rfl, rfl, w0⟩ := open_string Tryd.underlying9 (hval 0 9 v0 rfl rfl) h0;obtain ⟨x1, rfl, rfl, rfl, w1⟩ := open_int Tryd.underlying3 (hval 1 3 v1 rfl rfl) h1;have b1 := bounds_i64 w1;clear hA0 hval0;simp only [List.append_nil] at hW';obtain ⟨e0, _, k0, _⟩ := sentinel hL (n := "layercake/api.ErrText") (g := 1) rfl (by kernel_rfl) (by kernel_rfl) Tryd.underlying24
 obtain ⟨e1, _, k1, _⟩ := sentinel hL (n := "layercake/api.ErrBound") (g := 0) rfl (by kernel_rfl) (by kernel_rfl) Tryd.underlying24
 obtain ⟨e2, _, k2, _⟩ := sentinel hL (n := "layercake/api.ErrShape") (g := 3) rfl (by kernel_rfl) (by kernel_rfl) Tryd.underlying24
 obtain ⟨e3, _, k3, _⟩ := sentinel hL (n := "layercake/api.ErrSum") (g := 2) rfl (by kernel_rfl) (by kernel_rfl) Tryd.underlying24
 have hT := tabs_of_laid hL rfl rfl rfl rfl rfl;refine (deflateTwice_any x0 x1 W _ (Errs.four k0 k1 k2 k3) hT w0).mono fun e W' ⟨he, hB⟩ => ?_;exact ⟨_, he, law_post deflateTwice_laidOk hW' rfl rfl (by kernel_rfl) rfl Tryd.underlying4 hB⟩
theorem deflateTwice_holds : Rows.DeflateTwiceSaid :=
 OpenClaim.holds_of_wide 10 Tryd.f10 rfl rfl rfl rfl rfl rfl rfl ⟨rfl, rfl, rfl, rfl, rfl⟩ rfl rfl rfl rfl rfl (by kernel_rfl) Tryd.func10 (by kernel_rfl)
  (of_decide_eq_true (by kernel_rfl)) (by unfold Func.isWrapper; rw [if_neg (of_decide_eq_false (by kernel_rfl))]; exact ⟨rfl, rfl⟩)
  (fun os started H enc _ => deflateTwice_lifted os started H enc)
theorem deflateTwice_card : Rows.DeflateTwiceCardSaid :=
 Claim7.holds_tied_plain_at .later [] _ true _ _
  deflateTwice_holds (fun _ h => by cases h) (by kernel_rfl) (fun _ h => by cases h) deflateTwice_row_tie rfl ⟨rfl, rfl⟩ (by kernel_rfl) rfl
  (fun f fn hf hfn => by
   obtain rfl : f = 10 := Option.some.inj ((show Tryd.prog.funcNamed "layercake/layercakelaw1.DeflateTwice" = some 10 by kernel_rfl).symm.trans hf) |>.symm
   obtain rfl : fn = Tryd.f10 := (Option.some.inj (Tryd.func10.symm.trans hfn)).symm;exact ⟨by kernel_rfl, fun j t ht => by
    rw [Tryd.params10] at ht;have hm : t ∈ [9, 3] := by simpa using Array.mem_of_getElem? ht
    have hall : ([9, 3].all fun u => !Tryd.prog.wantsStandIn u) = true := by kernel_rfl
    exact (show Tryd.prog.wantsStandIn t = false by simpa using List.all_eq_true.1 hall t hm)⟩)
  (by kernel_rfl)
end Go.Proofs.YtnhbjgmfbcedaaaDoor
