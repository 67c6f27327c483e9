/-
  StoreKeeps: for all changes of a store and every name the statement returns true. No condition beside the tied variables.
-/
import Derived.Test.YtheidjagcafgnaaGreatDoorStoreKeepsG1
import Derived.Test.YtheidjagcafgnaaGreatDoorRows
import Derived.Test.YtheidjagcafgnaaGreatDoorStoreKeepsG9
import Derived.Test.YtheidjagcafgnaaGreatDoorCards
import Derived.Test.YtheidjagcafgnaaGreatDoorTie
import Derived.SevenTiedAt
import Derived.LaidMore
import Derived.Stop.Joined
set_option linter.unusedSimpArgs false
set_option linter.unusedVariables false
set_option maxRecDepth 100000
namespace Go.Proofs.YtheidjagcafgnaaGreatDoor
open Go.ChangeShapes Go.WideShapes Go.ChangeAt Go.RowKit
open Go.WideMaps Go.WideElems
open Go.ChangeMaps (open_string shut_string)
theorem storeKeeps_laidOk : laidOutB Tryz.prog = true := by kernel_rfl
theorem storeKeeps_own : ownKnob Tryz.prog.godebug = none := by kernel_rfl
theorem storeKeeps_doorMet (os : Os) (args : Array Value) : laidMetH Tryz.prog Rows.storeKeepsRow.laid ((World.doorLaid Tryz.prog 1000 os).forCall (fun _ _ => 0) ⟨#[], args, []⟩).memory :=
 laidMetH_of_parts3 (fuel := 8) (laidMet_of_run' 8 (by kernel_rfl) (by kernel_rfl)) (by kernel_rfl) (by kernel_rfl)
set_option maxRecDepth 100000 in
theorem storeKeeps_lifted (os : Os) (started : os.Started) (H : Type) (enc : TypeId × Value → H) :
  ReturnsInHanded {} Tryz.checked os 6 .any (fun w args => (Rows.storeKeepsSpec.pre enc Tryz.prog Tryz.f6 [] false w args ∧ laidMetH Tryz.prog Rows.storeKeepsRow.laid w) ∧ sizedMet enc Tryz.prog Tryz.f6 (OpenSpec.ofChange Rows.storeKeepsSpec) false w args)
   (Rows.storeKeepsSpec.post enc Tryz.prog Tryz.f6 false true false false) := by
 refine returnsInHanded_of_change_and (C := Tryz.checked) (X := fun w _ => laidMetH Tryz.prog Rows.storeKeepsRow.laid w) (fun _ _ _ hh h => h.of_heap hh) storeKeeps_own started (by kernel_rfl) Tryz.func6
  (ChangeSpec.witness_shaped (enc := enc) (C := Tryz.checked) (os := os) (X := fun w _ => laidMetH Tryz.prog Rows.storeKeepsRow.laid w) false (World.doorLaid Tryz.prog 1000 os) #[.slice none 0 0, .string ByteArray.empty] 8 rfl (World.shaped_of_RefB (by kernel_rfl) (by kernel_rfl)) (by kernel_rfl) (by kernel_rfl) (by kernel_rfl) (storeKeeps_doorMet os _)) ?_
 intro W base args ds gs before hval0 hW _ hsz0 hL _;have hszA : (DataW.weightsEach Tryz.prog (Tryz.f6.params.toList ++ Rows.storeKeepsSpec.plain.varTypes Tryz.prog) (ds ++ gs)).all (· ≤ reachBytes) = true := hsz0;have hval : ∀ (j : Nat) t v, Tryz.f6.params[j]? = some t → args[j]? = some v → Value.okWide Tryz.prog W .any base t v := hval0;have hW' := hW;obtain ⟨p, q, hA0, hV, rfl, hfz, hnd⟩ := hW;have hA : DataW.TrodAll enc Tryz.prog W 0 (fun _ => true) true Tryz.f6.params.toList args.toList ds p := hA0;rw [Tryz.params6] at hA hval hszA;obtain ⟨v0, v1, d0, d1, p0, p1, rfl, rfl, rfl, h0, h1⟩ := trodAll_two hA;obtain ⟨rfl, rfl⟩ := trodVars_none hV;have hv0 := hval 0 36 v0 rfl rfl;obtain ⟨x1, rfl, rfl, rfl, w1⟩ := open_string Tryz.underlying9 (hval 1 9 v1 rfl rfl) h1;clear hA0 hval0;simp only [List.append_nil] at hW';obtain ⟨xl, nl, cl, l, rfl, hnl, hl, hO⟩ := open_chs h0 (okWide_slice Tryz.underlying36 hv0);obtain ⟨E, hE, _⟩ := errs_of_laid hL rfl rfl rfl rfl rfl rfl rfl rfl rfl rfl;have hsz2 : ∀ n ∈ d0.weights Tryz.prog 36, n ≤ 140737488355328 := fun n hn => by
  have h1 := List.all_eq_true.1 hszA n (DataW.weights_mem_each (j := 0) (t := 36) (d := d0) rfl rfl n hn);have h2 : n ≤ reachBytes := by simpa using h1
  have h3 := reachBytes_lt;omega
 refine (storeKeeps_any xl nl cl l x1 W E hE hl hnl (fun i hi => hsz2 _ (hO i hi))).mono fun e W' ⟨he, hB⟩ => ?_;exact ⟨_, he, law_post storeKeeps_laidOk hW' rfl rfl (by kernel_rfl) rfl Tryz.underlying4 hB⟩
theorem storeKeeps_holds : Rows.StoreKeepsSaid :=
 OpenClaim.holds_of_wide 6 Tryz.f6 rfl rfl rfl rfl rfl rfl rfl ⟨rfl, rfl, rfl, rfl, rfl⟩ rfl rfl rfl rfl rfl (by kernel_rfl) Tryz.func6 (by kernel_rfl)
  (of_decide_eq_true (by kernel_rfl)) (by unfold Func.isWrapper; rw [if_neg (of_decide_eq_false (by kernel_rfl))]; exact ⟨rfl, rfl⟩)
  (fun os started H enc _ => storeKeeps_lifted os started H enc)
theorem storeKeeps_card : Rows.StoreKeepsCardSaid :=
 Claim7.holds_tied_plain_at .later [] _ true _ _
  storeKeeps_holds (fun _ h => by cases h) (by kernel_rfl) (fun _ h => by cases h) storeKeeps_row_tie rfl ⟨rfl, rfl⟩ (by kernel_rfl) rfl
  (fun f fn hf hfn => by
   obtain rfl : f = 6 := Option.some.inj ((show Tryz.prog.funcNamed "layercake/layercakelaw4.StoreKeeps" = some 6 by kernel_rfl).symm.trans hf) |>.symm
   obtain rfl : fn = Tryz.f6 := (Option.some.inj (Tryz.func6.symm.trans hfn)).symm;exact ⟨by kernel_rfl, fun j t ht => by
    rw [Tryz.params6] at ht;have hm : t ∈ [36, 9] := by simpa using Array.mem_of_getElem? ht
    have hall : ([36, 9].all fun u => !Tryz.prog.wantsStandIn u) = true := by kernel_rfl
    exact (show Tryz.prog.wantsStandIn t = false by simpa using List.all_eq_true.1 hall t hm)⟩)
  (by kernel_rfl)
end Go.Proofs.YtheidjagcafgnaaGreatDoor
