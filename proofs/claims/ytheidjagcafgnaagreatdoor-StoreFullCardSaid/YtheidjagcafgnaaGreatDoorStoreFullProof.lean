/-
  StoreFull: for a disk of any size and all changes the statement returns true. No condition beside the tied variables.
-/
import Derived.Test.YtheidjagcafgnaaGreatDoorStoreFullG1
import Derived.Test.YtheidjagcafgnaaGreatDoorRows
import Derived.Test.YtheidjagcafgnaaGreatDoorStoreFullG9
import Derived.Test.YtheidjagcafgnaaGreatDoorCards
import Derived.Test.YtheidjagcafgnaaGreatDoorTie
import Derived.SevenTiedAt
import Derived.LaidMore
import Derived.Stop.Joined
set_option linter.unusedSimpArgs false
set_option linter.unusedVariables false
set_option maxRecDepth 100000
namespace Go.Proofs.YtheidjagcafgnaaGreatDoor
open Go.ChangeShapes Go.WideShapes Go.ChangeAt Go.RowKit
open Go.WideMaps Go.WideElems
open Go.ChangeMaps (open_string shut_string)
theorem storeFull_laidOk : laidOutB Tryz.prog = true := by kernel_rfl
theorem storeFull_own : ownKnob Tryz.prog.godebug = none := by kernel_rfl
theorem storeFull_doorMet (os : Os) (args : Array Value) : laidMetH Tryz.prog Rows.storeFullRow.laid ((World.doorLaid Tryz.prog 1000 os).forCall (fun _ _ => 0) ⟨#[], args, []⟩).memory :=
 laidMetH_of_parts3 (fuel := 8) (laidMet_of_run' 8 (by kernel_rfl) (by kernel_rfl)) (by kernel_rfl) (by kernel_rfl)
set_option maxRecDepth 100000 in
theorem storeFull_lifted (os : Os) (started : os.Started) (H : Type) (enc : TypeId × Value → H) :
  ReturnsInHanded {} Tryz.checked os 4 .any (fun w args => (Rows.storeFullSpec.pre enc Tryz.prog Tryz.f4 [] false w args ∧ laidMetH Tryz.prog Rows.storeFullRow.laid w) ∧ sizedMet enc Tryz.prog Tryz.f4 (OpenSpec.ofChange Rows.storeFullSpec) false w args)
   (Rows.storeFullSpec.post enc Tryz.prog Tryz.f4 false true false false) := by
 refine returnsInHanded_of_change_and (C := Tryz.checked) (X := fun w _ => laidMetH Tryz.prog Rows.storeFullRow.laid w) (fun _ _ _ hh h => h.of_heap hh) storeFull_own started (by kernel_rfl) Tryz.func4
  (ChangeSpec.witness_shaped (enc := enc) (C := Tryz.checked) (os := os) (X := fun w _ => laidMetH Tryz.prog Rows.storeFullRow.laid w) false (World.doorLaid Tryz.prog 1000 os) #[.int .i64 0, .slice none 0 0] 8 rfl (World.shaped_of_RefB (by kernel_rfl) (by kernel_rfl)) (by kernel_rfl) (by kernel_rfl) (by kernel_rfl) (storeFull_doorMet os _)) ?_
 intro W base args ds gs before hval0 hW _ hsz0 hL _;have hszA : (DataW.weightsEach Tryz.prog (Tryz.f4.params.toList ++ Rows.storeFullSpec.plain.varTypes Tryz.prog) (ds ++ gs)).all (· ≤ reachBytes) = true := hsz0;have hval : ∀ (j : Nat) t v, Tryz.f4.params[j]? = some t → args[j]? = some v → Value.okWide Tryz.prog W .any base t v := hval0;have hW' := hW;obtain ⟨p, q, hA0, hV, rfl, hfz, hnd⟩ := hW;have hA : DataW.TrodAll enc Tryz.prog W 0 (fun _ => true) true Tryz.f4.params.toList args.toList ds p := hA0;rw [Tryz.params4] at hA hval hszA;obtain ⟨v0, v1, d0, d1, p0, p1, rfl, rfl, rfl, h0, h1⟩ := trodAll_two hA;obtain ⟨rfl, rfl⟩ := trodVars_none hV;obtain ⟨x0, rfl, rfl, rfl, w0⟩ := open_int Tryz.underlying3 (hval 0 3 v0 rfl rfl) h0;have b0 := bounds_i64 w0;have hv1 := hval 1 36 v1 rfl rfl;clear hA0 hval0;simp only [List.append_nil] at hW';obtain ⟨xl, nl, cl, l, rfl, hnl, hl, hO⟩ := open_chs h1 (okWide_slice Tryz.underlying36 hv1);obtain ⟨E, hE, _⟩ := errs_of_laid hL rfl rfl rfl rfl rfl rfl rfl rfl rfl rfl;have hsz2 : ∀ n ∈ d1.weights Tryz.prog 36, n ≤ 140737488355328 := fun n hn => by
  have h1 := List.all_eq_true.1 hszA n (DataW.weights_mem_each (j := 1) (t := 36) (d := d1) rfl rfl n hn);have h2 : n ≤ reachBytes := by simpa using h1
  have h3 := reachBytes_lt;omega
 refine (storeFull_any x0 xl nl cl l W E hE hl hnl (fun i hi => hsz2 _ (hO i hi))).mono fun e W' ⟨he, hB⟩ => ?_;exact ⟨_, he, law_post storeFull_laidOk hW' rfl rfl (by kernel_rfl) rfl Tryz.underlying4 hB⟩
theorem storeFull_holds : Rows.StoreFullSaid :=
 OpenClaim.holds_of_wide 4 Tryz.f4 rfl rfl rfl rfl rfl rfl rfl ⟨rfl, rfl, rfl, rfl, rfl⟩ rfl rfl rfl rfl rfl (by kernel_rfl) Tryz.func4 (by kernel_rfl)
  (of_decide_eq_true (by kernel_rfl)) (by unfold Func.isWrapper; rw [if_neg (of_decide_eq_false (by kernel_rfl))]; exact ⟨rfl, rfl⟩)
  (fun os started H enc _ => storeFull_lifted os started H enc)
theorem storeFull_card : Rows.StoreFullCardSaid :=
 Claim7.holds_tied_plain_at .later [] _ true _ _
  storeFull_holds (fun _ h => by cases h) (by kernel_rfl) (fun _ h => by cases h) storeFull_row_tie rfl ⟨rfl, rfl⟩ (by kernel_rfl) rfl
  (fun f fn hf hfn => by
   obtain rfl : f = 4 := Option.some.inj ((show Tryz.prog.funcNamed "layercake/layercakelaw4.StoreFull" = some 4 by kernel_rfl).symm.trans hf) |>.symm
   obtain rfl : fn = Tryz.f4 := (Option.some.inj (Tryz.func4.symm.trans hfn)).symm;exact ⟨by kernel_rfl, fun j t ht => by
    rw [Tryz.params4] at ht;have hm : t ∈ [3, 36] := by simpa using Array.mem_of_getElem? ht
    have hall : ([3, 36].all fun u => !Tryz.prog.wantsStandIn u) = true := by kernel_rfl
    exact (show Tryz.prog.wantsStandIn t = false by simpa using List.all_eq_true.1 hall t hm)⟩)
  (by kernel_rfl)
end Go.Proofs.YtheidjagcafgnaaGreatDoor
