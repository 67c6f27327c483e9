/-
  StoreFails: for all changes, wherever the power goes and whatever is kept, the statement returns true. No condition beside the tied variables.
-/
import Derived.Test.YtheidjagcafgnaaGreatDoorStoreFailsG1
import Derived.Test.YtheidjagcafgnaaGreatDoorRows
import Derived.Test.YtheidjagcafgnaaGreatDoorStoreFailsG9
import Derived.Test.YtheidjagcafgnaaGreatDoorStoreFailsG10
import Derived.Test.YtheidjagcafgnaaGreatDoorCards
import Derived.Test.YtheidjagcafgnaaGreatDoorTie
import Derived.SevenTiedAt
import Derived.LaidMore
import Derived.Stop.Joined
set_option linter.unusedSimpArgs false
set_option linter.unusedVariables false
set_option maxRecDepth 100000
namespace Go.Proofs.YtheidjagcafgnaaGreatDoor
open Go.ChangeShapes Go.WideShapes Go.ChangeAt Go.RowKit
open Go.WideMaps Go.WideElems
open Go.ChangeMaps (open_string shut_string)
theorem storeFails_laidOk : laidOutB Tryz.prog = true := by kernel_rfl
theorem storeFails_own : ownKnob Tryz.prog.godebug = none := by kernel_rfl
theorem storeFails_doorMet (os : Os) (args : Array Value) : laidMetH Tryz.prog Rows.storeFailsRow.laid ((World.doorLaid Tryz.prog 1000 os).forCall (fun _ _ => 0) ⟨#[], args, []⟩).memory :=
 laidMetH_of_parts3 (fuel := 8) (laidMet_of_run' 8 (by kernel_rfl) (by kernel_rfl)) (by kernel_rfl) (by kernel_rfl)
set_option maxRecDepth 100000 in
theorem storeFails_lifted (os : Os) (started : os.Started) (H : Type) (enc : TypeId × Value → H) :
  ReturnsInHanded {} Tryz.checked os 7 .any (fun w args => (Rows.storeFailsSpec.pre enc Tryz.prog Tryz.f7 [] false w args ∧ laidMetH Tryz.prog Rows.storeFailsRow.laid w) ∧ sizedMet enc Tryz.prog Tryz.f7 (OpenSpec.ofChange Rows.storeFailsSpec) false w args)
   (Rows.storeFailsSpec.post enc Tryz.prog Tryz.f7 false true false false) := by
 refine returnsInHanded_of_change_and (C := Tryz.checked) (X := fun w _ => laidMetH Tryz.prog Rows.storeFailsRow.laid w) (fun _ _ _ hh h => h.of_heap hh) storeFails_own started (by kernel_rfl) Tryz.func7
  (ChangeSpec.witness_shaped (enc := enc) (C := Tryz.checked) (os := os) (X := fun w _ => laidMetH Tryz.prog Rows.storeFailsRow.laid w) false (World.doorLaid Tryz.prog 1000 os) #[.slice none 0 0, .int .i64 0, .slice none 0 0, .slice none 0 0] 8 rfl (World.shaped_of_RefB (by kernel_rfl) (by kernel_rfl)) (by kernel_rfl) (by kernel_rfl) (by kernel_rfl) (storeFails_doorMet os _)) ?_
 intro W base args ds gs before hval0 hW _ hsz0 hL _;have hszA : (DataW.weightsEach Tryz.prog (Tryz.f7.params.toList ++ Rows.storeFailsSpec.plain.varTypes Tryz.prog) (ds ++ gs)).all (· ≤ reachBytes) = true := hsz0;have hval : ∀ (j : Nat) t v, Tryz.f7.params[j]? = some t → args[j]? = some v → Value.okWide Tryz.prog W .any base t v := hval0;have hW' := hW;obtain ⟨p, q, hA0, hV, rfl, hfz, hnd⟩ := hW;have hA : DataW.TrodAll enc Tryz.prog W 0 (fun _ => true) true Tryz.f7.params.toList args.toList ds p := hA0;rw [Tryz.params7] at hA hval hszA;obtain ⟨v0, vs0, d0, ds0, p0, q0, hargs, rfl, rfl, h0, rest0⟩ := trodAll_cons hA;obtain ⟨v1, vs1, d1, ds1, p1, q1, rfl, rfl, rfl, h1, rest1⟩ := trodAll_cons rest0;obtain ⟨v2, vs2, d2, ds2, p2, q2, rfl, rfl, rfl, h2, rest2⟩ := trodAll_cons rest1;obtain ⟨v3, vs3, d3, ds3, p3, q3, rfl, rfl, rfl, h3, rest3⟩ := trodAll_cons rest2;obtain ⟨rfl, rfl, rfl⟩ := trodAll_nil rest3;obtain ⟨args⟩ := args;simp only at hargs;subst hargs;obtain ⟨rfl, rfl⟩ := trodVars_none hV;have hv0 := hval 0 36 v0 rfl rfl;obtain ⟨x1, rfl, rfl, rfl, w1⟩ := open_int Tryz.underlying3 (hval 1 3 v1 rfl rfl) h1;have b1 := bounds_i64 w1;have hv2 := hval 2 49 v2 rfl rfl;have hv3 := hval 3 36 v3 rfl rfl;clear hA0 hval0;simp only [List.append_nil] at hW';obtain ⟨xl, nl, cl, l, rfl, hnl, hl, hO⟩ := open_chs h0 (okWide_slice Tryz.underlying36 hv0)
 obtain ⟨xk, nk, ck, kb, rfl, hnk, hk⟩ := open_kp h2 (okWide_slice Tryz.underlying49 hv2);obtain ⟨xm, nm, cm, l2, rfl, hnm, hm, hM⟩ := open_chs h3 (okWide_slice Tryz.underlying36 hv3);obtain ⟨E, hE, _⟩ := errs_of_laid hL rfl rfl rfl rfl rfl rfl rfl rfl rfl rfl;have hsz2 : ∀ n ∈ d0.weights Tryz.prog 36, n ≤ 140737488355328 := fun n hn => by
  have h1 := List.all_eq_true.1 hszA n (DataW.weights_mem_each (j := 0) (t := 36) (d := d0) rfl rfl n hn);have h2 : n ≤ reachBytes := by simpa using h1
  have h3 := reachBytes_lt;omega
 have hsz3 : ∀ n ∈ d3.weights Tryz.prog 36, n ≤ 140737488355328 := fun n hn => by
  have h1 := List.all_eq_true.1 hszA n (DataW.weights_mem_each (j := 3) (t := 36) (d := d3) rfl rfl n hn);have h2 : n ≤ reachBytes := by simpa using h1
  have h3 := reachBytes_lt;omega
 refine (storeFails_any xl nl cl l x1 xk nk ck kb xm nm cm l2 W E hE hl hnl (fun i hi => hsz2 _ (hO i hi)) hk hm hnm (fun i hi => hsz3 _ (hM i hi))).mono fun e W' ⟨he, hB⟩ => ?_;exact ⟨_, he, law_post storeFails_laidOk hW' rfl rfl (by kernel_rfl) rfl Tryz.underlying4 hB⟩
theorem storeFails_holds : Rows.StoreFailsSaid :=
 OpenClaim.holds_of_wide 7 Tryz.f7 rfl rfl rfl rfl rfl rfl rfl ⟨rfl, rfl, rfl, rfl, rfl⟩ rfl rfl rfl rfl rfl (by kernel_rfl) Tryz.func7 (by kernel_rfl)
  (of_decide_eq_true (by kernel_rfl)) (by unfold Func.isWrapper; rw [if_neg (of_decide_eq_false (by kernel_rfl))]; exact ⟨rfl, rfl⟩)
  (fun os started H enc _ => storeFails_lifted os started H enc)
theorem storeFails_card : Rows.StoreFailsCardSaid :=
 Claim7.holds_tied_plain_at .later [] _ true _ _
  storeFails_holds (fun _ h => by cases h) (by kernel_rfl) (fun _ h => by cases h) storeFails_row_tie rfl ⟨rfl, rfl⟩ (by kernel_rfl) rfl
  (fun f fn hf hfn => by
   obtain rfl : f = 7 := Option.some.inj ((show Tryz.prog.funcNamed "layercake/layercakelaw4.StoreFails" = some 7 by kernel_rfl).symm.trans hf) |>.symm
   obtain rfl : fn = Tryz.f7 := (Option.some.inj (Tryz.func7.symm.trans hfn)).symm;exact ⟨by kernel_rfl, fun j t ht => by
    rw [Tryz.params7] at ht;have hm : t ∈ [36, 3, 49, 36] := by simpa using Array.mem_of_getElem? ht
    have hall : ([36, 3, 49, 36].all fun u => !Tryz.prog.wantsStandIn u) = true := by kernel_rfl
    exact (show Tryz.prog.wantsStandIn t = false by simpa using List.all_eq_true.1 hall t hm)⟩)
  (by kernel_rfl)
end Go.Proofs.YtheidjagcafgnaaGreatDoor
