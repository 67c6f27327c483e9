/-
  ChunkWrites: for every row of chunks the statement returns true. No condition beside the tied variables.
-/
import Derived.Test.YtkfjcgcgfdibaaaDoorRows
import Derived.Test.YtkfjcgcgfdibaaaDoorChkWritesWalk
import Derived.Test.YtkfjcgcgfdibaaaDoorErrsLaid
import Derived.Test.YtkfjcgcgfdibaaaDoorOpenCk
import Derived.Test.YtkfjcgcgfdibaaaDoorLaw
import Derived.Test.YtkfjcgcgfdibaaaDoorCards
import Derived.Test.YtkfjcgcgfdibaaaDoorTie
import Derived.SevenTiedAt
import Derived.LaidMore
import Derived.Stop.Joined
namespace Go.Proofs.YtkfjcgcgfdibaaaDoor
open Go.ChangeShapes Go.WideShapes Go.ChangeAt Go.RowKit
open Go.WideMaps Go.WideElems
open Go.ChangeMaps (open_string shut_string)
theorem chunkWrites_laidOk : laidOutB Tryd.prog = true := by kernel_rfl
theorem chunkWrites_own : ownKnob Tryd.prog.godebug = none := by kernel_rfl
theorem chunkWrites_doorMet (os : Os) (args : Array Value) : laidMetH Tryd.prog Rows.chunkWritesRow.laid ((World.doorLaid Tryd.prog 1000 os).forCall (fun _ _ => 0) ⟨#[], args, []⟩).memory :=
  laidMetH_of_parts3 (fuel := 8) (laidMet_of_run' 8 (by kernel_rfl) (by kernel_rfl)) (by kernel_rfl) (by kernel_rfl)
set_option maxRecDepth 100000 in
theorem chunkWrites_lifted (os : Os) (started : os.Started) (H : Type) (enc : TypeId × Value → H) :
    ReturnsInHanded {} Tryd.checked os 11 .any (fun w args => (Rows.chunkWritesSpec.pre enc Tryd.prog Tryd.f11 [] false w args ∧ laidMetH Tryd.prog Rows.chunkWritesRow.laid w) ∧ sizedMet enc Tryd.prog Tryd.f11 (OpenSpec.ofChange Rows.chunkWritesSpec) false w args)
      (Rows.chunkWritesSpec.post enc Tryd.prog Tryd.f11 false true false false) := by
  refine returnsInHanded_of_change_and (C := Tryd.checked) (X := fun w _ => laidMetH Tryd.prog Rows.chunkWritesRow.laid w) (fun _ _ _ hh h => h.of_heap hh) chunkWrites_own started (by kernel_rfl) Tryd.func11
    (ChangeSpec.witness_shaped (enc := enc) (C := Tryd.checked) (os := os) (X := fun w _ => laidMetH Tryd.prog Rows.chunkWritesRow.laid w) false (World.doorLaid Tryd.prog 1000 os) #[.slice none 0 0] 8 rfl (World.shaped_of_RefB (by kernel_rfl) (by kernel_rfl)) (by kernel_rfl) (by kernel_rfl) (by kernel_rfl) (chunkWrites_doorMet os _)) ?_
  intro W base args ds gs before hval0 hW _ hsz0 hL hq0
  have hszA : (DataW.weightsEach Tryd.prog (Tryd.f11.params.toList ++ Rows.chunkWritesSpec.plain.varTypes Tryd.prog) (ds ++ gs)).all (· ≤ reachBytes) = true := hsz0
  have hval : ∀ (j : Nat) t v, Tryd.f11.params[j]? = some t → args[j]? = some v → Value.okWide Tryd.prog W .any base t v := hval0
  have hW' := hW
  obtain ⟨p, q, hA0, hV, rfl, hfz, hnd⟩ := hW
  have hA : DataW.TrodAll enc Tryd.prog W 0 (fun _ => true) true Tryd.f11.params.toList args.toList ds p := hA0
  rw [Tryd.params11] at hA hval hszA
  obtain ⟨v0, d0, rfl, rfl, h0⟩ := trodAll_one hA
  obtain ⟨rfl, rfl⟩ := trodVars_none hV
  have hv0 := hval 0 68 v0 rfl rfl
  clear hA0 hval0
  simp only [List.append_nil] at hW'
  obtain ⟨x, cap, L, rfl, hlen, hx, hO⟩ := open_cks h0 (okWide_slice Tryd.underlying68 hv0)
  obtain ⟨E, hE, _⟩ := errs_of_laid hL rfl rfl rfl rfl rfl rfl rfl rfl rfl rfl
  have hsz2 : ∀ n ∈ d0.weights Tryd.prog 68, n ≤ 140737488355328 := fun n hn => by
    have h1 := List.all_eq_true.1 hszA n (DataW.weights_mem_each (j := 0) (t := 68) (d := d0) rfl rfl n hn)
    have h2 : n ≤ reachBytes := by simpa using h1
    have h3 := reachBytes_lt
    omega
  refine (chunkWrites_any x cap L W E hE hx hlen (fun c h => ⟨(hO c h).1, hsz2 _ (hO c h).2⟩)).mono fun e W' ⟨he, hB⟩ => ?_
  exact ⟨_, he, law_post chunkWrites_laidOk hW' rfl rfl (by kernel_rfl) rfl Tryd.underlying4 hB⟩
theorem chunkWrites_holds : Rows.ChunkWritesSaid :=
  OpenClaim.holds_of_wide 11 Tryd.f11 rfl rfl rfl rfl rfl rfl rfl ⟨rfl, rfl, rfl, rfl, rfl⟩ rfl rfl rfl rfl rfl (by kernel_rfl) Tryd.func11 (by kernel_rfl)
    (of_decide_eq_true (by kernel_rfl)) (by unfold Func.isWrapper; rw [if_neg (of_decide_eq_false (by kernel_rfl))]; exact ⟨rfl, rfl⟩)
    (fun os started H enc _ => chunkWrites_lifted os started H enc)
theorem chunkWrites_card : Rows.ChunkWritesCardSaid :=
  Claim7.holds_tied_plain_at .later [] _ true _ _
    chunkWrites_holds (fun _ h => by cases h) (by kernel_rfl) (fun _ h => by cases h) chunkWrites_row_tie rfl ⟨rfl, rfl⟩ (by kernel_rfl) rfl
    (fun f fn hf hfn => by
      obtain rfl : f = 11 := Option.some.inj ((show Tryd.prog.funcNamed "layercake/layercakelaw2.ChunkWrites" = some 11 by kernel_rfl).symm.trans hf) |>.symm
      obtain rfl : fn = Tryd.f11 := (Option.some.inj (Tryd.func11.symm.trans hfn)).symm
      exact ⟨by kernel_rfl, fun j t ht => by
        rw [Tryd.params11] at ht
        have hm : t ∈ [68] := by simpa using Array.mem_of_getElem? ht
        have hall : ([68].all fun u => !Tryd.prog.wantsStandIn u) = true := by kernel_rfl
        exact (show Tryd.prog.wantsStandIn t = false by simpa using List.all_eq_true.1 hall t hm)⟩)
    (by kernel_rfl)
end Go.Proofs.YtkfjcgcgfdibaaaDoor
