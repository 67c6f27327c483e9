/-
  ChunkTurned: for every row of chunks, every place and every bit the statement returns true. No condition beside the tied variables.
-/
import Derived.Test.YtkfjcgcgfdibaaaDoorRows
import Derived.Test.YtkfjcgcgfdibaaaDoorChkTurnWalk
import Derived.Test.YtkfjcgcgfdibaaaDoorErrsLaid
import Derived.Test.YtkfjcgcgfdibaaaDoorOpenCk
import Derived.Test.YtkfjcgcgfdibaaaDoorLaw
import Derived.Test.YtkfjcgcgfdibaaaDoorCards
import Derived.Test.YtkfjcgcgfdibaaaDoorTie
import Derived.SevenTiedAt
import Derived.LaidMore
import Derived.Stop.Joined
namespace Go.Proofs.YtkfjcgcgfdibaaaDoor
open Go.ChangeShapes Go.WideShapes Go.ChangeAt Go.RowKit
open Go.WideMaps Go.WideElems
open Go.ChangeMaps (open_string shut_string)
theorem chunkTurned_laidOk : laidOutB Tryd.prog = true := by kernel_rfl
theorem chunkTurned_own : ownKnob Tryd.prog.godebug = none := by kernel_rfl
theorem chunkTurned_doorMet (os : Os) (args : Array Value) : laidMetH Tryd.prog Rows.chunkTurnedRow.laid ((World.doorLaid Tryd.prog 1000 os).forCall (fun _ _ => 0) ⟨#[], args, []⟩).memory :=
  laidMetH_of_parts3 (fuel := 8) (laidMet_of_run' 8 (by kernel_rfl) (by kernel_rfl)) (by kernel_rfl) (by kernel_rfl)
set_option maxRecDepth 100000 in
theorem chunkTurned_lifted (os : Os) (started : os.Started) (H : Type) (enc : TypeId × Value → H) :
    ReturnsInHanded {} Tryd.checked os 10 .any (fun w args => (Rows.chunkTurnedSpec.pre enc Tryd.prog Tryd.f10 [] false w args ∧ laidMetH Tryd.prog Rows.chunkTurnedRow.laid w) ∧ sizedMet enc Tryd.prog Tryd.f10 (OpenSpec.ofChange Rows.chunkTurnedSpec) false w args)
      (Rows.chunkTurnedSpec.post enc Tryd.prog Tryd.f10 false true false false) := by
  refine returnsInHanded_of_change_and (C := Tryd.checked) (X := fun w _ => laidMetH Tryd.prog Rows.chunkTurnedRow.laid w) (fun _ _ _ hh h => h.of_heap hh) chunkTurned_own started (by kernel_rfl) Tryd.func10
    (ChangeSpec.witness_shaped (enc := enc) (C := Tryd.checked) (os := os) (X := fun w _ => laidMetH Tryd.prog Rows.chunkTurnedRow.laid w) false (World.doorLaid Tryd.prog 1000 os) #[.slice none 0 0, .int .i64 0, .int .i64 0] 8 rfl (World.shaped_of_RefB (by kernel_rfl) (by kernel_rfl)) (by kernel_rfl) (by kernel_rfl) (by kernel_rfl) (chunkTurned_doorMet os _)) ?_
  intro W base args ds gs before hval0 hW _ hsz0 hL _
  have hszA : (DataW.weightsEach Tryd.prog (Tryd.f10.params.toList ++ Rows.chunkTurnedSpec.plain.varTypes Tryd.prog) (ds ++ gs)).all (· ≤ reachBytes) = true := hsz0
  have hval : ∀ (j : Nat) t v, Tryd.f10.params[j]? = some t → args[j]? = some v → Value.okWide Tryd.prog W .any base t v := hval0
  have hW' := hW
  obtain ⟨p, q, hA0, hV, rfl, hfz, hnd⟩ := hW
  have hA : DataW.TrodAll enc Tryd.prog W 0 (fun _ => true) true Tryd.f10.params.toList args.toList ds p := hA0
  rw [Tryd.params10] at hA hval hszA
  obtain ⟨v0, v1, v2, d0, d1, d2, p0, p1, p2, rfl, rfl, rfl, h0, h1, h2⟩ := trodAll_three hA
  obtain ⟨rfl, rfl⟩ := trodVars_none hV
  have hv0 := hval 0 68 v0 rfl rfl
  obtain ⟨x1, rfl, rfl, rfl, w1⟩ := open_int Tryd.underlying3 (hval 1 3 v1 rfl rfl) h1
  have b1 := bounds_i64 w1
  obtain ⟨x2, rfl, rfl, rfl, w2⟩ := open_int Tryd.underlying3 (hval 2 3 v2 rfl rfl) h2
  have b2 := bounds_i64 w2
  clear hA0 hval0
  simp only [List.append_nil] at hW'
  obtain ⟨x, cap, L, rfl, hlen, hx, hO⟩ := open_cks h0 (okWide_slice Tryd.underlying68 hv0)
  obtain ⟨e0, k0, _⟩ := sentinel_row hL (show _ = errD 0 from rfl) (by kernel_rfl) (by kernel_rfl) Tryd.underlying28
  obtain ⟨e1, k1, _⟩ := sentinel_row hL (show _ = errD 1 from rfl) (by kernel_rfl) (by kernel_rfl) Tryd.underlying28
  obtain ⟨e2, k2, _⟩ := sentinel_row hL (show _ = errD 2 from rfl) (by kernel_rfl) (by kernel_rfl) Tryd.underlying28
  obtain ⟨e3, k3, _⟩ := sentinel_row hL (show _ = errD 3 from rfl) (by kernel_rfl) (by kernel_rfl) Tryd.underlying28
  have hE : ErrC W (fun k => match k with | 0 => e0 | 1 => e1 | 2 => e2 | _ => e3) := ⟨fun k hk => by
    match k, hk with
    | 0, _ => exact k0
    | 1, _ => exact k1
    | 2, _ => exact k2
    | 3, _ => exact k3⟩
  have hsz2 : ∀ n ∈ d0.weights Tryd.prog 68, n ≤ 140737488355328 := fun n hn => by
    have h1 := List.all_eq_true.1 hszA n (DataW.weights_mem_each (j := 0) (t := 68) (d := d0) rfl rfl n hn)
    have h2 : n ≤ reachBytes := by simpa using h1
    have h3 := reachBytes_lt
    omega
  refine (chunkTurned_any x cap L x1 x2 W _ hE hx hlen (fun c h => ⟨(hO c h).1, hsz2 _ (hO c h).2⟩) b1 b2).mono fun e W' ⟨he, hB⟩ => ?_
  exact ⟨_, he, law_post chunkTurned_laidOk hW' rfl rfl (by kernel_rfl) rfl Tryd.underlying4 hB⟩
theorem chunkTurned_holds : Rows.ChunkTurnedSaid :=
  OpenClaim.holds_of_wide 10 Tryd.f10 rfl rfl rfl rfl rfl rfl rfl ⟨rfl, rfl, rfl, rfl, rfl⟩ rfl rfl rfl rfl rfl (by kernel_rfl) Tryd.func10 (by kernel_rfl)
    (of_decide_eq_true (by kernel_rfl)) (by unfold Func.isWrapper; rw [if_neg (of_decide_eq_false (by kernel_rfl))]; exact ⟨rfl, rfl⟩)
    (fun os started H enc _ => chunkTurned_lifted os started H enc)
theorem chunkTurned_card : Rows.ChunkTurnedCardSaid :=
  Claim7.holds_tied_plain_at .later [] _ true _ _
    chunkTurned_holds (fun _ h => by cases h) (by kernel_rfl) (fun _ h => by cases h) chunkTurned_row_tie rfl ⟨rfl, rfl⟩ (by kernel_rfl) rfl
    (fun f fn hf hfn => by
      obtain rfl : f = 10 := Option.some.inj ((show Tryd.prog.funcNamed "layercake/layercakelaw2.ChunkTurned" = some 10 by kernel_rfl).symm.trans hf) |>.symm
      obtain rfl : fn = Tryd.f10 := (Option.some.inj (Tryd.func10.symm.trans hfn)).symm
      exact ⟨by kernel_rfl, fun j t ht => by
        rw [Tryd.params10] at ht
        have hm : t ∈ [68, 3, 3] := by simpa using Array.mem_of_getElem? ht
        have hall : ([68, 3, 3].all fun u => !Tryd.prog.wantsStandIn u) = true := by kernel_rfl
        exact (show Tryd.prog.wantsStandIn t = false by simpa using List.all_eq_true.1 hall t hm)⟩)
    (by kernel_rfl)
end Go.Proofs.YtkfjcgcgfdibaaaDoor
