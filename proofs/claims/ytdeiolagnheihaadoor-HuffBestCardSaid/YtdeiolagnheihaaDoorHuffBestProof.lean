/-
  HuffBest: for every counts and every number the statement returns true. No condition beside the tied variables.
-/
import Derived.Test.YtdeiolagnheihaaDoorHuffBestG1
import Derived.Test.YtdeiolagnheihaaDoorRows
import Derived.Test.YtdeiolagnheihaaDoorHuffBestG8
import Derived.Test.YtdeiolagnheihaaDoorCards
import Derived.Test.YtdeiolagnheihaaDoorTie
import Derived.SevenTiedAt
import Derived.LaidMore
import Derived.Stop.Joined
set_option linter.unusedSimpArgs false
set_option linter.unusedVariables false
set_option maxRecDepth 100000
namespace Go.Proofs.YtdeiolagnheihaaDoor
open Go.ChangeShapes Go.WideShapes Go.ChangeAt Go.RowKit
open Go.WideMaps Go.WideElems
open Go.ChangeMaps (open_string shut_string)
theorem huffBest_laidOk : laidOutB Tryd.prog = true := by kernel_rfl
theorem huffBest_own : ownKnob Tryd.prog.godebug = none := by kernel_rfl
theorem huffBest_doorMet (os : Os) (args : Array Value) : laidMetH Tryd.prog Rows.huffBestRow.laid ((World.doorLaid Tryd.prog 1000 os).forCall (fun _ _ => 0) ⟨#[], args, []⟩).memory :=
 laidMetH_of_parts3 (fuel := 8) (laidMet_of_run' 8 (by kernel_rfl) (by kernel_rfl)) (by kernel_rfl) (by kernel_rfl)
set_option maxRecDepth 100000 in
theorem huffBest_lifted (os : Os) (started : os.Started) (H : Type) (enc : TypeId × Value → H) :
  ReturnsInHanded {} Tryd.checked os 10 .any (fun w args => (Rows.huffBestSpec.pre enc Tryd.prog Tryd.f10 [] false w args ∧ laidMetH Tryd.prog Rows.huffBestRow.laid w) ∧ sizedMet enc Tryd.prog Tryd.f10 (OpenSpec.ofChange Rows.huffBestSpec) false w args)
   (Rows.huffBestSpec.post enc Tryd.prog Tryd.f10 false true false false) := by
 refine returnsInHanded_of_change_and (C := Tryd.checked) (X := fun w _ => laidMetH Tryd.prog Rows.huffBestRow.laid w) (fun _ _ _ hh h => h.of_heap hh) huffBest_own started (by kernel_rfl) Tryd.func10
  (ChangeSpec.witness_shaped (enc := enc) (C := Tryd.checked) (os := os) (X := fun w _ => laidMetH Tryd.prog Rows.huffBestRow.laid w) false (World.doorLaid Tryd.prog 1000 os) #[.slice none 0 0, .int .i64 0] 8 rfl (World.shaped_of_RefB (by kernel_rfl) (by kernel_rfl)) (by kernel_rfl) (by kernel_rfl) (by kernel_rfl) (huffBest_doorMet os _)) ?_
 intro W base args ds gs before hval0 hW _ _ hL _;have hval : ∀ (j : Nat) t v, Tryd.f10.params[j]? = some t → args[j]? = some v → Value.okWide Tryd.prog W .any base t v := hval0;have hW' := hW;obtain ⟨p, q, hA0, hV, rfl, hfz, hnd⟩ := hW;have hA : DataW.TrodAll enc Tryd.prog W 0 (fun _ => true) true Tryd.f10.params.toList args.toList ds p := hA0;rw [Tryd.params10] at hA hval;obtain ⟨v0, v1, d0, d1, p0, p1, rfl, rfl, rfl, h0, h1⟩ := trodAll_two hA;obtain ⟨rfl, rfl⟩ := trodVars_none hV;have hv0 := hval 0 59 v0 rfl rfl;obtain ⟨x1, rfl, rfl, rfl, w1⟩ := open_int Tryd.underlying3 (hval 1 3 v1 rfl rfl) h1;have b1 := bounds_i64 w1;clear hA0 hval0;simp only [List.append_nil] at hW';obtain ⟨x, n, cap, f, rfl, hn, hx0, hx⟩ := open_intRow h0 (okWide_slice Tryd.underlying59 hv0);obtain ⟨E, hE, _⟩ := errs_of_laid hL rfl rfl rfl rfl rfl rfl rfl rfl rfl rfl;refine (huffBest_any x n cap f x1 W E hE hx hx0 hn).mono fun e W' ⟨he, hB⟩ => ?_;exact ⟨_, he, law_post huffBest_laidOk hW' rfl rfl (by kernel_rfl) rfl Tryd.underlying4 hB⟩
theorem huffBest_holds : Rows.HuffBestSaid :=
 OpenClaim.holds_of_wide 10 Tryd.f10 rfl rfl rfl rfl rfl rfl rfl ⟨rfl, rfl, rfl, rfl, rfl⟩ rfl rfl rfl rfl rfl (by kernel_rfl) Tryd.func10 (by kernel_rfl)
  (of_decide_eq_true (by kernel_rfl)) (by unfold Func.isWrapper; rw [if_neg (of_decide_eq_false (by kernel_rfl))]; exact ⟨rfl, rfl⟩)
  (fun os started H enc _ => huffBest_lifted os started H enc)
theorem huffBest_card : Rows.HuffBestCardSaid :=
 Claim7.holds_tied_plain_at .later [] _ true _ _
  huffBest_holds (fun _ h => by cases h) (by kernel_rfl) (fun _ h => by cases h) huffBest_row_tie rfl ⟨rfl, rfl⟩ (by kernel_rfl) rfl
  (fun f fn hf hfn => by
   obtain rfl : f = 10 := Option.some.inj ((show Tryd.prog.funcNamed "layercake/layercakelaw1.HuffBest" = some 10 by kernel_rfl).symm.trans hf) |>.symm
   obtain rfl : fn = Tryd.f10 := (Option.some.inj (Tryd.func10.symm.trans hfn)).symm;exact ⟨by kernel_rfl, fun j t ht => by
    rw [Tryd.params10] at ht;have hm : t ∈ [59, 3] := by simpa using Array.mem_of_getElem? ht
    have hall : ([59, 3].all fun u => !Tryd.prog.wantsStandIn u) = true := by kernel_rfl
    exact (show Tryd.prog.wantsStandIn t = false by simpa using List.all_eq_true.1 hall t hm)⟩)
  (by kernel_rfl)
end Go.Proofs.YtdeiolagnheihaaDoor
