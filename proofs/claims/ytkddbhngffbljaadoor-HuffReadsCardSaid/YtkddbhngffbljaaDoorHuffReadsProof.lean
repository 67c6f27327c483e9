/-
  HuffReads: for every two lists of whole numbers the statement returns true. No condition beside the tied variables.
-/
import Derived.Test.YtkddbhngffbljaaDoorRows
import Derived.Test.YtkddbhngffbljaaDoorReadsWalk
import Derived.Test.YtkddbhngffbljaaDoorErrsLaid
import Derived.Test.YtkddbhngffbljaaDoorLaw
import Derived.Test.YtkddbhngffbljaaDoorCards
import Derived.Test.YtkddbhngffbljaaDoorTie
import Derived.SevenTiedAt
import Derived.LaidMore
import Derived.Stop.Joined
namespace Go.Proofs.YtkddbhngffbljaaDoor
open Go.ChangeShapes Go.WideShapes Go.ChangeAt Go.RowKit
open Go.WideMaps Go.WideElems
open Go.ChangeMaps (open_string shut_string)
theorem huffReads_laidOk : laidOutB Tryd.prog = true := by kernel_rfl
theorem huffReads_own : ownKnob Tryd.prog.godebug = none := by kernel_rfl
theorem huffReads_doorMet (os : Os) (args : Array Value) : laidMetH Tryd.prog Rows.huffReadsRow.laid ((World.doorLaid Tryd.prog 1000 os).forCall (fun _ _ => 0) ⟨#[], args, []⟩).memory :=
  laidMetH_of_parts3 (fuel := 8) (laidMet_of_run' 8 (by kernel_rfl) (by kernel_rfl)) (by kernel_rfl) (by kernel_rfl)
set_option maxRecDepth 100000 in
theorem huffReads_lifted (os : Os) (started : os.Started) (H : Type) (enc : TypeId × Value → H) :
    ReturnsInHanded {} Tryd.checked os 9 .any (fun w args => (Rows.huffReadsSpec.pre enc Tryd.prog Tryd.f9 [] false w args ∧ laidMetH Tryd.prog Rows.huffReadsRow.laid w) ∧ sizedMet enc Tryd.prog Tryd.f9 (OpenSpec.ofChange Rows.huffReadsSpec) false w args)
      (Rows.huffReadsSpec.post enc Tryd.prog Tryd.f9 false true false false) := by
  refine returnsInHanded_of_change_and (C := Tryd.checked) (X := fun w _ => laidMetH Tryd.prog Rows.huffReadsRow.laid w) (fun _ _ _ hh h => h.of_heap hh) huffReads_own started (by kernel_rfl) Tryd.func9
    (ChangeSpec.witness_shaped (enc := enc) (C := Tryd.checked) (os := os) (X := fun w _ => laidMetH Tryd.prog Rows.huffReadsRow.laid w) false (World.doorLaid Tryd.prog 1000 os) #[.slice none 0 0, .slice none 0 0] 8 rfl (World.shaped_of_RefB (by kernel_rfl) (by kernel_rfl)) (by kernel_rfl) (by kernel_rfl) (by kernel_rfl) (huffReads_doorMet os _)) ?_
  intro W base args ds gs before hval0 hW _ _ hL _
  have hval : ∀ (j : Nat) t v, Tryd.f9.params[j]? = some t → args[j]? = some v → Value.okWide Tryd.prog W .any base t v := hval0
  have hW' := hW
  obtain ⟨p, q, hA0, hV, rfl, hfz, hnd⟩ := hW
  have hA : DataW.TrodAll enc Tryd.prog W 0 (fun _ => true) true Tryd.f9.params.toList args.toList ds p := hA0
  rw [Tryd.params9] at hA hval
  obtain ⟨v0, v1, d0, d1, p0, p1, rfl, rfl, rfl, h0, h1⟩ := trodAll_two hA
  obtain ⟨rfl, rfl⟩ := trodVars_none hV
  have hv0 := hval 0 45 v0 rfl rfl
  have hv1 := hval 1 45 v1 rfl rfl
  clear hA0 hval0
  simp only [List.append_nil] at hW'
  obtain ⟨x, n, cap, f, rfl, hn, hx0, hx⟩ := open_intRow h0 (okWide_slice Tryd.underlying45 hv0)
  obtain ⟨y, m, cap', g, rfl, hm, hy0, hy⟩ := open_intRow h1 (okWide_slice Tryd.underlying45 hv1)
  obtain ⟨E, hE, _⟩ := errs_of_laid hL rfl rfl rfl rfl rfl rfl rfl rfl rfl rfl
  refine (reads_any x y n cap m cap' f g W E hE hx hy hn hm hx0).mono fun e W' ⟨he, hB⟩ => ?_
  exact ⟨_, he, law_post huffReads_laidOk hW' rfl rfl (by kernel_rfl) rfl Tryd.underlying4 hB⟩
theorem huffReads_holds : Rows.HuffReadsSaid :=
  OpenClaim.holds_of_wide 9 Tryd.f9 rfl rfl rfl rfl rfl rfl rfl ⟨rfl, rfl, rfl, rfl, rfl⟩ rfl rfl rfl rfl rfl (by kernel_rfl) Tryd.func9 (by kernel_rfl)
    (of_decide_eq_true (by kernel_rfl)) (by unfold Func.isWrapper; rw [if_neg (of_decide_eq_false (by kernel_rfl))]; exact ⟨rfl, rfl⟩)
    (fun os started H enc _ => huffReads_lifted os started H enc)
theorem huffReads_card : Rows.HuffReadsCardSaid :=
  Claim7.holds_tied_plain_at .later [] _ true _ _
    huffReads_holds (fun _ h => by cases h) (by kernel_rfl) (fun _ h => by cases h) huffReads_row_tie rfl ⟨rfl, rfl⟩ (by kernel_rfl) rfl
    (fun f fn hf hfn => by
      obtain rfl : f = 9 := Option.some.inj ((show Tryd.prog.funcNamed "layercake/layercakelaw1.HuffReads" = some 9 by kernel_rfl).symm.trans hf) |>.symm
      obtain rfl : fn = Tryd.f9 := (Option.some.inj (Tryd.func9.symm.trans hfn)).symm
      exact ⟨by kernel_rfl, fun j t ht => by
        rw [Tryd.params9] at ht
        have hm : t ∈ [45, 45] := by simpa using Array.mem_of_getElem? ht
        have hall : ([45, 45].all fun u => !Tryd.prog.wantsStandIn u) = true := by kernel_rfl
        exact (show Tryd.prog.wantsStandIn t = false by simpa using List.all_eq_true.1 hall t hm)⟩)
    (by kernel_rfl)
end Go.Proofs.YtkddbhngffbljaaDoor
