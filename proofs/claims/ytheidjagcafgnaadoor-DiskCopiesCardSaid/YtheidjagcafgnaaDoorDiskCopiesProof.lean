/-
  DiskCopies: for every number of sectors and all acts ahead of the copy and behind it the statement returns true. No condition beside the tied variables.
-/
import Derived.Test.YtheidjagcafgnaaDoorRows
import Derived.Test.YtheidjagcafgnaaDoorDiskCopiesG6
import Derived.Test.YtheidjagcafgnaaDoorCards
import Derived.Test.YtheidjagcafgnaaDoorTie
import Derived.SevenTiedAt
import Derived.LaidMore
import Derived.Stop.Joined
namespace Go.Proofs.YtheidjagcafgnaaDoor
open Go.ChangeShapes Go.WideShapes Go.ChangeAt Go.RowKit
open Go.WideMaps Go.WideElems
open Go.ChangeMaps (open_string shut_string)
theorem diskCopies_laidOk : laidOutB Tryd.prog = true := by kernel_rfl
theorem diskCopies_own : ownKnob Tryd.prog.godebug = none := by kernel_rfl
theorem diskCopies_doorMet (os : Os) (args : Array Value) : laidMetH Tryd.prog Rows.diskCopiesRow.laid ((World.doorLaid Tryd.prog 1000 os).forCall (fun _ _ => 0) ⟨#[], args, []⟩).memory :=
  laidMetH_of_parts3 (fuel := 8) (laidMet_of_run' 8 (by kernel_rfl) (by kernel_rfl)) (by kernel_rfl) (by kernel_rfl)
set_option maxRecDepth 100000 in
theorem diskCopies_lifted (os : Os) (started : os.Started) (H : Type) (enc : TypeId × Value → H) :
    ReturnsInHanded {} Tryd.checked os 5 .any (fun w args => (Rows.diskCopiesSpec.pre enc Tryd.prog Tryd.f5 [] false w args ∧ laidMetH Tryd.prog Rows.diskCopiesRow.laid w) ∧ sizedMet enc Tryd.prog Tryd.f5 (OpenSpec.ofChange Rows.diskCopiesSpec) false w args)
      (Rows.diskCopiesSpec.post enc Tryd.prog Tryd.f5 false true false false) := by
  refine returnsInHanded_of_change_and (C := Tryd.checked) (X := fun w _ => laidMetH Tryd.prog Rows.diskCopiesRow.laid w) (fun _ _ _ hh h => h.of_heap hh) diskCopies_own started (by kernel_rfl) Tryd.func5
    (ChangeSpec.witness_shaped (enc := enc) (C := Tryd.checked) (os := os) (X := fun w _ => laidMetH Tryd.prog Rows.diskCopiesRow.laid w) false (World.doorLaid Tryd.prog 1000 os) #[.int .i64 0, .slice none 0 0, .slice none 0 0] 8 rfl (World.shaped_of_RefB (by kernel_rfl) (by kernel_rfl)) (by kernel_rfl) (by kernel_rfl) (by kernel_rfl) (diskCopies_doorMet os _)) ?_
  intro W base args ds gs before hval0 hW _ _ hL _
  have hval : ∀ (j : Nat) t v, Tryd.f5.params[j]? = some t → args[j]? = some v → Value.okWide Tryd.prog W .any base t v := hval0
  have hW' := hW
  obtain ⟨p, q, hA0, hV, rfl, hfz, hnd⟩ := hW
  have hA : DataW.TrodAll enc Tryd.prog W 0 (fun _ => true) true Tryd.f5.params.toList args.toList ds p := hA0
  rw [Tryd.params5] at hA hval
  obtain ⟨v0, v1, v2, d0, d1, d2, p0, p1, p2, rfl, rfl, rfl, h0, h1, h2⟩ := trodAll_three hA
  obtain ⟨rfl, rfl⟩ := trodVars_none hV
  obtain ⟨x0, rfl, rfl, rfl, w0⟩ := open_int Tryd.underlying3 (hval 0 3 v0 rfl rfl) h0
  have b0 := bounds_i64 w0
  have hv1 := hval 1 22 v1 rfl rfl
  have hv2 := hval 2 22 v2 rfl rfl
  clear hA0 hval0
  simp only [List.append_nil] at hW'
  obtain ⟨xl, nl, cl, l, rfl, hnl, hl⟩ := open_acs h1 (okWide_slice Tryd.underlying22 hv1)
  obtain ⟨xm, nm, cm, mo, rfl, hnm, hm⟩ := open_acs h2 (okWide_slice Tryd.underlying22 hv2)
  obtain ⟨E, hE, _⟩ := errs_of_laid hL rfl rfl rfl rfl rfl rfl rfl rfl rfl rfl
  refine (copies_any x0 nl cl nm cm xl xm l mo W E hE hl hm hnl hnm).mono fun e W' ⟨he, hB⟩ => ?_
  exact ⟨_, he, law_post diskCopies_laidOk hW' rfl rfl (by kernel_rfl) rfl Tryd.underlying4 hB⟩
theorem diskCopies_holds : Rows.DiskCopiesSaid :=
  OpenClaim.holds_of_wide 5 Tryd.f5 rfl rfl rfl rfl rfl rfl rfl ⟨rfl, rfl, rfl, rfl, rfl⟩ rfl rfl rfl rfl rfl (by kernel_rfl) Tryd.func5 (by kernel_rfl)
    (of_decide_eq_true (by kernel_rfl)) (by unfold Func.isWrapper; rw [if_neg (of_decide_eq_false (by kernel_rfl))]; exact ⟨rfl, rfl⟩)
    (fun os started H enc _ => diskCopies_lifted os started H enc)
theorem diskCopies_card : Rows.DiskCopiesCardSaid :=
  Claim7.holds_tied_plain_at .later [] _ true _ _
    diskCopies_holds (fun _ h => by cases h) (by kernel_rfl) (fun _ h => by cases h) diskCopies_row_tie rfl ⟨rfl, rfl⟩ (by kernel_rfl) rfl
    (fun f fn hf hfn => by
      obtain rfl : f = 5 := Option.some.inj ((show Tryd.prog.funcNamed "layercake/layercakelaw4.DiskCopies" = some 5 by kernel_rfl).symm.trans hf) |>.symm
      obtain rfl : fn = Tryd.f5 := (Option.some.inj (Tryd.func5.symm.trans hfn)).symm
      exact ⟨by kernel_rfl, fun j t ht => by
        rw [Tryd.params5] at ht
        have hm : t ∈ [3, 22, 22] := by simpa using Array.mem_of_getElem? ht
        have hall : ([3, 22, 22].all fun u => !Tryd.prog.wantsStandIn u) = true := by kernel_rfl
        exact (show Tryd.prog.wantsStandIn t = false by simpa using List.all_eq_true.1 hall t hm)⟩)
    (by kernel_rfl)
end Go.Proofs.YtheidjagcafgnaaDoor
