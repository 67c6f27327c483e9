/-
  DiskActs: for every number of sectors, all acts and every sector the statement returns true. No condition beside the tied variables.
-/
import Derived.Test.YtheidjagcafgnaaDoorRows
import Derived.Test.YtheidjagcafgnaaDoorDiskActsG6
import Derived.Test.YtheidjagcafgnaaDoorCards
import Derived.Test.YtheidjagcafgnaaDoorTie
import Derived.SevenTiedAt
import Derived.LaidMore
import Derived.Stop.Joined
namespace Go.Proofs.YtheidjagcafgnaaDoor
open Go.ChangeShapes Go.WideShapes Go.ChangeAt Go.RowKit
open Go.WideMaps Go.WideElems
open Go.ChangeMaps (open_string shut_string)
theorem diskActs_laidOk : laidOutB Tryd.prog = true := by kernel_rfl
theorem diskActs_own : ownKnob Tryd.prog.godebug = none := by kernel_rfl
theorem diskActs_doorMet (os : Os) (args : Array Value) : laidMetH Tryd.prog Rows.diskActsRow.laid ((World.doorLaid Tryd.prog 1000 os).forCall (fun _ _ => 0) ⟨#[], args, []⟩).memory :=
  laidMetH_of_parts3 (fuel := 8) (laidMet_of_run' 8 (by kernel_rfl) (by kernel_rfl)) (by kernel_rfl) (by kernel_rfl)
set_option maxRecDepth 100000 in
theorem diskActs_lifted (os : Os) (started : os.Started) (H : Type) (enc : TypeId × Value → H) :
    ReturnsInHanded {} Tryd.checked os 4 .any (fun w args => (Rows.diskActsSpec.pre enc Tryd.prog Tryd.f4 [] false w args ∧ laidMetH Tryd.prog Rows.diskActsRow.laid w) ∧ sizedMet enc Tryd.prog Tryd.f4 (OpenSpec.ofChange Rows.diskActsSpec) false w args)
      (Rows.diskActsSpec.post enc Tryd.prog Tryd.f4 false true false false) := by
  refine returnsInHanded_of_change_and (C := Tryd.checked) (X := fun w _ => laidMetH Tryd.prog Rows.diskActsRow.laid w) (fun _ _ _ hh h => h.of_heap hh) diskActs_own started (by kernel_rfl) Tryd.func4
    (ChangeSpec.witness_shaped (enc := enc) (C := Tryd.checked) (os := os) (X := fun w _ => laidMetH Tryd.prog Rows.diskActsRow.laid w) false (World.doorLaid Tryd.prog 1000 os) #[.int .i64 0, .slice none 0 0, .int .i64 0] 8 rfl (World.shaped_of_RefB (by kernel_rfl) (by kernel_rfl)) (by kernel_rfl) (by kernel_rfl) (by kernel_rfl) (diskActs_doorMet os _)) ?_
  intro W base args ds gs before hval0 hW _ _ hL _
  have hval : ∀ (j : Nat) t v, Tryd.f4.params[j]? = some t → args[j]? = some v → Value.okWide Tryd.prog W .any base t v := hval0
  have hW' := hW
  obtain ⟨p, q, hA0, hV, rfl, hfz, hnd⟩ := hW
  have hA : DataW.TrodAll enc Tryd.prog W 0 (fun _ => true) true Tryd.f4.params.toList args.toList ds p := hA0
  rw [Tryd.params4] at hA hval
  obtain ⟨v0, v1, v2, d0, d1, d2, p0, p1, p2, rfl, rfl, rfl, h0, h1, h2⟩ := trodAll_three hA
  obtain ⟨rfl, rfl⟩ := trodVars_none hV
  obtain ⟨x0, rfl, rfl, rfl, w0⟩ := open_int Tryd.underlying3 (hval 0 3 v0 rfl rfl) h0
  have b0 := bounds_i64 w0
  have hv1 := hval 1 22 v1 rfl rfl
  obtain ⟨x2, rfl, rfl, rfl, w2⟩ := open_int Tryd.underlying3 (hval 2 3 v2 rfl rfl) h2
  have b2 := bounds_i64 w2
  clear hA0 hval0
  simp only [List.append_nil] at hW'
  obtain ⟨xl, nl, cl, l, rfl, hnl, hl⟩ := open_acs h1 (okWide_slice Tryd.underlying22 hv1)
  obtain ⟨E, hE, _⟩ := errs_of_laid hL rfl rfl rfl rfl rfl rfl rfl rfl rfl rfl
  refine (acts_any x0 x2 nl cl xl l W E hE hl hnl).mono fun e W' ⟨he, hB⟩ => ?_
  exact ⟨_, he, law_post diskActs_laidOk hW' rfl rfl (by kernel_rfl) rfl Tryd.underlying4 hB⟩
theorem diskActs_holds : Rows.DiskActsSaid :=
  OpenClaim.holds_of_wide 4 Tryd.f4 rfl rfl rfl rfl rfl rfl rfl ⟨rfl, rfl, rfl, rfl, rfl⟩ rfl rfl rfl rfl rfl (by kernel_rfl) Tryd.func4 (by kernel_rfl)
    (of_decide_eq_true (by kernel_rfl)) (by unfold Func.isWrapper; rw [if_neg (of_decide_eq_false (by kernel_rfl))]; exact ⟨rfl, rfl⟩)
    (fun os started H enc _ => diskActs_lifted os started H enc)
theorem diskActs_card : Rows.DiskActsCardSaid :=
  Claim7.holds_tied_plain_at .later [] _ true _ _
    diskActs_holds (fun _ h => by cases h) (by kernel_rfl) (fun _ h => by cases h) diskActs_row_tie rfl ⟨rfl, rfl⟩ (by kernel_rfl) rfl
    (fun f fn hf hfn => by
      obtain rfl : f = 4 := Option.some.inj ((show Tryd.prog.funcNamed "layercake/layercakelaw4.DiskActs" = some 4 by kernel_rfl).symm.trans hf) |>.symm
      obtain rfl : fn = Tryd.f4 := (Option.some.inj (Tryd.func4.symm.trans hfn)).symm
      exact ⟨by kernel_rfl, fun j t ht => by
        rw [Tryd.params4] at ht
        have hm : t ∈ [3, 22, 3] := by simpa using Array.mem_of_getElem? ht
        have hall : ([3, 22, 3].all fun u => !Tryd.prog.wantsStandIn u) = true := by kernel_rfl
        exact (show Tryd.prog.wantsStandIn t = false by simpa using List.all_eq_true.1 hall t hm)⟩)
    (by kernel_rfl)
end Go.Proofs.YtheidjagcafgnaaDoor
