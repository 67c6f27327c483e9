/-
  DiskKeeps: for every number of sectors, all acts ahead of a flush and behind it, and whatever is kept the statement returns true. No condition beside the tied variables.
-/
import Derived.Test.YtheidjagcafgnaaDoorRows
import Derived.Test.YtheidjagcafgnaaDoorDiskKeepsG3
import Derived.Test.YtheidjagcafgnaaDoorDiskKeepsG4
import Derived.Test.YtheidjagcafgnaaDoorCards
import Derived.Test.YtheidjagcafgnaaDoorTie
import Derived.SevenTiedAt
import Derived.LaidMore
import Derived.Stop.Joined
namespace Go.Proofs.YtheidjagcafgnaaDoor
open Go.ChangeShapes Go.WideShapes Go.ChangeAt Go.RowKit
open Go.WideMaps Go.WideElems
open Go.ChangeMaps (open_string shut_string)
theorem diskKeeps_laidOk : laidOutB Tryd.prog = true := by kernel_rfl
theorem diskKeeps_own : ownKnob Tryd.prog.godebug = none := by kernel_rfl
theorem diskKeeps_doorMet (os : Os) (args : Array Value) : laidMetH Tryd.prog Rows.diskKeepsRow.laid ((World.doorLaid Tryd.prog 1000 os).forCall (fun _ _ => 0) ⟨#[], args, []⟩).memory :=
  laidMetH_of_parts3 (fuel := 8) (laidMet_of_run' 8 (by kernel_rfl) (by kernel_rfl)) (by kernel_rfl) (by kernel_rfl)
set_option maxRecDepth 100000 in
theorem diskKeeps_lifted (os : Os) (started : os.Started) (H : Type) (enc : TypeId × Value → H) :
    ReturnsInHanded {} Tryd.checked os 3 .any (fun w args => (Rows.diskKeepsSpec.pre enc Tryd.prog Tryd.f3 [] false w args ∧ laidMetH Tryd.prog Rows.diskKeepsRow.laid w) ∧ sizedMet enc Tryd.prog Tryd.f3 (OpenSpec.ofChange Rows.diskKeepsSpec) false w args)
      (Rows.diskKeepsSpec.post enc Tryd.prog Tryd.f3 false true false false) := by
  refine returnsInHanded_of_change_and (C := Tryd.checked) (X := fun w _ => laidMetH Tryd.prog Rows.diskKeepsRow.laid w) (fun _ _ _ hh h => h.of_heap hh) diskKeeps_own started (by kernel_rfl) Tryd.func3
    (ChangeSpec.witness_shaped (enc := enc) (C := Tryd.checked) (os := os) (X := fun w _ => laidMetH Tryd.prog Rows.diskKeepsRow.laid w) false (World.doorLaid Tryd.prog 1000 os) #[.int .i64 0, .slice none 0 0, .slice none 0 0, .slice none 0 0] 8 rfl (World.shaped_of_RefB (by kernel_rfl) (by kernel_rfl)) (by kernel_rfl) (by kernel_rfl) (by kernel_rfl) (diskKeeps_doorMet os _)) ?_
  intro W base args ds gs before hval0 hW _ _ hL _
  have hval : ∀ (j : Nat) t v, Tryd.f3.params[j]? = some t → args[j]? = some v → Value.okWide Tryd.prog W .any base t v := hval0
  have hW' := hW
  obtain ⟨p, q, hA0, hV, rfl, hfz, hnd⟩ := hW
  have hA : DataW.TrodAll enc Tryd.prog W 0 (fun _ => true) true Tryd.f3.params.toList args.toList ds p := hA0
  rw [Tryd.params3] at hA hval
  obtain ⟨v0, vs0, d0, ds0, p0, q0, hargs, rfl, rfl, h0, rest0⟩ := trodAll_cons hA
  obtain ⟨v1, vs1, d1, ds1, p1, q1, rfl, rfl, rfl, h1, rest1⟩ := trodAll_cons rest0
  obtain ⟨v2, vs2, d2, ds2, p2, q2, rfl, rfl, rfl, h2, rest2⟩ := trodAll_cons rest1
  obtain ⟨v3, vs3, d3, ds3, p3, q3, rfl, rfl, rfl, h3, rest3⟩ := trodAll_cons rest2
  obtain ⟨rfl, rfl, rfl⟩ := trodAll_nil rest3
  obtain ⟨args⟩ := args
  simp only at hargs
  subst hargs
  obtain ⟨rfl, rfl⟩ := trodVars_none hV
  obtain ⟨x0, rfl, rfl, rfl, w0⟩ := open_int Tryd.underlying3 (hval 0 3 v0 rfl rfl) h0
  have b0 := bounds_i64 w0
  have hv1 := hval 1 22 v1 rfl rfl
  have hv2 := hval 2 22 v2 rfl rfl
  have hv3 := hval 3 23 v3 rfl rfl
  clear hA0 hval0
  simp only [List.append_nil] at hW'
  obtain ⟨xl, nl, cl, l, rfl, hnl, hl⟩ := open_acs h1 (okWide_slice Tryd.underlying22 hv1)
  obtain ⟨xm, nm, cm, mo, rfl, hnm, hm⟩ := open_acs h2 (okWide_slice Tryd.underlying22 hv2)
  obtain ⟨kx, kn, kc, kb, rfl, hkn, hk⟩ := open_kp h3 (okWide_slice Tryd.underlying23 hv3)
  obtain ⟨E, hE⟩ := erD_of_laid hL rfl rfl rfl
  refine (keeps_any x0 nl cl nm cm kn kc xl xm kx l mo kb W E hE hl hm hk hnl hnm hkn).mono fun e W' ⟨he, hB⟩ => ?_
  exact ⟨_, he, law_post diskKeeps_laidOk hW' rfl rfl (by kernel_rfl) rfl Tryd.underlying4 hB⟩
theorem diskKeeps_holds : Rows.DiskKeepsSaid :=
  OpenClaim.holds_of_wide 3 Tryd.f3 rfl rfl rfl rfl rfl rfl rfl ⟨rfl, rfl, rfl, rfl, rfl⟩ rfl rfl rfl rfl rfl (by kernel_rfl) Tryd.func3 (by kernel_rfl)
    (of_decide_eq_true (by kernel_rfl)) (by unfold Func.isWrapper; rw [if_neg (of_decide_eq_false (by kernel_rfl))]; exact ⟨rfl, rfl⟩)
    (fun os started H enc _ => diskKeeps_lifted os started H enc)
theorem diskKeeps_card : Rows.DiskKeepsCardSaid :=
  Claim7.holds_tied_plain_at .later [] _ true _ _
    diskKeeps_holds (fun _ h => by cases h) (by kernel_rfl) (fun _ h => by cases h) diskKeeps_row_tie rfl ⟨rfl, rfl⟩ (by kernel_rfl) rfl
    (fun f fn hf hfn => by
      obtain rfl : f = 3 := Option.some.inj ((show Tryd.prog.funcNamed "layercake/layercakelaw4.DiskKeeps" = some 3 by kernel_rfl).symm.trans hf) |>.symm
      obtain rfl : fn = Tryd.f3 := (Option.some.inj (Tryd.func3.symm.trans hfn)).symm
      exact ⟨by kernel_rfl, fun j t ht => by
        rw [Tryd.params3] at ht
        have hm : t ∈ [3, 22, 22, 23] := by simpa using Array.mem_of_getElem? ht
        have hall : ([3, 22, 22, 23].all fun u => !Tryd.prog.wantsStandIn u) = true := by kernel_rfl
        exact (show Tryd.prog.wantsStandIn t = false by simpa using List.all_eq_true.1 hall t hm)⟩)
    (by kernel_rfl)
end Go.Proofs.YtheidjagcafgnaaDoor
