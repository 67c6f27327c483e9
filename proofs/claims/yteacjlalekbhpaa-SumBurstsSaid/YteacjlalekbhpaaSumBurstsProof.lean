/-
  SumBursts: for every text, every place and every number the statement SumBursts returns true. No condition.
-/
import Derived.Test.YteacjlalekbhpaaRows
import Derived.Test.YteacjlalekbhpaaBurstWalk
import Derived.Test.YteacjlalekbhpaaLaw
namespace Go.Proofs.Yteacjlalekbhpaa
open Go.ChangeShapes Go.WideShapes Go.ChangeAt Go.RowKit
open Go.WideMaps Go.WideElems
open Go.ChangeMaps (open_string shut_string)
theorem sumBursts_laidOk : laidOutB Try.prog = true := by kernel_rfl
theorem sumBursts_own : ownKnob Try.prog.godebug = none := by kernel_rfl
set_option maxRecDepth 100000 in
theorem sumBursts_lifted (os : Os) (started : os.Started) (H : Type) (enc : TypeId × Value → H) :
    ReturnsInHanded {} Try.checked os 4 .any (Rows.sumBurstsSpec.pre6 enc Try.prog Try.f4 Rows.sumBurstsRow.domain false) (Rows.sumBurstsSpec.post enc Try.prog Try.f4 false true false false) := by
  refine returnsInHanded_of_change (C := Try.checked) sumBursts_own started (by kernel_rfl) Try.func4
    (ChangeSpec.witness6 (enc := enc) (C := Try.checked) false ⟨#[], #[.string ByteArray.empty, .int .i64 0, .int .u32 0], []⟩ 8 (by kernel_rfl) (by kernel_rfl) (by kernel_rfl) (by kernel_rfl)) ?_
  intro W base args ds gs before hval0 hW hcnd _
  have hval : ∀ (j : Nat) t v, Try.f4.params[j]? = some t → args[j]? = some v → Value.okWide Try.prog W .any base t v := hval0
  have hW' := hW
  obtain ⟨p, q, hA0, hV, rfl, hfz, hnd⟩ := hW
  have hA : DataW.TrodAll enc Try.prog W 0 (fun _ => true) true Try.f4.params.toList args.toList ds p := hA0
  rw [Try.params4] at hA hval
  obtain ⟨v0, v1, v2, d0, d1, d2, p0, p1, p2, rfl, rfl, rfl, h0, h1, h2⟩ := trodAll_three hA
  obtain ⟨rfl, rfl⟩ := trodVars_none hV
  obtain ⟨x0, rfl, rfl, rfl, w0⟩ := open_string Try.underlying9 (hval 0 9 v0 rfl rfl) h0
  obtain ⟨x1, rfl, rfl, rfl, w1⟩ := open_int Try.underlying3 (hval 1 3 v1 rfl rfl) h1
  have b1 := bounds_i64 w1
  obtain ⟨x2, rfl, rfl, rfl, w2⟩ := open_int Try.underlying22 (hval 2 22 v2 rfl rfl) h2
  have b2 := bounds_u32 w2
  clear hA0 hval0
  simp only [List.append_nil] at hW'
  have hfin : Calls Try.prog 4 #[.string x0, .int .i64 x1, .int .u32 x2] W fun e w' => e = .returned (.bool true) ∧ Ext W w' := by
    obtain ⟨t, rfl⟩ := Int.eq_ofNat_of_zero_le b2.1
    by_cases h : 2000 < x0.size ∨ t = 0 ∨ x1 < 0 ∨ (8 : Int) * x0.size ≤ x1
    · exact bursts_out x0 x1 t W (by omega) w0 b1 h
    · obtain ⟨a, rfl⟩ := Int.eq_ofNat_of_zero_le (show 0 ≤ x1 by omega)
      exact bursts_in x0 a t W (by omega) (by omega) (by omega) (by omega)
  refine hfin.mono fun e W' ⟨he, hB⟩ => ?_
  exact ⟨_, he, law_post sumBursts_laidOk hW' rfl rfl (by kernel_rfl) rfl Try.underlying4 hB⟩
theorem sumBursts_holds : Rows.SumBurstsSaid :=
  OpenClaim.holds_of_wide 4 Try.f4 rfl rfl rfl rfl rfl rfl rfl ⟨rfl, rfl, rfl, rfl, rfl⟩ rfl rfl rfl rfl rfl (by kernel_rfl) Try.func4 (by kernel_rfl)
    (of_decide_eq_true (by kernel_rfl)) (by unfold Func.isWrapper; rw [if_neg (of_decide_eq_false (by kernel_rfl))]; exact ⟨rfl, rfl⟩)
    (fun os started H enc _ => sumBursts_lifted os started H enc)
end Go.Proofs.Yteacjlalekbhpaa
