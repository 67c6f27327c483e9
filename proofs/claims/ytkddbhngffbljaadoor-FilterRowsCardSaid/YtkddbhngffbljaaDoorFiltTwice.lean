/- FilterTwice: what is done is undone, and what is undone can be done. -/
import Derived.Test.YtkddbhngffbljaaDoorUndo
import Derived.Test.YtkddbhngffbljaaDoorApart
namespace Go.Proofs.YtkddbhngffbljaaDoor
open Go.RowKit
set_option maxRecDepth 100000
theorem less_any (w : World) (hS : Sents w) : Calls Tryd.prog 44 #[] w fun e w' => e = .returned (.bool true) ∧ Ext w w' := by
  obtain ⟨⟨E1, e1⟩, ⟨E2, e2⟩⟩ := hS
  have H := Lib.hid (bigDo_calls 1 ⟨#[3, 5]⟩ ⟨#[]⟩ 1 w (by decide) (by decide) (by decide) ⟨by decide, by decide, by decide, by decide⟩ (.inl rfl) _ _ e1 e2)
  have HD := Lib.hid (show doS 1 ⟨#[3, 5]⟩ ⟨#[]⟩ 1 = ⟨#[3, 2]⟩ by decide +kernel)
  go_enter Tryd.func44, Tryd.ntmps44
  go_wp2_with fail
  refine H.out.mono ?_
  rintro e w2 ⟨rfl, hE⟩
  rw [HD.out]
  have HE := Lib.hid hE
  clear hE
  go_wp2_with fail
  go_ret
  exact ⟨rfl, HE.out⟩
theorem ft_out (k : Int) (row ahead : ByteArray) (step : Int) (w : World) (hS : Sents w) (h : 300 < row.size ∨ 300 < ahead.size) (hr : row.size ≤ maxLen) (ha : ahead.size ≤ maxLen) :
    Calls Tryd.prog 12 #[.int .i64 k, .string row, .string ahead, .int .i64 step] w fun e w' => e = .returned (.bool true) ∧ Ext w w' := by
  unfold maxLen at hr ha
  by_cases h1 : 300 < row.size
  · clear h
    go_enter Tryd.func12, Tryd.ntmps12
    go_wp2_with fail
    refine (less_any _ hS).mono ?_
    rintro e w2 ⟨rfl, h2⟩
    go_wp2_with fail
    go_ret
    exact ⟨rfl, h2⟩
  · have h3 : 300 < ahead.size := by omega
    clear h
    go_enter Tryd.func12, Tryd.ntmps12
    go_wp2_with fail
    refine (less_any _ hS).mono ?_
    rintro e w2 ⟨rfl, h2⟩
    go_wp2_with fail
    go_ret
    exact ⟨rfl, h2⟩
theorem ft_bad (k : Int) (row ahead : ByteArray) (step : Int) (w : World) (hS : Sents w) (hr : row.size ≤ 300) (ha : ahead.size ≤ 300) (h1 : -9223372036854775808 ≤ k) (h2 : k ≤ 9223372036854775807) (h3 : -9223372036854775808 ≤ step) (h4 : step ≤ 9223372036854775807) (hc : ¬ (check k step ∧ check2 row ahead)) :
    Calls Tryd.prog 12 #[.int .i64 k, .string row, .string ahead, .int .i64 step] w fun e w' => e = .returned (.bool true) ∧ Ext w w' := by
  have HC := Lib.hid hc
  clear hc
  go_enter Tryd.func12, Tryd.ntmps12
  go_wp2_with fail
  refine (less_any _ hS).mono ?_
  rintro e w2 ⟨rfl, hE⟩
  obtain ⟨⟨E1, e1⟩, ⟨E2, e2⟩⟩ := hS.ext hE
  have HE1 := Lib.hid e1
  have HE2 := Lib.hid e2
  have HE := Lib.hid hE
  clear e1 e2 hE
  go_wp2_with fail
  refine (badDo_calls k row ahead step _ h1 h2 h3 h4 HC.out _ _ HE1.out HE2.out).mono ?_
  rintro e w3 ⟨E, _, rfl, rfl⟩
  go_wp2_with fail
  refine (badUndo_calls k row ahead step _ h1 h2 h3 h4 HC.out _ _ HE1.out HE2.out).mono ?_
  rintro e w3 ⟨E', _, rfl, rfl⟩
  go_wp2_with fail
  go_ret
  exact ⟨rfl, HE.out⟩
theorem ft_good (k : Int) (row ahead : ByteArray) (step : Nat) (w : World) (hS : Sents w) (hr : row.size ≤ 300) (ha : ahead.size ≤ 300) (h1 : -9223372036854775808 ≤ k) (h2 : k ≤ 9223372036854775807) (hc : check k (step : Int)) (hc2 : check2 row ahead) :
    Calls Tryd.prog 12 #[.int .i64 k, .string row, .string ahead, .int .i64 (step : Int)] w fun e w' => e = .returned (.bool true) ∧ Ext w w' := by
  have HC := Lib.hid hc
  have HC2 := Lib.hid hc2
  have HC3 : Hid (check2 (doS k row ahead step) ahead) := Lib.hid (by unfold check2; rw [doS_size]; exact hc2)
  have HC4 : Hid (check2 (undoS k row ahead step) ahead) := Lib.hid (by unfold check2; rw [undoS_size]; exact hc2)
  have HL1 := Lib.hid (undoS_doS k row ahead step (by have := hc.2.2.1; omega))
  have HL2 := Lib.hid (doS_undoS k row ahead step (by have := hc.2.2.1; omega))
  have hz1 := doS_size k row ahead step
  have hz2 := undoS_size k row ahead step
  have HZ1 := Lib.hid hz1
  have HZ2 := Lib.hid hz2
  clear hc hc2 hz1 hz2
  go_enter Tryd.func12, Tryd.ntmps12
  go_wp2_with fail
  refine (less_any _ hS).mono ?_
  rintro e w2 ⟨rfl, hE⟩
  have HS2 := Lib.hid (hS.ext hE)
  have HE := Lib.hid hE
  clear hE
  go_wp2_with fail
  obtain ⟨⟨E1, e1⟩, ⟨E2, e2⟩⟩ := HS2.out
  refine (bigDo_calls k row ahead step w2 h1 h2 (by omega) HC.out HC2.out _ _ e1 e2).mono ?_
  rintro e w3 ⟨rfl, hE⟩
  have HS3 := Lib.hid (HS2.out.ext hE)
  have HE3 := Lib.hid (HE.out.trans hE)
  clear hE e1 e2
  go_wp2_with fail
  obtain ⟨⟨E1, e1⟩, ⟨E2, e2⟩⟩ := HS3.out
  refine (bigUndo_calls k row ahead step w3 h1 h2 (by omega) HC.out HC2.out _ _ e1 e2).mono ?_
  rintro e w4 ⟨rfl, hE⟩
  have HS4 := Lib.hid (HS3.out.ext hE)
  have HE4 := Lib.hid (HE3.out.trans hE)
  clear hE e1 e2
  go_wp2_with fail
  obtain ⟨⟨E1, e1⟩, ⟨E2, e2⟩⟩ := HS4.out
  refine (bigUndo_calls k (doS k row ahead step) ahead step w4 h1 h2 (by rw [HZ1.out]; omega) HC.out HC3.out _ _ e1 e2).mono ?_
  rintro e w5 ⟨rfl, hE⟩
  rw [HL1.out]
  have HS5 := Lib.hid (HS4.out.ext hE)
  have HE5 := Lib.hid (HE4.out.trans hE)
  clear hE e1 e2
  go_wp2_with fail
  obtain ⟨⟨E1, e1⟩, ⟨E2, e2⟩⟩ := HS5.out
  refine (bigDo_calls k (undoS k row ahead step) ahead step w5 h1 h2 (by rw [HZ2.out]; omega) HC.out HC4.out _ _ e1 e2).mono ?_
  rintro e w6 ⟨rfl, hE⟩
  rw [HL2.out]
  have HE6 := Lib.hid (HE5.out.trans hE)
  clear hE e1 e2
  go_wp2_with fail
  go_ret
  exact ⟨rfl, HE6.out⟩
theorem ft_any (k : Int) (row ahead : ByteArray) (step : Int) (w : World) (hS : Sents w) (hr : row.size ≤ maxLen) (ha : ahead.size ≤ maxLen) (h1 : -9223372036854775808 ≤ k ∧ k ≤ 9223372036854775807) (h3 : -9223372036854775808 ≤ step ∧ step ≤ 9223372036854775807) :
    Calls Tryd.prog 12 #[.int .i64 k, .string row, .string ahead, .int .i64 step] w fun e w' => e = .returned (.bool true) ∧ Ext w w' := by
  by_cases h : 300 < row.size ∨ 300 < ahead.size
  · exact ft_out k row ahead step w hS h hr ha
  · by_cases hc : check k step ∧ check2 row ahead
    · obtain ⟨s, rfl⟩ : ∃ s : Nat, step = s := ⟨step.toNat, by have := hc.1.2.2.1; omega⟩
      exact ft_good k row ahead s w hS (by omega) (by omega) h1.1 h1.2 hc.1 hc.2
    · exact ft_bad k row ahead step w hS (by omega) (by omega) h1.1 h1.2 h3.1 h3.2 hc
end Go.Proofs.YtkddbhngffbljaaDoor
