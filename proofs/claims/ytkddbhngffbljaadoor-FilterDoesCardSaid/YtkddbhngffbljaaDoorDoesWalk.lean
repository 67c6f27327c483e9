/- FilterDoes's walk. -/
import Derived.Test.YtkddbhngffbljaaDoorBest
import Derived.Test.YtkddbhngffbljaaDoorFiltTwice
import Derived.Test.YtkddbhngffbljaaDoorCoded1
namespace Go.Proofs.YtkddbhngffbljaaDoor
open Go.RowKit
set_option maxRecDepth 100000
theorem Errs.sents {w : World} {E : Nat → Addr} (h : Errs w E) : Sents w := by
  have h1 := h.var 1 (by decide)
  have h2 := h.var 2 (by decide)
  simp only [gk, sentV] at h1 h2
  exact ⟨⟨_, h1⟩, ⟨_, h2⟩⟩
theorem Errs.b {w : World} {E : Nat → Addr} (h : Errs w E) : w.cell? ⟨1, 0, none⟩ = some (.iface 101 (.pointer (some (E 1)))) := h.var 1 (by decide)
theorem Errs.s {w : World} {E : Nat → Addr} (h : Errs w E) : w.cell? ⟨2, 0, none⟩ = some (.iface 101 (.pointer (some (E 2)))) := h.var 2 (by decide)
/-- Do, Undo, where they cannot: which error -/
theorem do_err (k : Int) (row ahead : ByteArray) (step : Int) (w : World) (E : Nat → Addr) (hE : Errs w E) (h1 : -9223372036854775808 ≤ k) (h2 : k ≤ 9223372036854775807) (h3 : -9223372036854775808 ≤ step) (h4 : step ≤ 9223372036854775807) (hc : ¬ (check k step ∧ check2 row ahead)) :
    Calls Tryd.prog 45 #[.int .i64 k, .string row, .string ahead, .int .i64 step] w fun e w' => (∃ j, (j = 1 ∧ ¬ check k step ∨ j = 2 ∧ check k step) ∧ e = .returned (.tuple #[.string ⟨#[]⟩, sentV (E j)])) ∧ w = w' := by
  refine (badDo_calls k row ahead step w h1 h2 h3 h4 hc _ _ hE.b hE.s).mono ?_
  rintro e w' ⟨F, q | q, rfl, rfl⟩
  · exact ⟨⟨1, .inl ⟨rfl, q.2⟩, by rw [q.1]; rfl⟩, rfl⟩
  · exact ⟨⟨2, .inr ⟨rfl, q.2⟩, by rw [q.1]; rfl⟩, rfl⟩
theorem undo_err (k : Int) (row ahead : ByteArray) (step : Int) (w : World) (E : Nat → Addr) (hE : Errs w E) (h1 : -9223372036854775808 ≤ k) (h2 : k ≤ 9223372036854775807) (h3 : -9223372036854775808 ≤ step) (h4 : step ≤ 9223372036854775807) (hc : ¬ (check k step ∧ check2 row ahead)) :
    Calls Tryd.prog 46 #[.int .i64 k, .string row, .string ahead, .int .i64 step] w fun e w' => (∃ j, (j = 1 ∧ ¬ check k step ∨ j = 2 ∧ check k step) ∧ e = .returned (.tuple #[.string ⟨#[]⟩, sentV (E j)])) ∧ w = w' := by
  refine (badUndo_calls k row ahead step w h1 h2 h3 h4 hc _ _ hE.b hE.s).mono ?_
  rintro e w' ⟨F, q | q, rfl, rfl⟩
  · exact ⟨⟨1, .inl ⟨rfl, q.2⟩, by rw [q.1]; rfl⟩, rfl⟩
  · exact ⟨⟨2, .inr ⟨rfl, q.2⟩, by rw [q.1]; rfl⟩, rfl⟩
theorem does_out (k : Int) (row ahead : ByteArray) (step : Int) (w : World) (E : Nat → Addr) (hS : Errs w E) (h : 300 < row.size ∨ 300 < ahead.size) (hr : row.size ≤ maxLen) (ha : ahead.size ≤ maxLen) :
    Calls Tryd.prog 13 #[.int .i64 k, .string row, .string ahead, .int .i64 step] w fun e w' => e = .returned (.bool true) ∧ Ext w w' := by
  unfold maxLen at hr ha
  by_cases h1 : 300 < row.size
  · clear h
    go_enter Tryd.func13, Tryd.ntmps13
    go_wp2_with fail
    refine (less_any _ hS.sents).mono ?_
    rintro e w2 ⟨rfl, h2⟩
    go_wp2_with fail
    go_ret
    exact ⟨rfl, h2⟩
  · have h3 : 300 < ahead.size := by omega
    clear h
    go_enter Tryd.func13, Tryd.ntmps13
    go_wp2_with fail
    refine (less_any _ hS.sents).mono ?_
    rintro e w2 ⟨rfl, h2⟩
    go_wp2_with fail
    go_ret
    exact ⟨rfl, h2⟩
set_option maxHeartbeats 4000000 in
theorem does_good (k : Int) (row ahead : ByteArray) (step : Nat) (w : World) (E : Nat → Addr) (hS : Errs w E) (hr : row.size ≤ 300) (ha : ahead.size ≤ 300) (hc : check k (step : Int)) (hc2 : check2 row ahead) :
    Calls Tryd.prog 13 #[.int .i64 k, .string row, .string ahead, .int .i64 (step : Int)] w fun e w' => e = .returned (.bool true) ∧ Ext w w' := by
  have HS := Lib.hid hS
  have HC := Lib.hid hc
  have HC2 := Lib.hid hc2
  obtain ⟨k1, k2, s1, s2⟩ := hc
  have e1 := isEmpty_iff ahead
  have tz : (ahead.toList.isEmpty = true) ∨ (ahead.toList.isEmpty = false ∧ ((ahead.size : Int) != (row.size : Int)) = false) := by
    rcases hc2 with q | q
    · left; rw [e1]; simpa using q
    · rcases Nat.eq_zero_or_pos ahead.size with q0 | q0
      · left; rw [e1]; simpa using q0
      · right; refine ⟨by rw [e1, decide_eq_false (by omega)], by rw [q]; simp⟩
  have TZ := Lib.hid tz
  clear hS hc2 e1 tz
  go_enter Tryd.func13, Tryd.ntmps13
  go_wp2_with fail
  refine (less_any _ HS.out.sents).mono ?_
  rintro e w2 ⟨rfl, hE⟩
  have X2 := Lib.hid hE
  clear hE
  go_wp2_with fail
  refine (bigDo_calls k row ahead step _ (by omega) (by omega) (by omega) HC.out HC2.out _ _ (HS.out.ext X2.out).b (HS.out.ext X2.out).s).mono ?_
  rintro e w3 ⟨rfl, hE⟩
  have X3 := Lib.hid (X2.out.trans hE)
  clear hE
  go_wp2_with fail
  refine (bigUndo_calls k row ahead step _ (by omega) (by omega) (by omega) HC.out HC2.out _ _ (HS.out.ext X3.out).b (HS.out.ext X3.out).s).mono ?_
  rintro e w4 ⟨rfl, hE⟩
  have X4 := Lib.hid (X3.out.trans hE)
  clear hE
  go_wp2_with fail
  refine (best_good row ahead step _ E (HS.out.ext X4.out) (by omega) ⟨by omega, by omega⟩ HC2.out).mono ?_
  rintro e w5 ⟨rfl, hE⟩
  have X5 := Lib.hid (X4.out.trans hE)
  clear hE
  rcases TZ.out with tz | ⟨tz, tz2⟩
  all_goals
    go_wp2_with fail
    refine (coded_any _ E (HS.out.ext X5.out) _ _ _ 0 .nil).mono ?_
    rintro e w6 ⟨he, hE⟩
    obtain rfl : e = .returned (.bool true) := by rw [he]; exact ret_bool (by simp)
    have X6 := Lib.hid (X5.out.trans hE)
    clear he hE
    go_wp2_with fail
    refine (bestOf_any row ahead step _ (by omega) (by omega)).mono ?_
    rintro e w7 ⟨rfl, hE⟩
    have X7 := Lib.hid (X6.out.trans hE)
    clear hE
    go_wp2_with fail
    refine (rowOf_any k row ahead step _ (by omega) (by omega) (by omega) (by omega)).mono ?_
    rintro e w8 ⟨rfl, hE⟩
    have X8 := Lib.hid (X7.out.trans hE)
    clear hE
    go_wp2_with fail
    refine (unrowOf_any k row ahead step _ (by omega) (by omega) (by omega) (by omega)).mono ?_
    rintro e w9 ⟨rfl, hE⟩
    have X9 := Lib.hid (X8.out.trans hE)
    clear hE
    go_wp2_with fail
    go_ret
    exact ⟨rfl, X9.out⟩
set_option maxHeartbeats 8000000 in
theorem does_step (k : Int) (row ahead : ByteArray) (step : Int) (w : World) (E : Nat → Addr) (hS : Errs w E) (hr : row.size ≤ 300) (ha : ahead.size ≤ 300) (h1 : -9223372036854775808 ≤ k) (h2 : k ≤ 9223372036854775807) (h3 : -9223372036854775808 ≤ step) (h4 : step ≤ 9223372036854775807) (hst : step < 1 ∨ 8 < step) :
    Calls Tryd.prog 13 #[.int .i64 k, .string row, .string ahead, .int .i64 step] w fun e w' => e = .returned (.bool true) ∧ Ext w w' := by
  have HS := Lib.hid hS
  have HK := Lib.hid (show ¬ check k step from fun h => by have := h.2.2; omega)
  have HN := Lib.hid (show ¬ (check k step ∧ check2 row ahead) from fun h => HK.out h.1)
  have HK0 := Lib.hid (show ¬ check 0 step from fun h => by have := h.2.2; omega)
  have HNB := Lib.hid (show ¬ (check 0 step ∧ check2 row ahead) from fun h => HK0.out h.1)
  have HST := Lib.hid hst
  have HKC : Hid (k < 0 ∨ (0 ≤ k ∧ 4 < k) ∨ (0 ≤ k ∧ k ≤ 4)) := Lib.hid (by omega)
  clear hst
  have e1 := isEmpty_iff ahead
  have TZ : Hid (ahead.toList.isEmpty = true ∨ (ahead.toList.isEmpty = false ∧ ((ahead.size : Int) != (row.size : Int)) = false) ∨ (ahead.toList.isEmpty = false ∧ ((ahead.size : Int) != (row.size : Int)) = true)) := Lib.hid (by
    rw [e1]
    by_cases q : ahead.size = 0
    · left; simpa using q
    · right
      by_cases q2 : ahead.size = row.size
      · left; exact ⟨decide_eq_false q, by rw [q2]; simp⟩
      · right; exact ⟨decide_eq_false q, by rw [bne_iff_ne]; omega⟩)
  clear e1
  clear hS
  go_enter Tryd.func13, Tryd.ntmps13
  go_wp2_with fail
  refine (less_any _ HS.out.sents).mono ?_
  rintro e w2 ⟨rfl, hE⟩
  have X2 := Lib.hid hE
  clear hE
  go_wp2_with fail
  refine (do_err k row ahead step _ E (HS.out.ext X2.out) h1 h2 h3 h4 HN.out).mono ?_
  rintro e w3 ⟨⟨j, hj, rfl⟩, rfl⟩
  obtain rfl : j = 1 := by rcases hj with q | q; exact q.1; exact absurd q.2 HK.out
  clear hj
  go_wp2_with fail
  refine (undo_err k row ahead step _ E (HS.out.ext X2.out) h1 h2 h3 h4 HN.out).mono ?_
  rintro e w3 ⟨⟨j, hj, rfl⟩, rfl⟩
  obtain rfl : j = 1 := by rcases hj with q | q; exact q.1; exact absurd q.2 HK.out
  clear hj
  go_wp2_with fail
  refine (best_bad row ahead step _ E (HS.out.ext X2.out) h3 h4 HNB.out).mono ?_
  rintro e w3 ⟨⟨j, hj, rfl⟩, rfl⟩
  obtain rfl : j = 1 := by rcases hj with q | q; exact q.1; exact absurd q.2 HK0.out
  clear hj
  have X3 := X2
  rcases TZ.out with tz | ⟨tz, tz2⟩ | ⟨tz, tz2⟩ <;> rcases HST.out with st | st <;> rcases HKC.out with kk | ⟨kk, kk2⟩ | ⟨kk, kk2⟩
  all_goals
    go_wp2_with fail
    refine (coded_any _ E (HS.out.ext X3.out) _ _ _ 2 (.sent 1 (by decide))).mono ?_
    rintro e w6 ⟨he, hE⟩
    obtain rfl : e = .returned (.bool true) := by rw [he]; exact ret_bool (by simp)
    have X6 := Lib.hid (X3.out.trans hE)
    clear he hE
    go_wp2_with fail
    have X7 := X6
    refine (coded_any _ E (HS.out.ext X7.out) _ 2 (-1) 2 (.sent 1 (by decide))).mono ?_
    rintro e w8 ⟨he, hE⟩
    obtain rfl : e = .returned (.bool true) := by rw [he]; exact ret_bool (by simp)
    have X8 := Lib.hid (X7.out.trans hE)
    clear he hE
    go_wp2_with fail
    refine (coded_any _ E (HS.out.ext X8.out) _ 2 (-1) 2 (.sent 1 (by decide))).mono ?_
    rintro e w9 ⟨he, hE⟩
    obtain rfl : e = .returned (.bool true) := by rw [he]; exact ret_bool (by simp)
    have X9 := Lib.hid (X8.out.trans hE)
    clear he hE
    go_wp2_with fail
    go_ret
    exact ⟨rfl, X9.out⟩
set_option maxHeartbeats 8000000 in
theorem does_shape (k : Int) (row ahead : ByteArray) (step : Int) (w : World) (E : Nat → Addr) (hS : Errs w E) (hr : row.size ≤ 300) (ha : ahead.size ≤ 300) (h1 : -9223372036854775808 ≤ k) (h2 : k ≤ 9223372036854775807) (h3 : -9223372036854775808 ≤ step) (h4 : step ≤ 9223372036854775807) (hst : 1 ≤ step ∧ step ≤ 8) (hk : 0 ≤ k ∧ k ≤ 4) (hc2 : ¬ check2 row ahead) :
    Calls Tryd.prog 13 #[.int .i64 k, .string row, .string ahead, .int .i64 step] w fun e w' => e = .returned (.bool true) ∧ Ext w w' := by
  have HS := Lib.hid hS
  have HK := Lib.hid (show check k step from ⟨hk.1, hk.2, hst.1, hst.2⟩)
  have HN := Lib.hid (show ¬ (check k step ∧ check2 row ahead) from fun h => hc2 h.2)
  have HK0 := Lib.hid (show check 0 step from ⟨by omega, by omega, hst.1, hst.2⟩)
  have HNB := Lib.hid (show ¬ (check 0 step ∧ check2 row ahead) from fun h => hc2 h.2)
  obtain ⟨st1, st2⟩ := hst
  obtain ⟨k1, k2⟩ := hk
  have e1 := isEmpty_iff ahead
  have tz : ahead.toList.isEmpty = false := by rw [e1]; exact decide_eq_false (fun q => hc2 (.inl q))
  have tz2 : ((ahead.size : Int) != (row.size : Int)) = true := by rw [bne_iff_ne]; intro q; exact hc2 (.inr (by omega))
  clear e1 hc2
  clear hS
  go_enter Tryd.func13, Tryd.ntmps13
  go_wp2_with fail
  refine (less_any _ HS.out.sents).mono ?_
  rintro e w2 ⟨rfl, hE⟩
  have X2 := Lib.hid hE
  clear hE
  go_wp2_with fail
  refine (do_err k row ahead step _ E (HS.out.ext X2.out) h1 h2 h3 h4 HN.out).mono ?_
  rintro e w3 ⟨⟨j, hj, rfl⟩, rfl⟩
  obtain rfl : j = 2 := by rcases hj with q | q; exact absurd HK.out q.2; exact q.1
  clear hj
  go_wp2_with fail
  refine (undo_err k row ahead step _ E (HS.out.ext X2.out) h1 h2 h3 h4 HN.out).mono ?_
  rintro e w3 ⟨⟨j, hj, rfl⟩, rfl⟩
  obtain rfl : j = 2 := by rcases hj with q | q; exact absurd HK.out q.2; exact q.1
  clear hj
  go_wp2_with fail
  refine (best_bad row ahead step _ E (HS.out.ext X2.out) h3 h4 HNB.out).mono ?_
  rintro e w3 ⟨⟨j, hj, rfl⟩, rfl⟩
  obtain rfl : j = 2 := by rcases hj with q | q; exact absurd HK0.out q.2; exact q.1
  clear hj
  have X3 := X2
  skip
  all_goals
    go_wp2_with fail
    refine (coded_any _ E (HS.out.ext X3.out) _ _ _ 3 (.sent 2 (by decide))).mono ?_
    rintro e w6 ⟨he, hE⟩
    obtain rfl : e = .returned (.bool true) := by rw [he]; exact ret_bool (by simp)
    have X6 := Lib.hid (X3.out.trans hE)
    clear he hE
    go_wp2_with fail
    have X7 := X6
    refine (coded_any _ E (HS.out.ext X7.out) _ 3 (-1) 3 (.sent 2 (by decide))).mono ?_
    rintro e w8 ⟨he, hE⟩
    obtain rfl : e = .returned (.bool true) := by rw [he]; exact ret_bool (by simp)
    have X8 := Lib.hid (X7.out.trans hE)
    clear he hE
    go_wp2_with fail
    refine (coded_any _ E (HS.out.ext X8.out) _ 3 (-1) 3 (.sent 2 (by decide))).mono ?_
    rintro e w9 ⟨he, hE⟩
    obtain rfl : e = .returned (.bool true) := by rw [he]; exact ret_bool (by simp)
    have X9 := Lib.hid (X8.out.trans hE)
    clear he hE
    go_wp2_with fail
    go_ret
    exact ⟨rfl, X9.out⟩
set_option maxHeartbeats 8000000 in
theorem does_both (k : Int) (row ahead : ByteArray) (step : Int) (w : World) (E : Nat → Addr) (hS : Errs w E) (hr : row.size ≤ 300) (ha : ahead.size ≤ 300) (h1 : -9223372036854775808 ≤ k) (h2 : k ≤ 9223372036854775807) (h3 : -9223372036854775808 ≤ step) (h4 : step ≤ 9223372036854775807) (hst : 1 ≤ step ∧ step ≤ 8) (hk : k < 0 ∨ 4 < k) (hc2 : ¬ check2 row ahead) :
    Calls Tryd.prog 13 #[.int .i64 k, .string row, .string ahead, .int .i64 step] w fun e w' => e = .returned (.bool true) ∧ Ext w w' := by
  have HS := Lib.hid hS
  have HK := Lib.hid (show ¬ check k step from fun h => by have := h.1; have := h.2.1; omega)
  have HN := Lib.hid (show ¬ (check k step ∧ check2 row ahead) from fun h => hc2 h.2)
  have HK0 := Lib.hid (show check 0 step from ⟨by omega, by omega, hst.1, hst.2⟩)
  have HNB := Lib.hid (show ¬ (check 0 step ∧ check2 row ahead) from fun h => hc2 h.2)
  obtain ⟨st1, st2⟩ := hst
  have HKK := Lib.hid hk
  have e1 := isEmpty_iff ahead
  have tz : ahead.toList.isEmpty = false := by rw [e1]; exact decide_eq_false (fun q => hc2 (.inl q))
  have tz2 : ((ahead.size : Int) != (row.size : Int)) = true := by rw [bne_iff_ne]; intro q; exact hc2 (.inr (by omega))
  clear e1 hc2 hk
  clear hS
  go_enter Tryd.func13, Tryd.ntmps13
  go_wp2_with fail
  refine (less_any _ HS.out.sents).mono ?_
  rintro e w2 ⟨rfl, hE⟩
  have X2 := Lib.hid hE
  clear hE
  go_wp2_with fail
  refine (do_err k row ahead step _ E (HS.out.ext X2.out) h1 h2 h3 h4 HN.out).mono ?_
  rintro e w3 ⟨⟨j, hj, rfl⟩, rfl⟩
  obtain rfl : j = 1 := by rcases hj with q | q; exact q.1; exact absurd q.2 HK.out
  clear hj
  go_wp2_with fail
  refine (undo_err k row ahead step _ E (HS.out.ext X2.out) h1 h2 h3 h4 HN.out).mono ?_
  rintro e w3 ⟨⟨j, hj, rfl⟩, rfl⟩
  obtain rfl : j = 1 := by rcases hj with q | q; exact q.1; exact absurd q.2 HK.out
  clear hj
  go_wp2_with fail
  refine (best_bad row ahead step _ E (HS.out.ext X2.out) h3 h4 HNB.out).mono ?_
  rintro e w3 ⟨⟨j, hj, rfl⟩, rfl⟩
  obtain rfl : j = 2 := by rcases hj with q | q; exact absurd HK0.out q.2; exact q.1
  clear hj
  have X3 := X2
  rcases HKK.out with kk | kk
  all_goals
    go_wp2_with fail
    refine (coded_any _ E (HS.out.ext X3.out) _ _ _ 3 (.sent 2 (by decide))).mono ?_
    rintro e w6 ⟨he, hE⟩
    obtain rfl : e = .returned (.bool true) := by rw [he]; exact ret_bool (by simp)
    have X6 := Lib.hid (X3.out.trans hE)
    clear he hE
    go_wp2_with fail
    have X7 := X6
    refine (coded_any _ E (HS.out.ext X7.out) _ 2 (-1) 2 (.sent 1 (by decide))).mono ?_
    rintro e w8 ⟨he, hE⟩
    obtain rfl : e = .returned (.bool true) := by rw [he]; exact ret_bool (by simp)
    have X8 := Lib.hid (X7.out.trans hE)
    clear he hE
    go_wp2_with fail
    refine (coded_any _ E (HS.out.ext X8.out) _ 2 (-1) 2 (.sent 1 (by decide))).mono ?_
    rintro e w9 ⟨he, hE⟩
    obtain rfl : e = .returned (.bool true) := by rw [he]; exact ret_bool (by simp)
    have X9 := Lib.hid (X8.out.trans hE)
    clear he hE
    go_wp2_with fail
    go_ret
    exact ⟨rfl, X9.out⟩
set_option maxHeartbeats 8000000 in
theorem does_kind (k : Int) (row ahead : ByteArray) (step : Int) (w : World) (E : Nat → Addr) (hS : Errs w E) (hr : row.size ≤ 300) (ha : ahead.size ≤ 300) (h1 : -9223372036854775808 ≤ k) (h2 : k ≤ 9223372036854775807) (h3 : -9223372036854775808 ≤ step) (h4 : step ≤ 9223372036854775807) (hst : 1 ≤ step ∧ step ≤ 8) (hk : k < 0 ∨ 4 < k) (hc2 : check2 row ahead) :
    Calls Tryd.prog 13 #[.int .i64 k, .string row, .string ahead, .int .i64 step] w fun e w' => e = .returned (.bool true) ∧ Ext w w' := by
  have HS := Lib.hid hS
  obtain ⟨n, rfl⟩ : ∃ n : Nat, step = n := ⟨step.toNat, by omega⟩
  have HK := Lib.hid (show ¬ check k n from fun h => by have := h.1; have := h.2.1; omega)
  have HN := Lib.hid (show ¬ (check k n ∧ check2 row ahead) from fun h => HK.out h.1)
  have HC2 := Lib.hid hc2
  obtain ⟨st1, st2⟩ := hst
  have HKK := Lib.hid hk
  have e1 := isEmpty_iff ahead
  have TZ : Hid (ahead.toList.isEmpty = true ∨ (ahead.toList.isEmpty = false ∧ ((ahead.size : Int) != (row.size : Int)) = false)) := Lib.hid (by
    rw [e1]
    rcases hc2 with q | q
    · left; simpa using q
    · rcases Nat.eq_zero_or_pos ahead.size with q0 | q0
      · left; simpa using q0
      · right; exact ⟨decide_eq_false (by omega), by rw [q]; simp⟩)
  clear e1 hc2 hk
  clear hS
  go_enter Tryd.func13, Tryd.ntmps13
  go_wp2_with fail
  refine (less_any _ HS.out.sents).mono ?_
  rintro e w2 ⟨rfl, hE⟩
  have X2 := Lib.hid hE
  clear hE
  go_wp2_with fail
  refine (do_err k row ahead n _ E (HS.out.ext X2.out) h1 h2 h3 h4 HN.out).mono ?_
  rintro e w3 ⟨⟨j, hj, rfl⟩, rfl⟩
  obtain rfl : j = 1 := by rcases hj with q | q; exact q.1; exact absurd q.2 HK.out
  clear hj
  go_wp2_with fail
  refine (undo_err k row ahead n _ E (HS.out.ext X2.out) h1 h2 h3 h4 HN.out).mono ?_
  rintro e w3 ⟨⟨j, hj, rfl⟩, rfl⟩
  obtain rfl : j = 1 := by rcases hj with q | q; exact q.1; exact absurd q.2 HK.out
  clear hj
  go_wp2_with fail
  refine (best_good row ahead n _ E (HS.out.ext X2.out) (by omega) ⟨by omega, by omega⟩ HC2.out).mono ?_
  rintro e w5 ⟨rfl, hE⟩
  have X3 := Lib.hid (X2.out.trans hE)
  clear hE
  rcases TZ.out with tz | ⟨tz, tz2⟩ <;> rcases HKK.out with kk | kk
  all_goals
    go_wp2_with fail
    refine (coded_any _ E (HS.out.ext X3.out) _ _ _ 0 .nil).mono ?_
    rintro e w6 ⟨he, hE⟩
    obtain rfl : e = .returned (.bool true) := by rw [he]; exact ret_bool (by simp)
    have X6 := Lib.hid (X3.out.trans hE)
    clear he hE
    go_wp2_with fail
    refine (bestOf_any row ahead n _ (by omega) (by omega)).mono ?_
    rintro e w7 ⟨rfl, hE⟩
    have X7 := Lib.hid (X6.out.trans hE)
    clear hE
    go_wp2_with fail
    refine (coded_any _ E (HS.out.ext X7.out) _ 2 (-1) 2 (.sent 1 (by decide))).mono ?_
    rintro e w8 ⟨he, hE⟩
    obtain rfl : e = .returned (.bool true) := by rw [he]; exact ret_bool (by simp)
    have X8 := Lib.hid (X7.out.trans hE)
    clear he hE
    go_wp2_with fail
    refine (coded_any _ E (HS.out.ext X8.out) _ 2 (-1) 2 (.sent 1 (by decide))).mono ?_
    rintro e w9 ⟨he, hE⟩
    obtain rfl : e = .returned (.bool true) := by rw [he]; exact ret_bool (by simp)
    have X9 := Lib.hid (X8.out.trans hE)
    clear he hE
    go_wp2_with fail
    go_ret
    exact ⟨rfl, X9.out⟩
theorem does_any (k : Int) (row ahead : ByteArray) (step : Int) (w : World) (E : Nat → Addr) (hS : Errs w E) (hr : row.size ≤ maxLen) (ha : ahead.size ≤ maxLen) (h1 : -9223372036854775808 ≤ k ∧ k ≤ 9223372036854775807) (h3 : -9223372036854775808 ≤ step ∧ step ≤ 9223372036854775807) :
    Calls Tryd.prog 13 #[.int .i64 k, .string row, .string ahead, .int .i64 step] w fun e w' => e = .returned (.bool true) ∧ Ext w w' := by
  by_cases h : 300 < row.size ∨ 300 < ahead.size
  · exact does_out k row ahead step w E hS h hr ha
  · by_cases hst : 1 ≤ step ∧ step ≤ 8
    · by_cases hk : 0 ≤ k ∧ k ≤ 4
      · by_cases hc : check2 row ahead
        · obtain ⟨s, rfl⟩ : ∃ s : Nat, step = s := ⟨step.toNat, by omega⟩
          exact does_good k row ahead s w E hS (by omega) (by omega) ⟨hk.1, hk.2, hst.1, hst.2⟩ hc
        · exact does_shape k row ahead step w E hS (by omega) (by omega) h1.1 h1.2 h3.1 h3.2 hst hk hc
      · by_cases hc : check2 row ahead
        · exact does_kind k row ahead step w E hS (by omega) (by omega) h1.1 h1.2 h3.1 h3.2 hst (by omega) hc
        · exact does_both k row ahead step w E hS (by omega) (by omega) h1.1 h1.2 h3.1 h3.2 hst (by omega) hc
    · exact does_step k row ahead step w E hS (by omega) (by omega) h1.1 h1.2 h3.1 h3.2 (by omega)
end Go.Proofs.YtkddbhngffbljaaDoor
