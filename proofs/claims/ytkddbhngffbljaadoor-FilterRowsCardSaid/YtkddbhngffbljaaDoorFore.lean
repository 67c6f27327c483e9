/- Rows foretold: foretell, at, check, and what is done and undone, as lists. -/
import Derived.Test.YtkddbhngffbljaaDoorOpen
namespace Go.Proofs.YtkddbhngffbljaaDoor
open Go.RowKit
set_option maxRecDepth 100000
def paeth (a b c : Nat) : Nat :=
  let p : Int := (a : Int) + b - c
  let da := (p - a).natAbs
  let db := (p - b).natAbs
  let dc := (p - c).natAbs
  if dc < (if db < da then db else da) then c else if db < da then b else a
def fore (k : Int) (a b c : Nat) : Nat := if k = 1 then a else if k = 2 then b else if k = 3 then (a + b) / 2 else if k = 4 then paeth a b c else 0
theorem fore_lt (k : Int) (a b c : Nat) (ha : a < 256) (hb : b < 256) (hc : c < 256) : fore k a b c < 256 := by
  unfold fore paeth
  split
  · omega
  · split
    · omega
    · split
      · omega
      · split
        · dsimp only; split <;> (try split) <;> omega
        · omega
theorem abs_calls (x : Int) (w : World) (h1 : -1000 ≤ x) (h2 : x ≤ 1000) :
    Calls Tryd.prog 79 #[.int .i64 x] w fun e w' => e = .returned (.int .i64 (x.natAbs : Int)) ∧ w = w' := by
  go_enter Tryd.func79, Tryd.ntmps79
  go_wp2
  all_goals (go_ret; exact ⟨ret_int (by omega), rfl⟩)
theorem at_calls (s : ByteArray) (i : Int) (w : World) (h1 : -9223372036854775808 ≤ i) (h2 : i ≤ 9223372036854775807) :
    Calls Tryd.prog 68 #[.string s, .int .i64 i] w fun e w' => e = .returned (.int .u8 (if 0 ≤ i then ((s.data.toList.getD i.toNat 0).toNat : Int) else 0)) ∧ w = w' := by
  by_cases hi : 0 ≤ i
  · obtain ⟨k, rfl⟩ : ∃ k : Nat, i = k := ⟨i.toNat, by omega⟩
    by_cases hk : k < s.size
    · go_enter Tryd.func68, Tryd.ntmps68
      go_wp2
      all_goals (go_ret; exact ⟨rfl, rfl⟩)
    · go_enter Tryd.func68, Tryd.ntmps68
      go_wp2
      all_goals (go_ret; exact ⟨rfl, rfl⟩)
  · go_enter Tryd.func68, Tryd.ntmps68
    go_wp2
    all_goals (go_ret; exact ⟨rfl, rfl⟩)
theorem foretell_four (a b c : Nat) (w : World) (ha : a < 256) (hb : b < 256) (hc : c < 256) :
    Calls Tryd.prog 67 #[.int .i64 4, .int .u8 (a : Int), .int .u8 (b : Int), .int .u8 (c : Int)] w fun e w' => e = .returned (.int .u8 (paeth a b c : Int)) ∧ w = w' := by
  obtain ⟨da, hda⟩ : ∃ d : Nat, ((a : Int) + b - c - a).natAbs = d := ⟨_, rfl⟩
  obtain ⟨db, hdb⟩ : ∃ d : Nat, ((a : Int) + b - c - b).natAbs = d := ⟨_, rfl⟩
  obtain ⟨dc, hdc⟩ : ∃ d : Nat, ((a : Int) + b - c - c).natAbs = d := ⟨_, rfl⟩
  have la : da ≤ 255 := by omega
  have lb : db ≤ 255 := by omega
  have lc : dc ≤ 510 := by omega
  have hp : paeth a b c = if dc < (if db < da then db else da) then c else if db < da then b else a := by
    unfold paeth; dsimp only; rw [hda, hdb, hdc]
  rw [hp]
  have HA := Lib.hid hda
  have HB := Lib.hid hdb
  have HC := Lib.hid hdc
  clear hda hdb hdc hp
  by_cases h1 : db < da
  · rw [if_pos h1, if_pos h1]
    by_cases h2 : dc < db
    · rw [if_pos h2]
      go_enter Tryd.func67, Tryd.ntmps67
      go_wp2_with fail
      refine (abs_calls _ _ (by omega) (by omega)).mono ?_; rintro e w' ⟨rfl, rfl⟩
      rw [HA.out]
      go_wp2_with fail
      refine (abs_calls _ _ (by omega) (by omega)).mono ?_; rintro e w' ⟨rfl, rfl⟩
      rw [HB.out]
      go_wp2_with fail
      refine (abs_calls _ _ (by omega) (by omega)).mono ?_; rintro e w' ⟨rfl, rfl⟩
      rw [HC.out]
      go_wp2_with fail
      go_ret
      exact ⟨rfl, rfl⟩
    · rw [if_neg h2]
      go_enter Tryd.func67, Tryd.ntmps67
      go_wp2_with fail
      refine (abs_calls _ _ (by omega) (by omega)).mono ?_; rintro e w' ⟨rfl, rfl⟩
      rw [HA.out]
      go_wp2_with fail
      refine (abs_calls _ _ (by omega) (by omega)).mono ?_; rintro e w' ⟨rfl, rfl⟩
      rw [HB.out]
      go_wp2_with fail
      refine (abs_calls _ _ (by omega) (by omega)).mono ?_; rintro e w' ⟨rfl, rfl⟩
      rw [HC.out]
      go_wp2_with fail
      go_ret
      exact ⟨rfl, rfl⟩
  · rw [if_neg h1, if_neg h1]
    by_cases h2 : dc < da
    · rw [if_pos h2]
      go_enter Tryd.func67, Tryd.ntmps67
      go_wp2_with fail
      refine (abs_calls _ _ (by omega) (by omega)).mono ?_; rintro e w' ⟨rfl, rfl⟩
      rw [HA.out]
      go_wp2_with fail
      refine (abs_calls _ _ (by omega) (by omega)).mono ?_; rintro e w' ⟨rfl, rfl⟩
      rw [HB.out]
      go_wp2_with fail
      refine (abs_calls _ _ (by omega) (by omega)).mono ?_; rintro e w' ⟨rfl, rfl⟩
      rw [HC.out]
      go_wp2_with fail
      go_ret
      exact ⟨rfl, rfl⟩
    · rw [if_neg h2]
      go_enter Tryd.func67, Tryd.ntmps67
      go_wp2_with fail
      refine (abs_calls _ _ (by omega) (by omega)).mono ?_; rintro e w' ⟨rfl, rfl⟩
      rw [HA.out]
      go_wp2_with fail
      refine (abs_calls _ _ (by omega) (by omega)).mono ?_; rintro e w' ⟨rfl, rfl⟩
      rw [HB.out]
      go_wp2_with fail
      refine (abs_calls _ _ (by omega) (by omega)).mono ?_; rintro e w' ⟨rfl, rfl⟩
      rw [HC.out]
      go_wp2_with fail
      go_ret
      exact ⟨rfl, rfl⟩
theorem foretell_calls (k : Int) (a b c : Nat) (w : World) (h1 : -9223372036854775808 ≤ k) (h2 : k ≤ 9223372036854775807) (ha : a < 256) (hb : b < 256) (hc : c < 256) :
    Calls Tryd.prog 67 #[.int .i64 k, .int .u8 (a : Int), .int .u8 (b : Int), .int .u8 (c : Int)] w fun e w' => e = .returned (.int .u8 (fore k a b c : Int)) ∧ w = w' := by
  by_cases k4 : k = 4
  · subst k4
    exact foretell_four a b c w ha hb hc
  by_cases k1 : k = 1
  · subst k1
    rw [show fore 1 a b c = a from rfl]
    go_enter Tryd.func67, Tryd.ntmps67
    go_wp2
    go_ret
    exact ⟨rfl, rfl⟩
  by_cases k2 : k = 2
  · subst k2
    rw [show fore 2 a b c = b from rfl]
    go_enter Tryd.func67, Tryd.ntmps67
    go_wp2
    go_ret
    exact ⟨rfl, rfl⟩
  by_cases k3 : k = 3
  · subst k3
    rw [show fore 3 a b c = (a + b) / 2 from rfl]
    go_enter Tryd.func67, Tryd.ntmps67
    go_wp2
    go_ret
    exact ⟨ret_int (by omega), rfl⟩
  rw [show fore k a b c = 0 by simp [fore, k1, k2, k3, k4]]
  have t1 : (k == 1) = false := by simp [k1]
  have t2 : (k == 2) = false := by simp [k2]
  have t3 : (k == 3) = false := by simp [k3]
  have t4 : (k == 4) = false := by simp [k4]
  clear k1 k2 k3 k4
  go_enter Tryd.func67, Tryd.ntmps67
  go_wp2
  go_ret
  exact ⟨rfl, rfl⟩
def check (k step : Int) : Prop := 0 ≤ k ∧ k ≤ 4 ∧ 1 ≤ step ∧ step ≤ 8
def check2 (row ahead : ByteArray) : Prop := ahead.size = 0 ∨ ahead.size = row.size
theorem isEmpty_iff (s : ByteArray) : s.toList.isEmpty = decide (s.size = 0) := by
  rw [ByteArray.toList_eq]
  have e : s.size = s.data.toList.length := by rw [Array.length_toList]; rfl
  rw [e]
  cases s.data.toList <;> rfl
theorem check_calls (k : Int) (row ahead : ByteArray) (step : Int) (w : World) (h1 : -9223372036854775808 ≤ k) (h2 : k ≤ 9223372036854775807) (h3 : -9223372036854775808 ≤ step) (h4 : step ≤ 9223372036854775807)
    (EB ES : Value) (hB : w.cell? ⟨1, 0, none⟩ = some EB) (hS : w.cell? ⟨2, 0, none⟩ = some ES) :
    Calls Tryd.prog 65 #[.int .i64 k, .string row, .string ahead, .int .i64 step] w fun e w' => ((e = .returned .nilIface ∧ check k step ∧ check2 row ahead) ∨ (e = .returned EB ∧ ¬ check k step) ∨ (e = .returned ES ∧ check k step ∧ ¬ check2 row ahead)) ∧ w = w' := by
  by_cases hc : check k step
  · have HC := Lib.hid hc
    obtain ⟨c1, c2, c3, c4⟩ := hc
    have e1 := isEmpty_iff ahead
    by_cases z : ahead.size = 0
    · have HZ := Lib.hid z
      rw [decide_eq_true z] at e1
      clear z
      go_enter Tryd.func65, Tryd.ntmps65
      go_wp2
      go_ret
      exact ⟨.inl ⟨rfl, HC.out, .inl HZ.out⟩, rfl⟩
    · rw [decide_eq_false z] at e1
      by_cases q : ahead.size = row.size
      · have e2 : ((ahead.size : Int) != (row.size : Int)) = false := by rw [q]; simp
        have HQ := Lib.hid q
        clear q z
        go_enter Tryd.func65, Tryd.ntmps65
        go_wp2
        go_ret
        exact ⟨.inl ⟨rfl, HC.out, .inr HQ.out⟩, rfl⟩
      · have e2 : ((ahead.size : Int) != (row.size : Int)) = true := by rw [bne_iff_ne]; omega
        have HN : Hid (¬ check2 row ahead) := Lib.hid (fun h => by rcases h with h | h; exact z h; exact q h)
        clear q z
        go_enter Tryd.func65, Tryd.ntmps65
        go_wp2
        go_ret
        exact ⟨.inr (.inr ⟨rfl, HC.out, HN.out⟩), rfl⟩
  · have HC := Lib.hid hc
    have hcs : k < 0 ∨ 4 < k ∨ step < 1 ∨ 8 < step := by unfold check at hc; omega
    clear hc
    rcases hcs with q | q | q | q
    · go_enter Tryd.func65, Tryd.ntmps65
      go_wp2
      all_goals (go_ret; exact ⟨.inr (.inl ⟨rfl, HC.out⟩), rfl⟩)
    · go_enter Tryd.func65, Tryd.ntmps65
      go_wp2
      all_goals (go_ret; exact ⟨.inr (.inl ⟨rfl, HC.out⟩), rfl⟩)
    · by_cases q2 : k < 0
      · go_enter Tryd.func65, Tryd.ntmps65
        go_wp2
        all_goals (go_ret; exact ⟨.inr (.inl ⟨rfl, HC.out⟩), rfl⟩)
      · by_cases q3 : 4 < k
        · go_enter Tryd.func65, Tryd.ntmps65
          go_wp2
          all_goals (go_ret; exact ⟨.inr (.inl ⟨rfl, HC.out⟩), rfl⟩)
        · go_enter Tryd.func65, Tryd.ntmps65
          go_wp2
          all_goals (go_ret; exact ⟨.inr (.inl ⟨rfl, HC.out⟩), rfl⟩)
    · go_enter Tryd.func65, Tryd.ntmps65
      go_wp2
      all_goals (go_ret; exact ⟨.inr (.inl ⟨rfl, HC.out⟩), rfl⟩)
end Go.Proofs.YtkddbhngffbljaaDoor
