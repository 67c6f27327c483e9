/- The document's rows by their kinds. -/
import Derived.Test.YtkddbhngffbljaaDoorUndo
import Derived.Test.YtkddbhngffbljaaDoorRefBits
namespace Go.Proofs.YtkddbhngffbljaaDoor
open Go.RowKit
set_option maxRecDepth 100000
theorem apart_calls (a b : Int) (w : World) (ha : -2000 ≤ a ∧ a ≤ 2000) (hb : -2000 ≤ b ∧ b ≤ 2000) :
    Calls Tryd.prog 80 #[.int .i64 a, .int .i64 b] w fun e w' => e = .returned (.int .i64 (((a - b).natAbs : Nat) : Int)) ∧ w = w' := by
  obtain ⟨a1, a2⟩ := ha
  obtain ⟨b1, b2⟩ := hb
  by_cases h : a < b
  · go_enter Tryd.func80, Tryd.ntmps80
    go_wp2
    go_ret
    exact ⟨ret_int (by omega), rfl⟩
  · go_enter Tryd.func80, Tryd.ntmps80
    go_wp2
    go_ret
    exact ⟨ret_int (by omega), rfl⟩
theorem byteAt_calls (s : ByteArray) (i : Int) (w : World) (h1 : -9223372036854775808 ≤ i) (h2 : i ≤ 9223372036854775807) :
    Calls Tryd.prog 70 #[.string s, .int .i64 i] w fun e w' => e = .returned (.int .i64 (if 0 ≤ i then ((s.data.toList.getD i.toNat 0).toNat : Int) else 0)) ∧ w = w' := by
  by_cases h : 0 ≤ i
  · obtain ⟨n, rfl⟩ : ∃ n : Nat, i = n := ⟨i.toNat, by omega⟩
    rw [if_pos h, Int.toNat_natCast]
    by_cases hlt : n < s.size
    · have HR := Lib.hid (row_at s n hlt)
      have hb : s[n].toNat < 256 := s[n].toNat_lt
      go_enter Tryd.func70, Tryd.ntmps70
      go_wp2
      go_ret
      exact ⟨ret_int (by rw [← HR.out]), rfl⟩
    · have hz : s.data.toList.getD n 0 = 0 := by
        have e : s.data.toList.length = s.size := by rw [Array.length_toList]; rfl
        simp [List.getD, List.getElem?_eq_none (show s.data.toList.length ≤ n by omega)]
      rw [hz]
      go_enter Tryd.func70, Tryd.ntmps70
      go_wp2
      go_ret
      exact ⟨rfl, rfl⟩
  · rw [if_neg h]
    have h' : i < 0 := by omega
    go_enter Tryd.func70, Tryd.ntmps70
    go_wp2
    go_ret
    exact ⟨rfl, rfl⟩
theorem refPre (s : ByteArray) (step i : Nat) (w : World) (h1 : step ≤ 8) (h2 : i ≤ 1099511627776) :
    Calls Tryd.prog 70 #[.string s, .int .i64 ((i : Int) - step)] w fun e w' => e = .returned (.int .i64 (pre s.data.toList step i : Int)) ∧ w = w' := by
  have h := byteAt_calls s ((i : Int) - step) w (by omega) (by omega)
  have e : (if 0 ≤ (i : Int) - step then ((s.data.toList.getD ((i : Int) - step).toNat 0).toNat : Int) else 0) = (pre s.data.toList step i : Int) := by
    unfold pre
    by_cases hs : step ≤ i
    · rw [if_pos (by omega), if_pos hs, show ((i : Int) - step).toNat = i - step by omega]
    · rw [if_neg (by omega), if_neg hs]; rfl
  rw [e] at h
  exact h
theorem refHere (s : ByteArray) (i : Nat) (w : World) (h2 : i ≤ 1099511627776) :
    Calls Tryd.prog 70 #[.string s, .int .i64 (i : Int)] w fun e w' => e = .returned (.int .i64 ((s.data.toList.getD i 0).toNat : Int)) ∧ w = w' := by
  have h := byteAt_calls s (i : Int) w (by omega) (by omega)
  rw [if_pos (by omega), Int.toNat_natCast] at h
  exact h
theorem paeth_ref (a b c : Nat) : paeth a b c =
    if ((a : Int) + b - c - a).natAbs ≤ ((a : Int) + b - c - b).natAbs ∧ ((a : Int) + b - c - a).natAbs ≤ ((a : Int) + b - c - c).natAbs then a
    else if ((a : Int) + b - c - b).natAbs ≤ ((a : Int) + b - c - c).natAbs then b else c := by
  unfold paeth
  simp only
  generalize ((a : Int) + b - c - a).natAbs = x
  generalize ((a : Int) + b - c - b).natAbs = y
  generalize ((a : Int) + b - c - c).natAbs = z
  by_cases h1 : y < x
  · rw [if_pos h1, if_neg (show ¬ (x ≤ y ∧ x ≤ z) by omega)]
    by_cases h2 : z < y
    · rw [if_pos h2, if_neg (by omega)]
    · rw [if_neg h2, if_pos h1, if_pos (by omega)]
  · rw [if_neg h1]
    by_cases h2 : z < x
    · rw [if_pos h2, if_neg (by omega), if_neg (by omega)]
    · rw [if_neg h2, if_neg h1, if_pos (by omega)]
theorem guess_calls (k : Int) (a b c : Nat) (w : World) (h1 : 0 ≤ k) (h2 : k ≤ 4) (ha : a < 256) (hb : b < 256) (hc : c < 256) :
    Calls Tryd.prog 69 #[.int .i64 k, .int .i64 (a : Int), .int .i64 (b : Int), .int .i64 (c : Int)] w fun e w' => e = .returned (.int .i64 (fore k a b c : Int)) ∧ w = w' := by
  by_cases h4 : k = 4
  · subst h4
    have HP := Lib.hid (paeth_ref a b c)
    have hf : fore 4 a b c = paeth a b c := rfl
    rw [hf]
    clear hf
    go_enter Tryd.func69, Tryd.ntmps69
    go_wp2_with fail
    refine (apart_calls _ _ _ (by omega) (by omega)).mono ?_
    rintro e w1 ⟨rfl, rfl⟩
    go_wp2_with fail
    refine (apart_calls _ _ _ (by omega) (by omega)).mono ?_
    rintro e w1 ⟨rfl, rfl⟩
    go_wp2_with fail
    refine (apart_calls _ _ _ (by omega) (by omega)).mono ?_
    rintro e w1 ⟨rfl, rfl⟩
    have hp := HP.out
    obtain ⟨x, hx⟩ : ∃ x, ((a : Int) + b - c - a).natAbs = x := ⟨_, rfl⟩
    obtain ⟨y, hy⟩ : ∃ x, ((a : Int) + b - c - b).natAbs = x := ⟨_, rfl⟩
    obtain ⟨z, hz⟩ : ∃ x, ((a : Int) + b - c - c).natAbs = x := ⟨_, rfl⟩
    rw [hx, hy, hz] at hp ⊢
    clear hx hy hz HP
    by_cases q1 : x ≤ y ∧ x ≤ z
    · rw [if_pos q1] at hp
      have HP := Lib.hid hp
      obtain ⟨q1, q2⟩ := q1
      clear hp
      go_wp2_with fail
      go_ret
      exact ⟨by rw [HP.out]; rfl, rfl⟩
    · rw [if_neg q1] at hp
      by_cases q2 : y ≤ z
      · rw [if_pos q2] at hp
        have HP := Lib.hid hp
        have q3 : ¬ x ≤ y := by omega
        clear hp q1
        go_wp2_with fail
        go_ret
        exact ⟨by rw [HP.out]; rfl, rfl⟩
      · rw [if_neg q2] at hp
        have HP := Lib.hid hp
        clear hp
        by_cases q3 : x ≤ y
        · have q4 : ¬ x ≤ z := by omega
          clear q1
          go_wp2_with fail
          go_ret
          exact ⟨by rw [HP.out]; rfl, rfl⟩
        · clear q1
          go_wp2_with fail
          go_ret
          exact ⟨by rw [HP.out]; rfl, rfl⟩
  · rcases (show k = 0 ∨ k = 1 ∨ k = 2 ∨ k = 3 by omega) with q | q | q | q <;> subst q
    all_goals
      go_enter Tryd.func69, Tryd.ntmps69
      go_wp2
      go_ret
      exact ⟨ret_int (by simp [fore]), rfl⟩
end Go.Proofs.YtkddbhngffbljaaDoor
