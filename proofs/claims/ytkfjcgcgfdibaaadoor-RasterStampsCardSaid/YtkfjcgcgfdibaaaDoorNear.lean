/- near numbers. -/
import Derived.Test.YtkfjcgcgfdibaaaDoorTold2
namespace Go.Proofs.YtkfjcgcgfdibaaaDoor
open Go.RowKit
set_option maxRecDepth 100000
def nearB (n : Int) : Bool := decide (-10000 ≤ n ∧ n ≤ 10000)
theorem nearB_yes {n : Int} (h : nearB n = true) : -10000 ≤ n ∧ n ≤ 10000 := of_decide_eq_true h
theorem refNear_any (n : Int) (w : World) : Calls Tryd.prog 29 #[.int .i64 n] w fun e w' => e = .returned (.bool (nearB n)) ∧ w = w' := by
  by_cases h1 : -10000 ≤ n
  · by_cases h2 : n ≤ 10000
    · go_enter Tryd.func29, Tryd.ntmps29
      go_wp2_with fail
      go_ret
      exact ⟨ret_bool (by unfold nearB; simp; omega), rfl⟩
    · go_enter Tryd.func29, Tryd.ntmps29
      go_wp2_with fail
      go_ret
      exact ⟨ret_bool (by unfold nearB; simp; omega), rfl⟩
  · go_enter Tryd.func29, Tryd.ntmps29
    go_wp2_with fail
    go_ret
    exact ⟨ret_bool (by unfold nearB; simp; omega), rfl⟩
theorem near1_any (n : Int) (w : World) : Calls Tryd.prog 98 #[.int .i64 n] w fun e w' => e = .returned (.bool (!nearB n)) ∧ w = w' := by
  by_cases h1 : n < -10000
  · go_enter Tryd.func98, Tryd.ntmps98
    go_wp2_with fail
    go_ret
    exact ⟨ret_bool (by unfold nearB; simp; omega), rfl⟩
  · by_cases h2 : 10000 < n
    · go_enter Tryd.func98, Tryd.ntmps98
      go_wp2_with fail
      go_ret
      exact ⟨ret_bool (by unfold nearB; simp; omega), rfl⟩
    · go_enter Tryd.func98, Tryd.ntmps98
      go_wp2_with fail
      go_ret
      exact ⟨ret_bool (by unfold nearB; simp; omega), rfl⟩
theorem indexN_any (B n c : Nat) (f : Nat → Int) (w : World) (hx : ∀ i, i < n → w.cell? ⟨B, i, none⟩ = some (.int .i64 (f i))) (hn : n ≤ 100) :
    Calls Tryd.prog 114 #[.slice (some ⟨B, 0, none⟩) n c, .func (.func 98) #[] #[]] w fun e w' => (∃ i : Int, e = .returned (.int .i64 i) ∧ ((i = -1 ∧ ∀ j, j < n → nearB (f j) = true) ∨ (0 ≤ i ∧ i ≤ 100 ∧ ∃ j, j < n ∧ nearB (f j) = false))) ∧ w = w' := by
  have HX := Lib.hid hx
  clear hx
  go_enter Tryd.func114, Tryd.ntmps114
  go_wp2
  go_loop [5, 8] (fun _ c => ∃ i : Nat, i ≤ n ∧ c = .int .i64 i ∧ Hid (∀ j, j < i → nearB (f j) = true)) (fun _ c => n - (intOf c).toNat)
  case atStart => exact ⟨0, by omega, rfl, Lib.hid fun j hj => by omega⟩
  case round =>
    obtain ⟨i, hi, rfl, HF⟩ := hrel
    by_cases hlt : i < n
    · have hc := HX.out i hlt
      go_wp2_with fail
      refine (near1_any _ _).mono ?_
      rintro e w1 ⟨rfl, rfl⟩
      cases hb : nearB (f i)
      · have HBAD := Lib.hid hb
        clear hb
        go_wp2_with fail
        go_ret
        exact ⟨⟨i, rfl, .inr ⟨by omega, by omega, i, hlt, HBAD.out⟩⟩, rfl⟩
      · have HBAD := Lib.hid hb
        clear hb
        go_wp2_with fail
        go_round
        case rel =>
          refine ⟨i + 1, by omega, by go_num, Lib.hid fun j hj => ?_⟩
          rcases Nat.lt_succ_iff_lt_or_eq.1 hj with q | rfl
          · exact HF.out j q
          · exact HBAD.out
        case measure => simp [intOf]; omega
    · obtain rfl : i = n := by omega
      go_wp2
      go_ret
      exact ⟨⟨-1, rfl, .inl ⟨rfl, HF.out⟩⟩, rfl⟩
def nearAll (f : Nat → Int) : Nat → Bool
  | 0 => true
  | n + 1 => nearAll f n && nearB (f n)
theorem nearAll_iff (f : Nat → Int) : ∀ n, nearAll f n = true ↔ ∀ j, j < n → nearB (f j) = true := by
  intro n
  induction n with
  | zero => exact ⟨fun _ j hj => by omega, fun _ => rfl⟩
  | succ n ih =>
    simp only [nearAll, Bool.and_eq_true, ih]
    constructor
    · rintro ⟨h1, h2⟩ j hj
      rcases Nat.lt_succ_iff_lt_or_eq.1 hj with q | rfl
      · exact h1 j q
      · exact h2
    · exact fun h => ⟨fun j hj => h j (by omega), h n (by omega)⟩
theorem near_any (B n c : Nat) (f : Nat → Int) (w : World) (hx : ∀ i, i < n → w.cell? ⟨B, i, none⟩ = some (.int .i64 (f i))) (hn : n ≤ 100) :
    Calls Tryd.prog 64 #[.slice (some ⟨B, 0, none⟩) n c] w fun e w' => e = .returned (.bool (nearAll f n)) ∧ w = w' := by
  have HX := Lib.hid hx
  clear hx
  have hcont : ∀ W, W = w → Calls Tryd.prog 97 #[.slice (some ⟨B, 0, none⟩) n c, .func (.func 98) #[] #[]] W fun e w' => e = .returned (.bool (!nearAll f n)) ∧ w = w' := by
    rintro W rfl
    go_enter Tryd.func97, Tryd.ntmps97
    go_wp2_with fail
    refine (indexN_any B n c f _ HX.out hn).mono ?_
    rintro e w2 ⟨⟨i, rfl, hi⟩, rfl⟩
    rcases hi with ⟨rfl, h⟩ | ⟨h1, h2, j, hj, h⟩
    · have HH := Lib.hid ((nearAll_iff f n).2 h)
      clear h
      go_wp2_with fail
      go_ret
      exact ⟨ret_bool (by rw [HH.out]; rfl), rfl⟩
    · have HH : Hid (nearAll f n = false) := Lib.hid (by
        cases q : nearAll f n
        · rfl
        · have := (nearAll_iff f n).1 q j hj
          rw [h] at this; cases this)
      clear h
      go_wp2_with fail
      go_ret
      exact ⟨ret_bool (by rw [HH.out]; rfl), rfl⟩
  have HC := Lib.hid (hcont w rfl)
  clear hcont
  go_enter Tryd.func64, Tryd.ntmps64
  go_wp2_with fail
  refine (HC.out).mono ?_
  rintro e w2 ⟨rfl, rfl⟩
  go_wp2_with fail
  go_ret
  exact ⟨ret_bool (by simp), rfl⟩
end Go.Proofs.YtkfjcgcgfdibaaaDoor
