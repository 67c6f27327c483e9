/- Turned: bits, the highest first. -/
import Derived.Test.YtkddbhngffbljaaDoorPut
import Derived.Test.YtkddbhngffbljaaDoorBitS
import Derived.Outline
namespace Go.Proofs.YtkddbhngffbljaaDoor
open Go.RowKit
set_option maxRecDepth 100000
theorem turned_in (B o n V x k : Nat) (v : Value) (w : World) (hW : WAt w B o v V n) (hk : k ≤ 32) (hx : x < 2 ^ k) (hn : n + 32 < 1099511627776) :
    Calls Tryd.prog 26 #[.pointer (some ⟨B, o, none⟩), .int .u32 (x : Int), .int .i64 (k : Int)] w fun e w' => e = .returned .nilIface ∧ ∃ v', WAt w' B o v' (V + Bts.val (Bts.high x k) * 2 ^ n) (n + k) ∧ WStep w w' B o v v' := by
  have hx32 : x < 4294967296 := Nat.lt_of_lt_of_le hx (Nat.pow_le_pow_right (n := 2) (by decide) hk)
  have hfit : decide (0 ≤ (k : Int) ∧ (k : Int) ≤ 32 ∧ x < 2 ^ (k : Int).toNat) = true := by rw [decide_eq_true_iff]; exact ⟨by omega, by omega, by simpa using hx⟩
  have HX := Lib.hid hx
  have HW := Lib.hid hW
  have HF := Lib.hid hfit
  clear hx hW hfit
  go_enter Tryd.func26, Tryd.ntmps26
  go_wp2_with fail
  refine (fits_calls x k _ (by omega) (by omega) hx32).mono ?_
  rintro e w1 ⟨he, rfl⟩
  rw [HF.out] at he
  subst he
  go_wp2_with fail
  go_loopw [7] (fun c wr => ∃ (d Vt : Nat) (u : Value), d ≤ k ∧ c = .int .i64 ((d : Int) - 1) ∧ Hid (WAt wr B o u Vt (n + (k - d))) ∧ Hid (Vt + Bts.val (Bts.high x d) * 2 ^ (n + (k - d)) = V + Bts.val (Bts.high x k) * 2 ^ n) ∧ Hid (WStep w wr B o v u)) (fun c _ => (intOf c + 1).toNat)
  case atStart =>
    refine ⟨k, V, v, by omega, rfl, ?_, ?_, Lib.hid (WStep.refl _ _ _ _)⟩
    · rw [Nat.sub_self, Nat.add_zero]; exact HW
    · rw [Nat.sub_self, Nat.add_zero]; exact Lib.hid rfl
  case round =>
    obtain ⟨d, Vt, u, hd, rfl, HA, HV, HS⟩ := hrel
    by_cases hlt : 0 < d
    · obtain ⟨j, rfl⟩ : ∃ j, d = j + 1 := ⟨d - 1, by omega⟩
      rw [show (((j + 1 : Nat) : Int) - 1) = (j : Int) by omega]
      go_wp2_with fail
      rw [bit_and x j (Nat.lt_of_le_of_lt (Nat.div_le_self _ _) hx32)]
      refine (one_calls B o (n + (k - (j + 1))) _ _ u _ HA.out (by omega) (by omega)).mono ?_
      rintro e w2 ⟨rfl, u2, hA2, hS2⟩
      have HA2 : Hid (WAt w2 B o u2 (Vt + x / 2 ^ j % 2 * 2 ^ (n + (k - (j + 1)))) (n + (k - j))) := Lib.hid (by
        rw [show n + (k - j) = n + (k - (j + 1)) + 1 by omega]; exact hA2)
      have HV2 : Hid (Vt + x / 2 ^ j % 2 * 2 ^ (n + (k - (j + 1))) + Bts.val (Bts.high x j) * 2 ^ (n + (k - j)) = V + Bts.val (Bts.high x k) * 2 ^ n) := Lib.hid (by
        rw [← HV.out, Bts.val_high_succ, show n + (k - j) = n + (k - (j + 1)) + 1 by omega, Nat.pow_succ, Nat.add_mul, Nat.mul_comm 2 (Bts.val _), Nat.mul_assoc (Bts.val _) 2, Nat.mul_comm 2 (2 ^ _)]; omega)
      have HS2 := Lib.hid (HS.out.trans hS2)
      clear hA2 hS2 HA HS HV
      go_wp2_with fail
      go_roundw
      case rel => exact ⟨j, _, u2, by omega, rfl, HA2, HV2, HS2⟩
      case measure => first | (simp [intOf]; done) | (simp [intOf]; omega)
    · obtain rfl : d = 0 := by omega
      rw [show (((0 : Nat) : Int) - 1) = -1 by omega]
      go_wp2_with fail
      go_ret
      refine ⟨rfl, u, ?_, HS.out⟩
      have q := HA.out
      have q2 := HV.out
      simp only [Bts.high, Bts.val, Nat.zero_mul, Nat.add_zero, Nat.sub_zero] at q q2
      rwa [q2] at q
theorem turned_out (B o x : Nat) (width : Int) (E : Value) (w : World) (hE : w.cell? ⟨1, 0, none⟩ = some E) (hx : x < 4294967296) (hw1 : -9223372036854775808 ≤ width) (hw2 : width ≤ 9223372036854775807)
    (h : ¬ (0 ≤ width ∧ width ≤ 32 ∧ x < 2 ^ width.toNat)) :
    Calls Tryd.prog 26 #[.pointer (some ⟨B, o, none⟩), .int .u32 (x : Int), .int .i64 width] w fun e w' => e = .returned E ∧ w = w' := by
  have HF := Lib.hid (decide_eq_false h)
  clear h
  go_enter Tryd.func26, Tryd.ntmps26
  go_wp2_with fail
  refine (fits_calls x width _ (by omega) (by omega) hx).mono ?_
  rintro e w1 ⟨he, rfl⟩
  rw [HF.out] at he
  subst he
  go_wp2_with fail
  go_ret
  exact ⟨rfl, rfl⟩
end Go.Proofs.YtkddbhngffbljaaDoor
