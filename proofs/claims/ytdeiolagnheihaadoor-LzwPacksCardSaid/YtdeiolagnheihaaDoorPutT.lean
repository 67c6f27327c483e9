/- Put, and what else a writer does: contracts in terms of its number and its count. -/
import Derived.Test.YtdeiolagnheihaaDoorWriter
namespace Go.Proofs.YtdeiolagnheihaaDoor
open Go.RowKit
set_option maxRecDepth 100000
theorem fits_calls (x : Nat) (width : Int) (w : World) (hw1 : -9223372036854775808 ≤ width) (hw2 : width ≤ 9223372036854775807) (hx : x < 4294967296) :
    Calls Tryd.prog 80 #[.int .u32 (x : Int), .int .i64 width] w fun e w' => e = .returned (.bool (decide (0 ≤ width ∧ width ≤ 32 ∧ x < 2 ^ width.toNat))) ∧ w = w' := by
  by_cases h1 : 0 ≤ width
  · by_cases h2 : width ≤ 32
    · obtain ⟨k, rfl⟩ : ∃ k : Nat, width = k := ⟨width.toNat, by omega⟩
      have hk : k ≤ 32 := by omega
      go_enter Tryd.func80, Tryd.ntmps80
      go_wp2
      go_ret
      refine ⟨ret_bool ?_, rfl⟩
      rw [Bool.eq_iff_iff, beq_iff_eq, decide_eq_true_iff]
      simp only [Int.toNat_natCast]
      rw [show ((x : Int) / 2 ^ k) = ((x / 2 ^ k : Nat) : Int) by simp]
      constructor
      · intro h
        have h' : x / 2 ^ k = 0 := by omega
        rcases (Nat.div_eq_zero_iff).1 h' with q | q
        · have := Nat.two_pow_pos k; omega
        · exact ⟨by omega, by omega, q⟩
      · intro h
        rw [Nat.div_eq_of_lt h.2.2]; rfl
    · go_enter Tryd.func80, Tryd.ntmps80
      go_wp2
      go_ret
      exact ⟨ret_bool (by symm; simp only [Bool.and_eq_false_iff, decide_eq_false_iff_not]; omega), rfl⟩
  · go_enter Tryd.func80, Tryd.ntmps80
    go_wp2
    go_ret
    exact ⟨ret_bool (by symm; simp only [Bool.and_eq_false_iff, decide_eq_false_iff_not]; omega), rfl⟩
theorem bit_and (x i : Nat) (hx : x / 2 ^ i < 4294967296) : bits BinOp.and IntKind.u32 ((x : Int) / 2 ^ i) 1 = ((x / 2 ^ i % 2 : Nat) : Int) := by
  rw [show (x : Int) / 2 ^ i = ((x / 2 ^ i : Nat) : Int) by simp, show (1 : Int) = ((1 : Nat) : Int) from rfl, u32_and_nat _ _ hx (by decide), Nat.and_one_is_mod]
theorem mod_next (x i : Nat) : x % 2 ^ (i + 1) = x % 2 ^ i + x / 2 ^ i % 2 * 2 ^ i := by
  rw [Nat.pow_succ, Nat.mod_mul, Nat.mul_comm (2 ^ i)]
theorem put_in (B o n V x k : Nat) (v : Value) (w : World) (hW : WAt w B o v V n) (hk : k ≤ 32) (hx : x < 2 ^ k) (hn : n + 32 < 1099511627776) :
    Calls Tryd.prog 69 #[.pointer (some ⟨B, o, none⟩), .int .u32 (x : Int), .int .i64 (k : Int)] w fun e w' => e = .returned .nilIface ∧ ∃ v', WAt w' B o v' (V + x * 2 ^ n) (n + k) ∧ WStep w w' B o v v' := by
  have hx32 : x < 4294967296 := Nat.lt_of_lt_of_le hx (Nat.pow_le_pow_right (n := 2) (by decide) hk)
  have hfit : decide (0 ≤ (k : Int) ∧ (k : Int) ≤ 32 ∧ x < 2 ^ (k : Int).toNat) = true := by rw [decide_eq_true_iff]; exact ⟨by omega, by omega, by simpa using hx⟩
  have HX := Lib.hid hx
  have HW := Lib.hid hW
  have HF := Lib.hid hfit
  clear hx hW hfit
  go_enter Tryd.func69, Tryd.ntmps69
  go_wp2_with fail
  refine (fits_calls x k _ (by omega) (by omega) hx32).mono ?_
  rintro e w1 ⟨he, rfl⟩
  rw [HF.out] at he
  subst he
  go_wp2_with fail
  go_loopw [7, 14] (fun _ c wr => ∃ (i : Nat) (u : Value), i ≤ k ∧ c = .int .i64 i ∧ Hid (WAt wr B o u (V + x % 2 ^ i * 2 ^ n) (n + i)) ∧ Hid (WStep w wr B o v u)) (fun _ c _ => k - (intOf c).toNat)
  case atStart =>
    refine ⟨0, v, by omega, rfl, ?_, Lib.hid (WStep.refl _ _ _ _)⟩
    have q := HW.out
    show WAt _ _ _ _ _ _
    simpa [Nat.mod_one] using q
  case round =>
    obtain ⟨i, u, hi, rfl, HA, HS⟩ := hrel
    by_cases hlt : i < k
    · go_wp2_with fail
      rw [bit_and x i (Nat.lt_of_le_of_lt (Nat.div_le_self _ _) hx32)]
      refine (one_calls B o (n + i) _ _ u _ HA.out (by omega) (by omega)).mono ?_
      rintro e w2 ⟨rfl, u2, hA2, hS2⟩
      have HA2 := Lib.hid hA2
      have HS2 := Lib.hid (HS.out.trans hS2)
      clear hA2 hS2 HA HS
      go_wp2_with fail
      go_roundw
      case rel =>
        refine ⟨i + 1, u2, by omega, by go_num, ?_, HS2⟩
        show WAt _ _ _ _ _ _
        have e1 : V + x % 2 ^ (i + 1) * 2 ^ n = V + x % 2 ^ i * 2 ^ n + x / 2 ^ i % 2 * 2 ^ (n + i) := by
          rw [mod_next, Nat.add_mul, Nat.pow_add, Nat.mul_assoc (x / 2 ^ i % 2), Nat.mul_comm (2 ^ i) (2 ^ n), Nat.add_assoc]
        rw [e1]; exact HA2.out
      case measure => simp [intOf]; omega
    · obtain rfl : i = k := by omega
      go_wp2_with fail
      go_ret
      refine ⟨rfl, u, ?_, HS.out⟩
      have q := HA.out
      rwa [Nat.mod_eq_of_lt HX.out] at q
theorem put_out (B o x : Nat) (width : Int) (E : Value) (w : World) (hE : w.cell? ⟨0, 0, none⟩ = some E) (hx : x < 4294967296) (hw1 : -9223372036854775808 ≤ width) (hw2 : width ≤ 9223372036854775807)
    (h : ¬ (0 ≤ width ∧ width ≤ 32 ∧ x < 2 ^ width.toNat)) :
    Calls Tryd.prog 69 #[.pointer (some ⟨B, o, none⟩), .int .u32 (x : Int), .int .i64 width] w fun e w' => e = .returned E ∧ w = w' := by
  have HF := Lib.hid (decide_eq_false h)
  clear h
  go_enter Tryd.func69, Tryd.ntmps69
  go_wp2_with fail
  refine (fits_calls x width _ (by omega) (by omega) hx).mono ?_
  rintro e w1 ⟨he, rfl⟩
  rw [HF.out] at he
  subst he
  go_wp2_with fail
  go_ret
  exact ⟨rfl, rfl⟩
theorem text_calls (B o n V : Nat) (v : Value) (w : World) (hW : WAt w B o v V n) :
    Calls Tryd.prog 43 #[.pointer (some ⟨B, o, none⟩)] w fun e w' => (∃ l : List UInt8, l.length = (n + 7) / 8 ∧ Crc.num l = V ∧ e = .returned (.string ⟨l.toArray⟩)) ∧ w = w' := by
  obtain ⟨c0, c1, f0, f1, ⟨l, hl, hV, hown⟩, hap, hlt⟩ := hW
  rcases ownsRow_slice hown with ⟨rfl, h0⟩ | ⟨g, cap, rfl⟩
  · have hcr : (convert 23 9 (.slice none 0 0)).run Tryd.prog w = .ok (.string ⟨l.toArray⟩) w := by
      obtain rfl := List.eq_nil_of_length_eq_zero h0
      rw [run_convert_bytes_string w 23 9 5 none 0 0 Tryd.underlying23 Tryd.underlying5 Tryd.underlying9]
      rfl
    have HL := Lib.hid hl
    have HV := Lib.hid hV
    clear hl hV h0
    go_enter Tryd.func43, Tryd.ntmps43
    go_wp2
    go_ret
    exact ⟨⟨l, HL.out, HV.out, rfl⟩, rfl⟩
  · have hcr : (convert 23 9 (.slice (some ⟨g, 0, none⟩) l.length cap)).run Tryd.prog w = .ok (.string ⟨l.toArray⟩) w := by
      refine run_convert_bytes_back (P := Tryd.prog) w 23 9 5 ⟨g, 0, none⟩ _ l Tryd.underlying23 Tryd.underlying5 Tryd.underlying9 (fun j hj => ?_)
      rw [add_plain, hown.cellAt _ (by omega), bytesV_get l _ hj]
    have HL := Lib.hid hl
    have HV := Lib.hid hV
    clear hl hV
    go_enter Tryd.func43, Tryd.ntmps43
    go_wp2
    go_ret
    exact ⟨⟨l, HL.out, HV.out, rfl⟩, rfl⟩
end Go.Proofs.YtdeiolagnheihaaDoor
