/- Contracts of the references CRC, Adler, MoreAdlerOf: the same functions of the bytes; the world is as it was. -/
import Derived.Test.YtkfjcgcgfdibaaaDoorTable
namespace Go.Proofs.YtkfjcgcgfdibaaaDoor
open Go.RowKit
theorem T_odd (x : Nat) (h : x % 2 = 1) (hx : x < 4294967296) : bits BinOp.xor IntKind.u32 ((x : Int) / 2) 3988292384 = ((Crc.T x : Nat) : Int) := by
  have := u32_xor_nat (x / 2) 3988292384 (by omega) (by decide)
  rw [show ((x : Int) / 2) = ((x / 2 : Nat) : Int) by omega]; refine this.trans ?_
  unfold Crc.T; rw [h]; simp
theorem T_even' (x : Nat) (h : x % 2 = 0) : Crc.T x = x / 2 := by unfold Crc.T; rw [h]; simp
theorem flip_spell' (c : Nat) (hc : c < 4294967296) : bits BinOp.xor IntKind.u32 (c : Int) 4294967295 = ((Crc.flip c : Nat) : Int) :=
  (u32_xor_nat c 4294967295 hc (by decide))
theorem refCRC_any (s : ByteArray) (w : World) (hs : s.size ≤ maxLen) :
    Calls Tryd.prog 90 #[.string s] w fun e w' => e = .returned (.int .u32 ((Crc.crc s.data.toList : Nat) : Int)) ∧ w = w' := by
  unfold maxLen at hs
  go_enter Tryd.func90, Tryd.ntmps90
  go_wp2
  go_loop [3, 4, 5, 6] (fun c i _ _ => ∃ k x : Nat, k ≤ s.size ∧ x < 4294967296 ∧ Hid (Crc.run (Crc.flip 0) (s.data.toList.take k) = x) ∧ i = .int .i64 k ∧ c = .int .u32 x) (fun _ i _ _ => s.size - (intOf i).toNat)
  case atStart => exact ⟨0, 4294967295, by omega, by omega, rfl, rfl, rfl⟩
  case round =>
    obtain ⟨k, x, hk, hx, HR, rfl, rfl⟩ := hrel
    by_cases hlt : k < s.size
    · have hb : s[k].toNat < 256 := s[k].toNat_lt
      have HS : Hid (Crc.run (Crc.flip 0) (s.data.toList.take (k + 1)) = Crc.byte x s[k].toNat) := by
        have := run_snoc (Crc.flip 0) s k hlt; rw [HR.out] at this; exact this
      have e1 : bits BinOp.xor IntKind.u32 (x : Int) (s[k].toNat : Int) = ((x ^^^ s[k].toNat : Nat) : Int) := u32_xor_nat _ _ hx (by omega)
      have h0 : x ^^^ s[k].toNat < 2 ^ 32 := Nat.xor_lt_two_pow hx (by omega)
      obtain ⟨z, hz⟩ : ∃ z, x ^^^ s[k].toNat = z := ⟨_, rfl⟩
      have HB : Hid (Crc.byte x s[k].toNat = Crc.Tn 8 z) := by unfold Crc.byte; rw [hz]; rfl
      rw [hz] at e1 h0
      clear hz
      go_wp2
      go_loop [3, 5, 6] (fun c j _ => ∃ m : Nat, m ≤ 8 ∧ j = .int .i64 m ∧ c = .int .u32 ((Crc.Tn m z : Nat) : Int)) (fun _ j _ => 8 - (intOf j).toNat)
      case atStart => exact ⟨0, by omega, rfl, rfl⟩
      case round =>
        obtain ⟨m, hm, rfl, rfl⟩ := hrel
        have hT : Crc.Tn m z < 4294967296 := Crc.Tn_lt h0
        by_cases hm8 : m < 8
        · have HT := Lib.hid (Crc.Tn_succ m z)
          obtain ⟨y, hy⟩ : ∃ y, Crc.Tn m z = y := ⟨_, rfl⟩
          rw [hy] at hT HT ⊢
          have HY := Lib.hid hy
          clear hy
          rcases Nat.mod_two_eq_zero_or_one y with hp | hp
          · have HP := Lib.hid (T_even' y hp)
            have hq : ((y : Int) % 2 == 1) = false := by rw [beq_eq_false_iff_ne]; omega
            clear hp
            go_wp2
            go_round
            case rel => exact ⟨m + 1, by omega, by go_num, by rw [HT.out, HP.out]; go_num⟩
            case measure => simp [intOf]; omega
          · have hO := T_odd y hp hT
            have hq : ((y : Int) % 2 == 1) = true := by rw [beq_iff_eq]; omega
            clear hp
            go_wp2
            go_round
            case rel => exact ⟨m + 1, by omega, by go_num, by rw [HT.out]⟩
            case measure => simp [intOf]; omega
        · obtain rfl : m = 8 := by omega
          go_wp2
          go_round
          case rel => exact ⟨k + 1, _, by omega, hT, by rw [HB.out] at HS; exact HS, by go_num, rfl⟩
          case measure => simp [intOf]; omega
    · obtain rfl : k = s.size := by omega
      have ht : List.take s.size s.data.toList = s.data.toList := List.take_of_length_le (by simp)
      rw [ht] at HR
      have e1 := flip_spell' x hx
      have HF : Hid (Crc.crc s.data.toList = Crc.flip x) := by unfold Crc.crc Crc.more; rw [HR.out]; rfl
      clear ht
      go_wp2
      go_ret
      exact ⟨by rw [HF.out]; rfl, rfl⟩
end Go.Proofs.YtkfjcgcgfdibaaaDoor
