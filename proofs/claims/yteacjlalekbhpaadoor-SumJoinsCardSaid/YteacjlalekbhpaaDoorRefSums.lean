/- Contracts of the references CRC, Adler, MoreAdlerOf: the same functions of the bytes; the world is as it was. -/
import Derived.Test.YteacjlalekbhpaaDoorAdlerWalks
namespace Go.Proofs.YteacjlalekbhpaaDoor
open Go.RowKit
theorem T_odd (x : Nat) (h : x % 2 = 1) (hx : x < 4294967296) : bits BinOp.xor IntKind.u32 ((x : Int) / 2) 3988292384 = ((Crc.T x : Nat) : Int) := by
  have := u32_xor_nat (x / 2) 3988292384 (by omega) (by decide)
  rw [show ((x : Int) / 2) = ((x / 2 : Nat) : Int) by omega]; refine this.trans ?_
  unfold Crc.T; rw [h]; simp
theorem T_even' (x : Nat) (h : x % 2 = 0) : Crc.T x = x / 2 := by unfold Crc.T; rw [h]; simp
theorem flip_spell' (c : Nat) (hc : c < 4294967296) : bits BinOp.xor IntKind.u32 (c : Int) 4294967295 = ((Crc.flip c : Nat) : Int) :=
  (u32_xor_nat c 4294967295 hc (by decide))
theorem refCRC_any (s : ByteArray) (w : World) (hs : s.size ≤ maxLen) :
    Calls Tryd.prog 14 #[.string s] w fun e w' => e = .returned (.int .u32 ((Crc.crc s.data.toList : Nat) : Int)) ∧ w = w' := by
  unfold maxLen at hs
  go_enter Tryd.func14, Tryd.ntmps14
  go_wp2
  go_loop [3, 4, 5, 6] (fun c i _ _ => ∃ k x : Nat, k ≤ s.size ∧ x < 4294967296 ∧ Hid (Crc.run (Crc.flip 0) (s.data.toList.take k) = x) ∧ i = .int .i64 k ∧ c = .int .u32 x) (fun _ i _ _ => s.size - (intOf i).toNat)
  case atStart => exact ⟨0, 4294967295, by omega, by omega, rfl, rfl, rfl⟩
  case round =>
    obtain ⟨k, x, hk, hx, HR, rfl, rfl⟩ := hrel
    by_cases hlt : k < s.size
    · have hb : s[k].toNat < 256 := s[k].toNat_lt
      have HS : Hid (Crc.run (Crc.flip 0) (s.data.toList.take (k + 1)) = Crc.byte x s[k].toNat) := by
        have := run_snoc (Crc.flip 0) s k hlt; rw [HR.out] at this; exact this
      have e1 : bits BinOp.xor IntKind.u32 (x : Int) (s[k].toNat : Int) = ((x ^^^ s[k].toNat : Nat) : Int) := u32_xor_nat _ _ hx (by omega)
      have h0 : x ^^^ s[k].toNat < 2 ^ 32 := Nat.xor_lt_two_pow hx (by omega)
      obtain ⟨z, hz⟩ : ∃ z, x ^^^ s[k].toNat = z := ⟨_, rfl⟩
      have HB : Hid (Crc.byte x s[k].toNat = Crc.Tn 8 z) := by unfold Crc.byte; rw [hz]; rfl
      rw [hz] at e1 h0
      clear hz
      go_wp2
      go_loop [3, 5, 6] (fun c j _ => ∃ m : Nat, m ≤ 8 ∧ j = .int .i64 m ∧ c = .int .u32 ((Crc.Tn m z : Nat) : Int)) (fun _ j _ => 8 - (intOf j).toNat)
      case atStart => exact ⟨0, by omega, rfl, rfl⟩
      case round =>
        obtain ⟨m, hm, rfl, rfl⟩ := hrel
        have hT : Crc.Tn m z < 4294967296 := Crc.Tn_lt h0
        by_cases hm8 : m < 8
        · have HT := Lib.hid (Crc.Tn_succ m z)
          obtain ⟨y, hy⟩ : ∃ y, Crc.Tn m z = y := ⟨_, rfl⟩
          rw [hy] at hT HT ⊢
          have HY := Lib.hid hy
          clear hy
          rcases Nat.mod_two_eq_zero_or_one y with hp | hp
          · have HP := Lib.hid (T_even' y hp)
            have hq : ((y : Int) % 2 == 1) = false := by rw [beq_eq_false_iff_ne]; omega
            clear hp
            go_wp2
            go_round
            case rel => exact ⟨m + 1, by omega, by go_num, by rw [HT.out, HP.out]; go_num⟩
            case measure => simp [intOf]; omega
          · have hO := T_odd y hp hT
            have hq : ((y : Int) % 2 == 1) = true := by rw [beq_iff_eq]; omega
            clear hp
            go_wp2
            go_round
            case rel => exact ⟨m + 1, by omega, by go_num, by rw [HT.out]⟩
            case measure => simp [intOf]; omega
        · obtain rfl : m = 8 := by omega
          go_wp2
          go_round
          case rel => exact ⟨k + 1, _, by omega, hT, by rw [HB.out] at HS; exact HS, by go_num, rfl⟩
          case measure => simp [intOf]; omega
    · obtain rfl : k = s.size := by omega
      have ht : List.take s.size s.data.toList = s.data.toList := List.take_of_length_le (by simp)
      rw [ht] at HR
      have e1 := flip_spell' x hx
      have HF : Hid (Crc.crc s.data.toList = Crc.flip x) := by unfold Crc.crc Crc.more; rw [HR.out]; rfl
      clear ht
      go_wp2
      go_ret
      exact ⟨by rw [HF.out]; rfl, rfl⟩

theorem refAdler_any (s : ByteArray) (w : World) (hs : s.size ≤ maxLen) :
    Calls Tryd.prog 15 #[.string s] w fun e w' => e = .returned (.int .u32 ((Adl.adler s.data.toList : Nat) : Int)) ∧ w = w' := by
  unfold maxLen at hs
  go_enter Tryd.func15, Tryd.ntmps15
  go_wp2
  go_loop [3, 4, 5] (fun u v i => ∃ k x y : Nat, k ≤ s.size ∧ x < 65521 ∧ y < 65521 ∧ Hid (Adl.run (Adl.start 1) (s.data.toList.take k) = (x, y)) ∧ i = .int .i64 k ∧ u = .int .i64 x ∧ v = .int .i64 y) (fun _ _ i => s.size - (intOf i).toNat)
  case atStart => exact ⟨0, 1, 0, by omega, by omega, by omega, rfl, by go_num, by go_num, by go_num⟩
  case round =>
    obtain ⟨k, x, y, hk, hx, hy, HR, rfl, rfl, rfl⟩ := hrel
    by_cases hlt : k < s.size
    · have HS : Hid (Adl.run (Adl.start 1) (s.data.toList.take (k + 1)) = ((x + s[k].toNat) % 65521, (y + (x + s[k].toNat) % 65521) % 65521)) := by
        have := adl_snoc (Adl.start 1) s k hlt; rw [HR.out] at this; exact this
      have hb : s[k].toNat < 256 := s[k].toNat_lt
      go_wp2
      go_round
      case rel => exact ⟨k + 1, _, _, by omega, Nat.mod_lt _ (by decide), Nat.mod_lt _ (by decide), HS, by go_num, by go_num, by go_num⟩
      case measure => simp [intOf]; omega
    · obtain rfl : k = s.size := by omega
      have HF : Hid (Adl.adler s.data.toList = Adl.tell (x, y)) := by
        have := HR.out; rw [List.take_of_length_le (by simp)] at this; unfold Adl.adler; unfold Adl.more; rw [this]; rfl
      go_wp2
      go_ret
      exact ⟨by rw [HF.out]; simp [Adl.tell], rfl⟩

end Go.Proofs.YteacjlalekbhpaaDoor
