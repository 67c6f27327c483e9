/- Contracts of sum.MoreAdler, sum.Adler: what they compute; the world is as it was. -/
import Derived.Test.YteacjlalekbhpaaDoorTable
import Derived.Test.YteacjlalekbhpaaDoorAdler
namespace Go.Proofs.YteacjlalekbhpaaDoor
open Go.RowKit
theorem adl_snoc (p : Nat × Nat) (s : ByteArray) (k : Nat) (h : k < s.size) : Adl.run p (s.data.toList.take (k + 1)) = Adl.step (Adl.run p (s.data.toList.take k)) s[k].toNat := by
  rw [take_snoc s k h]; simp [Adl.run, List.foldl_append]
theorem or_tell (x y : Nat) (hx : x < 65521) (hy : y < 65521) : bits BinOp.or IntKind.u32 ((y : Int) * 65536) (x : Int) = ((Adl.tell (x, y) : Nat) : Int) := by
  rw [show ((y : Int) * 65536) = ((y * 65536 : Nat) : Int) by omega, u32_or_nat _ _ (by omega) (by omega)]
  rw [nat_join 16 (y * 65536) x (by omega) (by omega)]; rfl
theorem moreAdler_any (a : Nat) (s : ByteArray) (w : World) (ha : a < 4294967296) (hs : s.size ≤ maxLen) :
    Calls Tryd.prog 35 #[.int .u32 (a : Int), .string s] w fun e w' => e = .returned (.int .u32 ((Adl.more a s.data.toList : Nat) : Int)) ∧ w = w' := by
  unfold maxLen at hs
  have ea : bits BinOp.and IntKind.u32 (a : Int) 65535 = ((a % 65536 : Nat) : Int) := by
    have := u32_and_nat a 65535 ha (by decide); rw [nat_mask16] at this; exact this
  go_enter Tryd.func35, Tryd.ntmps35
  go_wp2
  clear ea
  go_loop [5, 6, 7, 16] (fun u v _ i => ∃ k x y : Nat, k ≤ s.size ∧ x < 65521 ∧ y < 65521 ∧ Hid (Adl.run (Adl.start a) (s.data.toList.take k) = (x, y)) ∧ i = .int .i64 k ∧ u = .int .u32 x ∧ v = .int .u32 y) (fun _ _ _ i => s.size - (intOf i).toNat)
  case atStart => exact ⟨0, a % 65536 % 65521, a / 65536 % 65521, by omega, by omega, by omega, rfl, rfl, by go_num, by go_num⟩
  case round =>
    obtain ⟨k, x, y, hk, hx, hy, HR, rfl, rfl, rfl⟩ := hrel
    by_cases hlt : k < s.size
    · have HS : Hid (Adl.run (Adl.start a) (s.data.toList.take (k + 1)) = ((x + s[k].toNat) % 65521, (y + (x + s[k].toNat) % 65521) % 65521)) := by
        have := adl_snoc (Adl.start a) s k hlt; rw [HR.out] at this; exact this
      have hb : s[k].toNat < 256 := s[k].toNat_lt
      go_wp2
      go_round
      case rel => exact ⟨k + 1, _, _, by omega, Nat.mod_lt _ (by decide), Nat.mod_lt _ (by decide), HS, by go_num, by go_num, by go_num⟩
      case measure => simp [intOf]; omega
    · obtain rfl : k = s.size := by omega
      have eo := or_tell x y hx hy
      have HF : Hid (Adl.more a s.data.toList = Adl.tell (x, y)) := by
        have := HR.out; rw [List.take_of_length_le (by simp)] at this; unfold Adl.more; rw [this]; rfl
      go_wp2
      go_ret
      exact ⟨by rw [HF.out]; rfl, rfl⟩
theorem adler_any (s : ByteArray) (w : World) (hs : s.size ≤ maxLen) :
    Calls Tryd.prog 13 #[.string s] w fun e w' => e = .returned (.int .u32 ((Adl.adler s.data.toList : Nat) : Int)) ∧ w = w' := by
  go_enter Tryd.func13, Tryd.ntmps13
  go_wp2_with (go_at_call 35; refine (moreAdler_any 1 _ _ (by omega) hs).mono ?_; rintro e w' ⟨rfl, rfl⟩)
  go_ret
  exact ⟨rfl, rfl⟩
end Go.Proofs.YteacjlalekbhpaaDoor
