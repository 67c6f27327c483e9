/- Contracts of sum.table, sum.MoreCRC, sum.CRC: what they compute, in any world; new blocks alone are made. -/
import Derived.Test.YtkfjcgcgfdibaaaDoorProg
import Derived.Test.YtkfjcgcgfdibaaaDoorCrc
import Derived.Test.YtkfjcgcgfdibaaaDoorMem
import Derived.WalkKit
import Derived.WalkSpells
import Derived.Deep.QuietTactic
import Derived.BigQuiet
import Derived.WalkSmall
import Derived.Lib.Hide
namespace Go.Proofs.YtkfjcgcgfdibaaaDoor
open Go.RowKit
theorem tabZero (w : World) : (zeroValue 170).run Tryd.prog w = .ok (.agg (Array.replicate 256 (.int .u32 0))) w := by kernel_rfl
@[irreducible] def tabArr (k : Nat) : Array Value := (List.map (fun i : Nat => Value.int .u32 ((if i < k then Crc.Tn 8 i else 0 : Nat) : Int)) (List.range 256)).toArray
theorem tabArr_zero : Array.replicate 256 (Value.int .u32 0) = tabArr 0 := by
  unfold tabArr; apply Array.ext
  · simp
  · intro i h1 h2; simp
theorem tabArr_get (k i : Nat) (h : i < 256) : (tabArr k)[i]? = some (.int .u32 ((if i < k then Crc.Tn 8 i else 0 : Nat) : Int)) := by
  unfold tabArr; simp [h]
theorem tabArr_size (k : Nat) : (tabArr k).size = 256 := by unfold tabArr; simp
theorem tabArr_set (k : Nat) (_h : k < 256) : (tabArr k).setIfInBounds k (.int .u32 (Crc.Tn 8 k : Nat)) = tabArr (k + 1) := by
  apply Array.ext
  · simp [tabArr_size]
  · intro i h1 h2
    have h3 : i < 256 := by simpa [tabArr_size] using h2
    have e2 := tabArr_get (k + 1) i h3
    have e1 := tabArr_get k i h3
    rw [Array.getElem?_eq_getElem h2] at e2
    rw [Array.getElem?_eq_getElem (by rw [tabArr_size]; exact h3)] at e1
    rw [Option.some_inj] at e1 e2
    rw [Array.getElem_setIfInBounds (by rw [tabArr_size]; exact h3), e2, e1]
    by_cases hik : k = i
    · subst hik; simp
    · rw [if_neg hik]; congr 3; have : (i < k + 1) = (i < k) := by apply propext; omega
      rw [this]
    
/-- the walk's own spelling of one step -/
theorem step_spell (x : Nat) (hx : x < 4294967296) :
    bits BinOp.xor IntKind.u32 ((x : Int) / 2) (bits BinOp.and IntKind.u32 3988292384 (-bits BinOp.and IntKind.u32 (x : Int) 1 % 4294967296)) = ((Crc.T x : Nat) : Int) := by
  have e1 : bits BinOp.and IntKind.u32 (x : Int) 1 = ((x % 2 : Nat) : Int) := by
    have := u32_and_nat x 1 hx (by decide); rw [nat_mask1] at this; exact this
  rw [e1]
  rcases Nat.mod_two_eq_zero_or_one x with h | h
  · rw [h]
    have e2 : bits BinOp.and IntKind.u32 3988292384 (-((0 : Nat) : Int) % 4294967296) = ((0 : Nat) : Int) := by
      have := u32_and_nat 3988292384 0 (by decide) (by decide); simpa using this
    rw [e2]
    have := u32_xor_nat (x / 2) 0 (by omega) (by decide)
    rw [show ((x : Int) / 2) = ((x / 2 : Nat) : Int) by omega, this]
    unfold Crc.T; rw [h]; simp
  · rw [h]
    have e2 : bits BinOp.and IntKind.u32 3988292384 (-((1 : Nat) : Int) % 4294967296) = ((3988292384 : Nat) : Int) := by
      have := u32_and_nat 3988292384 4294967295 (by decide) (by decide)
      rw [show (-((1 : Nat) : Int) % 4294967296) = ((4294967295 : Nat) : Int) by decide]
      exact this.trans (by decide)
    rw [e2]
    have := u32_xor_nat (x / 2) 3988292384 (by omega) (by decide)
    rw [show ((x : Int) / 2) = ((x / 2 : Nat) : Int) by omega, this]
    unfold Crc.T; rw [h]; simp
theorem val_u32 {a b : Int} (h : a = b) : Value.int IntKind.u32 a = Value.int IntKind.u32 b := by rw [h]
set_option maxRecDepth 10000 in
theorem table_any (w : World) : Calls Tryd.prog 122 #[] w fun e w' => e = .returned (.pointer (some ⟨w.heap.size, 0, none⟩)) ∧ w' = w.alloc (.cells (tabArr 256) 170) := by
  go_enter Tryd.func122, Tryd.ntmps122
  have hz := tabZero
  go_wp2
  rw [tabArr_zero]
  clear hz
  go_loopw [2, 3, 4, 9] (fun _ _ i _ wr => ∃ k : Nat, k ≤ 256 ∧ i = .int .i64 k ∧ wr = w.alloc (.cells (tabArr k) 170)) (fun _ _ i _ _ => 256 - (intOf i).toNat)
  case atStart => exact ⟨0, by omega, rfl, rfl⟩
  case round =>
    obtain ⟨k, hk, rfl, rfl⟩ := hrel
    by_cases hlt : k < 256
    · go_wp2
      go_loop [3, 9] (fun c j => ∃ m : Nat, m ≤ 8 ∧ j = .int .i64 m ∧ c = .int .u32 ((Crc.Tn m k : Nat) : Int)) (fun _ j => 8 - (intOf j).toNat)
      case atStart => exact ⟨0, by omega, rfl, rfl⟩
      case round =>
        obtain ⟨m, hm, rfl, rfl⟩ := hrel
        have hT : Crc.Tn m k < 4294967296 := Crc.Tn_lt (by omega)
        by_cases hm8 : m < 8
        · go_wp2
          go_round
          case rel => exact ⟨m + 1, by omega, by go_num, by rw [Crc.Tn_succ]; exact val_u32 (step_spell _ hT)⟩
          case measure => simp [intOf]; omega
        · obtain rfl : m = 8 := by omega
          have hg := tabArr_get k k hlt
          go_wp2
          go_roundw
          case rel => exact ⟨k + 1, by omega, by go_num, by rw [tabArr_set k hlt]⟩
          case measure => simp [intOf]; omega
    · obtain rfl : k = 256 := by omega
      go_wp2
      go_ret
      exact ⟨rfl, rfl⟩

theorem xor32 (a b : Nat) (ha : a < 4294967296) (hb : b < 4294967296) : bits BinOp.xor IntKind.u32 (a : Int) (b : Int) = ((a ^^^ b : Nat) : Int) := u32_xor_nat a b ha hb
theorem take_snoc (s : ByteArray) (k : Nat) (h : k < s.size) : s.data.toList.take (k + 1) = s.data.toList.take k ++ [s[k]] := by
  rw [List.take_succ_eq_append_getElem (by simpa using h)]; rfl
theorem run_snoc (c : Nat) (s : ByteArray) (k : Nat) (h : k < s.size) : Crc.run c (s.data.toList.take (k + 1)) = Crc.byte (Crc.run c (s.data.toList.take k)) s[k].toNat := by
  rw [take_snoc s k h]; simp [Crc.run, List.foldl_append]
theorem idx_spell (x b : Nat) (hb : b < 256) : bits BinOp.xor IntKind.u8 ((x : Int) % 256) (b : Int) = ((x % 256 ^^^ b : Nat) : Int) := by
  rw [show ((x : Int) % 256) = ((x % 256 : Nat) : Int) by omega]; exact u8_xor_nat _ _ (by omega) hb
theorem res_spell (x b n : Nat) (hx : x < 4294967296) (hb : b < 256) (hn : x % 256 ^^^ b = n) : bits BinOp.xor IntKind.u32 ((Crc.Tn 8 n : Nat) : Int) ((x : Int) / 256) = ((Crc.byte x b : Nat) : Int) := by
  have h256 : n < 2 ^ 8 := by rw [← hn]; exact Nat.xor_lt_two_pow (by omega) (by omega)
  rw [show ((x : Int) / 256) = ((x / 256 : Nat) : Int) by omega, u32_xor_nat _ _ (Crc.Tn_lt (by omega)) (by omega), Crc.byte_tab x b hb, hn]
theorem flip_spell (c : Nat) (hc : c < 4294967296) : bits BinOp.xor IntKind.u32 IntKind.u32.max (c : Int) = ((Crc.flip c : Nat) : Int) := by
  rw [show (IntKind.u32.max : Int) = ((4294967295 : Nat) : Int) by decide, u32_xor_nat _ _ (by decide) hc]; unfold Crc.flip; rw [Nat.xor_comm]
set_option maxRecDepth 10000 in
theorem moreCRC_any (c : Nat) (s : ByteArray) (w : World) (hc : c < 4294967296) (hs : s.size ≤ maxLen) :
    Calls Tryd.prog 106 #[.int .u32 (c : Int), .string s] w fun e w' => e = .returned (.int .u32 ((Crc.more c s.data.toList : Nat) : Int)) ∧ Ext w w' := by
  unfold maxLen at hs
  have hflip := flip_spell c hc
  go_enter Tryd.func106, Tryd.ntmps106
  go_wp2_with (go_at_call 122; refine (table_any _).mono ?_; rintro e w' ⟨rfl, rfl⟩)
  clear hflip
  have hlt0 : Crc.flip c < 4294967296 := Crc.flip_lt hc
  go_loopw [0, 6, 12] (fun v _ i wr => ∃ k n : Nat, k ≤ s.size ∧ i = .int .i64 k ∧ v = .int .u32 ((Crc.run (Crc.flip c) (s.data.toList.take k) : Nat) : Int) ∧ wr = (w.alloc (.cells (tabArr 256) 170)).drewN n) (fun _ _ i _ => s.size - (intOf i).toNat)
  case atStart => exact ⟨0, 0, by omega, rfl, rfl, rfl⟩
  case round =>
    obtain ⟨k, n, hk, rfl, rfl, rfl⟩ := hrel
    have hx : Crc.run (Crc.flip c) (s.data.toList.take k) < 4294967296 := Crc.run_lt hlt0 _
    by_cases hlt : k < s.size
    · have HS := Lib.hid (run_snoc (Crc.flip c) s k hlt)
      obtain ⟨x, hxe⟩ : ∃ x, x = Crc.run (Crc.flip c) (s.data.toList.take k) := ⟨_, rfl⟩
      rw [← hxe] at hx HS
      rw [← hxe]
      have HX := Lib.hid hxe
      clear hxe
      have hb : s[k].toNat < 256 := s[k].toNat_lt
      have h256 : x % 256 ^^^ s[k].toNat < 2 ^ 8 := Nat.xor_lt_two_pow (by omega) (by omega)
      obtain ⟨j, hj⟩ : ∃ j, x % 256 ^^^ s[k].toNat = j := ⟨_, rfl⟩
      have e1 := idx_spell x s[k].toNat hb
      have e2 := res_spell x s[k].toNat j hx hb hj
      rw [hj] at e1 h256
      have h257 : (j : Int) < 256 := by omega
      have e3 := tabArr_get 256 j (by omega)
      rw [if_pos (by omega)] at e3
      clear hj h256
      go_wp2
      go_quiet (fail)
      go_wp2
      go_roundw
      case rel => exact ⟨k + 1, _, by omega, by go_num, by rw [HS.out], rfl⟩
      case measure => simp [intOf]; omega
    · obtain rfl : k = s.size := by omega
      have ht : List.take s.size s.data.toList = s.data.toList := List.take_of_length_le (by simp)
      rw [ht] at hx ⊢
      clear ht
      have e1 := flip_spell _ hx
      go_wp2
      go_ret
      exact ⟨rfl, ((Ext.refl w).alloc _).drewN _⟩
theorem crc_any (s : ByteArray) (w : World) (hs : s.size ≤ maxLen) :
    Calls Tryd.prog 83 #[.string s] w fun e w' => e = .returned (.int .u32 ((Crc.crc s.data.toList : Nat) : Int)) ∧ Ext w w' := by
  go_enter Tryd.func83, Tryd.ntmps83
  go_wp2_with (go_at_call 106; refine (moreCRC_any 0 _ _ (by omega) hs).mono ?_; rintro e w' ⟨rfl, h⟩)
  go_ret
  exact ⟨rfl, h⟩
end Go.Proofs.YtkfjcgcgfdibaaaDoor
