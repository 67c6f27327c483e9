/- The walk of SumBursts: whatever the input, it returns true; new blocks alone are made. -/
import Derived.Test.YteacjlalekbhpaaSumRefs
import Derived.Test.YteacjlalekbhpaaBurst
import Derived.Test.YteacjlalekbhpaaRow8
import Derived.RegionTactic
namespace Go.Proofs.Yteacjlalekbhpaa
open Go.RowKit
theorem bursts_out (s : ByteArray) (a : Int) (t : Nat) (w : World) (_ht : t < 4294967296) (hs : s.size ≤ maxLen) (_ha : -9223372036854775808 ≤ a ∧ a ≤ 9223372036854775807)
    (h : 2000 < s.size ∨ t = 0 ∨ a < 0 ∨ (8 : Int) * s.size ≤ a) :
    Calls Try.prog 4 #[.string s, .int .i64 a, .int .u32 (t : Int)] w fun e w' => e = .returned (.bool true) ∧ Ext w w' := by
  obtain ⟨ha1, ha2⟩ := _ha
  unfold maxLen at hs
  by_cases h1 : 2000 < s.size
  · go_enter Try.func4, Try.ntmps4
    go_wp2_with (go_at_call 5; refine (known_any _).mono ?_; rintro e w' ⟨rfl, h⟩)
    go_ret
    exact ⟨rfl, h⟩
  by_cases h2 : t = 0
  · have h2' : ((t : Int) == 0) = true := by rw [beq_iff_eq]; omega
    clear h2
    go_enter Try.func4, Try.ntmps4
    go_wp2_with (go_at_call 5; refine (known_any _).mono ?_; rintro e w' ⟨rfl, h⟩)
    go_ret
    exact ⟨rfl, h⟩
  have h2' : ((t : Int) == 0) = false := by rw [beq_eq_false_iff_ne]; omega
  by_cases h3 : a < 0
  · go_enter Try.func4, Try.ntmps4
    go_wp2_with (go_at_call 5; refine (known_any _).mono ?_; rintro e w' ⟨rfl, h⟩)
    go_ret
    exact ⟨rfl, h⟩
  have h4 : (8 : Int) * s.size ≤ a := by omega
  go_enter Try.func4, Try.ntmps4
  go_wp2_with (go_at_call 5; refine (known_any _).mono ?_; rintro e w' ⟨rfl, h⟩)
  go_ret
  exact ⟨rfl, h⟩
theorem flip8 (x t : Nat) (hx : x < 256) (ht : t < 8) : ∃ c : UInt8, c.toNat = x ^^^ 2 ^ t ∧ bits BinOp.xor IntKind.u8 (x : Int) ((2 : Int) ^ t % 256) = (c.toNat : Int) := by
  have h2 : 2 ^ t < 256 := by
    have := Nat.pow_lt_pow_right (a := 2) (by decide) ht; simpa using this
  have hlt : x ^^^ 2 ^ t < 2 ^ 8 := Nat.xor_lt_two_pow (by omega) (by omega)
  have hc : (UInt8.ofNat (x ^^^ 2 ^ t)).toNat = x ^^^ 2 ^ t := by
    rw [UInt8.toNat_ofNat']; exact Nat.mod_eq_of_lt hlt
  refine ⟨UInt8.ofNat (x ^^^ 2 ^ t), hc, ?_⟩
  rw [hc]
  have e : (2 : Int) ^ t % 256 = ((2 ^ t : Nat) : Int) := by
    rw [show ((2 ^ t : Nat) : Int) = (2 : Int) ^ t by simp]
    refine Int.emod_eq_of_lt (by exact Int.pow_nonneg (by decide)) ?_
    have : ((2 ^ t : Nat) : Int) < 256 := by omega
    simpa using this
  rw [e, u8_xor_nat _ _ hx h2]
theorem bit_of (t i : Nat) : t.testBit i = true ↔ t / 2 ^ i % 2 = 1 := by
  rw [Nat.testBit_eq_decide_div_mod_eq]; simp
theorem bit_walk (t i : Nat) : ((t : Int) / 2 ^ i).tmod 2 = 1 ↔ t.testBit i = true := by
  rw [bit_of, Int.tmod_eq_emod_of_nonneg (Int.ediv_nonneg (by omega) (Int.pow_nonneg (by decide)))]
  have : ((t : Int) / 2 ^ i) % 2 = ((t / 2 ^ i % 2 : Nat) : Int) := by simp
  rw [this]; omega
theorem add_plain (b j : Nat) : (⟨b, 0, none⟩ : Addr).add j = ⟨b, j, none⟩ := by unfold Addr.add; split <;> simp_all
theorem bursts_in (s : ByteArray) (a t : Nat) (w : World) (ht : t < 4294967296) (hs : s.size ≤ 2000) (ht0 : 0 < t) (ha : a < 8 * s.size) :
    Calls Try.prog 4 #[.string s, .int .i64 (a : Int), .int .u32 (t : Int)] w fun e w' => e = .returned (.bool true) ∧ Ext w w' := by
  have h2' : ((t : Int) == 0) = false := by rw [beq_eq_false_iff_ne]; omega
  have hcv := fun (w : World) => run_bytes_of_string (P := Try.prog) w 9 27 5 s Try.underlying9 Try.underlying27 Try.underlying5
  go_enter Try.func4, Try.ntmps4
  go_wp2_with (go_at_call 5; refine (known_any _).mono ?_; rintro e w' ⟨rfl, h⟩)
  go_loopw [9, 10] (fun v _ wr => ∃ (i : Nat) (l : List UInt8), i ≤ 32 ∧ v = .int .i64 i ∧ l.length = s.size ∧ Hid (Crc.num l = Crc.num s.data.toList ^^^ Crc.turned t a (8 * s.size) i) ∧ Row8 wr w'.heap.size l ∧ Below w'.heap.size w' wr) (fun v _ _ => 32 - (intOf v).toNat)
  case atStart =>
    refine ⟨0, s.data.toList, by omega, rfl, by simp, ?_, ?_, ?_⟩
    · show _ = _; rw [Crc.turned_zero, Nat.xor_zero]
    · intro j hj
      have hj' : j < s.data.size := by simpa using hj
      refine ⟨?_, ?_⟩
      · show (w'.alloc _).cell? _ = _
        rw [World.cell?_alloc_mark, bytesRow_at s _ j hj']; simp
      · show (w'.alloc _).frozen? _ = _
        rw [World.frozen?_alloc_mark]
        have : s.data.size ≤ (bytesRow s (grownCap w' s.size 0 5)).size := by unfold bytesRow; simp
        have h2 : ¬ (bytesRow s (grownCap w' s.size 0 5)).size ≤ j := by omega
        simp [h2]
    · exact ((Below.refl _ _).alloc (Nat.le_refl _) _).drew
  case round =>
    obtain ⟨i, l, hi, rfl, hl, HN, hR, hB⟩ := hrel
    by_cases hlt : i < 32
    · go_wp2_with fail
      · have hk : a + i < 8 * s.size := by omega
        have hj : (a + i) / 8 < l.length := by omega
        obtain ⟨hc, hf⟩ := hR ((a + i) / 8) hj
        have hbit : ((t : Int) / 2 ^ i).tmod 2 = 1 := by assumption
        go_region
        go_wp2
        go_roundw
        case rel =>
          obtain ⟨c, hc1, hc2⟩ := flip8 l[(a + i) / 8].toNat ((a + i) % 8) l[(a + i) / 8].toNat_lt (by omega)
          rw [hc2]
          refine ⟨i + 1, l.set ((a + i) / 8) c, by omega, by go_num, by simpa using hl, ?_, ?_, ?_⟩
          · show _ = _
            rw [Crc.num_flip l _ _ c hj hc1, HN.out, Crc.turned_yes t a (8 * s.size) i ((bit_walk t i).1 hbit) hk, show 8 * ((a + i) / 8) + (a + i) % 8 = a + i by omega, Nat.xor_assoc]
          · exact (hR.put _ hj c).drewN 1
          · exact (hB.setCell (Nat.le_refl _) _).drew
        case measure => simp [intOf]; omega
      · refine ⟨⟨i + 1, l, by omega, by go_num, hl, ?_, hR, hB⟩, by simp [intOf]; omega⟩
        show _ = _
        rw [HN.out, Crc.turned_no t a (8 * s.size) i (fun h => by omega)]
      · have hbit : ¬ ((t : Int) / 2 ^ i).tmod 2 = 1 := by assumption
        refine ⟨⟨i + 1, l, by omega, by go_num, hl, ?_, hR, hB⟩, by simp [intOf]; omega⟩
        show _ = _
        rw [HN.out, Crc.turned_no t a (8 * s.size) i (fun h => hbit ((bit_walk t i).2 h.1))]
    · obtain rfl : i = 32 := by omega
      have hcr : (convert 27 9 (.slice (some ⟨w'.heap.size, 0, none⟩) s.size (grownCap w' s.size 0 5))).run Try.prog wr = .ok (.string ⟨l.toArray⟩) wr := by
        rw [← hl]
        refine run_convert_bytes_back (P := Try.prog) wr 27 9 5 ⟨w'.heap.size, 0, none⟩ _ l Try.underlying27 Try.underlying5 Try.underlying9 (fun j hj => ?_)
        rw [add_plain]; exact (hR j hj).1
      have hx : Ext w wr := h.trans (Below.mono hB (Nat.le_refl _))
      go_wp2_with fail
      · go_ret
        exact ⟨rfl, hx⟩
      · have hne : ¬ l = s.toList := by assumption
        have hcrc : Crc.crc l ≠ Crc.crc s.data.toList := by
          rcases Crc.burst s.data.toList l t a (by simpa using hl.symm) ht (by simpa using ha) (by simpa using HN.out) with hq | hq
          · exact absurd (hq.trans (ByteArray.toList_eq s).symm) hne
          · exact hq
        have hbq : (((Crc.crc l : Nat) : Int) != ((Crc.crc s.data.toList : Nat) : Int)) = true := by
          rw [bne_iff_ne]; omega
        have hsl : (⟨l.toArray⟩ : ByteArray).size ≤ maxLen := by
          show l.toArray.size ≤ maxLen; unfold maxLen; simp; omega
        have hss : s.size ≤ maxLen := by unfold maxLen; omega
        clear hne hcrc
        refine (crc_any _ _ hsl).mono ?_
        rintro e w2 ⟨rfl, hx2⟩
        go_wp2_with (go_at_call 6; refine (crc_any _ _ hss).mono ?_; rintro e w3 ⟨rfl, hx3⟩)
        go_ret
        exact ⟨rfl, (hx.trans hx2).trans hx3⟩
end Go.Proofs.Yteacjlalekbhpaa
