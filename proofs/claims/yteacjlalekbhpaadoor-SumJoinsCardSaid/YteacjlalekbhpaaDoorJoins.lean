/- JoinAdler, and the document's joined sums. -/
import Derived.Test.YteacjlalekbhpaaDoorJoinCrc
import Derived.Test.YteacjlalekbhpaaDoorJoinA
import Derived.Test.YteacjlalekbhpaaDoorRefSums
import Derived.Test.YteacjlalekbhpaaDoorErrs
import Derived.Test.YteacjlalekbhpaaDoorPix
import Derived.Outline
namespace Go.Proofs.YteacjlalekbhpaaDoor
open Go.RowKit
set_option maxRecDepth 100000
theorem joinAdler_in (a b n : Nat) (w : World) (ha : a < 4294967296) (hb : b < 4294967296) (hn : n ≤ 1099511627776) :
    Calls Tryd.prog 12 #[.int .u32 (a : Int), .int .u32 (b : Int), .int .i64 (n : Int)] w fun e w' => e = .returned (.tuple #[.int .u32 (Adl.join a b n : Int), .nilIface]) ∧ w = w' := by
  have ea : bits BinOp.and IntKind.u32 (a : Int) 65535 = ((a % 65536 : Nat) : Int) := by
    have := u32_and_nat a 65535 ha (by decide); rw [nat_mask16] at this; exact this
  have eb : bits BinOp.and IntKind.u32 (b : Int) 65535 = ((b % 65536 : Nat) : Int) := by
    have := u32_and_nat b 65535 hb (by decide); rw [nat_mask16] at this; exact this
  have hk := Pix.mul_bd (show 0 ≤ (n : Int) % 65521 by omega) (show (n : Int) % 65521 ≤ 65520 by omega) (show 0 ≤ (a : Int) % 65536 % 65521 + 65521 - 1 by omega) (show (a : Int) % 65536 % 65521 + 65521 - 1 ≤ 131040 by omega)
  have hf : bits BinOp.or IntKind.u64 (((a : Int) / 65536 % 65521 + (b : Int) / 65536 % 65521 + (n : Int) % 65521 * ((a : Int) % 65536 % 65521 + 65521 - 1)) % 65521 * 65536) (((a : Int) % 65536 % 65521 + (b : Int) % 65536 % 65521 + 65521 - 1) % 65521) % 4294967296 = (Adl.join a b n : Int) := by
    obtain ⟨z, hz⟩ : ∃ z, z = n % 65521 * (a % 65536 % 65521 + 65520) := ⟨_, rfl⟩
    have e1 : (n : Int) % 65521 * ((a : Int) % 65536 % 65521 + 65521 - 1) = (z : Int) := by
      rw [hz, show ((a : Int) % 65536 % 65521 + 65521 - 1) = ((a % 65536 % 65521 + 65520 : Nat) : Int) by omega]; simp
    rw [e1, Adl.join_eq a b n z hz]
    clear hz e1
    rw [show (((a : Int) / 65536 % 65521 + (b : Int) / 65536 % 65521 + (z : Int)) % 65521 * 65536) = (((a / 65536 % 65521 + b / 65536 % 65521 + z) % 65521 * 65536 : Nat) : Int) by omega,
      show (((a : Int) % 65536 % 65521 + (b : Int) % 65536 % 65521 + 65521 - 1) % 65521) = (((a % 65536 % 65521 + b % 65536 % 65521 + 65520) % 65521 : Nat) : Int) by omega]
    rw [u64_or_nat _ _ (by omega) (by omega), nat_join 16 _ _ (by omega) (by omega)]
    omega
  have HF := Lib.hid hf
  clear hf
  go_enter Tryd.func12, Tryd.ntmps12
  go_wp2
  go_ret2
  exact ⟨congrArg (fun x => Ending.returned (.tuple #[.int .u32 x, .nilIface])) HF.out, rfl⟩
theorem joinAdler_out (a b : Nat) (n : Int) (E : Nat → Addr) (w : World) (hE : Errs w E) (h : n < 0 ∨ 1099511627776 < n) (h1 : -9223372036854775808 ≤ n) (h2 : n ≤ 9223372036854775807) :
    Calls Tryd.prog 12 #[.int .u32 (a : Int), .int .u32 (b : Int), .int .i64 n] w fun e w' => e = .returned (.tuple #[.int .u32 0, sentV (E 1)]) ∧ Ext w w' := by
  have c1 := hE.var 1 (by decide)
  simp only [gk, sentV] at c1
  clear hE
  by_cases h0 : n < 0
  · clear h
    go_enter Tryd.func12, Tryd.ntmps12
    go_wp2
    go_quiet (fail)
    go_wp2
    go_ret2
    exact ⟨rfl, Ext.drewN (Ext.refl _) _⟩
  · have h3 : 1099511627776 < n := by omega
    clear h
    go_enter Tryd.func12, Tryd.ntmps12
    go_wp2
    go_quiet (fail)
    go_wp2
    go_ret2
    exact ⟨rfl, Ext.drewN (Ext.refl _) _⟩
theorem joinCRC_out (a b : Nat) (n : Int) (E : Nat → Addr) (w : World) (hE : Errs w E) (h : n < 0 ∨ 1099511627776 < n) (h1 : -9223372036854775808 ≤ n) (h2 : n ≤ 9223372036854775807) :
    Calls Tryd.prog 10 #[.int .u32 (a : Int), .int .u32 (b : Int), .int .i64 n] w fun e w' => e = .returned (.tuple #[.int .u32 0, sentV (E 1)]) ∧ Ext w w' := by
  have c1 := hE.var 1 (by decide)
  simp only [gk, sentV] at c1
  clear hE
  by_cases h0 : n < 0
  · clear h
    go_enter Tryd.func10, Tryd.ntmps10
    go_wp2
    go_quiet (fail)
    go_wp2
    go_ret2
    exact ⟨rfl, Ext.drewN (Ext.refl _) _⟩
  · have h3 : 1099511627776 < n := by omega
    clear h
    go_enter Tryd.func10, Tryd.ntmps10
    go_wp2
    go_quiet (fail)
    go_wp2
    go_ret2
    exact ⟨rfl, Ext.drewN (Ext.refl _) _⟩
theorem joinAdlerOf_any (a b n : Nat) (w : World) (ha : a < 4294967296) (hb : b < 4294967296) (hn : n ≤ 1099511627776) :
    Calls Tryd.prog 17 #[.int .u32 (a : Int), .int .u32 (b : Int), .int .i64 (n : Int)] w fun e w' => e = .returned (.int .u32 (Adl.join a b n : Int)) ∧ w = w' := by
  have hk := Pix.mul_bd (show 0 ≤ (n : Int) % 65521 by omega) (show (n : Int) % 65521 ≤ 65520 by omega) (show 0 ≤ ((a : Int) % 65536 + 65520) % 65521 by omega) (show ((a : Int) % 65536 + 65520) % 65521 ≤ 65520 by omega)
  go_enter Tryd.func17, Tryd.ntmps17
  go_wp2
  go_ret
  refine ⟨ret_int ?_, rfl⟩
  obtain ⟨y, hy⟩ : ∃ y, y = n % 65521 * ((a % 65536 + 65520) % 65521) := ⟨_, rfl⟩
  have e1 : (n : Int) % 65521 * (((a : Int) % 65536 + 65520) % 65521) = (y : Int) := by rw [hy]; simp
  rw [Adl.join_eq' a b n y hy]
  rw [e1] at *
  clear e1 hy
  omega
theorem joinCRCOf_any (a b n : Nat) (w : World) (ha : a < 4294967296) (hb : b < 4294967296) (hn : n ≤ 3000) :
    Calls Tryd.prog 18 #[.int .u32 (a : Int), .int .u32 (b : Int), .int .i64 (n : Int)] w fun e w' => e = .returned (.int .u32 (Crc.join a b n : Int)) ∧ w = w' := by
  go_enter Tryd.func18, Tryd.ntmps18
  go_wp2
  go_loop [0, 7] (fun p c => ∃ i : Nat, i ≤ 8 * n ∧ c = .int .i64 i ∧ p = .int .u32 (Crc.Tn i a : Int)) (fun _ c => 8 * n - (intOf c).toNat)
  case atStart => exact ⟨0, by omega, rfl, rfl⟩
  case round =>
    obtain ⟨i, hi, rfl, rfl⟩ := hrel
    obtain ⟨x, hx⟩ : ∃ x, Crc.Tn i a = x := ⟨_, rfl⟩
    have hlt : x < 4294967296 := by rw [← hx]; exact Crc.Tn_lt ha
    rw [hx]
    have HX := Lib.hid hx
    clear hx
    by_cases hin : i < 8 * n
    · by_cases ho : x % 2 = 1
      · have t1 : ((x : Int) % 2 == 1) = true := by rw [beq_iff_eq]; omega
        have e1 := T_odd x ho hlt
        have HT : Hid (Crc.Tn (i + 1) a = Crc.T x) := Lib.hid (by rw [Crc.Tn_succ, HX.out])
        go_wp2
        go_round
        case rel => exact ⟨i + 1, by omega, by go_num, by rw [HT.out]⟩
        case measure => simp [intOf]; omega
      · have t1 : ((x : Int) % 2 == 1) = false := by rw [beq_eq_false_iff_ne]; omega
        have HT : Hid (Crc.Tn (i + 1) a = x / 2) := Lib.hid (by rw [Crc.Tn_succ, HX.out, T_even' x (by omega)])
        go_wp2
        go_round
        case rel => exact ⟨i + 1, by omega, by go_num, by rw [HT.out]; go_num⟩
        case measure => simp [intOf]; omega
    · obtain rfl : i = 8 * n := by omega
      have hxo : bits BinOp.xor IntKind.u32 (x : Int) (b : Int) = (Crc.join a b n : Int) := by
        rw [u32_xor_nat _ _ hlt hb]; unfold Crc.join; rw [HX.out]
      have HXO := Lib.hid hxo
      clear hxo
      go_wp2
      go_ret
      exact ⟨ret_int HXO.out, rfl⟩
end Go.Proofs.YteacjlalekbhpaaDoor
