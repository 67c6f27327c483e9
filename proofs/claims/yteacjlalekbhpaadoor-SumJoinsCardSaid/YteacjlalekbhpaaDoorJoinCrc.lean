/- JoinCRC: what it computes. -/
import Derived.Test.YteacjlalekbhpaaDoorMat
namespace Go.Proofs.YteacjlalekbhpaaDoor
open Go.RowKit
set_option maxRecDepth 100000
theorem i64_and1 (n : Int) : bits .and .i64 n 1 = n % 2 := by
  have h1 : (BitVec.ofInt 64 1).toNat = 2 ^ 1 - 1 := by decide
  have key : (BitVec.ofInt 64 n &&& BitVec.ofInt 64 1).toNat = (n % ((2 ^ 64 : Nat) : Int)).toNat % 2 ^ 1 := by
    rw [BitVec.toNat_and, BitVec.toNat_ofInt, h1, Nat.and_two_pow_sub_one_eq_mod]
  show IntKind.i64.wrap ((BitVec.ofInt 64 n &&& BitVec.ofInt 64 1).toNat : Nat) = n % 2
  rw [key, IntKind.wrap_i64]
  omega
theorem lin_Tn (n : Nat) : Lin (Crc.Tn n) := ⟨Crc.Tn_xor n, Crc.Tn_zero n, fun _ h => Crc.Tn_lt h⟩
theorem joinCRC_in (a b n : Nat) (w : World) (ha : a < 4294967296) (hb : b < 4294967296) (hn : n ≤ 1099511627776) :
    Calls Tryd.prog 10 #[.int .u32 (a : Int), .int .u32 (b : Int), .int .i64 (n : Int)] w fun e w' => e = .returned (.tuple #[.int .u32 (Crc.join a b n : Int), .nilIface]) ∧ Ext w w' := by
  have hz := zeroMat
  go_enter Tryd.func10, Tryd.ntmps10
  go_wp2_with fail
  clear hz
  rw [cellsI_zero, cellsI_set .u32 32 (fun _ => 0) 0 3988292384 (fun j => if j < 1 then (Crc.T (2 ^ j) : Int) else 0) (fun i _ => by
    by_cases h : i = 0
    · subst h; rfl
    · rw [if_neg (by omega), if_neg h])]
  have H1 := Lib.hid (Cs.born w .u32 32 (fun j => if j < 1 then (Crc.T (2 ^ j) : Int) else 0) 52)
  have H2 := Lib.hid ((Ext.refl w).alloc (.cells (cellsI .u32 32 (fun j => if j < 1 then (Crc.T (2 ^ j) : Int) else 0)) 52))
  generalize (w.alloc (.cells (cellsI .u32 32 (fun j => if j < 1 then (Crc.T (2 ^ j) : Int) else 0)) 52)) = w2 at *
  generalize (Value.agg (cellsI .u32 32 (fun j => if j < 1 then (Crc.T (2 ^ j) : Int) else 0))) = Q at *
  go_loopw [9] (fun c wr => ∃ i : Nat, 1 ≤ i ∧ i ≤ 32 ∧ c = .int .i64 i ∧ Hid (Cs wr w.heap.size 32 .u32 (fun j => if j < i then (Crc.T (2 ^ j) : Int) else 0)) ∧ Hid (Ext w wr)) (fun c _ => 32 - (intOf c).toNat)
  case atStart => exact ⟨1, by omega, by omega, rfl, H1, H2⟩
  case round =>
    obtain ⟨i, hi1, hi, rfl, HR, HE⟩ := hrel
    by_cases hlt : i < 32
    · have c2 := (HR.out i hlt).1
      have c3 := (HR.out i hlt).2
      simp only [Nat.lt_irrefl, if_false] at c2
      go_wp2_with fail
      go_region
      go_wp2_with fail
      have e1 : (2 : Int) ^ (i - 1) % 4294967296 = (Crc.T (2 ^ i) : Int) := by
        have h1 : Crc.T (2 ^ i) = 2 ^ (i - 1) := by
          have := Crc.T_pow (i - 1)
          rwa [show i - 1 + 1 = i by omega] at this
        have h2 : 2 ^ (i - 1) < 2 ^ 32 := Nat.pow_lt_pow_right (by decide) (by omega)
        rw [h1, show (2 : Int) ^ (i - 1) = ((2 ^ (i - 1) : Nat) : Int) by simp]; omega
      rw [e1]
      refine ⟨⟨i + 1, by omega, by omega, by go_num, Lib.hid ?_, Lib.hid ?_⟩, by simp [intOf]; omega⟩
      · refine (HR.out.put i _ _ hlt ?_).drew
        intro j hj
        by_cases e : j = i
        · subst e; simp
        · rw [if_neg e]
          by_cases e2 : j < i
          · rw [if_pos e2, if_pos (by omega)]
          · rw [if_neg e2, if_neg (by omega)]
      · exact (HE.out.setCell (Nat.le_refl _) _).drew
    · obtain rfl : i = 32 := by omega
      have hB0 : w.heap.size < wr.heap.size := World.block_lt_of_cell? wr _ (HR.out 0 (by decide)).1
      go_wp2_with fail
      have HR1 : Hid (Cs wr w.heap.size 32 .u32 (fun j => (Crc.Tn (2 ^ 0) (2 ^ j) : Int))) := Lib.hid (HR.out.congr fun j hj => by rw [if_pos hj]; rfl)
      clear HR H1 H2
      rw [show ((32 : Nat) : Int) = 32 from rfl]
      go_loopw [8, 30] (fun p c wx => ∃ (i B : Nat), i ≤ 3 ∧ c = .int .i64 i ∧ p = .pointer (some ⟨B, 0, none⟩) ∧ Hid (Cs wx B 32 .u32 (fun j => (Crc.Tn (2 ^ i) (2 ^ j) : Int))) ∧ Hid (Ext w wx)) (fun _ c _ => 3 - (intOf c).toNat)
      case atStart => exact ⟨0, w.heap.size, by omega, rfl, rfl, HR1, HE⟩
      case round =>
        obtain ⟨i, B, hi, rfl, rfl, HM, HX⟩ := hrel
        by_cases hlt3 : i < 3
        · go_wp2_with fail
          refine (square_calls B _ wr (lin_Tn (2 ^ i)) HM.out).mono ?_
          rintro e w4 ⟨rfl, hC, hE⟩
          have HC4 : Hid (Cs w4 wr.heap.size 32 .u32 (fun j => (Crc.Tn (2 ^ (i + 1)) (2 ^ j) : Int))) := Lib.hid (hC.congr fun j _ => by rw [← Crc.Tn_add, Nat.pow_succ, show 2 ^ i + 2 ^ i = 2 ^ i * 2 by omega])
          have HE4 := Lib.hid (HX.out.trans hE)
          clear hC hE
          go_wp2_with fail
          go_roundw
          case rel => exact ⟨i + 1, _, by omega, by go_num, rfl, HC4, HE4⟩
          case measure => simp [intOf]; omega
        · obtain rfl : i = 3 := by omega
          go_wp2_with fail
          have HM1 : Hid (Cs wr B 32 .u32 (fun j => (Crc.Tn (8 * 2 ^ 0) (2 ^ j) : Int))) := HM
          clear HM HR1
          go_loopw [0, 2, 8] (fun p q r wx => ∃ (i B : Nat), q = .int .i64 ((n / 2 ^ i : Nat) : Int) ∧ p = .int .u32 (Crc.Tn (8 * (n % 2 ^ i)) a : Int) ∧ r = .pointer (some ⟨B, 0, none⟩) ∧ Hid (Cs wx B 32 .u32 (fun j => (Crc.Tn (8 * 2 ^ i) (2 ^ j) : Int))) ∧ Hid (Ext w wx)) (fun _ q _ _ => (intOf q).toNat)
          case atStart => exact ⟨0, B, by simp, by simp [Nat.mod_one, Crc.Tn], rfl, HM1, HX⟩
          case round =>
            obtain ⟨i, B, rfl, rfl, rfl, HM, HX⟩ := hrel
            obtain ⟨x, hx⟩ : ∃ x, n / 2 ^ i = x := ⟨_, rfl⟩
            have hxl : x ≤ 1099511627776 := by rw [← hx]; exact Nat.le_trans (Nat.div_le_self _ _) hn
            rw [hx]
            have HXX := Lib.hid hx
            clear hx
            by_cases h0 : 0 < x
            · have hn2 : n / 2 ^ (i + 1) = x / 2 := by rw [Nat.pow_succ, ← Nat.div_div_eq_div_mul, HXX.out]
              have hm2 : n % 2 ^ (i + 1) = n % 2 ^ i + x % 2 * 2 ^ i := by rw [Nat.pow_succ, Nat.mod_mul, Nat.mul_comm (2 ^ i), HXX.out]
              have hal : Crc.Tn (8 * (n % 2 ^ i)) a < 4294967296 := Crc.Tn_lt ha
              have HN2 := Lib.hid hn2
              have HM2 := Lib.hid hm2
              clear hn2 hm2
              have sq : ∀ w4 : World, ∀ B', (Cs w4 B' 32 .u32 (fun j => (Crc.Tn (8 * 2 ^ i) (Crc.Tn (8 * 2 ^ i) (2 ^ j)) : Int))) → Hid (Cs w4 B' 32 .u32 (fun j => (Crc.Tn (8 * 2 ^ (i + 1)) (2 ^ j) : Int))) := fun w4 B' hC => Lib.hid (hC.congr fun j _ => by rw [← Crc.Tn_add, Nat.pow_succ, show 8 * 2 ^ i + 8 * 2 ^ i = 8 * (2 ^ i * 2) by omega])
              have SQ := Lib.hid sq
              clear sq
              by_cases ht : x % 2 = 1
              · have t1 : (bits BinOp.and IntKind.i64 (x : Int) 1 == 1) = true := by rw [i64_and1, beq_iff_eq]; omega
                have HT := Lib.hid ht
                clear ht
                go_wp2_with fail
                refine (times_calls B _ _ wr (lin_Tn (8 * 2 ^ i)) hal HM.out).mono ?_
                rintro e w3 ⟨rfl, rfl⟩
                go_wp2_with fail
                refine (square_calls B _ wr (lin_Tn (8 * 2 ^ i)) HM.out).mono ?_
                rintro e w4 ⟨rfl, hC, hE⟩
                have HC4 := SQ.out _ _ hC
                have HE4 := Lib.hid (HX.out.trans hE)
                clear hC hE
                go_wp2_with fail
                go_roundw
                case rel => ((repeat apply Exists.intro); exact ⟨⟨i + 1, _, val_int (by rw [HN2.out]; omega), val_int (by rw [HM2.out, HT.out, Nat.one_mul, ← Crc.Tn_add, Nat.mul_add]), rfl, HC4, HE4⟩, rfl⟩)
                case measure => simp [intOf]; omega
              · have t1 : (bits BinOp.and IntKind.i64 (x : Int) 1 == 1) = false := by rw [i64_and1, beq_eq_false_iff_ne]; omega
                have HT := Lib.hid (show x % 2 = 0 by omega)
                clear ht
                go_wp2_with fail
                refine (square_calls B _ wr (lin_Tn (8 * 2 ^ i)) HM.out).mono ?_
                rintro e w4 ⟨rfl, hC, hE⟩
                have HC4 := SQ.out _ _ hC
                have HE4 := Lib.hid (HX.out.trans hE)
                clear hC hE
                go_wp2_with fail
                go_roundw
                case rel => ((repeat apply Exists.intro); exact ⟨⟨i + 1, _, val_int (by rw [HN2.out]; omega), val_int (by rw [HM2.out, HT.out, Nat.zero_mul, Nat.add_zero]), rfl, HC4, HE4⟩, rfl⟩)
                case measure => simp [intOf]; omega
            · obtain rfl : x = 0 := by omega
              have hlt0 : n < 2 ^ i := by
                rcases (Nat.div_eq_zero_iff).1 HXX.out with q | q
                · have := Nat.two_pow_pos i; omega
                · exact q
              rw [Nat.mod_eq_of_lt hlt0]
              have hal : Crc.Tn (8 * n) a < 4294967296 := Crc.Tn_lt ha
              have hxo : bits BinOp.xor IntKind.u32 (Crc.Tn (8 * n) a : Int) (b : Int) = (Crc.join a b n : Int) := u32_xor_nat _ _ hal hb
              have HXO := Lib.hid hxo
              clear hxo hlt0
              go_wp2_with fail
              rw [HXO.out]
              exact bodyPost_ret (v := .tuple #[.int .u32 (Crc.join a b n : Int), .nilIface]) (by simp [results, Tryd.results10, go_sem, *]) rfl ⟨rfl, HX.out⟩
end Go.Proofs.YteacjlalekbhpaaDoor
