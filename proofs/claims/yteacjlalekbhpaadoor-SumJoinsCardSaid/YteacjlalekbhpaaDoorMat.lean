/- A matrix of bits in memory: times, square. -/
import Derived.Test.YteacjlalekbhpaaDoorJoinC
import Derived.Test.YteacjlalekbhpaaDoorCells
namespace Go.Proofs.YteacjlalekbhpaaDoor
open Go.RowKit
set_option maxRecDepth 100000
structure Lin (F : Nat → Nat) : Prop where
  xor : ∀ a b, F (a ^^^ b) = F a ^^^ F b
  zero : F 0 = 0
  lt : ∀ a, a < 4294967296 → F a < 4294967296
theorem times_calls (B v : Nat) (F : Nat → Nat) (w : World) (hF : Lin F) (hv : v < 4294967296) (hC : Cs w B 32 .u32 (fun i => (F (2 ^ i) : Int))) :
    Calls Tryd.prog 33 #[.pointer (some ⟨B, 0, none⟩), .int .u32 (v : Int)] w fun e w' => e = .returned (.int .u32 (F v : Int)) ∧ w = w' := by
  have HC := Lib.hid hC
  have HF := Lib.hid hF
  clear hC hF
  go_enter Tryd.func33, Tryd.ntmps33
  go_wp2_with fail
  go_loop [1, 5, 6] (fun x o c => ∃ i : Nat, i ≤ 32 ∧ c = .int .i64 i ∧ x = .int .u32 ((v / 2 ^ i : Nat) : Int) ∧ o = .int .u32 (F (v % 2 ^ i) : Int)) (fun x _ _ => (intOf x).toNat)
  case atStart => exact ⟨0, by omega, rfl, by simp, by simp [Nat.mod_one, HF.out.zero]⟩
  case round =>
    obtain ⟨i, hi, rfl, rfl, rfl⟩ := hrel
    obtain ⟨x, hx⟩ : ∃ x, v / 2 ^ i = x := ⟨_, rfl⟩
    have hxl : x < 4294967296 := by rw [← hx]; exact Nat.lt_of_le_of_lt (Nat.div_le_self _ _) hv
    by_cases h0 : 0 < x
    · have hi32 : i < 32 := by
        rcases Nat.lt_or_ge i 32 with q | q
        · exact q
        · have : v / 2 ^ i = 0 := Nat.div_eq_of_lt (Nat.lt_of_lt_of_le hv (Nat.pow_le_pow_right (n := 2) (i := 32) (by decide) q))
          omega
      have hb := Crc.bit_step F HF.out.xor HF.out.zero v i
      have hn : v / 2 ^ (i + 1) = x / 2 := by rw [Nat.pow_succ, ← Nat.div_div_eq_div_mul, hx]
      have ho := HF.out.lt (v % 2 ^ i) (Nat.lt_of_le_of_lt (Nat.mod_le _ _) hv)
      have hp : F (2 ^ i) < 4294967296 := HF.out.lt _ (show 2 ^ i < 2 ^ 32 from Nat.pow_lt_pow_right (by decide) hi32)
      have c1 : w.cell? ⟨B, i, none⟩ = some (.int .u32 (F (2 ^ i) : Int)) := (HC.out i hi32).1
      rw [hx] at hb ⊢
      have hm : bits BinOp.and IntKind.u32 (x : Int) 1 = ((x % 2 : Nat) : Int) := by
        rw [show (1 : Int) = ((1 : Nat) : Int) from rfl, u32_and_nat _ _ hxl (by decide), Nat.and_one_is_mod]
      have hxo := u32_xor_nat (F (v % 2 ^ i)) (F (2 ^ i)) ho hp
      generalize F (2 ^ i) = p at *
      generalize F (v % 2 ^ i) = o at *
      have HX := Lib.hid hx
      have HB := Lib.hid hb
      have HN := Lib.hid hn
      clear hx hb hn
      by_cases ht : x % 2 = 1
      · have t1 : (((x % 2 : Nat) : Int) == 1) = true := by rw [ht]; rfl
        have HT := Lib.hid ht
        clear ht
        go_wp2_with fail
        refine ⟨⟨i + 1, by omega, by go_num, val_int ?_, val_int ?_⟩, by simp [intOf]; omega⟩
        · rw [HN.out]; omega
        · rw [HB.out, if_pos HT.out]
      · have t1 : (((x % 2 : Nat) : Int) == 1) = false := by rw [beq_eq_false_iff_ne]; omega
        have HT := Lib.hid ht
        clear ht
        go_wp2_with fail
        refine ⟨⟨i + 1, by omega, by go_num, val_int ?_, val_int ?_⟩, by simp [intOf]; omega⟩
        · rw [HN.out]; omega
        · rw [HB.out, if_neg HT.out]
    · obtain rfl : x = 0 := by omega
      have hlt : v < 2 ^ i := by
        rcases (Nat.div_eq_zero_iff).1 hx with q | q
        · have := Nat.two_pow_pos i; omega
        · exact q
      rw [hx, Nat.mod_eq_of_lt hlt]
      clear hx hlt
      go_wp2_with fail
      go_ret
      exact ⟨rfl, rfl⟩
theorem zeroMat (w : World) : (zeroValue 52).run Tryd.prog w = .ok (.agg (Array.replicate 32 (.int .u32 0))) w := by kernel_rfl
theorem square_calls (B : Nat) (F : Nat → Nat) (w : World) (hF : Lin F) (hC : Cs w B 32 .u32 (fun i => (F (2 ^ i) : Int))) :
    Calls Tryd.prog 32 #[.pointer (some ⟨B, 0, none⟩)] w fun e w' => e = .returned (.pointer (some ⟨w.heap.size, 0, none⟩)) ∧ Cs w' w.heap.size 32 .u32 (fun i => (F (F (2 ^ i)) : Int)) ∧ Ext w w' := by
  have HC := Lib.hid hC
  have HF := Lib.hid hF
  have hB : B < w.heap.size := World.block_lt_of_cell? w _ (hC 0 (by decide)).1
  clear hC hF
  have hz := zeroMat
  go_enter Tryd.func32, Tryd.ntmps32
  go_wp2_with fail
  rw [cellsI_zero]
  clear hz
  have H1 := Lib.hid (Cs.born w .u32 32 (fun _ => 0) 52)
  have H2 := Lib.hid ((Ext.refl w).alloc (.cells (cellsI .u32 32 fun _ => 0) 52))
  generalize (w.alloc (.cells (cellsI .u32 32 fun _ => 0) 52)) = w2 at *
  go_loopw [4, 5] (fun _ c wr => ∃ i : Nat, i ≤ 32 ∧ c = .int .i64 i ∧ Hid (Cs wr w.heap.size 32 .u32 (fun j => if j < i then (F (F (2 ^ j)) : Int) else 0)) ∧ Hid (Ext w wr)) (fun _ c _ => 32 - (intOf c).toNat)
  case atStart => exact ⟨0, by omega, rfl, Lib.hid (H1.out.congr fun j _ => by rw [if_neg (by omega)]), H2⟩
  case round =>
    obtain ⟨i, hi, rfl, HR, HE⟩ := hrel
    by_cases hlt : i < 32
    · have HCr : Hid (Cs wr B 32 .u32 (fun i => (F (2 ^ i) : Int))) := Lib.hid (fun j hj => by
        obtain ⟨q1, q2⟩ := HC.out j hj
        exact ⟨(HE.out.cell (p := ⟨B, j, none⟩) hB).trans q1, (HE.out.frozen (p := ⟨B, j, none⟩) hB).trans q2⟩)
      have c1 : wr.cell? ⟨B, i, none⟩ = some (.int .u32 (F (2 ^ i) : Int)) := (HCr.out i hlt).1
      have c2 := (HR.out i hlt).1
      have c3 := (HR.out i hlt).2
      have hp : 2 ^ i < 4294967296 := show 2 ^ i < 2 ^ 32 from Nat.pow_lt_pow_right (by decide) hlt
      have hp2 := HF.out.lt _ hp
      go_wp2_with fail
      refine (times_calls B (F (2 ^ i)) F wr HF.out hp2 HCr.out).mono ?_
      rintro e w3 ⟨rfl, rfl⟩
      go_wp2_with fail
      refine ⟨⟨i + 1, by omega, by go_num, Lib.hid ?_, Lib.hid ?_⟩, by simp [intOf]; omega⟩
      · refine HR.out.put i _ _ hlt ?_
        intro j hj
        by_cases e : j = i
        · subst e; simp
        · rw [if_neg e]
          by_cases e2 : j < i
          · rw [if_pos e2, if_pos (by omega)]
          · rw [if_neg e2, if_neg (by omega)]
      · exact HE.out.setCell (Nat.le_refl _) _
    · obtain rfl : i = 32 := by omega
      go_wp2_with fail
      go_ret
      exact ⟨rfl, HR.out.congr fun j hj => by rw [if_pos hj], HE.out⟩
end Go.Proofs.YteacjlalekbhpaaDoor
