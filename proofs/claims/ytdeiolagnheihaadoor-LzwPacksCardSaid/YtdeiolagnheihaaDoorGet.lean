/- A reader of bits: contracts in terms of its text's number and its place. -/
import Derived.Test.YtdeiolagnheihaaDoorPutT
namespace Go.Proofs.YtdeiolagnheihaaDoor
open Go.RowKit
set_option maxRecDepth 100000
structure RAt (w : World) (B o : Nat) (s : ByteArray) (a : Nat) : Prop where
  c0 : w.cell? ⟨B, o, none⟩ = some (.string s)
  c1 : w.cell? ⟨B, o + 1, none⟩ = some (.int .i64 (a : Int))
  f1 : w.frozen? ⟨B, o + 1, none⟩ = false
  size : s.size ≤ 1099511627776
  le : a ≤ 8 * s.size + 8
structure RStep (w w' : World) (B o : Nat) : Prop where
  keeps : Keeps (fun k => k = B) w w'
  cells : ∀ j, j ≠ o + 1 → w'.cell? ⟨B, j, none⟩ = w.cell? ⟨B, j, none⟩
  marks : ∀ j, w'.frozen? ⟨B, j, none⟩ = w.frozen? ⟨B, j, none⟩
theorem RStep.refl (w : World) (B o : Nat) : RStep w w B o := ⟨Keeps.refl _ _, fun _ _ => rfl, fun _ => rfl⟩
theorem RStep.trans {a b c : World} {B o : Nat} (h : RStep a b B o) (k : RStep b c B o) : RStep a c B o :=
  ⟨h.keeps.trans k.keeps fun _ _ q => q, fun j h1 => (k.cells j h1).trans (h.cells j h1), fun j => (k.marks j).trans (h.marks j)⟩
theorem RAt.drewN {w : World} {B o a : Nat} {s : ByteArray} (h : RAt w B o s a) (m : Nat) : RAt (w.drewN m) B o s a := ⟨h.c0, h.c1, h.f1, h.size, h.le⟩
theorem RStep.drewN {w w' : World} {B o : Nat} (h : RStep w w' B o) (m : Nat) : RStep w (w'.drewN m) B o := ⟨h.keeps.drewN m, h.cells, h.marks⟩
theorem RAt.put {w : World} {B o a : Nat} {s : ByteArray} (h : RAt w B o s a) (a' : Nat) (h' : a' ≤ 8 * s.size + 8) :
    RAt (w.setCell ⟨B, o + 1, none⟩ (.int .i64 (a' : Int))) B o s a' ∧ RStep w (w.setCell ⟨B, o + 1, none⟩ (.int .i64 (a' : Int))) B o := by
  have a3 : (⟨B, o + 1, none⟩ : Addr) ≠ ⟨B, o, none⟩ := by intro e; injection e with _ e2; omega
  refine ⟨⟨(World.cell?_setCell_other _ _ _ _ a3).trans h.c0, World.cell?_setCell_same _ _ _ h.c1, ?_, h.size, h'⟩, ⟨(Keeps.refl (fun k => k = B) w).setCell (.inl rfl) _, ?_, ?_⟩⟩
  · rw [World.frozen?_setCell]; exact h.f1
  · intro j h2
    exact World.cell?_setCell_other _ _ _ _ (by intro e; injection e with _ e2; exact h2 e2.symm)
  · intro j; rw [World.frozen?_setCell]
theorem left_calls (B o a : Nat) (s : ByteArray) (w : World) (hR : RAt w B o s a) :
    Calls Tryd.prog 70 #[.pointer (some ⟨B, o, none⟩)] w fun e w' => e = .returned (.int .i64 (8 * (s.size : Int) - a)) ∧ ∃ m, w' = w.drewN m := by
  obtain ⟨c0, c1, f1, hs, hle⟩ := hR
  go_enter Tryd.func70, Tryd.ntmps70
  go_wp2
  go_quiet (fail)
  go_wp2
  go_ret
  exact ⟨rfl, _, rfl⟩
theorem at_calls (B o a : Nat) (s : ByteArray) (w : World) (hR : RAt w B o s a) :
    Calls Tryd.prog 47 #[.pointer (some ⟨B, o, none⟩)] w fun e w' => e = .returned (.int .i64 (a : Int)) ∧ w = w' := by
  obtain ⟨c0, c1, f1, hs, hle⟩ := hR
  go_enter Tryd.func47, Tryd.ntmps47
  go_wp2
  go_ret
  exact ⟨rfl, rfl⟩
theorem newReader_calls (s : ByteArray) (w : World) (hs : s.size ≤ 1099511627776) :
    Calls Tryd.prog 44 #[.string s] w fun e w' => e = .returned (.pointer (some ⟨w.heap.size, 0, none⟩)) ∧ RAt w' w.heap.size 0 s 0 ∧ Ext w w' := by
  go_enter Tryd.func44, Tryd.ntmps44
  go_wp2
  go_ret
  refine ⟨rfl, ⟨?_, ?_, ?_, hs, by omega⟩, ?_⟩
  · rw [World.cell?_alloc_at _ _ _ _ rfl]; rfl
  · rw [World.cell?_alloc_at _ _ _ _ rfl]; rfl
  · rw [World.frozen?_alloc_at _ _ _ _ rfl]
  · exact ((Below.refl _ _).alloc (Nat.le_refl _) _)
theorem byte_bit (l : List UInt8) (p : Nat) (hj : p / 8 < l.length) : l[p / 8].toNat / 2 ^ (p % 8) % 2 = Crc.num l / 2 ^ p % 2 := by
  rw [num_byte l (p / 8) hj, show (256 : Nat) ^ (p / 8) = 2 ^ (8 * (p / 8)) by rw [Nat.pow_mul], show (256 : Nat) = 2 ^ 8 from rfl]
  have h : ∀ x : Nat, x % 2 ^ 8 / 2 ^ (p % 8) % 2 = x / 2 ^ (p % 8) % 2 := by
    intro x
    have h1 : (x % 2 ^ 8).testBit (p % 8) = x.testBit (p % 8) := by rw [Nat.testBit_mod_two_pow]; have : p % 8 < 8 := by omega
                                                                    simp [this]
    rw [Nat.testBit_eq_decide_div_mod_eq, Nat.testBit_eq_decide_div_mod_eq, decide_eq_decide] at h1
    omega
  rw [h, Nat.div_div_eq_div_mul, ← Nat.pow_add, show 8 * (p / 8) + p % 8 = p by omega]
theorem get_next (N a i y t : Nat) (hi : i < 32) (hy : y < 256) (hb : y / 2 ^ t % 2 = N / 2 ^ (a + i) % 2) :
    bits BinOp.or IntKind.u32 ((N : Int) / 2 ^ a % 2 ^ i) (bits BinOp.and IntKind.u8 ((y : Int) / 2 ^ t) 1 % 4294967296 * 2 ^ i % 4294967296) = ((N / 2 ^ a % 2 ^ (i + 1) : Nat) : Int) := by
  have hp : 2 ^ i ≤ 2 ^ 31 := Nat.pow_le_pow_right (by decide) (by omega)
  have e1 : bits BinOp.and IntKind.u8 ((y : Int) / 2 ^ t) 1 = ((y / 2 ^ t % 2 : Nat) : Int) := by
    have : y / 2 ^ t < 256 := Nat.lt_of_le_of_lt (Nat.div_le_self _ _) hy
    rw [show (y : Int) / 2 ^ t = ((y / 2 ^ t : Nat) : Int) by simp, show (1 : Int) = ((1 : Nat) : Int) from rfl, u8_and_nat _ _ this (by decide), Nat.and_one_is_mod]
  rw [e1, hb]
  have e2 : ((N / 2 ^ (a + i) % 2 : Nat) : Int) % 4294967296 * 2 ^ i % 4294967296 = ((N / 2 ^ a / 2 ^ i % 2 * 2 ^ i : Nat) : Int) := by
    rw [Nat.div_div_eq_div_mul, ← Nat.pow_add]
    have hb2 : N / 2 ^ (a + i) % 2 < 2 := Nat.mod_lt _ (by decide)
    generalize N / 2 ^ (a + i) % 2 = b at *
    rw [show (2 : Int) ^ i = ((2 ^ i : Nat) : Int) by simp]
    generalize 2 ^ i = q at *
    rcases (show b = 0 ∨ b = 1 by omega) with h | h <;> subst h <;> omega
  have hm : N / 2 ^ a % 2 ^ i < 2 ^ i := Nat.mod_lt _ (Nat.two_pow_pos i)
  rw [e2, show (N : Int) / 2 ^ a % 2 ^ i = ((N / 2 ^ a % 2 ^ i : Nat) : Int) by simp, mod_next]
  generalize N / 2 ^ a = A at *
  have hb2 : A / 2 ^ i % 2 < 2 := Nat.mod_lt _ (by decide)
  have hB : A / 2 ^ i % 2 * 2 ^ i ≤ 2 ^ i := by
    generalize A / 2 ^ i % 2 = b at *
    rcases (show b = 0 ∨ b = 1 by omega) with h | h <;> subst h <;> omega
  rw [u32_or_nat _ _ (by omega) (by omega)]
  have h := Nat.two_pow_add_eq_or_of_lt (i := i) (b := A % 2 ^ i) hm (A / 2 ^ i % 2)
  rw [Nat.mul_comm] at h
  rw [Nat.or_comm, ← h, Nat.add_comm]
theorem get_in (B o a k : Nat) (s : ByteArray) (w : World) (hR : RAt w B o s a) (hk : k ≤ 32) (ha : a + k ≤ 8 * s.size) :
    Calls Tryd.prog 46 #[.pointer (some ⟨B, o, none⟩), .int .i64 (k : Int)] w fun e w' => e = .returned (.tuple #[.int .u32 ((Crc.num s.data.toList / 2 ^ a % 2 ^ k : Nat) : Int), .nilIface]) ∧ RAt w' B o s (a + k) ∧ RStep w w' B o := by
  have hle := hR.le
  have hs := hR.size
  have HR := Lib.hid hR
  clear hR
  go_enter Tryd.func46, Tryd.ntmps46
  go_wp2_with fail
  refine (left_calls B o a s _ HR.out).mono ?_
  rintro e w1 ⟨rfl, m, rfl⟩
  go_wp2_with fail
  go_loopw [6, 7, 21] (fun x _ c wr => ∃ (i : Nat), i ≤ k ∧ x = .int .u32 ((Crc.num s.data.toList / 2 ^ a % 2 ^ i : Nat) : Int) ∧ c = .int .i64 i ∧ Hid (RAt wr B o s (a + i)) ∧ Hid (RStep w wr B o)) (fun _ _ c _ => k - (intOf c).toNat)
  case atStart =>
    refine ⟨0, by omega, by simp [Nat.mod_one], rfl, ?_, ?_⟩
    · exact Lib.hid (HR.out.drewN m)
    · exact Lib.hid ((RStep.refl _ _ _).drewN m)
  case round =>
    obtain ⟨i, hi, rfl, rfl, HA, HS⟩ := hrel
    by_cases hlt : i < k
    · obtain ⟨c0, c1, f1, _, _⟩ := HA.out
      have hj : (a + i) / 8 < s.size := by omega
      have hj1 : (0 : Int) ≤ ((a : Int) + i) / 8 := by omega
      have hj2 : ((a : Int) + i) / 8 < (s.size : Int) := by omega
      go_wp2_with fail
      go_region
      go_wp2
      go_roundw
      case rel =>
        have hb := byte_bit s.data.toList (a + i) (by simpa using hj)
        refine ⟨i + 1, by omega, val_int ?_, by go_num, ?_, ?_⟩
        · exact get_next (Crc.num s.data.toList) a i _ _ (by omega) (UInt8.toNat_lt _) (by simp at hb; exact hb)
        · have q := (HA.out.put (a + i + 1) (by omega)).1.drewN 1
          rw [show ((a + i + 1 : Nat) : Int) = (a : Int) + i + 1 by omega] at q
          exact q
        · have q := (HA.out.put (a + i + 1) (by omega)).2
          rw [show ((a + i + 1 : Nat) : Int) = (a : Int) + i + 1 by omega] at q
          exact (HS.out.trans q).drewN 1
      case measure => simp [intOf]; omega
    · obtain rfl : i = k := by omega
      go_wp2_with fail
      exact bodyPost_ret (v := .tuple #[.int .u32 ((Crc.num s.data.toList / 2 ^ a % 2 ^ i : Nat) : Int), .nilIface]) (by simp [results, Tryd.results46, go_sem, *]) rfl ⟨rfl, HA.out, HS.out⟩
end Go.Proofs.YtdeiolagnheihaaDoor
