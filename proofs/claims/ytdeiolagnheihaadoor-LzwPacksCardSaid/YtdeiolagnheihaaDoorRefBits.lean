/- The document's bits: Byte, Low, High. -/
import Derived.Test.YtdeiolagnheihaaDoorMem
import Derived.Test.YtdeiolagnheihaaDoorBitS
import Derived.Outline
namespace Go.Proofs.YtdeiolagnheihaaDoor
open Go.RowKit
set_option maxRecDepth 100000
theorem byte_any (k : Nat) (hk : k < 256) (w : World) : Calls Tryd.prog 52 #[.int .i64 (k : Int)] w fun e w' => e = .returned (.string ⟨#[UInt8.ofNat k]⟩) ∧ Ext w w' := by
  have hcr : (convert 23 9 (.slice (some ⟨w.heap.size, 0, none⟩) 1 1)).run Tryd.prog (w.alloc (.cells #[.int .u8 (k : Int)] 5)) = .ok (.string ⟨#[UInt8.ofNat k]⟩) (w.alloc (.cells #[.int .u8 (k : Int)] 5)) := by
    refine run_convert_bytes_back (P := Tryd.prog) (w.alloc (.cells #[.int .u8 (k : Int)] 5)) 23 9 5 ⟨w.heap.size, 0, none⟩ 1 [UInt8.ofNat k] Tryd.underlying23 Tryd.underlying5 Tryd.underlying9 (fun j hj => ?_)
    obtain rfl : j = 0 := by simpa using hj
    rw [add_plain]; simp; omega
  go_enter Tryd.func52, Tryd.ntmps52
  go_wp2_with fail
  go_ret
  exact ⟨rfl, (Ext.refl _).alloc _⟩
/-- bits as a text -/
@[irreducible] def bs (L : List Bool) : ByteArray := ⟨(Bts.str L).toArray⟩
theorem bs_list (L : List Bool) : (bs L).data.toList = Bts.str L := by unfold bs; rfl
theorem bs_size (L : List Bool) : (bs L).size = L.length := by show (bs L).data.size = _; rw [← Array.length_toList, bs_list, Bts.str_length]
theorem bytes_ext {a b : ByteArray} (h : a.data.toList = b.data.toList) : a = b := by
  obtain ⟨⟨a⟩⟩ := a; obtain ⟨⟨b⟩⟩ := b; simp at h; rw [h]
theorem bytes_cat (a b : ByteArray) : (a ++ b).data.toList = a.data.toList ++ b.data.toList := by simp
theorem bs_append (L M : List Bool) : bs L ++ bs M = bs (L ++ M) := bytes_ext (by rw [bytes_cat, bs_list, bs_list, bs_list, Bts.str_append])
theorem bs_one (b : Bool) : (⟨#[Bts.ch b]⟩ : ByteArray) = bs [b] := bytes_ext (by rw [bs_list]; rfl)
theorem bs_nil : ByteArray.empty = bs [] := bytes_ext (by rw [bs_list]; rfl)
theorem ch_of (y : Nat) : UInt8.ofNat (48 + y % 2) = Bts.ch (y % 2 == 1) := by
  rcases Nat.mod_two_eq_zero_or_one y with h | h <;> rw [h] <;> rfl
theorem bit_any (y : Nat) (w : World) : Calls Tryd.prog 52 #[.int .i64 (48 + (y : Int) % 2)] w fun e w' => e = .returned (.string (bs [y % 2 == 1])) ∧ Ext w w' := by
  have h := byte_any (48 + y % 2) (by omega) w
  rw [ch_of, bs_one] at h
  rw [show (48 + (y : Int) % 2) = ((48 + y % 2 : Nat) : Int) by omega]
  exact h
theorem low_any (x k : Nat) (hx : x < 4294967296) (hk : k ≤ 64) (w : World) : Calls Tryd.prog 50 #[.int .u32 (x : Int), .int .i64 (k : Int)] w fun e w' => e = .returned (.string (bs (Bts.low x k))) ∧ Ext w w' := by
  go_enter Tryd.func50, Tryd.ntmps50
  go_wp2_with fail
  rw [show ({ data := #[] } : ByteArray) = bs [] from bs_nil]
  go_loopw [0, 5, 6] (fun p o c wr => ∃ i : Nat, i ≤ k ∧ c = .int .i64 i ∧ p = .int .u32 ((x / 2 ^ i : Nat) : Int) ∧ o = .string (bs (Bts.low x i)) ∧ Hid (Ext w wr)) (fun _ _ c _ => k - (intOf c).toNat)
  case atStart => exact ⟨0, by omega, rfl, by simp, rfl, Lib.hid (Ext.refl w)⟩
  case round =>
    obtain ⟨i, hi, rfl, rfl, rfl, HX⟩ := hrel
    by_cases hlt : i < k
    · obtain ⟨y, hy⟩ : ∃ y, x / 2 ^ i = y := ⟨_, rfl⟩
      have hy2 : x / 2 ^ (i + 1) = y / 2 := by rw [Nat.pow_succ, ← Nat.div_div_eq_div_mul, hy]
      have hyl : y < 4294967296 := by rw [← hy]; exact Nat.lt_of_le_of_lt (Nat.div_le_self _ _) hx
      have HL : Hid (bs (Bts.low x i) ++ bs [y % 2 == 1] = bs (Bts.low x (i + 1))) := Lib.hid (by rw [bs_append, Bts.low, hy])
      have hz1 : (bs (Bts.low x i)).size ≤ 64 := by rw [bs_size, Bts.low_length]; omega
      have hz2 : (bs [y % 2 == 1]).size = 1 := by rw [bs_size]; rfl
      rw [hy]
      have HY2 := Lib.hid hy2
      clear hy hy2
      go_wp2_with fail
      refine (bit_any y _).mono ?_
      rintro e w2 ⟨rfl, hE⟩
      have HX2 := Lib.hid (HX.out.trans hE)
      clear hE
      go_wp2_with fail
      rw [HL.out]
      go_roundw
      case rel => exact ⟨i + 1, by omega, by go_num, by rw [HY2.out]; go_num, rfl, HX2⟩
      case measure => simp [intOf]; omega
    · obtain rfl : i = k := by omega
      go_wp2_with fail
      go_ret
      exact ⟨rfl, HX.out⟩
end Go.Proofs.YtdeiolagnheihaaDoor
