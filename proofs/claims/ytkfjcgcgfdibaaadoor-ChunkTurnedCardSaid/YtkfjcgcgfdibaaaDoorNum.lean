/- Four bytes of a number, the highest first, and back. -/
import Derived.Test.YtkfjcgcgfdibaaaDoorKind
namespace Go.Proofs.YtkfjcgcgfdibaaaDoor
open Go.RowKit
set_option maxRecDepth 100000
def big4 (n : Nat) : List UInt8 := [UInt8.ofNat (n / 16777216), UInt8.ofNat (n / 65536), UInt8.ofNat (n / 256), UInt8.ofNat n]
theorem number_any (n : Nat) (hn : n < 4294967296) (w : World) : Calls Tryd.prog 82 #[.int .u32 (n : Int)] w fun e w' => e = .returned (.string ⟨(big4 n).toArray⟩) ∧ Ext w w' := by
  obtain ⟨wa, hwa⟩ : ∃ wa, wa = w.alloc (.cells #[.int .u8 ((n : Int) / 16777216), .int .u8 ((n : Int) / 65536 % 256), .int .u8 ((n : Int) / 256 % 256), .int .u8 ((n : Int) % 256)] 5) := ⟨_, rfl⟩
  have hcr : (convert 76 9 (.slice (some ⟨w.heap.size, 0, none⟩) 4 4)).run Tryd.prog wa = .ok (.string ⟨(big4 n).toArray⟩) wa := by
    refine run_convert_bytes_back (P := Tryd.prog) wa 76 9 5 ⟨w.heap.size, 0, none⟩ 4 (big4 n) Tryd.underlying76 Tryd.underlying5 Tryd.underlying9 (fun j hj => ?_)
    have hj4 : j < 4 := hj
    rw [add_plain, hwa]
    match j, hj4 with
    | 0, _ => simp [big4]; omega
    | 1, _ => simp [big4]
    | 2, _ => simp [big4]
    | 3, _ => simp [big4]
  rw [hwa] at hcr
  clear hwa wa
  go_enter Tryd.func82, Tryd.ntmps82
  go_wp2_with fail
  go_ret
  exact ⟨rfl, (Ext.refl _).alloc _⟩
theorem byte_any (k : Nat) (hk : k < 256) (w : World) : Calls Tryd.prog 104 #[.int .i64 (k : Int)] w fun e w' => e = .returned (.string ⟨#[UInt8.ofNat k]⟩) ∧ Ext w w' := by
  have hcr : (convert 76 9 (.slice (some ⟨w.heap.size, 0, none⟩) 1 1)).run Tryd.prog (w.alloc (.cells #[.int .u8 (k : Int)] 5)) = .ok (.string ⟨#[UInt8.ofNat k]⟩) (w.alloc (.cells #[.int .u8 (k : Int)] 5)) := by
    refine run_convert_bytes_back (P := Tryd.prog) (w.alloc (.cells #[.int .u8 (k : Int)] 5)) 76 9 5 ⟨w.heap.size, 0, none⟩ 1 [UInt8.ofNat k] Tryd.underlying76 Tryd.underlying5 Tryd.underlying9 (fun j hj => ?_)
    obtain rfl : j = 0 := by simpa using hj
    rw [add_plain]; simp; omega
  go_enter Tryd.func104, Tryd.ntmps104
  go_wp2_with fail
  go_ret
  exact ⟨rfl, (Ext.refl _).alloc _⟩
def vstep (x : Nat) (b : UInt8) : Nat := x % 16777216 * 256 + b.toNat
def valN (l : List UInt8) : Nat := l.foldl vstep 0
theorem vstep_lt (x : Nat) (b : UInt8) : vstep x b < 4294967296 := by unfold vstep; have := b.toNat_lt; omega
theorem valN_succ {l : List UInt8} {k : Nat} (hk : k < l.length) : valN (l.take (k + 1)) = vstep (valN (l.take k)) l[k] := by
  unfold valN
  rw [List.take_add_one, List.getElem?_eq_getElem hk, List.foldl_append]; rfl
theorem valN_lt (l : List UInt8) : valN l < 4294967296 := by
  rcases List.eq_nil_or_concat l with rfl | ⟨q, b, rfl⟩
  · decide
  · unfold valN; rw [List.concat_eq_append, List.foldl_append]; exact vstep_lt _ _
theorem valN_four (a b c d : UInt8) : valN [a, b, c, d] = 16777216 * a.toNat + 65536 * b.toNat + 256 * c.toNat + d.toNat := by
  have := a.toNat_lt; have := b.toNat_lt; have := c.toNat_lt
  simp only [valN, List.foldl_cons, List.foldl_nil, vstep]; omega
theorem valN_big4 (n : Nat) (h : n < 4294967296) : valN (big4 n) = n := by
  unfold big4; rw [valN_four]; simp only [UInt8.toNat_ofNat']; omega
theorem big4_valN (a b c d : UInt8) : big4 (valN [a, b, c, d]) = [a, b, c, d] := by
  have := a.toNat_lt; have := b.toNat_lt; have := c.toNat_lt; have := d.toNat_lt
  rw [valN_four]
  have e : ∀ (x : Nat) (y : UInt8), x % 256 = y.toNat → UInt8.ofNat x = y := fun x y h => by
    apply UInt8.toNat_inj.1; rw [UInt8.toNat_ofNat']; exact h
  unfold big4
  rw [e _ a (by omega), e _ b (by omega), e _ c (by omega), e _ d (by omega)]
theorem or_low8 (x : Nat) (y : UInt8) : bits BinOp.or IntKind.u32 ((x : Int) * 256 % 4294967296) ((y.toNat : Int) % 4294967296) = ((vstep x y : Nat) : Int) := by
  have hy := y.toNat_lt
  rw [show (y.toNat : Int) % 4294967296 = (y.toNat : Int) by omega, show ((x : Int) * 256 % 4294967296) = ((x % 16777216 * 256 : Nat) : Int) by omega, u32_or_nat _ _ (by omega) (by omega), nat_join 8 (x % 16777216 * 256) y.toNat (by omega) (by omega)]
  rfl
theorem value_any (s : ByteArray) (w : World) (hs : s.size ≤ maxLen) : Calls Tryd.prog 87 #[.string s] w fun e w' => e = .returned (.int .u32 ((valN s.data.toList : Nat) : Int)) ∧ w = w' := by
  unfold maxLen at hs
  go_enter Tryd.func87, Tryd.ntmps87
  go_wp2_with fail
  go_loop [2, 6] (fun x c => ∃ k : Nat, k ≤ s.size ∧ c = .int .i64 k ∧ x = .int .u32 ((valN (s.data.toList.take k) : Nat) : Int)) (fun _ c => s.size - (intOf c).toNat)
  case atStart => exact ⟨0, by omega, rfl, by rw [List.take_zero]; rfl⟩
  case round =>
    obtain ⟨k, hk, rfl, rfl⟩ := hrel
    by_cases hlt : k < s.size
    · have t0 : decide ((k : Int) < (s.size : Int)) = true := decide_eq_true (by omega)
      have hv : valN (s.data.toList.take (k + 1)) = vstep (valN (s.data.toList.take k)) s[k] := valN_succ (by rw [bytes_len]; exact hlt)
      obtain ⟨x, hx⟩ : ∃ x, valN (s.data.toList.take k) = x := ⟨_, rfl⟩
      have hxl := valN_lt (s.data.toList.take k)
      rw [hx] at hv hxl ⊢
      have ho := or_low8 x s[k]
      go_wp2_with fail
      go_round
      case rel => exact ⟨k + 1, by omega, by go_num, by rw [hv]⟩
      case measure => simp [intOf]; omega
    · obtain rfl : k = s.size := by omega
      have t0 : decide ((s.size : Int) < (s.size : Int)) = false := decide_eq_false (by omega)
      have e1 : s.data.toList.take s.size = s.data.toList := List.take_of_length_le (by rw [bytes_len]; omega)
      rw [e1]
      go_wp2_with fail
      go_ret
      exact ⟨rfl, rfl⟩
theorem bigOf_any (s : ByteArray) (w : World) (hs : s.size ≤ maxLen) (h4 : 4 ≤ s.size) : Calls Tryd.prog 93 #[.string s] w fun e w' => e = .returned (.int .u32 ((valN (s.data.toList.take 4) : Nat) : Int)) ∧ w = w' := by
  unfold maxLen at hs
  go_enter Tryd.func93, Tryd.ntmps93
  go_wp2_with fail
  go_loop [3, 4] (fun x c => ∃ k : Nat, k ≤ 4 ∧ c = .int .i64 k ∧ x = .int .u32 ((valN (s.data.toList.take k) : Nat) : Int)) (fun _ c => 4 - (intOf c).toNat)
  case atStart => exact ⟨0, by omega, rfl, by rw [List.take_zero]; rfl⟩
  case round =>
    obtain ⟨k, hk, rfl, rfl⟩ := hrel
    by_cases hlt : k < 4
    · have t0 : decide ((k : Int) < 4) = true := decide_eq_true (by omega)
      have hks : k < s.size := by omega
      have hv : valN (s.data.toList.take (k + 1)) = vstep (valN (s.data.toList.take k)) s[k] := valN_succ (by rw [bytes_len]; exact hks)
      obtain ⟨x, hx⟩ : ∃ x, valN (s.data.toList.take k) = x := ⟨_, rfl⟩
      have hxl := valN_lt (s.data.toList.take k)
      rw [hx] at hv hxl ⊢
      have ho : (((x : Int) * 256 % 4294967296 + (s[k].toNat : Int)) % 4294967296) = ((vstep x s[k] : Nat) : Int) := by unfold vstep; have := s[k].toNat_lt; omega
      go_wp2_with fail
      go_round
      case rel => exact ⟨k + 1, by omega, by go_num, by rw [hv]; go_num⟩
      case measure => simp [intOf]; omega
    · obtain rfl : k = 4 := by omega
      go_wp2_with fail
      go_ret
      exact ⟨rfl, rfl⟩
theorem refBig_any (n : Nat) (hn : n < 4294967296) (w : World) : Calls Tryd.prog 89 #[.int .u32 (n : Int)] w fun e w' => e = .returned (.string ⟨(big4 n).toArray⟩) ∧ Ext w w' := by
  obtain ⟨a, ha⟩ : ∃ a, n / 16777216 = a := ⟨_, rfl⟩
  obtain ⟨b, hb⟩ : ∃ b, n / 65536 % 256 = b := ⟨_, rfl⟩
  obtain ⟨c, hc⟩ : ∃ c, n / 256 % 256 = c := ⟨_, rfl⟩
  obtain ⟨d, hd⟩ : ∃ d, n % 256 = d := ⟨_, rfl⟩
  have e1 : (n : Int) / 16777216 = (a : Int) := by omega
  have e2 : (n : Int) / 65536 % 256 = (b : Int) := by omega
  have e3 : (n : Int) / 256 % 256 = (c : Int) := by omega
  have e4 : (n : Int) % 256 = (d : Int) := by omega
  have B1 := Lib.hid (fun w => byte_any a (by omega) w)
  have B2 := Lib.hid (fun w => byte_any b (by omega) w)
  have B3 := Lib.hid (fun w => byte_any c (by omega) w)
  have B4 := Lib.hid (fun w => byte_any d (by omega) w)
  have hr : big4 n = [UInt8.ofNat a, UInt8.ofNat b, UInt8.ofNat c, UInt8.ofNat d] := by
    have e : ∀ x y : Nat, x % 256 = y % 256 → UInt8.ofNat x = UInt8.ofNat y := fun x y h => by
      apply UInt8.toNat_inj.1; rw [UInt8.toNat_ofNat', UInt8.toNat_ofNat']; exact h
    unfold big4
    rw [e (n / 16777216) a (by omega), e (n / 65536) b (by omega), e (n / 256) c (by omega), e n d (by omega)]
  rw [hr]
  clear hr ha hb hc hd
  go_enter Tryd.func89, Tryd.ntmps89
  go_wp2_with fail
  refine (B1.out _).mono ?_
  rintro e w1 ⟨rfl, x1⟩
  go_wp2_with fail
  refine (B2.out _).mono ?_
  rintro e w2 ⟨rfl, x2⟩
  go_wp2_with fail
  refine (B3.out _).mono ?_
  rintro e w3 ⟨rfl, x3⟩
  go_wp2_with fail
  refine (B4.out _).mono ?_
  rintro e w4 ⟨rfl, x4⟩
  go_wp2_with fail
  go_ret
  exact ⟨rfl, ((x1.trans x2).trans x3).trans x4⟩
def sigB : List UInt8 := [137, 80, 78, 71, 13, 10, 26, 10]
theorem sig_any (w : World) : Calls Tryd.prog 78 #[] w fun e w' => e = .returned (.string ⟨sigB.toArray⟩) ∧ Ext w w' := by
  have B1 := Lib.hid (fun w => byte_any 137 (by omega) w)
  have B2 := Lib.hid (fun w => byte_any 13 (by omega) w)
  have B3 := Lib.hid (fun w => byte_any 10 (by omega) w)
  have B4 := Lib.hid (fun w => byte_any 26 (by omega) w)
  go_enter Tryd.func78, Tryd.ntmps78
  go_wp2_with fail
  refine (B1.out _).mono ?_
  rintro e w1 ⟨rfl, x1⟩
  go_wp2_with fail
  refine (B2.out _).mono ?_
  rintro e w2 ⟨rfl, x2⟩
  go_wp2_with fail
  refine (B3.out _).mono ?_
  rintro e w3 ⟨rfl, x3⟩
  go_wp2_with fail
  refine (B4.out _).mono ?_
  rintro e w4 ⟨rfl, x4⟩
  go_wp2_with fail
  refine (B3.out _).mono ?_
  rintro e w5 ⟨rfl, x5⟩
  go_wp2_with fail
  go_ret
  exact ⟨rfl, (((x1.trans x2).trans x3).trans x4).trans x5⟩
end Go.Proofs.YtkfjcgcgfdibaaaDoor
