/- The document's bits of a text, and the number of bits. -/
import Derived.Test.YtdeiolagnheihaaDoorRefBits
import Derived.Test.YtdeiolagnheihaaDoorWriter
namespace Go.Proofs.YtdeiolagnheihaaDoor
open Go.RowKit
set_option maxRecDepth 100000
theorem val_allB (l : List UInt8) : Bts.val (Bts.allB l) = Crc.num l := by
  induction l with
  | nil => rfl
  | cons b l ih =>
    simp only [Bts.allB, Crc.num]
    rw [Bts.val_append, Bts.val_low, Bts.low_length, ih, Nat.mod_eq_of_lt b.toNat_lt]; omega
theorem bits_any (s : ByteArray) (w : World) (hs : s.size ≤ 1000000) :
    Calls Tryd.prog 53 #[.string s] w fun e w' => e = .returned (.string (bs (Bts.allB s.data.toList))) ∧ Ext w w' := by
  obtain ⟨i0, hi0, hz0, hz1, hz2⟩ := info_parts u8info
  obtain ⟨w2, hmk, hown, hgrow⟩ := run_make_own (P := Tryd.prog) w w.heap.size 23 5 i0 (.int .u8 0) 1 Tryd.underlying23 hi0 hz0 hz1 .i64 .i64 (8 * s.size) (by rw [hz2]; omega) (by unfold maxLen; omega) (Nat.le_refl _)
  have HO := Lib.hid hown
  have HG : Hid (Ext w w2) := (Keeps.grown hgrow).below (Nat.le_refl _) (fun k _ q => by cases q)
  rw [show ((8 * s.size : Nat) : Int) = 8 * (s.size : Int) by omega] at hmk
  clear hown hgrow
  go_enter Tryd.func53, Tryd.ntmps53
  go_wp2_with fail
  clear hmk
  have HO0 : Hid (w2.ownsRow w.heap.size 5 1 (.slice (some ⟨w.heap.size, 0, none⟩) 0 (8 * s.size)) (Bts.str (Bts.allB (s.data.toList.take 0))).length (bytesV (Bts.str (Bts.allB (s.data.toList.take 0))))) := HO
  clear HO
  go_loopw [3, 4] (fun u c wr => ∃ i : Nat, i ≤ s.size ∧ c = .int .i64 i ∧ Hid (wr.ownsRow w.heap.size 5 1 u (Bts.str (Bts.allB (s.data.toList.take i))).length (bytesV (Bts.str (Bts.allB (s.data.toList.take i))))) ∧ Hid (Ext w wr)) (fun _ c _ => s.size - (intOf c).toNat)
  case atStart => exact ⟨0, by omega, rfl, HO0, HG⟩
  case round =>
    obtain ⟨i, hi, rfl, HR, HX⟩ := hrel
    by_cases hlt : i < s.size
    · obtain ⟨b, hb⟩ : ∃ b, s[i].toNat = b := ⟨_, rfl⟩
      have hb256 : b < 256 := by rw [← hb]; exact s[i].toNat_lt
      have hts : Bts.allB (s.data.toList.take (i + 1)) = Bts.allB (s.data.toList.take i) ++ Bts.low b 8 := by
        rw [List.take_succ_eq_append_getElem (by simpa using hlt), Bts.allB_append, ← hb]; simp [Bts.allB]; rfl
      have hlen : (Bts.allB (s.data.toList.take i)).length ≤ 8 * i := by rw [Bts.allB_length]; simp; omega
      have HTS := Lib.hid hts
      obtain ⟨L, hL⟩ : ∃ L, Bts.allB (s.data.toList.take i) = L := ⟨_, rfl⟩
      rw [hL] at HR hlen
      have HLL := Lib.hid hL
      have HB := Lib.hid hb
      clear hts hL
      go_wp2_with fail
      clear hb
      go_loopw [3, 5, 6] (fun v n c wx => ∃ k : Nat, k ≤ 8 ∧ c = .int .i64 k ∧ n = .int .i64 ((b / 2 ^ k : Nat) : Int) ∧ Hid (wx.ownsRow w.heap.size 5 1 v (Bts.str (L ++ Bts.low b k)).length (bytesV (Bts.str (L ++ Bts.low b k)))) ∧ Hid (Ext w wx)) (fun _ _ c _ => 8 - (intOf c).toNat)
      case atStart => exact ⟨0, by omega, rfl, by simp, by simpa [Bts.low] using HR, HX⟩
      case round =>
        obtain ⟨k, hk, rfl, rfl, HR2, HX2⟩ := hrel
        by_cases hlk : k < 8
        · obtain ⟨y, hy⟩ : ∃ y, b / 2 ^ k = y := ⟨_, rfl⟩
          have hy2 : b / 2 ^ (k + 1) = y / 2 := by rw [Nat.pow_succ, ← Nat.div_div_eq_div_mul, hy]
          have hyl : y < 256 := by rw [← hy]; exact Nat.lt_of_le_of_lt (Nat.div_le_self _ _) hb256
          have HLW : Hid (Bts.str (L ++ Bts.low b (k + 1)) = Bts.str (L ++ Bts.low b k) ++ [Bts.ch (y % 2 == 1)]) := Lib.hid (by rw [Bts.low, hy, ← List.append_assoc, Bts.str_append (L ++ _)]; rfl)
          obtain ⟨M, hM⟩ : ∃ M, Bts.str (L ++ Bts.low b k) = M := ⟨_, rfl⟩
          have hMl : M.length ≤ 8 * i + 8 := by rw [← hM, Bts.str_length, List.length_append, Bts.low_length]; omega
          rw [hM] at HR2 HLW
          rw [hy]
          have HY2 := Lib.hid hy2
          clear hy hy2 hM
          go_wp2_with (at_builtin; refine wpList_append_own _ rfl _ _ 23 rfl w.heap.size 5 i0 (.int .u8 0) 1 1 Tryd.underlying23 hi0 hz0 hz1 hz2 rfl (by decide) _ _ _ rfl (HR2.out.alloc _) ⟨wr.heap.size, 0, none⟩ 1 1 [.int .u8 (48 + (y : Int) % 2)] rfl rfl ?c1 ?c2 ?c3 ?c4 ?c5 ?_)
          case c1 => exact (cell_one_new _ _ _)
          case c2 => intro u hu; simp at hu; subst hu; rfl
          case c3 => unfold maxLen; omega
          case c4 => omega
          case c5 => have := HX2.out.size; simp; omega
          intro v' w' hown' hgrow _
          have hE : Ext w w' := Below.trans (HX2.out.alloc _) ((Keeps.grown hgrow).below (HX2.out.alloc _).size (fun k hk e => by have := (HR2.out.lt k e).1; omega))
          have hO : w'.ownsRow w.heap.size 5 1 v' (Bts.str (L ++ Bts.low b (k + 1))).length (bytesV (Bts.str (L ++ Bts.low b (k + 1)))) := by
            rw [HLW.out]
            have e : Value.int IntKind.u8 (48 + (y : Int) % 2) = .int .u8 ((Bts.ch (y % 2 == 1)).toNat : Int) := by
              rw [Bts.ch_toNat, Bts.bit_val]; go_num
            have q := hown'
            rw [e] at q
            simpa [bytesV] using q
          have HE := Lib.hid hE
          have HO := Lib.hid hO
          clear hE hO hown' hgrow HR2 HX2
          go_wp2_with fail
          go_roundw
          case rel => exact ⟨k + 1, by omega, by go_num, by rw [HY2.out]; go_num, HO, HE⟩
          case measure => simp [intOf]; omega
        · obtain rfl : k = 8 := by omega
          go_wp2_with fail
          go_roundw
          case rel => exact ⟨i + 1, by omega, by go_num, by rw [HTS.out, HLL.out]; exact HR2, HX2⟩
          case measure => simp [intOf]; omega
    · obtain rfl : i = s.size := by omega
      obtain ⟨L, hL⟩ : ∃ L, Bts.str (Bts.allB (s.data.toList.take s.size)) = L := ⟨_, rfl⟩
      have HBS : Hid (bs (Bts.allB s.data.toList) = ⟨L.toArray⟩) := Lib.hid (by rw [← hL, List.take_of_length_le (by simp)]; exact bytes_ext (by rw [bs_list]))
      rw [hL] at HR
      clear hL
      rcases ownsRow_slice HR.out with ⟨rfl, h0⟩ | ⟨g, cap, rfl⟩
      · obtain rfl := List.eq_nil_of_length_eq_zero h0
        have hcr : (convert 23 9 (.slice none 0 0)).run Tryd.prog wr = .ok (.string ⟨([] : List UInt8).toArray⟩) wr := by
          rw [run_convert_bytes_string wr 23 9 5 none 0 0 Tryd.underlying23 Tryd.underlying5 Tryd.underlying9]
          rfl
        go_wp2_with fail
        go_ret
        exact ⟨by rw [HBS.out]; rfl, HX.out⟩
      · have hcr : (convert 23 9 (.slice (some ⟨g, 0, none⟩) L.length cap)).run Tryd.prog wr = .ok (.string ⟨L.toArray⟩) wr := by
          refine run_convert_bytes_back (P := Tryd.prog) wr 23 9 5 ⟨g, 0, none⟩ _ L Tryd.underlying23 Tryd.underlying5 Tryd.underlying9 (fun j hj => ?_)
          rw [add_plain, HR.out.cellAt _ (by omega), bytesV_get L _ hj]
        go_wp2_with fail
        go_ret
        exact ⟨by rw [HBS.out]; rfl, HX.out⟩
theorem str_get (L : List Bool) (s : ByteArray) (hs : s.data.toList = Bts.str L) (i : Nat) (h : i < s.size) (hL : i < L.length) : s[i].toNat = 48 + (if L[i] = true then 1 else 0) := by
  rw [← Bts.ch_toNat]
  congr 1
  have e : s[i] = s.data.toList[i]'(by simpa using h) := rfl
  rw [e]
  simp only [hs, Bts.str, List.getElem_map]
theorem lowOf_any (L : List Bool) (w : World) (h : L.length ≤ 32) :
    Calls Tryd.prog 54 #[.string (bs L)] w fun e w' => e = .returned (.int .u32 (Bts.val L : Int)) ∧ w = w' := by
  have hz := bs_size L
  have hs : (bs L).size ≤ 32 := by omega
  have HS := Lib.hid (bs_list L)
  have HZ := Lib.hid hz
  clear hz
  generalize bs L = s at *
  go_enter Tryd.func54, Tryd.ntmps54
  go_wp2_with fail
  go_loop [3, 4] (fun n c => ∃ d : Nat, d ≤ s.size ∧ c = .int .i64 ((d : Int) - 1) ∧ n = .int .u32 (Bts.val (L.drop d) : Int)) (fun _ c => (intOf c + 1).toNat)
  case atStart => exact ⟨s.size, by omega, rfl, by rw [List.drop_of_length_le (by rw [HZ.out]; exact Nat.le_refl _)]; rfl⟩
  case round =>
    obtain ⟨d, hd, rfl, rfl⟩ := hrel
    by_cases hlt : 0 < d
    · obtain ⟨j, rfl⟩ : ∃ j, d = j + 1 := ⟨d - 1, by omega⟩
      have hjL : j < L.length := by have := HZ.out; omega
      have hb := str_get L s HS.out j hd hjL
      have hv : Bts.val (L.drop j) = (if L[j] = true then 1 else 0) + 2 * Bts.val (L.drop (j + 1)) := by rw [List.drop_eq_getElem_cons hjL]; rfl
      have hvl : Bts.val (L.drop j) < 4294967296 := by
        refine Nat.lt_of_lt_of_le (Bts.val_lt _) (Nat.le_trans (Nat.pow_le_pow_right (n := 2) (by decide) (?_ : _ ≤ 32)) (by decide))
        rw [List.length_drop]; omega
      have hb2 : (if L[j] = true then 1 else 0) ≤ 1 := by split <;> omega
      obtain ⟨b, hbb⟩ : ∃ b, (if L[j] = true then 1 else 0) = b := ⟨_, rfl⟩
      rw [hbb] at hb hv hb2
      obtain ⟨V, hV⟩ : ∃ V, Bts.val (L.drop (j + 1)) = V := ⟨_, rfl⟩
      rw [hV] at hv
      have HV := Lib.hid hv
      have hVl : b + 2 * V < 4294967296 := by rw [← hv]; exact hvl
      clear hv hvl hbb
      rw [show (((j + 1 : Nat) : Int) - 1) = (j : Int) by omega, hV]
      clear hV
      go_wp2_with fail
      go_round
      case rel => exact ⟨j, by omega, rfl, by rw [HV.out]; go_num⟩
      case measure => first | (simp [intOf]; done) | (simp [intOf]; omega)
    · obtain rfl : d = 0 := by omega
      rw [show (((0 : Nat) : Int) - 1) = -1 by omega]
      go_wp2_with fail
      go_ret
      exact ⟨by simp, rfl⟩
end Go.Proofs.YtdeiolagnheihaaDoor
