/- LzwPacks' walk. -/
import Derived.Test.YtdeiolagnheihaaDoorLzwV
import Derived.Test.YtdeiolagnheihaaDoorLzwZ
import Derived.Test.YtdeiolagnheihaaDoorLzwTwiceWalk
import Derived.Test.YtdeiolagnheihaaDoorFaulted1
namespace Go.Proofs.YtdeiolagnheihaaDoor
open Go.RowKit
set_option maxRecDepth 100000
theorem rfine_any (w : World) : Calls Tryd.prog 14 #[] w fun e w' => e = .returned (.agg #[.int .i64 0, .int .i64 (-1)]) ∧ Ext w w' := by
  go_enter Tryd.func14, Tryd.ntmps14
  go_wp2
  exact bodyPost_ret (v := .agg #[.int .i64 0, .int .i64 (-1)]) (by simp [results, Tryd.results14, go_sem]) rfl ⟨rfl, by repeat (first | exact Ext.refl _ | refine Ext.alloc ?_ _ | refine Below.setCell ?_ (by simp <;> omega) _)⟩
theorem rbare_any (w : World) : Calls Tryd.prog 15 #[.int .i64 2] w fun e w' => e = .returned (.agg #[.int .i64 2, .int .i64 (-1)]) ∧ Ext w w' := by
  go_enter Tryd.func15, Tryd.ntmps15
  go_wp2
  exact bodyPost_ret (v := .agg #[.int .i64 2, .int .i64 (-1)]) (by simp [results, Tryd.results15, go_sem]) rfl ⟨rfl, by repeat (first | exact Ext.refl _ | refine Ext.alloc ?_ _ | refine Below.setCell ?_ (by simp <;> omega) _)⟩
theorem fault_ne {w : World} {E : Nat → Addr} {F : Nat} {c a : Int} (hB : Bk w F #[.int .i64 0, .int .i64 (-1)]) (h : ErrV w E (.iface 68 (.pointer (some ⟨F, 0, none⟩))) c a) : False := by
  obtain ⟨t, hB⟩ := hB
  cases h with
  | fault k F a hk h h1 h2 =>
    rw [hB] at h
    injection h with h
    injection h with h
    injection h with h
    simp [sentV] at h
theorem fault_keeps {S : Nat → Prop} {w w' : World} {E : Nat → Addr} {F : Nat} {c a : Int} (h : ErrV w E (.iface 68 (.pointer (some ⟨F, 0, none⟩))) c a) (hk : Keeps S w w') (hn : ¬ S F) : ErrV w' E (.iface 68 (.pointer (some ⟨F, 0, none⟩))) c a := by
  cases h with
  | fault k F a hk2 h h1 h2 => exact .fault k F a hk2 ((hk.block F (lt_of_block h) hn).trans h) h1 h2
set_option linter.unusedSimpArgs false in
set_option maxHeartbeats 4000000 in
theorem packs_big (s : ByteArray) (wd : Int) (w : World) (hs : s.size ≤ maxLen) (h : 1500 < s.size) :
    Calls Tryd.prog 4 #[.string s, .int .i64 wd] w fun e w' => e = .returned (.bool true) ∧ Ext w w' := by
  unfold maxLen at hs
  have h2 : (1500 : Int) < (s.size : Int) := by omega
  go_enter Tryd.func4, Tryd.ntmps4
  go_wp2_with fail
  refine (end_any _).mono ?_
  rintro e w1 ⟨rfl, h1⟩
  have X1 := Lib.hid (h1)
  clear h1
  go_wp2_with fail
  go_ret
  exact ⟨rfl, X1.out⟩
set_option linter.unusedSimpArgs false in
set_option maxHeartbeats 4000000 in
theorem packs_bound (s : ByteArray) (wd : Int) (w : World) (E : Nat → Addr) (hE : Errs w E) (hs : s.size ≤ 1500) (h : wd < 2 ∨ 8 < wd) :
    Calls Tryd.prog 4 #[.string s, .int .i64 wd] w fun e w' => e = .returned (.bool true) ∧ Ext w w' := by
  have HE := Lib.hid hE
  have hs2 : ¬ (1500 : Int) < (s.size : Int) := by omega
  have HP := Lib.hid (fun wx (hx : Ext w wx) => pack_bad s wd wx E (hE.ext hx) (by unfold maxLen; omega) (.inl h))
  clear hE
  have HH := Lib.hid h
  clear h
  go_enter Tryd.func4, Tryd.ntmps4
  go_wp2_with fail
  refine (end_any _).mono ?_
  rintro e w1 ⟨rfl, h1⟩
  have X1 := Lib.hid (h1)
  clear h1
  go_wp2_with fail
  refine (HP.out _ X1.out).mono ?_
  rintro e w2 ⟨rfl, h2⟩
  have X2 := Lib.hid (X1.out.trans h2)
  clear h2
  go_wp2_with fail
  refine (rfine_any _).mono ?_
  rintro e w3 ⟨rfl, h3⟩
  have X3 := Lib.hid (X2.out.trans h3)
  clear h3
  rcases HH.out with hb | hb
  · go_wp2_with fail
    refine calls_world (fun wz => Ext w3 wz ∧ Bk wz w3.heap.size #[.int .i64 0, .int .i64 (-1)]) ⟨(Ext.refl _).alloc _, Bk.at rfl⟩ ?_
    rintro w4 ⟨h4, hB⟩
    have X4 := Lib.hid (X3.out.trans h4)
    have hz := X3.out.size
    refine (rbare_any _).mono ?_
    rintro e w5 ⟨rfl, h5⟩
    have X5 := Lib.hid (X4.out.trans h5)
    have hB5 := hB.ext h5
    have SF := Lib.hid (set2_all (x' := .int .i64 2) (y' := .int .i64 (-1)) X5.out hz hB5)
    have b0 := hB5.cell 0
    have b1 := hB5.cell 1
    have f0 := hB5.frozen 0
    have f1 := hB5.frozen 1
    obtain ⟨T, hT⟩ : ∃ T, w3.heap.size = T := ⟨_, rfl⟩
    rw [hT] at SF b0 b1 f0 f1 ⊢
    clear hB hB5 h4 h5 hz hT
    go_wp2_with fail
    clear b0 b1 f0 f1
    go_loopw [9] (fun i wr => i = .int .i64 0 ∧ Hid (Ext w wr) ∧ Hid (Bk wr T #[.int .i64 2, .int .i64 (-1)])) (fun _ _ => 0)
    case atStart => exact ⟨rfl, Lib.hid SF.out.1, Lib.hid SF.out.2.1⟩
    case round =>
      clear SF
      obtain ⟨rfl, XR, BR⟩ := hrel
      have b0 := BR.out.cell 0
      have b1 := BR.out.cell 1
      by_cases hs0 : s.size = 0
      · have hq : ¬ (0 : Int) < (s.size : Int) := by omega
        clear hs0
        go_wp2_with fail
        refine (faulted_any _ E (HE.out.ext XR.out) _ ((1 : Nat) + 1 : Int) (-1) 2 (-1) (.sent 1 (by decide))).mono ?_
        rintro e w9 ⟨he, h9⟩
        obtain rfl : e = .returned (.bool true) := by rw [he]; exact ret_bool (by simp)
        have X9 := Lib.hid (XR.out.trans h9)
        clear he h9
        go_wp2_with fail
        go_ret
        exact ⟨rfl, X9.out⟩
      · have hq : (0 : Int) < (s.size : Int) := by omega
        clear hs0
        go_wp2_with fail
        refine (faulted_any _ E (HE.out.ext XR.out) _ ((1 : Nat) + 1 : Int) (-1) 2 (-1) (.sent 1 (by decide))).mono ?_
        rintro e w9 ⟨he, h9⟩
        obtain rfl : e = .returned (.bool true) := by rw [he]; exact ret_bool (by simp)
        have X9 := Lib.hid (XR.out.trans h9)
        clear he h9
        go_wp2_with fail
        go_ret
        exact ⟨rfl, X9.out⟩
  · have hb2 : ¬ wd < 2 := by omega
    go_wp2_with fail
    refine calls_world (fun wz => Ext w3 wz ∧ Bk wz w3.heap.size #[.int .i64 0, .int .i64 (-1)]) ⟨(Ext.refl _).alloc _, Bk.at rfl⟩ ?_
    rintro w4 ⟨h4, hB⟩
    have X4 := Lib.hid (X3.out.trans h4)
    have hz := X3.out.size
    refine (rbare_any _).mono ?_
    rintro e w5 ⟨rfl, h5⟩
    have X5 := Lib.hid (X4.out.trans h5)
    have hB5 := hB.ext h5
    have SF := Lib.hid (set2_all (x' := .int .i64 2) (y' := .int .i64 (-1)) X5.out hz hB5)
    have b0 := hB5.cell 0
    have b1 := hB5.cell 1
    have f0 := hB5.frozen 0
    have f1 := hB5.frozen 1
    obtain ⟨T, hT⟩ : ∃ T, w3.heap.size = T := ⟨_, rfl⟩
    rw [hT] at SF b0 b1 f0 f1 ⊢
    clear hB hB5 h4 h5 hz hT
    go_wp2_with fail
    clear b0 b1 f0 f1
    go_loopw [9] (fun i wr => i = .int .i64 0 ∧ Hid (Ext w wr) ∧ Hid (Bk wr T #[.int .i64 2, .int .i64 (-1)])) (fun _ _ => 0)
    case atStart => exact ⟨rfl, Lib.hid SF.out.1, Lib.hid SF.out.2.1⟩
    case round =>
      clear SF
      obtain ⟨rfl, XR, BR⟩ := hrel
      have b0 := BR.out.cell 0
      have b1 := BR.out.cell 1
      by_cases hs0 : s.size = 0
      · have hq : ¬ (0 : Int) < (s.size : Int) := by omega
        clear hs0
        go_wp2_with fail
        refine (faulted_any _ E (HE.out.ext XR.out) _ ((1 : Nat) + 1 : Int) (-1) 2 (-1) (.sent 1 (by decide))).mono ?_
        rintro e w9 ⟨he, h9⟩
        obtain rfl : e = .returned (.bool true) := by rw [he]; exact ret_bool (by simp)
        have X9 := Lib.hid (XR.out.trans h9)
        clear he h9
        go_wp2_with fail
        go_ret
        exact ⟨rfl, X9.out⟩
      · have hq : (0 : Int) < (s.size : Int) := by omega
        clear hs0
        go_wp2_with fail
        refine (faulted_any _ E (HE.out.ext XR.out) _ ((1 : Nat) + 1 : Int) (-1) 2 (-1) (.sent 1 (by decide))).mono ?_
        rintro e w9 ⟨he, h9⟩
        obtain rfl : e = .returned (.bool true) := by rw [he]; exact ret_bool (by simp)
        have X9 := Lib.hid (XR.out.trans h9)
        clear he h9
        go_wp2_with fail
        go_ret
        exact ⟨rfl, X9.out⟩
set_option linter.unusedSimpArgs false in
set_option maxHeartbeats 4000000 in
theorem packs_good (s : ByteArray) (wd : Nat) (w : World) (hs : s.size ≤ 1500) (h2 : 2 ≤ wd) (h8 : wd ≤ 8) (hgood : ∀ j, j < s.size → (s.data.toList.getD j 0).toNat < 2 ^ wd) :
    Calls Tryd.prog 4 #[.string s, .int .i64 (wd : Int)] w fun e w' => e = .returned (.bool true) ∧ Ext w w' := by
  have hs2 : ¬ (1500 : Int) < (s.size : Int) := by omega
  have hw2 : ¬ (wd : Int) < 2 := by omega
  have hw8 : ¬ 8 < (wd : Int) := by omega
  obtain ⟨c, hc⟩ : ∃ c : Nat, 2 ^ wd = c := ⟨_, rfl⟩
  obtain ⟨hcl, hch⟩ := pow_bds hc h2 h8
  have hcI := pow_int hc
  have HC := Lib.hid hc
  clear hc
  have HGd := Lib.hid hgood
  have HPk := Lib.hid (fun wx => pack_in s wd wx (by omega) h2 h8 hgood)
  have HLo := Lib.hid (fun wx => lzwOf_any s wd wx (by omega) h2 h8 hgood (by have := pk_len (2 ^ wd) wd s h8 _ 0 [] (wd + 1) (Bts.low (2 ^ wd) (wd + 1)) (by omega) (Nat.le_refl _); rw [Bts.low_length] at this; omega))
  clear hgood
  go_enter Tryd.func4, Tryd.ntmps4
  go_wp2_with fail
  refine (end_any _).mono ?_
  rintro e w1 ⟨rfl, h1⟩
  have X1 := Lib.hid (h1)
  clear h1
  go_wp2_with fail
  refine (HPk.out _).mono ?_
  rintro e w2 ⟨⟨l, hl1, hl2, rfl⟩, h2x⟩
  have HL1 := Lib.hid (And.intro hl1 hl2)
  have X2 := Lib.hid (X1.out.trans h2x)
  clear h2x hl1 hl2
  obtain ⟨Tt, hTt⟩ : ∃ Tt : ByteArray, (⟨l.toArray⟩ : ByteArray) = Tt := ⟨_, rfl⟩
  have HTt := Lib.hid hTt
  rw [hTt]
  clear hTt
  go_wp2_with fail
  refine (rfine_any _).mono ?_
  rintro e w3 ⟨rfl, h3⟩
  have X3 := Lib.hid (X2.out.trans h3)
  clear h3
  go_wp2_with fail
  refine wp_world (fun wz => Ext w wz ∧ Bk wz w3.heap.size #[.int .i64 0, .int .i64 (-1)]) ⟨by first | exact X3.out.alloc _ | exact (set2_all ((X3.out).alloc _) X3.out.size (Bk.at rfl)).1, by first | exact Bk.at rfl | exact (set2_all ((X3.out).alloc _) X3.out.size (Bk.at rfl)).2.1⟩ ?_
  rintro w4 ⟨h4, hB⟩
  have X4 := Lib.hid h4
  have B4 := Lib.hid hB
  clear h4 hB
  obtain ⟨T, hT⟩ : ∃ T, w3.heap.size = T := ⟨_, rfl⟩
  rw [hT] at B4 ⊢
  clear hT
  go_loopw [9] (fun i wr => ∃ k : Nat, k ≤ s.size ∧ i = .int .i64 (k : Int) ∧ Hid (Ext w wr) ∧ Hid (Bk wr T #[.int .i64 0, .int .i64 (-1)])) (fun i _ => s.size - (intOf i).toNat)
  case atStart => exact ⟨0, by omega, rfl, X4, B4⟩
  case round =>
    clear X4 B4
    obtain ⟨k, hk, rfl, XR, BR⟩ := hrel
    by_cases hks : k < s.size
    · obtain ⟨y, hy⟩ : ∃ y, s[k].toNat = y := ⟨_, rfl⟩
      have hgy : (s.data.toList.getD k 0).toNat = y := by rw [byte_at s k hks, hy]
      have hkI : ((s[k].toNat : Nat) : Int) = (y : Int) := by rw [hy]
      have hy256 : y < 256 := by rw [← hy]; exact UInt8.toNat_lt _
      have hwy := wrap_i (x := (y : Int)) (by omega) (by omega)
      have hwc := wrap_i (x := (c : Int)) (by omega) (by omega)
      have hki : (k : Int) < (s.size : Int) := by omega
      have b0 := BR.out.cell 0
      have b1 := BR.out.cell 1
      have hyc : y < c := by rw [← hgy, ← HC.out]; exact HGd.out k hks
      have t1 : decide ((c : Int) ≤ (y : Int)) = false := decide_eq_false (by omega)
      have t2 : decide (c ≤ y) = false := decide_eq_false (by omega)
      clear hgy hy
      go_wp2_with fail
      go_quiet (fail)
      go_wp2_with fail
      go_roundw
      case rel => exact ⟨k + 1, by omega, by go_num, Lib.hid (by repeat (first | exact XR.out | refine Ext.drewN ?_ _)), Lib.hid BR.out⟩
      case measure => simp [intOf]; omega
    · obtain rfl : k = s.size := by omega
      have b0 := BR.out.cell 0
      go_wp2_with fail
      refine (HLo.out _).mono ?_
      rintro e w5 ⟨⟨l2, q1, q2, rfl⟩, h5⟩
      have X5 := Lib.hid (XR.out.trans h5)
      have hll : l2 = l := Crc.num_inj l2 l (q1.trans HL1.out.1.symm) (q2.trans HL1.out.2.symm)
      rw [hll, HTt.out]
      clear q1 q2 hll h5
      go_wp2_with fail
      go_ret
      exact ⟨rfl, X5.out⟩
set_option linter.unusedSimpArgs false in
set_option maxHeartbeats 4000000 in
theorem packs_shape (s : ByteArray) (wd i : Nat) (w : World) (E : Nat → Addr) (hE : Errs w E) (hs : s.size ≤ 1500) (h2 : 2 ≤ wd) (h8 : wd ≤ 8) (hi : i < s.size) (hgood : ∀ j, j < i → (s.data.toList.getD j 0).toNat < 2 ^ wd) (hbad : 2 ^ wd ≤ (s.data.toList.getD i 0).toNat) :
    Calls Tryd.prog 4 #[.string s, .int .i64 (wd : Int)] w fun e w' => e = .returned (.bool true) ∧ Ext w w' := by
  have hs2 : ¬ (1500 : Int) < (s.size : Int) := by omega
  have hw2 : ¬ (wd : Int) < 2 := by omega
  have hw8 : ¬ 8 < (wd : Int) := by omega
  obtain ⟨c, hc⟩ : ∃ c : Nat, 2 ^ wd = c := ⟨_, rfl⟩
  obtain ⟨hcl, hch⟩ := pow_bds hc h2 h8
  have hcI := pow_int hc
  have HC := Lib.hid hc
  clear hc
  have HGd := Lib.hid hgood
  have HBd := Lib.hid hbad
  have HE := Lib.hid hE
  have HPk := Lib.hid (fun wx (hx : Ext w wx) => pack_shape s wd i wx E (hE.ext hx) (by omega) h2 h8 hi hgood hbad)
  clear hgood hbad hE
  go_enter Tryd.func4, Tryd.ntmps4
  go_wp2_with fail
  refine (end_any _).mono ?_
  rintro e w1 ⟨rfl, h1⟩
  have X1 := Lib.hid (h1)
  clear h1
  go_wp2_with fail
  refine (HPk.out _ X1.out).mono ?_
  rintro e w2 ⟨F, rfl, hF, h2x⟩
  have X2 := Lib.hid (X1.out.trans h2x)
  have HV := Lib.hid (ErrV.fault (w := w2) (E := E) 2 F (i : Int) (by decide) hF (by omega) (by omega))
  clear h2x hF
  go_wp2_with fail
  refine (rfine_any _).mono ?_
  rintro e w3 ⟨rfl, h3⟩
  have X3 := Lib.hid (X2.out.trans h3)
  have HV3 := Lib.hid (HV.out.ext h3)
  clear h3 HV
  go_wp2_with fail
  refine wp_world (fun wz => Ext w3 wz ∧ Ext w wz ∧ Bk wz w3.heap.size #[.int .i64 0, .int .i64 (-1)]) ⟨by first | exact (Ext.refl w3).alloc _ | exact (set2_all ((Ext.refl w3).alloc _) (Nat.le_refl _) (Bk.at rfl)).1, by first | exact X3.out.alloc _ | exact (set2_all ((X3.out).alloc _) X3.out.size (Bk.at rfl)).1, by first | exact Bk.at rfl | exact (set2_all ((X3.out).alloc _) X3.out.size (Bk.at rfl)).2.1⟩ ?_
  rintro w4 ⟨h43, h4, hB⟩
  have HV4 := Lib.hid (HV3.out.ext h43)
  have X4 := Lib.hid h4
  have B4 := Lib.hid hB
  have hgT := X3.out.size
  clear h4 hB h43 HV3
  obtain ⟨T, hT⟩ : ∃ T, w3.heap.size = T := ⟨_, rfl⟩
  skip
  rw [hT] at B4 hgT ⊢
  have HT3 := Lib.hid hT
  clear hT
  go_loopw [9] (fun i9 wr => ∃ k : Nat, i9 = .int .i64 (k : Int) ∧ k ≤ i + 1 ∧ Hid (Ext w wr) ∧ Hid (ErrV wr E (.iface 68 (.pointer (some ⟨F, 0, none⟩))) ((2 : Nat) + 1 : Int) (i : Int)) ∧ Hid ((k ≤ i ∧ Bk wr T #[.int .i64 0, .int .i64 (-1)]) ∨ (k = i + 1 ∧ Bk wr T #[.int .i64 3, .int .i64 (i : Int)]))) (fun i9 _ => i + 2 - (intOf i9).toNat)
  case atStart => exact ⟨0, rfl, by omega, X4, HV4, Lib.hid (.inl ⟨by omega, B4.out⟩)⟩
  case round =>
    clear X4 B4 HV4
    obtain ⟨k, rfl, hk, XR, VR, HD⟩ := hrel
    rcases HD.out with ⟨hki2, hBR⟩ | ⟨hke, hBR⟩
    · have BR := Lib.hid hBR
      clear hBR HD
      have hks : k < s.size := by omega
      obtain ⟨y, hy⟩ : ∃ y, s[k].toNat = y := ⟨_, rfl⟩
      have hgy : (s.data.toList.getD k 0).toNat = y := by rw [byte_at s k hks, hy]
      have hkI : ((s[k].toNat : Nat) : Int) = (y : Int) := by rw [hy]
      have hy256 : y < 256 := by rw [← hy]; exact UInt8.toNat_lt _
      have hwy := wrap_i (x := (y : Int)) (by omega) (by omega)
      have hwc := wrap_i (x := (c : Int)) (by omega) (by omega)
      have hki : (k : Int) < (s.size : Int) := by omega
      have b0 := BR.out.cell 0
      have b1 := BR.out.cell 1
      skip
      by_cases hlt : k < i
      · have hyc : y < c := by rw [← hgy, ← HC.out]; exact HGd.out k hlt
        have t1 : decide ((c : Int) ≤ (y : Int)) = false := decide_eq_false (by omega)
        have t2 : decide (c ≤ y) = false := decide_eq_false (by omega)
        clear hgy hy
        go_wp2_with fail
        go_quiet (fail)
        go_wp2_with fail
        go_roundw
        case rel => exact ⟨k + 1, by go_num, by omega, Lib.hid (by repeat (first | exact XR.out | refine Ext.drewN ?_ _)), Lib.hid (VR.out.ext (by repeat (first | exact Ext.refl _ | refine Ext.drewN ?_ _))), Lib.hid (.inl ⟨by omega, BR.out⟩)⟩
        case measure => simp [intOf]; omega
      · obtain rfl : k = i := by omega
        have hyc : c ≤ y := by rw [← hgy, ← HC.out]; exact HBd.out
        have t1 : decide ((c : Int) ≤ (y : Int)) = true := decide_eq_true (by omega)
        have t2 : decide (c ≤ y) = true := decide_eq_true (by omega)
        have f0 := BR.out.frozen 0
        have f1 := BR.out.frozen 1
        have hTF : ¬ T = F := fun e => by subst e; exact fault_ne BR.out VR.out
        have HTF := Lib.hid hTF
        clear hgy hy hTF
        go_wp2_with fail
        go_quiet (fail)
        go_wp2_with fail
        go_roundw
        case rel => exact ⟨k + 1, by go_num, by omega, Lib.hid (set2_all (XR.out.drewN _) hgT (BR.out.drewN _)).1, Lib.hid (fault_keeps (VR.out.ext ((Ext.refl _).drewN _)) (set2_all (XR.out.drewN _) hgT (BR.out.drewN _)).2.2 (fun e => HTF.out e.symm)), Lib.hid (.inr ⟨by omega, (set2_all (XR.out.drewN _) hgT (BR.out.drewN _)).2.1⟩)⟩
        case measure => simp [intOf] <;> omega
    · subst hke
      have BR := Lib.hid hBR
      clear hBR HD
      have b0 := BR.out.cell 0
      have b1 := BR.out.cell 1
      by_cases hes : i + 1 < s.size
      · have hq : (i : Int) + 1 < (s.size : Int) := by omega
        go_wp2_with fail
        refine (faulted_any _ E (HE.out.ext XR.out) _ ((2 : Nat) + 1 : Int) (i : Int) 3 (i : Int) VR.out).mono ?_
        rintro e w9 ⟨he, h9⟩
        obtain rfl : e = .returned (.bool true) := by rw [he]; exact ret_bool (by simp)
        have X9 := Lib.hid (XR.out.trans h9)
        clear he h9
        go_wp2_with fail
        go_ret
        exact ⟨rfl, X9.out⟩
      · have hq : ¬ (i : Int) + 1 < (s.size : Int) := by omega
        go_wp2_with fail
        refine (faulted_any _ E (HE.out.ext XR.out) _ ((2 : Nat) + 1 : Int) (i : Int) 3 (i : Int) VR.out).mono ?_
        rintro e w9 ⟨he, h9⟩
        obtain rfl : e = .returned (.bool true) := by rw [he]; exact ret_bool (by simp)
        have X9 := Lib.hid (XR.out.trans h9)
        clear he h9
        go_wp2_with fail
        go_ret
        exact ⟨rfl, X9.out⟩
theorem first_bad (s : ByteArray) (c : Nat) : ∀ n, n ≤ s.size → (∀ j, j < n → (s.data.toList.getD j 0).toNat < c) ∨ ∃ i, i < n ∧ (∀ j, j < i → (s.data.toList.getD j 0).toNat < c) ∧ c ≤ (s.data.toList.getD i 0).toNat := by
  intro n
  induction n with
  | zero => intro _; exact .inl (fun j hj => by omega)
  | succ n ih =>
    intro hn
    rcases ih (by omega) with h | ⟨i, h1, h2, h3⟩
    · by_cases hb : (s.data.toList.getD n 0).toNat < c
      · exact .inl (fun j hj => by
          rcases Nat.lt_or_ge j n with q | q
          · exact h j q
          · obtain rfl : j = n := by omega
            exact hb)
      · exact .inr ⟨n, by omega, h, by omega⟩
    · exact .inr ⟨i, by omega, h2, h3⟩
theorem lzwPacks_any (s : ByteArray) (wd : Int) (w : World) (E : Nat → Addr) (hE : Errs w E) (hs : s.size ≤ maxLen) :
    Calls Tryd.prog 4 #[.string s, .int .i64 wd] w fun e w' => e = .returned (.bool true) ∧ Ext w w' := by
  by_cases h : 1500 < s.size
  · exact packs_big s wd w hs h
  · by_cases hb : wd < 2 ∨ 8 < wd
    · exact packs_bound s wd w E hE (by omega) hb
    · obtain ⟨b, rfl⟩ : ∃ b : Nat, wd = b := ⟨wd.toNat, by omega⟩
      rcases first_bad s (2 ^ b) s.size (Nat.le_refl _) with q | ⟨i, q1, q2, q3⟩
      · exact packs_good s b w (by omega) (by omega) (by omega) q
      · exact packs_shape s b i w E hE (by omega) (by omega) (by omega) q1 q2 q3
end Go.Proofs.YtdeiolagnheihaaDoor
