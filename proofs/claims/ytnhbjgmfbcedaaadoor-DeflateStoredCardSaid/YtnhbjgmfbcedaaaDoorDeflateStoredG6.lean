/-
  The document's StoredOf.
  math/bits.Mul at 1.
  Rows of cells of whatever values. No function of the program is named.
  slices.Repeat of one whole number.
-/
import Derived.Test.YtnhbjgmfbcedaaaDoorDeflateStoredG5
import Derived.Test.YtnhbjgmfbcedaaaDoorDeflateStoredG1
import Derived.Test.YtnhbjgmfbcedaaaDoorDeflateStoredG4
import Derived.Deep.AppendLies
import Derived.Deep.RegionHeld3
import Derived.RegionTactic
import Derived.Deep.LoopGhost
import Derived.Lib.Mul64
import Derived.Laws.Bits64b
import Derived.Test.YtnhbjgmfbcedaaaDoorDeflateStoredG2
import Derived.Lib.SliceRun
import Derived.Laws.CopyOwn
import Derived.Deep.RegionLaw
import Derived.Deep.OwnRows
import Derived.Deep.DeepCutAuto
import Derived.Shelf.RegionOpenPlain
import Derived.Lib.OthersKept
namespace Go.Proofs.YtnhbjgmfbcedaaaDoor
open Go.RowKit
set_option linter.unusedSimpArgs false
set_option maxRecDepth 100000
theorem blk_cat (O B1 B2 B3 B4 B5 P : ByteArray) (done : List UInt8) (last : Nat) (hO : O.data.toList = done) (h1 : B1.data.toList = [UInt8.ofNat last]) (h2 : B2.data.toList = [UInt8.ofNat (P.size % 256)]) (h3 : B3.data.toList = [UInt8.ofNat (P.size / 256)])
    (h4 : B4.data.toList = [UInt8.ofNat (255 - P.size % 256)]) (h5 : B5.data.toList = [UInt8.ofNat (255 - P.size / 256)]) : (O ++ B1 ++ B2 ++ B3 ++ B4 ++ B5 ++ P).data.toList = done ++ Sto.blk last P.data.toList := by
  rw [bts_cat, bts_cat, bts_cat, bts_cat, bts_cat, bts_cat, hO, h1, h2, h3, h4, h5]
  unfold Sto.blk
  rw [list_size]
  simp
set_option linter.unusedSimpArgs false in
set_option maxHeartbeats 4000000 in
theorem storedOf_calls (t : ByteArray) (w : World) (ht : t.size ≤ 300000) :
    Calls Tryd.prog 13 #[.string t] w fun e w' => e = .returned (.string (tb (Sto.all (t.size + 1) t.data.toList))) ∧ Ext w w' := by
  obtain ⟨A, hA⟩ : ∃ A, Sto.all (t.size + 1) t.data.toList = A := ⟨_, rfl⟩
  rw [hA]
  have hAl : A.length ≤ 300100 := by rw [← hA]; have := Sto.all_length (t.size + 1) t.data.toList; rw [list_size] at this; omega
  have HA := Lib.hid hA
  clear hA
  go_enter Tryd.func13, Tryd.ntmps13
  go_wp2_with fail
  go_loopw [0, 3] (fun u y wr => ∃ (R O : ByteArray) (done : List UInt8) (k : Nat), u = .string R ∧ y = .string O ∧ R.size ≤ t.size ∧ Hid (O.data.toList = done) ∧ Hid (done ++ Sto.all k R.data.toList = A) ∧ Hid (R.size < k) ∧ Hid (Ext w wr)) (fun u _ _ => match u with | .string R => R.size | _ => 0)
  case atStart => exact ⟨t, ⟨#[]⟩, [], t.size + 1, rfl, rfl, Nat.le_refl _, Lib.hid rfl, Lib.hid (by rw [List.nil_append]; exact HA.out), Lib.hid (Nat.lt_succ_self _), Lib.hid (Ext.refl _)⟩
  case round =>
    clear HA
    obtain ⟨R, O, done, k, rfl, rfl, hRt, HO, HD, HK, HX⟩ := hrel
    have hOb : O.size ≤ 300100 := by have := congrArg List.length HD.out; rw [List.length_append, ← HO.out, list_size] at this; omega
    obtain ⟨k, rfl⟩ : ∃ j, k = j + 1 := ⟨k - 1, by have := HK.out; omega⟩
    by_cases h6 : R.size ≤ 65535
    · have t0 : decide ((65535 : Int) < (R.size : Int)) = false := decide_eq_false (by omega)
      have n0 : ¬ 65535 < R.size := by omega
      have HDA : Hid (done ++ Sto.blk 1 R.data.toList = A) := Lib.hid (by rw [← HD.out, Sto.all_last (by rw [list_size]; exact h6)])
      obtain ⟨P, hP⟩ : ∃ P, R.extract 0 R.size = P := ⟨_, rfl⟩
      have hPR : P = R := by rw [← hP]; apply bts_ext; rw [ex_list, List.drop_zero, List.take_of_length_le (by rw [list_size]; omega)]
      have HPR := Lib.hid hPR
      have hPs : P.size ≤ 65535 := by rw [hPR]; exact h6
      obtain ⟨r, hr⟩ : ∃ r, R.size % 256 = r := ⟨_, rfl⟩
      obtain ⟨q, hq⟩ : ∃ q, R.size / 256 = q := ⟨_, rfl⟩
      obtain ⟨r2, hr2⟩ : ∃ r2, 255 - r = r2 := ⟨_, rfl⟩
      obtain ⟨q2, hq2⟩ : ∃ q2, 255 - q = q2 := ⟨_, rfl⟩
      have m1 : (R.size : Int).tmod 256 = (r : Int) := by rw [Int.tmod_eq_emod_of_nonneg (by omega)]; omega
      have m2 : (R.size : Int) % 256 = (r : Int) := by omega
      have m3 : (R.size : Int) / 256 = (q : Int) := by omega
      have m4 : (255 : Int) - (r : Int) = (r2 : Int) := by omega
      have m5 : (255 : Int) - (q : Int) = (q2 : Int) := by omega
      have hr0 : r < 256 := by omega
      have hq0 : q < 256 := by omega
      have hr20 : r2 < 256 := by omega
      have hq20 : q2 < 256 := by omega
      have HNs := Lib.hid (And.intro hr (And.intro hq (And.intro hr2 hq2)))
      have wvr : ∀ z, z = (r : Int) → IntKind.i64.wrap z = z := by rintro _ rfl; rw [IntKind.wrap_i64]; omega
      have wvq : ∀ z, z = (q : Int) → IntKind.i64.wrap z = z := by rintro _ rfl; rw [IntKind.wrap_i64]; omega
      have wvr2 : ∀ z, z = (r2 : Int) → IntKind.i64.wrap z = z := by rintro _ rfl; rw [IntKind.wrap_i64]; omega
      have wvq2 : ∀ z, z = (q2 : Int) → IntKind.i64.wrap z = z := by rintro _ rfl; rw [IntKind.wrap_i64]; omega
      clear hr hq hr2 hq2 hPR
      obtain ⟨B1, hB1⟩ : ∃ B : ByteArray, (⟨#[UInt8.ofNat (1)]⟩ : ByteArray) = B := ⟨_, rfl⟩
      have HC1 : Hid (∀ w, Calls Tryd.prog 33 #[.int .i64 1] w fun e w' => e = .returned (.string B1) ∧ Ext w w') := Lib.hid (fun w => by have h := byte_any (1) (by omega) w; rw [hB1] at h; exact h)
      have HL1 : Hid (B1.data.toList = [UInt8.ofNat (1)]) := Lib.hid (by rw [← hB1])
      have s1 : B1.size ≤ 1 := by rw [← hB1]; exact Nat.le_refl 1
      clear hB1
      obtain ⟨B2, hB2⟩ : ∃ B : ByteArray, (⟨#[UInt8.ofNat (r)]⟩ : ByteArray) = B := ⟨_, rfl⟩
      have HC2 : Hid (∀ w, Calls Tryd.prog 33 #[.int .i64 (r : Int)] w fun e w' => e = .returned (.string B2) ∧ Ext w w') := Lib.hid (fun w => by have h := byte_any (r) (by omega) w; rw [hB2] at h; exact h)
      have HL2 : Hid (B2.data.toList = [UInt8.ofNat (r)]) := Lib.hid (by rw [← hB2])
      have s2 : B2.size ≤ 1 := by rw [← hB2]; exact Nat.le_refl 1
      clear hB2
      obtain ⟨B3, hB3⟩ : ∃ B : ByteArray, (⟨#[UInt8.ofNat (q)]⟩ : ByteArray) = B := ⟨_, rfl⟩
      have HC3 : Hid (∀ w, Calls Tryd.prog 33 #[.int .i64 (q : Int)] w fun e w' => e = .returned (.string B3) ∧ Ext w w') := Lib.hid (fun w => by have h := byte_any (q) (by omega) w; rw [hB3] at h; exact h)
      have HL3 : Hid (B3.data.toList = [UInt8.ofNat (q)]) := Lib.hid (by rw [← hB3])
      have s3 : B3.size ≤ 1 := by rw [← hB3]; exact Nat.le_refl 1
      clear hB3
      obtain ⟨B4, hB4⟩ : ∃ B : ByteArray, (⟨#[UInt8.ofNat (r2)]⟩ : ByteArray) = B := ⟨_, rfl⟩
      have HC4 : Hid (∀ w, Calls Tryd.prog 33 #[.int .i64 (r2 : Int)] w fun e w' => e = .returned (.string B4) ∧ Ext w w') := Lib.hid (fun w => by have h := byte_any (r2) (by omega) w; rw [hB4] at h; exact h)
      have HL4 : Hid (B4.data.toList = [UInt8.ofNat (r2)]) := Lib.hid (by rw [← hB4])
      have s4 : B4.size ≤ 1 := by rw [← hB4]; exact Nat.le_refl 1
      clear hB4
      obtain ⟨B5, hB5⟩ : ∃ B : ByteArray, (⟨#[UInt8.ofNat (q2)]⟩ : ByteArray) = B := ⟨_, rfl⟩
      have HC5 : Hid (∀ w, Calls Tryd.prog 33 #[.int .i64 (q2 : Int)] w fun e w' => e = .returned (.string B5) ∧ Ext w w') := Lib.hid (fun w => by have h := byte_any (q2) (by omega) w; rw [hB5] at h; exact h)
      have HL5 : Hid (B5.data.toList = [UInt8.ofNat (q2)]) := Lib.hid (by rw [← hB5])
      have s5 : B5.size ≤ 1 := by rw [← hB5]; exact Nat.le_refl 1
      clear hB5
      have q0 : ¬ 9223372036854775807 < O.size + B1.size := by omega
      have q1 : ¬ 9223372036854775807 < O.size + B1.size + B2.size := by omega
      have r1 : ¬ 9223372036854775807 < (O ++ B1).size + B2.size := by simp only [ByteArray.size_append]; omega
      have q2 : ¬ 9223372036854775807 < O.size + B1.size + B2.size + B3.size := by omega
      have r2 : ¬ 9223372036854775807 < (O ++ B1 ++ B2).size + B3.size := by simp only [ByteArray.size_append]; omega
      have q3 : ¬ 9223372036854775807 < O.size + B1.size + B2.size + B3.size + B4.size := by omega
      have r3 : ¬ 9223372036854775807 < (O ++ B1 ++ B2 ++ B3).size + B4.size := by simp only [ByteArray.size_append]; omega
      have q4 : ¬ 9223372036854775807 < O.size + B1.size + B2.size + B3.size + B4.size + B5.size := by omega
      have r4 : ¬ 9223372036854775807 < (O ++ B1 ++ B2 ++ B3 ++ B4).size + B5.size := by simp only [ByteArray.size_append]; omega
      have q5 : ¬ 9223372036854775807 < O.size + B1.size + B2.size + B3.size + B4.size + B5.size + P.size := by omega
      have r5 : ¬ 9223372036854775807 < (O ++ B1 ++ B2 ++ B3 ++ B4 ++ B5).size + P.size := by simp only [ByteArray.size_append]; omega
      have HX0 : Hid (Ext w wr.drew) := Lib.hid (Below.drew HX.out)
      go_wp2_with fail
      refine wp_region_held_drew (S := fun w' => True) (by kernel_rfl) trivial (fun hHeld => ?_)
      clear hHeld
      have hHeld : True := trivial
      refine wpAnyH_take (i := 0) (v := ?_) rfl (by kernel_rfl) (by kernel_rfl) (by kernel_rfl) (fun _ _ _ h => h) (Or.inl ⟨by kernel_rfl, ?_⟩) hHeld ?_
      rotate_left
      · intro w hSw
        (try dsimp only at hSw)
        go_split_ands
        go_simp
        (try with_reducible rfl)
      try simp only [Act.put, List.getElem_toArray, List.getElem_cons_succ, List.getElem_cons_zero, List.setIfInBounds_toArray, List.set_cons_zero, List.set_cons_succ]
      refine wpAnyH_take (i := 1) (v := ?_) rfl (by kernel_rfl) (by kernel_rfl) (by kernel_rfl) (fun _ _ _ h => h) (Or.inl ⟨by kernel_rfl, ?_⟩) hHeld ?_
      rotate_left
      · intro w hSw
        (try dsimp only at hSw)
        go_split_ands
        go_simp
        (try with_reducible rfl)
      try simp only [Act.put, List.getElem_toArray, List.getElem_cons_succ, List.getElem_cons_zero, List.setIfInBounds_toArray, List.set_cons_zero, List.set_cons_succ]
      refine wpAnyH_take (i := 4) (v := ?_) rfl (by kernel_rfl) (by kernel_rfl) (by kernel_rfl) (fun _ _ _ h => h) (Or.inl ⟨by kernel_rfl, ?_⟩) hHeld ?_
      rotate_left
      · intro w hSw
        (try dsimp only at hSw)
        go_split_ands
        go_simp
        (try with_reducible rfl)
      try simp only [Act.put, List.getElem_toArray, List.getElem_cons_succ, List.getElem_cons_zero, List.setIfInBounds_toArray, List.set_cons_zero, List.set_cons_succ]
      refine wpAnyH_take (i := 5) (v := ?_) rfl (by kernel_rfl) (by kernel_rfl) (by kernel_rfl) (fun _ _ _ h => h) (Or.inl ⟨by kernel_rfl, ?_⟩) hHeld ?_
      rotate_left
      · intro w hSw
        (try dsimp only at hSw)
        go_split_ands
        go_simp
        (try with_reducible rfl)
      try simp only [Act.put, List.getElem_toArray, List.getElem_cons_succ, List.getElem_cons_zero, List.setIfInBounds_toArray, List.set_cons_zero, List.set_cons_succ]
      refine wpAnyH_take (i := 8) (v := ?_) rfl (by kernel_rfl) (by kernel_rfl) (by kernel_rfl) (fun _ _ _ h => h) (Or.inl ⟨by kernel_rfl, ?_⟩) hHeld ?_
      rotate_left
      · intro w hSw
        (try dsimp only at hSw)
        go_split_ands
        go_simp
        (try with_reducible rfl)
      try simp only [Act.put, List.getElem_toArray, List.getElem_cons_succ, List.getElem_cons_zero, List.setIfInBounds_toArray, List.set_cons_zero, List.set_cons_succ]
      refine wpAnyH_take (i := 9) (v := ?_) rfl (by kernel_rfl) (by kernel_rfl) (by kernel_rfl) (fun _ _ _ h => h) (Or.inl ⟨by kernel_rfl, ?_⟩) hHeld ?_
      rotate_left
      · intro w hSw
        (try dsimp only at hSw)
        go_split_ands
        go_simp
        (try with_reducible rfl)
      try simp only [Act.put, List.getElem_toArray, List.getElem_cons_succ, List.getElem_cons_zero, List.setIfInBounds_toArray, List.set_cons_zero, List.set_cons_succ]
      refine wpAnyH_take (i := 12) (v := ?_) rfl (by kernel_rfl) (by kernel_rfl) (by kernel_rfl) (fun _ _ _ h => h) (Or.inl ⟨by kernel_rfl, ?_⟩) hHeld ?_
      rotate_left
      · intro w hSw
        (try dsimp only at hSw)
        go_split_ands
        go_simp
        (try with_reducible rfl)
      try simp only [Act.put, List.getElem_toArray, List.getElem_cons_succ, List.getElem_cons_zero, List.setIfInBounds_toArray, List.set_cons_zero, List.set_cons_succ]
      refine wpAnyH_take (i := 13) (v := ?_) rfl (by kernel_rfl) (by kernel_rfl) (by kernel_rfl) (fun _ _ _ h => h) (Or.inl ⟨by kernel_rfl, ?_⟩) hHeld ?_
      rotate_left
      · intro w hSw
        (try dsimp only at hSw)
        go_split_ands
        go_simp
        (try with_reducible rfl)
      try simp only [Act.put, List.getElem_toArray, List.getElem_cons_succ, List.getElem_cons_zero, List.setIfInBounds_toArray, List.set_cons_zero, List.set_cons_succ]
      refine wpAnyH_take (i := 14) (v := ?_) rfl (by kernel_rfl) (by kernel_rfl) (by kernel_rfl) (fun _ _ _ h => h) (Or.inl ⟨by kernel_rfl, ?_⟩) hHeld ?_
      rotate_left
      · intro w hSw
        (try dsimp only at hSw)
        go_split_ands
        go_simp
        (try with_reducible rfl)
      try simp only [Act.put, List.getElem_toArray, List.getElem_cons_succ, List.getElem_cons_zero, List.setIfInBounds_toArray, List.set_cons_zero, List.set_cons_succ]
      refine wpAnyH_take (i := 17) (v := ?_) rfl (by kernel_rfl) (by kernel_rfl) (by kernel_rfl) (fun _ _ _ h => h) (Or.inl ⟨by kernel_rfl, ?_⟩) hHeld ?_
      rotate_left
      · intro w hSw
        (try dsimp only at hSw)
        go_split_ands
        go_simp
        (try with_reducible rfl)
      try simp only [Act.put, List.getElem_toArray, List.getElem_cons_succ, List.getElem_cons_zero, List.setIfInBounds_toArray, List.set_cons_zero, List.set_cons_succ]
      refine wpAnyH_take (i := 18) (v := ?_) rfl (by kernel_rfl) (by kernel_rfl) (by kernel_rfl) (fun _ _ _ h => h) (Or.inl ⟨by kernel_rfl, ?_⟩) hHeld ?_
      rotate_left
      · intro w hSw
        (try dsimp only at hSw)
        go_split_ands
        go_simp
        (try with_reducible rfl)
      try simp only [Act.put, List.getElem_toArray, List.getElem_cons_succ, List.getElem_cons_zero, List.setIfInBounds_toArray, List.set_cons_zero, List.set_cons_succ]
      refine wpAnyH_take (i := 19) (v := ?_) rfl (by kernel_rfl) (by kernel_rfl) (by kernel_rfl) (fun _ _ _ h => h) (Or.inl ⟨by kernel_rfl, ?_⟩) hHeld ?_
      rotate_left
      · intro w hSw
        (try dsimp only at hSw)
        go_split_ands
        go_simp
        (try with_reducible rfl)
      try simp only [Act.put, List.getElem_toArray, List.getElem_cons_succ, List.getElem_cons_zero, List.setIfInBounds_toArray, List.set_cons_zero, List.set_cons_succ]
      refine wpAnyH_take (i := 22) (v := ?_) rfl (by kernel_rfl) (by kernel_rfl) (by kernel_rfl) (fun _ _ _ h => h) (Or.inl ⟨by kernel_rfl, ?_⟩) hHeld ?_
      rotate_left
      · intro w hSw
        (try dsimp only at hSw)
        go_split_ands
        go_simp
        (try with_reducible rfl)
      try simp only [Act.put, List.getElem_toArray, List.getElem_cons_succ, List.getElem_cons_zero, List.setIfInBounds_toArray, List.set_cons_zero, List.set_cons_succ]
      refine wpAnyH_take (i := 23) (v := ?_) rfl (by kernel_rfl) (by kernel_rfl) (by kernel_rfl) (fun _ _ _ h => h) (Or.inl ⟨by kernel_rfl, ?_⟩) hHeld ?_
      rotate_left
      · intro w hSw
        (try dsimp only at hSw)
        go_split_ands
        go_simp
        (try with_reducible rfl)
      try simp only [Act.put, List.getElem_toArray, List.getElem_cons_succ, List.getElem_cons_zero, List.setIfInBounds_toArray, List.set_cons_zero, List.set_cons_succ]
      refine wpAnyH_take (i := 24) (v := ?_) rfl (by kernel_rfl) (by kernel_rfl) (by kernel_rfl) (fun _ _ _ h => h) (Or.inl ⟨by kernel_rfl, ?_⟩) hHeld ?_
      rotate_left
      · intro w hSw
        (try dsimp only at hSw)
        go_split_ands
        go_simp
        (try with_reducible rfl)
      try simp only [Act.put, List.getElem_toArray, List.getElem_cons_succ, List.getElem_cons_zero, List.setIfInBounds_toArray, List.set_cons_zero, List.set_cons_succ]
      refine wpAnyH_ready (rs := [2]) (by kernel_rfl) (by simp) ?_
      refine AllReadyH.cons rfl (fun KK hK => ?_) AllReadyH.nil
      clear hHeld
      go_simp
      with_reducible refine (HC1.out _).mono ?_
      rintro e w_1 ⟨rfl, h⟩
      have HX1 := Lib.hid (HX0.out.trans h)
      clear h
      go_simp
      refine hK.out _ _ trivial (fun hHeld => ?_)
      clear hK KK
      try simp only [Act.put, List.getElem_toArray, List.getElem_cons_succ, List.getElem_cons_zero, List.setIfInBounds_toArray, List.set_cons_zero, List.set_cons_succ]
      refine wpAnyH_take (i := 3) (v := ?_) rfl (by kernel_rfl) (by kernel_rfl) (by kernel_rfl) (fun _ _ _ h => h) (Or.inl ⟨by kernel_rfl, ?_⟩) hHeld ?_
      rotate_left
      · intro w hSw
        (try dsimp only at hSw)
        go_split_ands
        go_simp
        (try with_reducible rfl)
      try simp only [Act.put, List.getElem_toArray, List.getElem_cons_succ, List.getElem_cons_zero, List.setIfInBounds_toArray, List.set_cons_zero, List.set_cons_succ]
      refine wpAnyH_ready (rs := [6]) (by kernel_rfl) (by simp) ?_
      refine AllReadyH.cons rfl (fun KK hK => ?_) AllReadyH.nil
      clear hHeld
      go_simp
      with_reducible refine (HC2.out _).mono ?_
      rintro e w_2 ⟨rfl, h⟩
      have HX2 := Lib.hid (HX1.out.trans h)
      clear h
      go_simp
      refine hK.out _ _ trivial (fun hHeld => ?_)
      clear hK KK
      try simp only [Act.put, List.getElem_toArray, List.getElem_cons_succ, List.getElem_cons_zero, List.setIfInBounds_toArray, List.set_cons_zero, List.set_cons_succ]
      refine wpAnyH_take (i := 7) (v := ?_) rfl (by kernel_rfl) (by kernel_rfl) (by kernel_rfl) (fun _ _ _ h => h) (Or.inl ⟨by kernel_rfl, ?_⟩) hHeld ?_
      rotate_left
      · intro w hSw
        (try dsimp only at hSw)
        go_split_ands
        go_simp
        (try with_reducible rfl)
      try simp only [Act.put, List.getElem_toArray, List.getElem_cons_succ, List.getElem_cons_zero, List.setIfInBounds_toArray, List.set_cons_zero, List.set_cons_succ]
      refine wpAnyH_ready (rs := [10]) (by kernel_rfl) (by simp) ?_
      refine AllReadyH.cons rfl (fun KK hK => ?_) AllReadyH.nil
      clear hHeld
      go_simp
      with_reducible refine (HC3.out _).mono ?_
      rintro e w_3 ⟨rfl, h⟩
      have HX3 := Lib.hid (HX2.out.trans h)
      clear h
      go_simp
      refine hK.out _ _ trivial (fun hHeld => ?_)
      clear hK KK
      try simp only [Act.put, List.getElem_toArray, List.getElem_cons_succ, List.getElem_cons_zero, List.setIfInBounds_toArray, List.set_cons_zero, List.set_cons_succ]
      refine wpAnyH_take (i := 11) (v := ?_) rfl (by kernel_rfl) (by kernel_rfl) (by kernel_rfl) (fun _ _ _ h => h) (Or.inl ⟨by kernel_rfl, ?_⟩) hHeld ?_
      rotate_left
      · intro w hSw
        (try dsimp only at hSw)
        go_split_ands
        go_simp
        (try with_reducible rfl)
      try simp only [Act.put, List.getElem_toArray, List.getElem_cons_succ, List.getElem_cons_zero, List.setIfInBounds_toArray, List.set_cons_zero, List.set_cons_succ]
      refine wpAnyH_ready (rs := [15]) (by kernel_rfl) (by simp) ?_
      refine AllReadyH.cons rfl (fun KK hK => ?_) AllReadyH.nil
      clear hHeld
      go_simp
      with_reducible refine (HC4.out _).mono ?_
      rintro e w_4 ⟨rfl, h⟩
      have HX4 := Lib.hid (HX3.out.trans h)
      clear h
      go_simp
      refine hK.out _ _ trivial (fun hHeld => ?_)
      clear hK KK
      try simp only [Act.put, List.getElem_toArray, List.getElem_cons_succ, List.getElem_cons_zero, List.setIfInBounds_toArray, List.set_cons_zero, List.set_cons_succ]
      refine wpAnyH_take (i := 16) (v := ?_) rfl (by kernel_rfl) (by kernel_rfl) (by kernel_rfl) (fun _ _ _ h => h) (Or.inl ⟨by kernel_rfl, ?_⟩) hHeld ?_
      rotate_left
      · intro w hSw
        (try dsimp only at hSw)
        go_split_ands
        go_simp
        (try with_reducible rfl)
      try simp only [Act.put, List.getElem_toArray, List.getElem_cons_succ, List.getElem_cons_zero, List.setIfInBounds_toArray, List.set_cons_zero, List.set_cons_succ]
      refine wpAnyH_ready (rs := [20]) (by kernel_rfl) (by simp) ?_
      refine AllReadyH.cons rfl (fun KK hK => ?_) AllReadyH.nil
      clear hHeld
      go_simp
      with_reducible refine (HC5.out _).mono ?_
      rintro e w_5 ⟨rfl, h⟩
      have HX5 := Lib.hid (HX4.out.trans h)
      clear h
      go_simp
      refine hK.out _ _ trivial (fun hHeld => ?_)
      clear hK KK
      try simp only [Act.put, List.getElem_toArray, List.getElem_cons_succ, List.getElem_cons_zero, List.setIfInBounds_toArray, List.set_cons_zero, List.set_cons_succ]
      refine wpAnyH_take (i := 21) (v := ?_) rfl (by kernel_rfl) (by kernel_rfl) (by kernel_rfl) (fun _ _ _ h => h) (Or.inl ⟨by kernel_rfl, ?_⟩) hHeld ?_
      rotate_left
      · intro w hSw
        (try dsimp only at hSw)
        go_split_ands
        go_simp
        (try with_reducible rfl)
      try simp only [Act.put, List.getElem_toArray, List.getElem_cons_succ, List.getElem_cons_zero, List.setIfInBounds_toArray, List.set_cons_zero, List.set_cons_succ]
      refine wpAnyH_take (i := 25) (v := ?_) rfl (by kernel_rfl) (by kernel_rfl) (by kernel_rfl) (fun _ _ _ h => h) (Or.inl ⟨by kernel_rfl, ?_⟩) hHeld ?_
      rotate_left
      · intro w hSw
        (try dsimp only at hSw)
        go_split_ands
        go_simp
        (try with_reducible rfl)
      try simp only [Act.put, List.getElem_toArray, List.getElem_cons_succ, List.getElem_cons_zero, List.setIfInBounds_toArray, List.set_cons_zero, List.set_cons_succ]
      refine wpAnyH_take (i := 26) (v := ?_) rfl (by kernel_rfl) (by kernel_rfl) (by kernel_rfl) (fun _ _ _ h => h) (Or.inl ⟨by kernel_rfl, ?_⟩) hHeld ?_
      rotate_left
      · intro w hSw
        (try dsimp only at hSw)
        go_split_ands
        go_simp
        (try with_reducible rfl)
      try simp only [Act.put, List.getElem_toArray, List.getElem_cons_succ, List.getElem_cons_zero, List.setIfInBounds_toArray, List.set_cons_zero, List.set_cons_succ]
      refine wpAnyH_done (by kernel_rfl) ?_ _
      clear hHeld
      clear q0 q1 q2 q3 q4 q5 r1 r2 r3 r4 r5
      have HE : Hid ((O ++ B1 ++ B2 ++ B3 ++ B4 ++ B5 ++ P).data.toList = A) := Lib.hid (by
        obtain ⟨e1, e2, e3, e4⟩ := HNs.out
        have eP : P.size = R.size := by rw [HPR.out]
        have h := blk_cat O B1 B2 B3 B4 B5 P done 1 HO.out HL1.out (by rw [eP, e1]; exact HL2.out) (by rw [eP, e2]; exact HL3.out) (by rw [eP, e1, e3]; exact HL4.out) (by rw [eP, e2, e4]; exact HL5.out)
        rw [h, HPR.out, HDA.out])
      have hE : R.extract R.size R.size = ⟨#[]⟩ := by apply bts_ext; rw [ex_list]; simp
      go_wp2_with fail
      go_ret
      refine ⟨?_, HX5.out⟩
      have hT : tb A = O ++ B1 ++ B2 ++ B3 ++ B4 ++ B5 ++ P := bts_ext (by rw [tb_list, HE.out])
      rw [hT]
      rfl
    · have t0 : decide ((65535 : Int) < (R.size : Int)) = true := decide_eq_true (by omega)
      have n0 : 65535 < R.size := by omega
      have t1 : ((65535 : Int) == (R.size : Int)) = false := beq_eq_false_iff_ne.2 (by omega)
      have HDA : Hid (done ++ (Sto.blk 0 (R.data.toList.take 65535) ++ Sto.all k (R.data.toList.drop 65535)) = A) := Lib.hid (by rw [← HD.out, Sto.all_more (by rw [list_size]; exact h6)])
      obtain ⟨P, hP⟩ : ∃ P, R.extract 0 65535 = P := ⟨_, rfl⟩
      have hPs2 : P.size = 65535 := by rw [← hP]; simp; omega
      have HPs2 := Lib.hid hPs2
      have HPl : Hid (P.data.toList = R.data.toList.take 65535) := Lib.hid (by rw [← hP, ex_list]; simp)
      have hPs : P.size ≤ 65535 := by omega
      have hRI : (65535 : Int) ≤ (R.size : Int) := by omega
      have w255 : IntKind.i64.wrap (255 : Int) = 255 := by rw [IntKind.wrap_i64]; rfl
      have w0 : IntKind.i64.wrap (0 : Int) = 0 := by rw [IntKind.wrap_i64]; rfl
      clear hPs2
      obtain ⟨B1, hB1⟩ : ∃ B : ByteArray, (⟨#[UInt8.ofNat (0)]⟩ : ByteArray) = B := ⟨_, rfl⟩
      have HC1 : Hid (∀ w, Calls Tryd.prog 33 #[.int .i64 0] w fun e w' => e = .returned (.string B1) ∧ Ext w w') := Lib.hid (fun w => by have h := byte_any (0) (by omega) w; rw [hB1] at h; exact h)
      have HL1 : Hid (B1.data.toList = [UInt8.ofNat (0)]) := Lib.hid (by rw [← hB1])
      have s1 : B1.size ≤ 1 := by rw [← hB1]; exact Nat.le_refl 1
      clear hB1
      obtain ⟨B2, hB2⟩ : ∃ B : ByteArray, (⟨#[UInt8.ofNat (255)]⟩ : ByteArray) = B := ⟨_, rfl⟩
      have HC2 : Hid (∀ w, Calls Tryd.prog 33 #[.int .i64 255] w fun e w' => e = .returned (.string B2) ∧ Ext w w') := Lib.hid (fun w => by have h := byte_any (255) (by omega) w; rw [hB2] at h; exact h)
      have HL2 : Hid (B2.data.toList = [UInt8.ofNat (255)]) := Lib.hid (by rw [← hB2])
      have s2 : B2.size ≤ 1 := by rw [← hB2]; exact Nat.le_refl 1
      clear hB2
      obtain ⟨B3, hB3⟩ : ∃ B : ByteArray, (⟨#[UInt8.ofNat (255)]⟩ : ByteArray) = B := ⟨_, rfl⟩
      have HC3 : Hid (∀ w, Calls Tryd.prog 33 #[.int .i64 255] w fun e w' => e = .returned (.string B3) ∧ Ext w w') := Lib.hid (fun w => by have h := byte_any (255) (by omega) w; rw [hB3] at h; exact h)
      have HL3 : Hid (B3.data.toList = [UInt8.ofNat (255)]) := Lib.hid (by rw [← hB3])
      have s3 : B3.size ≤ 1 := by rw [← hB3]; exact Nat.le_refl 1
      clear hB3
      obtain ⟨B4, hB4⟩ : ∃ B : ByteArray, (⟨#[UInt8.ofNat (0)]⟩ : ByteArray) = B := ⟨_, rfl⟩
      have HC4 : Hid (∀ w, Calls Tryd.prog 33 #[.int .i64 0] w fun e w' => e = .returned (.string B4) ∧ Ext w w') := Lib.hid (fun w => by have h := byte_any (0) (by omega) w; rw [hB4] at h; exact h)
      have HL4 : Hid (B4.data.toList = [UInt8.ofNat (0)]) := Lib.hid (by rw [← hB4])
      have s4 : B4.size ≤ 1 := by rw [← hB4]; exact Nat.le_refl 1
      clear hB4
      obtain ⟨B5, hB5⟩ : ∃ B : ByteArray, (⟨#[UInt8.ofNat (0)]⟩ : ByteArray) = B := ⟨_, rfl⟩
      have HC5 : Hid (∀ w, Calls Tryd.prog 33 #[.int .i64 0] w fun e w' => e = .returned (.string B5) ∧ Ext w w') := Lib.hid (fun w => by have h := byte_any (0) (by omega) w; rw [hB5] at h; exact h)
      have HL5 : Hid (B5.data.toList = [UInt8.ofNat (0)]) := Lib.hid (by rw [← hB5])
      have s5 : B5.size ≤ 1 := by rw [← hB5]; exact Nat.le_refl 1
      clear hB5
      have q0 : ¬ 9223372036854775807 < O.size + B1.size := by omega
      have q1 : ¬ 9223372036854775807 < O.size + B1.size + B2.size := by omega
      have r1 : ¬ 9223372036854775807 < (O ++ B1).size + B2.size := by simp only [ByteArray.size_append]; omega
      have q2 : ¬ 9223372036854775807 < O.size + B1.size + B2.size + B3.size := by omega
      have r2 : ¬ 9223372036854775807 < (O ++ B1 ++ B2).size + B3.size := by simp only [ByteArray.size_append]; omega
      have q3 : ¬ 9223372036854775807 < O.size + B1.size + B2.size + B3.size + B4.size := by omega
      have r3 : ¬ 9223372036854775807 < (O ++ B1 ++ B2 ++ B3).size + B4.size := by simp only [ByteArray.size_append]; omega
      have q4 : ¬ 9223372036854775807 < O.size + B1.size + B2.size + B3.size + B4.size + B5.size := by omega
      have r4 : ¬ 9223372036854775807 < (O ++ B1 ++ B2 ++ B3 ++ B4).size + B5.size := by simp only [ByteArray.size_append]; omega
      have q5 : ¬ 9223372036854775807 < O.size + B1.size + B2.size + B3.size + B4.size + B5.size + P.size := by omega
      have r5 : ¬ 9223372036854775807 < (O ++ B1 ++ B2 ++ B3 ++ B4 ++ B5).size + P.size := by simp only [ByteArray.size_append]; omega
      have HX0 : Hid (Ext w wr.drew) := Lib.hid (Below.drew HX.out)
      go_wp2_with fail
      refine wp_region_held_drew (S := fun w' => True) (by kernel_rfl) trivial (fun hHeld => ?_)
      clear hHeld
      have hHeld : True := trivial
      refine wpAnyH_take (i := 0) (v := ?_) rfl (by kernel_rfl) (by kernel_rfl) (by kernel_rfl) (fun _ _ _ h => h) (Or.inl ⟨by kernel_rfl, ?_⟩) hHeld ?_
      rotate_left
      · intro w hSw
        (try dsimp only at hSw)
        go_split_ands
        go_simp
        (try with_reducible rfl)
      try simp only [Act.put, List.getElem_toArray, List.getElem_cons_succ, List.getElem_cons_zero, List.setIfInBounds_toArray, List.set_cons_zero, List.set_cons_succ]
      refine wpAnyH_take (i := 1) (v := ?_) rfl (by kernel_rfl) (by kernel_rfl) (by kernel_rfl) (fun _ _ _ h => h) (Or.inl ⟨by kernel_rfl, ?_⟩) hHeld ?_
      rotate_left
      · intro w hSw
        (try dsimp only at hSw)
        go_split_ands
        go_simp
        (try with_reducible rfl)
      try simp only [Act.put, List.getElem_toArray, List.getElem_cons_succ, List.getElem_cons_zero, List.setIfInBounds_toArray, List.set_cons_zero, List.set_cons_succ]
      refine wpAnyH_take (i := 4) (v := ?_) rfl (by kernel_rfl) (by kernel_rfl) (by kernel_rfl) (fun _ _ _ h => h) (Or.inl ⟨by kernel_rfl, ?_⟩) hHeld ?_
      rotate_left
      · intro w hSw
        (try dsimp only at hSw)
        go_split_ands
        go_simp
        (try with_reducible rfl)
      try simp only [Act.put, List.getElem_toArray, List.getElem_cons_succ, List.getElem_cons_zero, List.setIfInBounds_toArray, List.set_cons_zero, List.set_cons_succ]
      refine wpAnyH_take (i := 5) (v := ?_) rfl (by kernel_rfl) (by kernel_rfl) (by kernel_rfl) (fun _ _ _ h => h) (Or.inl ⟨by kernel_rfl, ?_⟩) hHeld ?_
      rotate_left
      · intro w hSw
        (try dsimp only at hSw)
        go_split_ands
        go_simp
        (try with_reducible rfl)
      try simp only [Act.put, List.getElem_toArray, List.getElem_cons_succ, List.getElem_cons_zero, List.setIfInBounds_toArray, List.set_cons_zero, List.set_cons_succ]
      refine wpAnyH_take (i := 8) (v := ?_) rfl (by kernel_rfl) (by kernel_rfl) (by kernel_rfl) (fun _ _ _ h => h) (Or.inl ⟨by kernel_rfl, ?_⟩) hHeld ?_
      rotate_left
      · intro w hSw
        (try dsimp only at hSw)
        go_split_ands
        go_simp
        (try with_reducible rfl)
      try simp only [Act.put, List.getElem_toArray, List.getElem_cons_succ, List.getElem_cons_zero, List.setIfInBounds_toArray, List.set_cons_zero, List.set_cons_succ]
      refine wpAnyH_take (i := 9) (v := ?_) rfl (by kernel_rfl) (by kernel_rfl) (by kernel_rfl) (fun _ _ _ h => h) (Or.inl ⟨by kernel_rfl, ?_⟩) hHeld ?_
      rotate_left
      · intro w hSw
        (try dsimp only at hSw)
        go_split_ands
        go_simp
        (try with_reducible rfl)
      try simp only [Act.put, List.getElem_toArray, List.getElem_cons_succ, List.getElem_cons_zero, List.setIfInBounds_toArray, List.set_cons_zero, List.set_cons_succ]
      refine wpAnyH_take (i := 12) (v := ?_) rfl (by kernel_rfl) (by kernel_rfl) (by kernel_rfl) (fun _ _ _ h => h) (Or.inl ⟨by kernel_rfl, ?_⟩) hHeld ?_
      rotate_left
      · intro w hSw
        (try dsimp only at hSw)
        go_split_ands
        go_simp
        (try with_reducible rfl)
      try simp only [Act.put, List.getElem_toArray, List.getElem_cons_succ, List.getElem_cons_zero, List.setIfInBounds_toArray, List.set_cons_zero, List.set_cons_succ]
      refine wpAnyH_take (i := 13) (v := ?_) rfl (by kernel_rfl) (by kernel_rfl) (by kernel_rfl) (fun _ _ _ h => h) (Or.inl ⟨by kernel_rfl, ?_⟩) hHeld ?_
      rotate_left
      · intro w hSw
        (try dsimp only at hSw)
        go_split_ands
        go_simp
        (try with_reducible rfl)
      try simp only [Act.put, List.getElem_toArray, List.getElem_cons_succ, List.getElem_cons_zero, List.setIfInBounds_toArray, List.set_cons_zero, List.set_cons_succ]
      refine wpAnyH_take (i := 14) (v := ?_) rfl (by kernel_rfl) (by kernel_rfl) (by kernel_rfl) (fun _ _ _ h => h) (Or.inl ⟨by kernel_rfl, ?_⟩) hHeld ?_
      rotate_left
      · intro w hSw
        (try dsimp only at hSw)
        go_split_ands
        go_simp
        (try with_reducible rfl)
      try simp only [Act.put, List.getElem_toArray, List.getElem_cons_succ, List.getElem_cons_zero, List.setIfInBounds_toArray, List.set_cons_zero, List.set_cons_succ]
      refine wpAnyH_take (i := 17) (v := ?_) rfl (by kernel_rfl) (by kernel_rfl) (by kernel_rfl) (fun _ _ _ h => h) (Or.inl ⟨by kernel_rfl, ?_⟩) hHeld ?_
      rotate_left
      · intro w hSw
        (try dsimp only at hSw)
        go_split_ands
        go_simp
        (try with_reducible rfl)
      try simp only [Act.put, List.getElem_toArray, List.getElem_cons_succ, List.getElem_cons_zero, List.setIfInBounds_toArray, List.set_cons_zero, List.set_cons_succ]
      refine wpAnyH_take (i := 18) (v := ?_) rfl (by kernel_rfl) (by kernel_rfl) (by kernel_rfl) (fun _ _ _ h => h) (Or.inl ⟨by kernel_rfl, ?_⟩) hHeld ?_
      rotate_left
      · intro w hSw
        (try dsimp only at hSw)
        go_split_ands
        go_simp
        (try with_reducible rfl)
      try simp only [Act.put, List.getElem_toArray, List.getElem_cons_succ, List.getElem_cons_zero, List.setIfInBounds_toArray, List.set_cons_zero, List.set_cons_succ]
      refine wpAnyH_take (i := 19) (v := ?_) rfl (by kernel_rfl) (by kernel_rfl) (by kernel_rfl) (fun _ _ _ h => h) (Or.inl ⟨by kernel_rfl, ?_⟩) hHeld ?_
      rotate_left
      · intro w hSw
        (try dsimp only at hSw)
        go_split_ands
        go_simp
        (try with_reducible rfl)
      try simp only [Act.put, List.getElem_toArray, List.getElem_cons_succ, List.getElem_cons_zero, List.setIfInBounds_toArray, List.set_cons_zero, List.set_cons_succ]
      refine wpAnyH_take (i := 22) (v := ?_) rfl (by kernel_rfl) (by kernel_rfl) (by kernel_rfl) (fun _ _ _ h => h) (Or.inl ⟨by kernel_rfl, ?_⟩) hHeld ?_
      rotate_left
      · intro w hSw
        (try dsimp only at hSw)
        go_split_ands
        go_simp
        (try with_reducible rfl)
      try simp only [Act.put, List.getElem_toArray, List.getElem_cons_succ, List.getElem_cons_zero, List.setIfInBounds_toArray, List.set_cons_zero, List.set_cons_succ]
      refine wpAnyH_take (i := 23) (v := ?_) rfl (by kernel_rfl) (by kernel_rfl) (by kernel_rfl) (fun _ _ _ h => h) (Or.inl ⟨by kernel_rfl, ?_⟩) hHeld ?_
      rotate_left
      · intro w hSw
        (try dsimp only at hSw)
        go_split_ands
        go_simp
        (try with_reducible rfl)
      try simp only [Act.put, List.getElem_toArray, List.getElem_cons_succ, List.getElem_cons_zero, List.setIfInBounds_toArray, List.set_cons_zero, List.set_cons_succ]
      refine wpAnyH_take (i := 24) (v := ?_) rfl (by kernel_rfl) (by kernel_rfl) (by kernel_rfl) (fun _ _ _ h => h) (Or.inl ⟨by kernel_rfl, ?_⟩) hHeld ?_
      rotate_left
      · intro w hSw
        (try dsimp only at hSw)
        go_split_ands
        go_simp
        (try with_reducible rfl)
      try simp only [Act.put, List.getElem_toArray, List.getElem_cons_succ, List.getElem_cons_zero, List.setIfInBounds_toArray, List.set_cons_zero, List.set_cons_succ]
      refine wpAnyH_ready (rs := [2]) (by kernel_rfl) (by simp) ?_
      refine AllReadyH.cons rfl (fun KK hK => ?_) AllReadyH.nil
      clear hHeld
      go_simp
      with_reducible refine (HC1.out _).mono ?_
      rintro e w_1 ⟨rfl, h⟩
      have HX1 := Lib.hid (HX0.out.trans h)
      clear h
      go_simp
      refine hK.out _ _ trivial (fun hHeld => ?_)
      clear hK KK
      try simp only [Act.put, List.getElem_toArray, List.getElem_cons_succ, List.getElem_cons_zero, List.setIfInBounds_toArray, List.set_cons_zero, List.set_cons_succ]
      refine wpAnyH_take (i := 3) (v := ?_) rfl (by kernel_rfl) (by kernel_rfl) (by kernel_rfl) (fun _ _ _ h => h) (Or.inl ⟨by kernel_rfl, ?_⟩) hHeld ?_
      rotate_left
      · intro w hSw
        (try dsimp only at hSw)
        go_split_ands
        go_simp
        (try with_reducible rfl)
      try simp only [Act.put, List.getElem_toArray, List.getElem_cons_succ, List.getElem_cons_zero, List.setIfInBounds_toArray, List.set_cons_zero, List.set_cons_succ]
      refine wpAnyH_ready (rs := [6]) (by kernel_rfl) (by simp) ?_
      refine AllReadyH.cons rfl (fun KK hK => ?_) AllReadyH.nil
      clear hHeld
      go_simp
      with_reducible refine (HC2.out _).mono ?_
      rintro e w_2 ⟨rfl, h⟩
      have HX2 := Lib.hid (HX1.out.trans h)
      clear h
      go_simp
      refine hK.out _ _ trivial (fun hHeld => ?_)
      clear hK KK
      try simp only [Act.put, List.getElem_toArray, List.getElem_cons_succ, List.getElem_cons_zero, List.setIfInBounds_toArray, List.set_cons_zero, List.set_cons_succ]
      refine wpAnyH_take (i := 7) (v := ?_) rfl (by kernel_rfl) (by kernel_rfl) (by kernel_rfl) (fun _ _ _ h => h) (Or.inl ⟨by kernel_rfl, ?_⟩) hHeld ?_
      rotate_left
      · intro w hSw
        (try dsimp only at hSw)
        go_split_ands
        go_simp
        (try with_reducible rfl)
      try simp only [Act.put, List.getElem_toArray, List.getElem_cons_succ, List.getElem_cons_zero, List.setIfInBounds_toArray, List.set_cons_zero, List.set_cons_succ]
      refine wpAnyH_ready (rs := [10]) (by kernel_rfl) (by simp) ?_
      refine AllReadyH.cons rfl (fun KK hK => ?_) AllReadyH.nil
      clear hHeld
      go_simp
      with_reducible refine (HC3.out _).mono ?_
      rintro e w_3 ⟨rfl, h⟩
      have HX3 := Lib.hid (HX2.out.trans h)
      clear h
      go_simp
      refine hK.out _ _ trivial (fun hHeld => ?_)
      clear hK KK
      try simp only [Act.put, List.getElem_toArray, List.getElem_cons_succ, List.getElem_cons_zero, List.setIfInBounds_toArray, List.set_cons_zero, List.set_cons_succ]
      refine wpAnyH_take (i := 11) (v := ?_) rfl (by kernel_rfl) (by kernel_rfl) (by kernel_rfl) (fun _ _ _ h => h) (Or.inl ⟨by kernel_rfl, ?_⟩) hHeld ?_
      rotate_left
      · intro w hSw
        (try dsimp only at hSw)
        go_split_ands
        go_simp
        (try with_reducible rfl)
      try simp only [Act.put, List.getElem_toArray, List.getElem_cons_succ, List.getElem_cons_zero, List.setIfInBounds_toArray, List.set_cons_zero, List.set_cons_succ]
      refine wpAnyH_ready (rs := [15]) (by kernel_rfl) (by simp) ?_
      refine AllReadyH.cons rfl (fun KK hK => ?_) AllReadyH.nil
      clear hHeld
      go_simp
      with_reducible refine (HC4.out _).mono ?_
      rintro e w_4 ⟨rfl, h⟩
      have HX4 := Lib.hid (HX3.out.trans h)
      clear h
      go_simp
      refine hK.out _ _ trivial (fun hHeld => ?_)
      clear hK KK
      try simp only [Act.put, List.getElem_toArray, List.getElem_cons_succ, List.getElem_cons_zero, List.setIfInBounds_toArray, List.set_cons_zero, List.set_cons_succ]
      refine wpAnyH_take (i := 16) (v := ?_) rfl (by kernel_rfl) (by kernel_rfl) (by kernel_rfl) (fun _ _ _ h => h) (Or.inl ⟨by kernel_rfl, ?_⟩) hHeld ?_
      rotate_left
      · intro w hSw
        (try dsimp only at hSw)
        go_split_ands
        go_simp
        (try with_reducible rfl)
      try simp only [Act.put, List.getElem_toArray, List.getElem_cons_succ, List.getElem_cons_zero, List.setIfInBounds_toArray, List.set_cons_zero, List.set_cons_succ]
      refine wpAnyH_ready (rs := [20]) (by kernel_rfl) (by simp) ?_
      refine AllReadyH.cons rfl (fun KK hK => ?_) AllReadyH.nil
      clear hHeld
      go_simp
      with_reducible refine (HC5.out _).mono ?_
      rintro e w_5 ⟨rfl, h⟩
      have HX5 := Lib.hid (HX4.out.trans h)
      clear h
      go_simp
      refine hK.out _ _ trivial (fun hHeld => ?_)
      clear hK KK
      try simp only [Act.put, List.getElem_toArray, List.getElem_cons_succ, List.getElem_cons_zero, List.setIfInBounds_toArray, List.set_cons_zero, List.set_cons_succ]
      refine wpAnyH_take (i := 21) (v := ?_) rfl (by kernel_rfl) (by kernel_rfl) (by kernel_rfl) (fun _ _ _ h => h) (Or.inl ⟨by kernel_rfl, ?_⟩) hHeld ?_
      rotate_left
      · intro w hSw
        (try dsimp only at hSw)
        go_split_ands
        go_simp
        (try with_reducible rfl)
      try simp only [Act.put, List.getElem_toArray, List.getElem_cons_succ, List.getElem_cons_zero, List.setIfInBounds_toArray, List.set_cons_zero, List.set_cons_succ]
      refine wpAnyH_take (i := 25) (v := ?_) rfl (by kernel_rfl) (by kernel_rfl) (by kernel_rfl) (fun _ _ _ h => h) (Or.inl ⟨by kernel_rfl, ?_⟩) hHeld ?_
      rotate_left
      · intro w hSw
        (try dsimp only at hSw)
        go_split_ands
        go_simp
        (try with_reducible rfl)
      try simp only [Act.put, List.getElem_toArray, List.getElem_cons_succ, List.getElem_cons_zero, List.setIfInBounds_toArray, List.set_cons_zero, List.set_cons_succ]
      refine wpAnyH_take (i := 26) (v := ?_) rfl (by kernel_rfl) (by kernel_rfl) (by kernel_rfl) (fun _ _ _ h => h) (Or.inl ⟨by kernel_rfl, ?_⟩) hHeld ?_
      rotate_left
      · intro w hSw
        (try dsimp only at hSw)
        go_split_ands
        go_simp
        (try with_reducible rfl)
      try simp only [Act.put, List.getElem_toArray, List.getElem_cons_succ, List.getElem_cons_zero, List.setIfInBounds_toArray, List.set_cons_zero, List.set_cons_succ]
      refine wpAnyH_done (by kernel_rfl) ?_ _
      clear hHeld
      clear q0 q1 q2 q3 q4 q5 r1 r2 r3 r4 r5
      obtain ⟨O2, hO2⟩ : ∃ O2, O ++ B1 ++ B2 ++ B3 ++ B4 ++ B5 ++ P = O2 := ⟨_, rfl⟩
      have HE : Hid (O2.data.toList = done ++ Sto.blk 0 (R.data.toList.take 65535)) := Lib.hid (by
        rw [← hO2, blk_cat O B1 B2 B3 B4 B5 P done 0 HO.out HL1.out (by rw [HPs2.out]; exact HL2.out) (by rw [HPs2.out]; exact HL3.out) (by rw [HPs2.out]; exact HL4.out) (by rw [HPs2.out]; exact HL5.out), HPl.out])
      obtain ⟨S, hS⟩ : ∃ S, R.extract 65535 R.size = S := ⟨_, rfl⟩
      have hSs : S.size = R.size - 65535 := by rw [← hS]; simp
      have HSl : Hid (S.data.toList = R.data.toList.drop 65535) := Lib.hid (by rw [← hS, ex_list, List.take_of_length_le (by rw [List.length_drop, list_size]; omega)])
      have hne : S.toList.isEmpty = false := emp_no S (by omega)
      have HSs := Lib.hid hSs
      clear hSs
      go_wp2_with fail
      go_roundw
      case rel => exact ⟨S, O2, _, k, rfl, by rw [hO2], by have := HSs.out; omega, HE, Lib.hid (by rw [List.append_assoc, HSl.out]; exact HDA.out), Lib.hid (by have := HSs.out; have := HK.out; omega), HX5⟩
      case measure => show S.size < R.size; have := HSs.out; omega
end Go.Proofs.YtnhbjgmfbcedaaaDoor
namespace Go.Proofs.YtnhbjgmfbcedaaaDoor
open Go.RowKit
set_option linter.unusedSimpArgs false
set_option maxRecDepth 100000
theorem mulMask (a : Nat) (ha : a < 18446744073709551616) : bits .and .u64 (a : Int) 4294967295 = ((a % 4294967296 : Nat) : Int) := by
  have h := bits_and_u64_nat a 4294967295 ha (by omega)
  rw [show a &&& 4294967295 = a % 4294967296 from Nat.and_two_pow_sub_one_eq_mod a 32] at h
  exact h
theorem mul64_one (c : Nat) (hc : c ≤ 10000) (w : World) : Calls Tryd.prog 136 #[.int .u64 1, .int .u64 (c : Int)] w fun e w' => e = .returned (.tuple #[.int .u64 0, .int .u64 (c : Int)]) ∧ w' = w := by
  have m1 : bits .and .u64 1 4294967295 = 1 := by decide
  have m0 : bits .and .u64 0 4294967295 = 0 := by decide
  have mc : bits .and .u64 (c : Int) 4294967295 = (c : Int) := by rw [mulMask c (by omega)]; congr 1; omega
  have dc : (c : Int) / 4294967296 = 0 := by omega
  have wc_ : IntKind.u64.wrap (c : Int) = (c : Int) := by rw [IntKind.wrap_u64]; omega
  have w0_ : IntKind.u64.wrap 0 = 0 := by decide
  go_enter Tryd.func136, Tryd.ntmps136
  go_wp2
  go_ret2
  exact ⟨rfl, rfl⟩
theorem mul_one (c : Nat) (hc : c ≤ 10000) (w : World) : Calls Tryd.prog 128 #[.int .u64 1, .int .u64 (c : Int)] w fun e w' => e = .returned (.tuple #[.int .u64 0, .int .u64 (c : Int)]) ∧ w' = w := by
  go_enter Tryd.func128, Tryd.ntmps128
  go_wp2_with fail
  refine (mul64_one c hc w).mono ?_
  rintro e w2 ⟨rfl, rfl⟩
  go_wp2_with fail
  go_ret2
  exact ⟨rfl, rfl⟩
end Go.Proofs.YtnhbjgmfbcedaaaDoor
namespace Go.Proofs.YtnhbjgmfbcedaaaDoor
open Go.RowKit
set_option linter.unusedSimpArgs false
/-- a row of cells, none frozen -/
def Cv (w : World) (B n : Nat) (g : Nat → Value) : Prop := ∀ i, i < n → w.cell? ⟨B, i, none⟩ = some (g i) ∧ w.frozen? ⟨B, i, none⟩ = false
theorem Cv.congr {w : World} {B n : Nat} {g g' : Nat → Value} (h : Cv w B n g) (hg : ∀ i, i < n → g' i = g i) : Cv w B n g' := by
  intro i hi; rw [hg i hi]; exact h i hi
theorem Cv.put {w : World} {B n : Nat} {g : Nat → Value} (h : Cv w B n g) (j : Nat) (x : Value) (g' : Nat → Value) (hj : j < n) (hg : ∀ i, i < n → g' i = if i = j then x else g i) : Cv (w.setCell ⟨B, j, none⟩ x) B n g' := by
  intro i hi
  obtain ⟨h1, h2⟩ := h i hi
  rw [hg i hi, World.frozen?_setCell]
  refine ⟨?_, h2⟩
  by_cases e : i = j
  · subst e; rw [if_pos rfl]; exact World.cell?_setCell_same _ _ _ h1
  · rw [if_neg e]; exact (World.cell?_setCell_other _ _ _ _ (by intro q; injection q with _ q2; exact e q2.symm)).trans h1
theorem Cv.keeps {w w' : World} {B n : Nat} {g : Nat → Value} {S : Nat → Prop} (h : Cv w B n g) (hk : Keeps S w w') (hB : ¬ S B) : Cv w' B n g := by
  intro i hi
  obtain ⟨h1, h2⟩ := h i hi
  have hlt : B < w.heap.size := World.block_lt_of_cell? w _ h1
  exact ⟨(hk.cell (p := ⟨B, i, none⟩) hlt hB).trans h1, (hk.frozen (p := ⟨B, i, none⟩) hlt hB).trans h2⟩
theorem Cv.ext {w w' : World} {B n : Nat} {g : Nat → Value} (h : Cv w B n g) (hE : Ext w w') : Cv w' B n g := h.keeps (S := fun _ => False) hE.keeps id
theorem Cv.drew {w : World} {B n : Nat} {g : Nat → Value} (h : Cv w B n g) : Cv w.drew B n g := h
theorem Cv.drewN {w : World} {B n : Nat} {g : Nat → Value} (h : Cv w B n g) (m : Nat) : Cv (w.drewN m) B n g := h
theorem Cv.made (w : World) (n : Nat) (z : Value) (t : TypeId) : Cv (w.alloc (.cells (madeCells #[z] n) t)) w.heap.size n (fun _ => z) := by
  intro i hi
  rw [World.cell?_alloc_at _ _ _ _ rfl, World.frozen?_alloc_at _ _ _ _ rfl]
  refine ⟨?_, rfl⟩
  have hs : i < (madeCells #[z] n).size := by rw [size_madeCells]; simpa using hi
  rw [Array.getElem?_eq_getElem hs]
  simp [madeCells, Nat.mod_one]
theorem Cv.of_cs {w : World} {B n : Nat} {k : IntKind} {g : Nat → Int} (h : Cs w B n k g) : Cv w B n (fun i => .int k (g i)) := h
end Go.Proofs.YtnhbjgmfbcedaaaDoor
namespace Go.Proofs.YtnhbjgmfbcedaaaDoor
open Go.RowKit
set_option linter.unusedSimpArgs false
set_option maxRecDepth 100000
theorem i64Sz : (Tryd.prog.info? 3).map (·.size) = some 1 := by kernel_rfl
def repI (c q : Nat) (s : Int) : List Value := List.replicate q (.int .i64 s) ++ List.replicate (c - q) (.int .i64 0)
theorem repI_step (c q k : Nat) (s : Int) (h : q + k ≤ c) : ((repI c q s).take q ++ List.replicate k (.int .i64 s) ++ (repI c q s).drop (q + k)) = repI c (q + k) s := by
  unfold repI
  rw [List.take_left' (by simp), List.drop_append, List.drop_of_length_le (by simp), List.nil_append, List.length_replicate, List.drop_replicate, List.replicate_append_replicate]
  congr 2
  omega
theorem repI_len (c q : Nat) (s : Int) (h : q ≤ c) : (repI c q s).length = c := by unfold repI; simp; omega
theorem repI_made (c : Nat) (s : Int) : (madeCells #[Value.int .i64 0] c).toList = repI c 0 s := by
  unfold repI
  apply List.ext_getElem
  · simp [madeCells]
  · intro i h1 h2
    simp [madeCells, Nat.mod_one]
set_option linter.unusedSimpArgs false in
set_option maxHeartbeats 4000000 in
theorem repi_any (x c : Nat) (s : Int) (w : World) (hx : w.cell? ⟨x, 0, none⟩ = some (.int .i64 s)) (hc1 : 1 ≤ c) (hc : c ≤ 10000) :
    Calls Tryd.prog 109 #[.slice (some ⟨x, 0, none⟩) 1 1, .int .i64 (c : Int)] w fun e w' => (∃ g' c', e = .returned (.slice (some ⟨g', 0, none⟩) c c') ∧ Cv w' g' c (fun _ => .int .i64 s) ∧ w.heap.size ≤ g' ∧ g' < w'.heap.size) ∧ Ext w w' := by
  have hmk := run_make_row' (P := Tryd.prog) 31 3 (.int .i64 0) 8 Tryd.underlying31 i64info rfl .i64 .i64 c (by omega) (by omega)
  have n2 : ¬ (c : Int) < 0 := by omega
  have wu : IntKind.u64.wrap (c : Int) = (c : Int) := by rw [IntKind.wrap_u64]; omega
  have wi : IntKind.i64.wrap (c : Int) = (c : Int) := by rw [IntKind.wrap_i64]; omega
  have n3 : ¬ (9223372036854775807 : Int) < (c : Int) := by omega
  have HX := Lib.hid hx
  clear hx
  go_enter Tryd.func109, Tryd.ntmps109
  go_wp2_with fail
  refine (mul_one c (by omega) w).mono ?_
  rintro e w2 ⟨rfl, rfl⟩
  go_upto_region 7 with fail
  clear hmk n2 wu wi n3
  have hg : (w2.alloc (.cells (madeCells #[.int .i64 0] c) 3)).heap[w2.heap.size]? = some (.cells (repI c 0 s).toArray 3 (0, 0)) := by
    rw [← repI_made, Array.toArray_toList]
    exact heap_alloc_new w2 _
  refine wp_world (fun wz => Hid (wz.heap[w2.heap.size]? = some (.cells (repI c 0 s).toArray 3 (0, 0))) ∧ Hid (Ext w2 wz) ∧ Hid (wz.cell? ⟨x, 0, none⟩ = some (.int .i64 s))) ⟨Lib.hid hg, Lib.hid (Ext.alloc (Ext.refl _) _), Lib.hid ((((Ext.refl w2).alloc _).keeps (S := fun _ => False) |>.cell (p := ⟨x, 0, none⟩) (World.block_lt_of_cell? w2 _ HX.out) id).trans HX.out)⟩ ?_
  clear hg HX
  obtain ⟨G, hG⟩ : ∃ G, w2.heap.size = G := ⟨_, rfl⟩
  rw [hG]
  have HG := Lib.hid hG
  clear hG
  rintro w3 ⟨HW, HE, HC⟩
  have hcp := run_copy_row (P := Tryd.prog) w3 31 31 3 3 G 0 c c ⟨x, 0, none⟩ 1 1 (repI c 0 s).toArray 3 (List.replicate 1 (.int .i64 s)) Tryd.underlying31 i64Sz HW.out (by simp [Nat.min_def]; omega) (by
    intro j v hj
    have : j = 0 := by have := (List.getElem?_eq_some_iff.1 hj).1; simp at this; omega
    subst this
    simp at hj
    subst hj
    rw [add_plain]; exact HC.out) (by rw [List.size_toArray, repI_len c 0 s (by omega)]; simp; omega) (by simp [Value.oneCell'])
  have hst := repI_step c 0 1 s (by omega)
  rw [Nat.zero_add] at hst
  rw [List.length_replicate, Nat.zero_add] at hcp
  rw [show (repI c 0 s).toArray.toList = repI c 0 s from rfl, hst] at hcp
  have HS3 := Lib.hid (setRow_heap w3 G (repI c 0 s).toArray (repI c 1 s).toArray 3 (0, 0) HW.out)
  have HE3 := Lib.hid (below_setRow (B := G) (w0 := w2) (by rw [← HG.out]; exact HE.out) (Nat.le_refl G) (repI c 1 s).toArray)
  clear hst HW HE HC
  go_wp2_with fail
  clear hcp
  refine wp_world (fun wz => Hid (wz.heap[G]? = some (.cells (repI c 1 s).toArray 3 (0, 0))) ∧ Hid (Below G w2 wz)) ⟨HS3, HE3⟩ ?_
  clear HS3 HE3
  rintro w4 ⟨HS, HE⟩
  go_loopg [8] (c - 1) (fun k cc wr => ∃ q : Nat, 1 ≤ q ∧ q + k = c ∧ cc = .int .i64 (q : Int) ∧ Hid (wr.heap[G]? = some (.cells (repI c q s).toArray 3 (0, 0))) ∧ Hid (Below G w2 wr))
  case atStart => exact ⟨1, Nat.le_refl _, by omega, rfl, HS, HE⟩
  case round =>
    clear HS HE
    obtain ⟨q, hq1, hqk, rfl, HS, HE⟩ := hrel
    by_cases hlt : q < c
    · obtain ⟨D, hD⟩ : ∃ D, c - q = D := ⟨_, rfl⟩
      obtain ⟨k, hk⟩ : ∃ k, Nat.min q D = k := ⟨_, rfl⟩
      have hk1 : 1 ≤ k ∧ q + k ≤ c ∧ k ≤ q ∧ k ≤ D := by have e : Nat.min q D = min q D := rfl; rw [e] at hk; omega
      have hcp := run_copy_row (P := Tryd.prog) wr.drew 31 31 3 3 G q D D ⟨G, 0, none⟩ q c (repI c q s).toArray 3 (List.replicate k (.int .i64 s)) Tryd.underlying31 i64Sz HS.out (by rw [List.length_replicate]; exact hk.symm) (by
        intro j v hj
        have hj1 : j < k := by have := (List.getElem?_eq_some_iff.1 hj).1; simpa using this
        rw [List.getElem?_replicate, if_pos hj1] at hj
        rw [add_plain]
        have h1 : wr.drew.cell? ⟨G, j, none⟩ = (repI c q s).toArray[j]? := by
          have h2 : wr.drew.heap[G]? = some (.cells (repI c q s).toArray 3 (0, 0)) := HS.out
          rw [Lib.cell_of_heap h2]
        rw [h1, List.getElem?_toArray]
        unfold repI
        rw [List.getElem?_append_left (by simp; omega), List.getElem?_replicate, if_pos (by omega)]
        exact hj) (by rw [List.size_toArray, repI_len c q s (by omega), List.length_replicate]; omega) (by intro v hv; rw [List.eq_of_mem_replicate hv]; rfl)
      rw [List.length_replicate, show (repI c q s).toArray.toList = repI c q s from rfl, repI_step c q k s hk1.2.1] at hcp
      obtain ⟨Q2, hQ2⟩ : ∃ z, q + k = z := ⟨_, rfl⟩
      rw [hQ2] at hcp
      have HS2 := Lib.hid (setRow_heap wr G (repI c q s).toArray (repI c Q2 s).toArray 3 (0, 0) HS.out)
      have HE2 := Lib.hid (below_setRow (B := G) (w0 := w2) (Below.drew HE.out) (Nat.le_refl G) (repI c Q2 s).toArray)
      have hDI : (c : Int) - (q : Int) = (D : Int) := by omega
      have hql : q ≤ c := by omega
      have hqk2 : (q : Int) + (k : Int) = (Q2 : Int) := by omega
      have HK := Lib.hid (And.intro hk1 (And.intro hD hQ2))
      have wq_ : ∀ z, z = (Q2 : Int) → IntKind.i64.wrap z = z := by rintro _ rfl; rw [IntKind.wrap_i64]; omega
      clear hk HS HE hk1 hQ2
      have mixed : Tryd.prog.follows .mixedOrders = true := by kernel_rfl
      go_wp2_with fail
      go_region_o
      all_goals (go_wp2_with fail)
      all_goals (go_roundg (c - Q2))
      all_goals first
        | (have := HK.out; omega)
        | exact ⟨Q2, by have := HK.out; omega, by have := HK.out; omega, rfl, HS2, HE2⟩
    · obtain rfl : q = c := by omega
      go_wp2_with fail
      go_ret
      refine ⟨⟨G, q, rfl, fun i hi => ?_, by rw [HG.out]; exact Nat.le_refl _, lt_of_block HS.out⟩, by have := HE.out; rw [← HG.out] at this; exact this⟩
      have h2 := HS.out
      refine ⟨?_, by simp [World.frozen?, h2]⟩
      rw [Lib.cell_of_heap h2, List.getElem?_toArray]
      unfold repI
      rw [List.getElem?_append_left (by simp; omega), List.getElem?_replicate, if_pos hi]
end Go.Proofs.YtnhbjgmfbcedaaaDoor
