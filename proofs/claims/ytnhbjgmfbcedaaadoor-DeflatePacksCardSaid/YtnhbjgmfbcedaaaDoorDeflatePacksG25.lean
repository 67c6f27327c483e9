/-
  The document's StoredOf.
  DeflatePacks' walk.
  The tables of package inflate, out of what a row lists.
  The last step of every law's row, once: a call that returns true and turns nothing that was there meets the row's post.
-/
import Derived.Test.YtnhbjgmfbcedaaaDoorDeflatePacksG1
import Derived.Test.YtnhbjgmfbcedaaaDoorDeflatePacksG4
import Derived.Test.YtnhbjgmfbcedaaaDoorDeflatePacksG17
import Derived.Test.YtnhbjgmfbcedaaaDoorDeflatePacksG3
import Derived.Deep.AppendLies
import Derived.Deep.RegionHeld3
import Derived.RegionTactic
import Derived.Deep.LoopGhost
import Derived.Test.YtnhbjgmfbcedaaaDoorDeflatePacksG24
import Derived.Lib.LaidTab
import Derived.LaidHandle
import Derived.LaidSub
import Derived.Stop.LaidTwo
import Derived.Test.YtnhbjgmfbcedaaaDoorRows
import Derived.ProofKit
import Derived.ShutString
import Derived.Below
import Derived.OpenShut
set_option linter.unusedSimpArgs false
set_option linter.unusedVariables false
set_option maxRecDepth 100000
namespace Go.Proofs.YtnhbjgmfbcedaaaDoor
open Go.RowKit
theorem blk_cat (O B1 B2 B3 B4 B5 P : ByteArray) (done : List UInt8) (last : Nat) (hO : O.data.toList = done) (h1 : B1.data.toList = [UInt8.ofNat last]) (h2 : B2.data.toList = [UInt8.ofNat (P.size % 256)]) (h3 : B3.data.toList = [UInt8.ofNat (P.size / 256)])
  (h4 : B4.data.toList = [UInt8.ofNat (255 - P.size % 256)]) (h5 : B5.data.toList = [UInt8.ofNat (255 - P.size / 256)]) : (O ++ B1 ++ B2 ++ B3 ++ B4 ++ B5 ++ P).data.toList = done ++ Sto.blk last P.data.toList := by
 rw [bts_cat, bts_cat, bts_cat, bts_cat, bts_cat, bts_cat, hO, h1, h2, h3, h4, h5];unfold Sto.blk;rw [list_size];simp
set_option linter.unusedSimpArgs false in
set_option maxHeartbeats 4000000 in
theorem storedOf_calls (t : ByteArray) (w : World) (ht : t.size ≤ 300000) :
  Calls Tryd.prog 13 #[.string t] w fun e w' => e = .returned (.string (tb (Sto.all (t.size + 1) t.data.toList))) ∧ Ext w w' := by
 obtain ⟨A, hA⟩ : ∃ A, Sto.all (t.size + 1) t.data.toList = A := ⟨_, rfl⟩;rw [hA];have hAl : A.length ≤ 300100 := by rw [← hA]; have := Sto.all_length (t.size + 1) t.data.toList; rw [list_size] at this; omega
 have HA := Lib.hid hA;clear hA;go_enter Tryd.func13, Tryd.ntmps13
 go_wp2_with fail;go_loopw [0, 3] (fun u y wr => ∃ (R O : ByteArray) (done : List UInt8) (k : Nat), u = .string R ∧ y = .string O ∧ R.size ≤ t.size ∧ Hid (O.data.toList = done) ∧ Hid (done ++ Sto.all k R.data.toList = A) ∧ Hid (R.size < k) ∧ Hid (Ext w wr)) (fun u _ _ => match u with | .string R => R.size | _ => 0)
 case atStart => exact ⟨t, ⟨#[]⟩, [], t.size + 1, rfl, rfl, Nat.le_refl _, Lib.hid rfl, Lib.hid (by rw [List.nil_append]; exact HA.out), Lib.hid (Nat.lt_succ_self _), Lib.hid (Ext.refl _)⟩
 case round =>
  clear HA;obtain ⟨R, O, done, k, rfl, rfl, hRt, HO, HD, HK, HX⟩ := hrel;have hOb : O.size ≤ 300100 := by have := congrArg List.length HD.out; rw [List.length_append, ← HO.out, list_size] at this; omega
  obtain ⟨k, rfl⟩ : ∃ j, k = j + 1 := ⟨k - 1, by have := HK.out; omega⟩;by_cases h6 : R.size ≤ 65535
  ·have t0 : decide ((65535 : Int) < (R.size : Int)) = false := decide_eq_false (by omega);have n0 : ¬ 65535 < R.size := by omega
   have HDA : Hid (done ++ Sto.blk 1 R.data.toList = A) := Lib.hid (by rw [← HD.out, Sto.all_last (by rw [list_size]; exact h6)]);obtain ⟨P, hP⟩ : ∃ P, R.extract 0 R.size = P := ⟨_, rfl⟩;have hPR : P = R := by rw [← hP]; apply bts_ext; rw [ex_list, List.drop_zero, List.take_of_length_le (by rw [list_size]; omega)]
   have HPR := Lib.hid hPR;have hPs : P.size ≤ 65535 := by rw [hPR]; exact h6
   obtain ⟨r, hr⟩ : ∃ r, R.size % 256 = r := ⟨_, rfl⟩;obtain ⟨q, hq⟩ : ∃ q, R.size / 256 = q := ⟨_, rfl⟩;obtain ⟨r2, hr2⟩ : ∃ r2, 255 - r = r2 := ⟨_, rfl⟩;obtain ⟨q2, hq2⟩ : ∃ q2, 255 - q = q2 := ⟨_, rfl⟩;have m1 : (R.size : Int).tmod 256 = (r : Int) := by rw [Int.tmod_eq_emod_of_nonneg (by omega)]; omega
   have m2 : (R.size : Int) % 256 = (r : Int) := by omega
   have m3 : (R.size : Int) / 256 = (q : Int) := by omega
   have m4 : (255 : Int) - (r : Int) = (r2 : Int) := by omega
   have m5 : (255 : Int) - (q : Int) = (q2 : Int) := by omega
   have hr0 : r < 256 := by omega
   have hq0 : q < 256 := by omega
   have hr20 : r2 < 256 := by omega
   have hq20 : q2 < 256 := by omega
   have HNs := Lib.hid (And.intro hr (And.intro hq (And.intro hr2 hq2)));have wvr : ∀ z, z = (r : Int) → IntKind.i64.wrap z = z := by rintro _ rfl; rw [IntKind.wrap_i64]; omega
   have wvq : ∀ z, z = (q : Int) → IntKind.i64.wrap z = z := by rintro _ rfl; rw [IntKind.wrap_i64]; omega
   have wvr2 : ∀ z, z = (r2 : Int) → IntKind.i64.wrap z = z := by rintro _ rfl; rw [IntKind.wrap_i64]; omega
   have wvq2 : ∀ z, z = (q2 : Int) → IntKind.i64.wrap z = z := by rintro _ rfl; rw [IntKind.wrap_i64]; omega
   clear hr hq hr2 hq2 hPR;obtain ⟨B1, hB1⟩ : ∃ B : ByteArray, (⟨#[UInt8.ofNat (1)]⟩ : ByteArray) = B := ⟨_, rfl⟩;have HC1 : Hid (∀ w, Calls Tryd.prog 33 #[.int .i64 1] w fun e w' => e = .returned (.string B1) ∧ Ext w w') := Lib.hid (fun w => by have h := byte_any (1) (by omega) w; rw [hB1] at h; exact h);have HL1 : Hid (B1.data.toList = [UInt8.ofNat (1)]) := Lib.hid (by rw [← hB1]);have s1 : B1.size ≤ 1 := by rw [← hB1]; exact Nat.le_refl 1
   clear hB1;obtain ⟨B2, hB2⟩ : ∃ B : ByteArray, (⟨#[UInt8.ofNat (r)]⟩ : ByteArray) = B := ⟨_, rfl⟩;have HC2 : Hid (∀ w, Calls Tryd.prog 33 #[.int .i64 (r : Int)] w fun e w' => e = .returned (.string B2) ∧ Ext w w') := Lib.hid (fun w => by have h := byte_any (r) (by omega) w; rw [hB2] at h; exact h);have HL2 : Hid (B2.data.toList = [UInt8.ofNat (r)]) := Lib.hid (by rw [← hB2]);have s2 : B2.size ≤ 1 := by rw [← hB2]; exact Nat.le_refl 1
   clear hB2;obtain ⟨B3, hB3⟩ : ∃ B : ByteArray, (⟨#[UInt8.ofNat (q)]⟩ : ByteArray) = B := ⟨_, rfl⟩;have HC3 : Hid (∀ w, Calls Tryd.prog 33 #[.int .i64 (q : Int)] w fun e w' => e = .returned (.string B3) ∧ Ext w w') := Lib.hid (fun w => by have h := byte_any (q) (by omega) w; rw [hB3] at h; exact h);have HL3 : Hid (B3.data.toList = [UInt8.ofNat (q)]) := Lib.hid (by rw [← hB3]);have s3 : B3.size ≤ 1 := by rw [← hB3]; exact Nat.le_refl 1
   clear hB3;obtain ⟨B4, hB4⟩ : ∃ B : ByteArray, (⟨#[UInt8.ofNat (r2)]⟩ : ByteArray) = B := ⟨_, rfl⟩;have HC4 : Hid (∀ w, Calls Tryd.prog 33 #[.int .i64 (r2 : Int)] w fun e w' => e = .returned (.string B4) ∧ Ext w w') := Lib.hid (fun w => by have h := byte_any (r2) (by omega) w; rw [hB4] at h; exact h);have HL4 : Hid (B4.data.toList = [UInt8.ofNat (r2)]) := Lib.hid (by rw [← hB4]);have s4 : B4.size ≤ 1 := by rw [← hB4]; exact Nat.le_refl 1
   clear hB4;obtain ⟨B5, hB5⟩ : ∃ B : ByteArray, (⟨#[UInt8.ofNat (q2)]⟩ : ByteArray) = B := ⟨_, rfl⟩;have HC5 : Hid (∀ w, Calls Tryd.prog 33 #[.int .i64 (q2 : Int)] w fun e w' => e = .returned (.string B5) ∧ Ext w w') := Lib.hid (fun w => by have h := byte_any (q2) (by omega) w; rw [hB5] at h; exact h);have HL5 : Hid (B5.data.toList = [UInt8.ofNat (q2)]) := Lib.hid (by rw [← hB5]);have s5 : B5.size ≤ 1 := by rw [← hB5]; exact Nat.le_refl 1
   clear hB5;have q0 : ¬ 9223372036854775807 < O.size + B1.size := by omega
   have q1 : ¬ 9223372036854775807 < O.size + B1.size + B2.size := by omega
   have r1 : ¬ 9223372036854775807 < (O ++ B1).size + B2.size := by simp only [ByteArray.size_append]; omega
   have q2 : ¬ 9223372036854775807 < O.size + B1.size + B2.size + B3.size := by omega
   have r2 : ¬ 9223372036854775807 < (O ++ B1 ++ B2).size + B3.size := by simp only [ByteArray.size_append]; omega
   have q3 : ¬ 9223372036854775807 < O.size + B1.size + B2.size + B3.size + B4.size := by omega
   have r3 : ¬ 9223372036854775807 < (O ++ B1 ++ B2 ++ B3).size + B4.size := by simp only [ByteArray.size_append]; omega
   have q4 : ¬ 9223372036854775807 < O.size + B1.size + B2.size + B3.size + B4.size + B5.size := by omega
   have r4 : ¬ 9223372036854775807 < (O ++ B1 ++ B2 ++ B3 ++ B4).size + B5.size := by simp only [ByteArray.size_append]; omega
   have q5 : ¬ 9223372036854775807 < O.size + B1.size + B2.size + B3.size + B4.size + B5.size + P.size := by omega
   have r5 : ¬ 9223372036854775807 < (O ++ B1 ++ B2 ++ B3 ++ B4 ++ B5).size + P.size := by simp only [ByteArray.size_append]; omega
   have HX0 : Hid (Ext w wr.drew) := Lib.hid (Below.drew HX.out);go_wp2_with fail;refine wp_region_held_drew (S := fun w' => True) (by kernel_rfl) trivial (fun hHeld => ?_);clear hHeld;have hHeld : True := trivial;refine tkH 0 (v := ?_) rfl hHeld ?_ ?_;rotate_left
   ·intro w hSw;(try dsimp only at hSw);go_split_ands;go_simp;(try with_reducible rfl)
   (try simp only [Act.put, xa, xb, xc, xd, xe, xf]);refine tkH 1 (v := ?_) rfl hHeld ?_ ?_;rotate_left
   ·intro w hSw;(try dsimp only at hSw);go_split_ands;go_simp;(try with_reducible rfl)
   (try simp only [Act.put, xa, xb, xc, xd, xe, xf]);refine tkH 4 (v := ?_) rfl hHeld ?_ ?_;rotate_left
   ·intro w hSw;(try dsimp only at hSw);go_split_ands;go_simp;(try with_reducible rfl)
   (try simp only [Act.put, xa, xb, xc, xd, xe, xf]);refine tkH 5 (v := ?_) rfl hHeld ?_ ?_;rotate_left
   ·intro w hSw;(try dsimp only at hSw);go_split_ands;go_simp;(try with_reducible rfl)
   (try simp only [Act.put, xa, xb, xc, xd, xe, xf]);refine tkH 8 (v := ?_) rfl hHeld ?_ ?_;rotate_left
   ·intro w hSw;(try dsimp only at hSw);go_split_ands;go_simp;(try with_reducible rfl)
   (try simp only [Act.put, xa, xb, xc, xd, xe, xf]);refine tkH 9 (v := ?_) rfl hHeld ?_ ?_;rotate_left
   ·intro w hSw;(try dsimp only at hSw);go_split_ands;go_simp;(try with_reducible rfl)
   (try simp only [Act.put, xa, xb, xc, xd, xe, xf]);refine tkH 12 (v := ?_) rfl hHeld ?_ ?_;rotate_left
   ·intro w hSw;(try dsimp only at hSw);go_split_ands;go_simp;(try with_reducible rfl)
   (try simp only [Act.put, xa, xb, xc, xd, xe, xf]);refine tkH 13 (v := ?_) rfl hHeld ?_ ?_;rotate_left
   ·intro w hSw;(try dsimp only at hSw);go_split_ands;go_simp;(try with_reducible rfl)
   (try simp only [Act.put, xa, xb, xc, xd, xe, xf]);refine tkH 14 (v := ?_) rfl hHeld ?_ ?_;rotate_left
   ·intro w hSw;(try dsimp only at hSw);go_split_ands;go_simp;(try with_reducible rfl)
   (try simp only [Act.put, xa, xb, xc, xd, xe, xf]);refine tkH 17 (v := ?_) rfl hHeld ?_ ?_;rotate_left
   ·intro w hSw;(try dsimp only at hSw);go_split_ands;go_simp;(try with_reducible rfl)
   (try simp only [Act.put, xa, xb, xc, xd, xe, xf]);refine tkH 18 (v := ?_) rfl hHeld ?_ ?_;rotate_left
   ·intro w hSw;(try dsimp only at hSw);go_split_ands;go_simp;(try with_reducible rfl)
   (try simp only [Act.put, xa, xb, xc, xd, xe, xf]);refine tkH 19 (v := ?_) rfl hHeld ?_ ?_;rotate_left
   ·intro w hSw;(try dsimp only at hSw);go_split_ands;go_simp;(try with_reducible rfl)
   (try simp only [Act.put, xa, xb, xc, xd, xe, xf]);refine tkH 22 (v := ?_) rfl hHeld ?_ ?_;rotate_left
   ·intro w hSw;(try dsimp only at hSw);go_split_ands;go_simp;(try with_reducible rfl)
   (try simp only [Act.put, xa, xb, xc, xd, xe, xf]);refine tkH 23 (v := ?_) rfl hHeld ?_ ?_;rotate_left
   ·intro w hSw;(try dsimp only at hSw);go_split_ands;go_simp;(try with_reducible rfl)
   (try simp only [Act.put, xa, xb, xc, xd, xe, xf]);refine tkH 24 (v := ?_) rfl hHeld ?_ ?_;rotate_left
   ·intro w hSw;(try dsimp only at hSw);go_split_ands;go_simp;(try with_reducible rfl)
   (try simp only [Act.put, xa, xb, xc, xd, xe, xf]);refine wpAnyH_ready (rs := [2]) (by kernel_rfl) (by simp) ?_;refine AllReadyH.cons rfl (fun KK hK => ?_) AllReadyH.nil;clear hHeld;go_simp;with_reducible refine (HC1.out _).mono ?_
   rintro e w_1 ⟨rfl, h⟩;have HX1 := Lib.hid (HX0.out.trans h);clear h;go_simp;refine hK.out _ _ trivial (fun hHeld => ?_);clear hK KK;(try simp only [Act.put, xa, xb, xc, xd, xe, xf]);refine tkH 3 (v := ?_) rfl hHeld ?_ ?_;rotate_left
   ·intro w hSw;(try dsimp only at hSw);go_split_ands;go_simp;(try with_reducible rfl)
   (try simp only [Act.put, xa, xb, xc, xd, xe, xf]);refine wpAnyH_ready (rs := [6]) (by kernel_rfl) (by simp) ?_;refine AllReadyH.cons rfl (fun KK hK => ?_) AllReadyH.nil;clear hHeld;go_simp;with_reducible refine (HC2.out _).mono ?_
   rintro e w_2 ⟨rfl, h⟩;have HX2 := Lib.hid (HX1.out.trans h);clear h;go_simp;refine hK.out _ _ trivial (fun hHeld => ?_);clear hK KK;(try simp only [Act.put, xa, xb, xc, xd, xe, xf]);refine tkH 7 (v := ?_) rfl hHeld ?_ ?_;rotate_left
   ·intro w hSw;(try dsimp only at hSw);go_split_ands;go_simp;(try with_reducible rfl)
   (try simp only [Act.put, xa, xb, xc, xd, xe, xf]);refine wpAnyH_ready (rs := [10]) (by kernel_rfl) (by simp) ?_;refine AllReadyH.cons rfl (fun KK hK => ?_) AllReadyH.nil;clear hHeld;go_simp;with_reducible refine (HC3.out _).mono ?_
   rintro e w_3 ⟨rfl, h⟩;have HX3 := Lib.hid (HX2.out.trans h);clear h;go_simp;refine hK.out _ _ trivial (fun hHeld => ?_);clear hK KK;(try simp only [Act.put, xa, xb, xc, xd, xe, xf]);refine tkH 11 (v := ?_) rfl hHeld ?_ ?_;rotate_left
   ·intro w hSw;(try dsimp only at hSw);go_split_ands;go_simp;(try with_reducible rfl)
   (try simp only [Act.put, xa, xb, xc, xd, xe, xf]);refine wpAnyH_ready (rs := [15]) (by kernel_rfl) (by simp) ?_;refine AllReadyH.cons rfl (fun KK hK => ?_) AllReadyH.nil;clear hHeld;go_simp;with_reducible refine (HC4.out _).mono ?_
   rintro e w_4 ⟨rfl, h⟩;have HX4 := Lib.hid (HX3.out.trans h);clear h;go_simp;refine hK.out _ _ trivial (fun hHeld => ?_);clear hK KK;(try simp only [Act.put, xa, xb, xc, xd, xe, xf]);refine tkH 16 (v := ?_) rfl hHeld ?_ ?_;rotate_left
   ·intro w hSw;(try dsimp only at hSw);go_split_ands;go_simp;(try with_reducible rfl)
   (try simp only [Act.put, xa, xb, xc, xd, xe, xf]);refine wpAnyH_ready (rs := [20]) (by kernel_rfl) (by simp) ?_;refine AllReadyH.cons rfl (fun KK hK => ?_) AllReadyH.nil;clear hHeld;go_simp;with_reducible refine (HC5.out _).mono ?_
   rintro e w_5 ⟨rfl, h⟩;have HX5 := Lib.hid (HX4.out.trans h);clear h;go_simp;refine hK.out _ _ trivial (fun hHeld => ?_);clear hK KK;(try simp only [Act.put, xa, xb, xc, xd, xe, xf]);refine tkH 21 (v := ?_) rfl hHeld ?_ ?_;rotate_left
   ·intro w hSw;(try dsimp only at hSw);go_split_ands;go_simp;(try with_reducible rfl)
   (try simp only [Act.put, xa, xb, xc, xd, xe, xf]);refine tkH 25 (v := ?_) rfl hHeld ?_ ?_;rotate_left
   ·intro w hSw;(try dsimp only at hSw);go_split_ands;go_simp;(try with_reducible rfl)
   (try simp only [Act.put, xa, xb, xc, xd, xe, xf]);refine tkH 26 (v := ?_) rfl hHeld ?_ ?_;rotate_left
   ·intro w hSw;(try dsimp only at hSw);go_split_ands;go_simp;(try with_reducible rfl)
   (try simp only [Act.put, xa, xb, xc, xd, xe, xf]);refine wpAnyH_done (by kernel_rfl) ?_ _;clear hHeld;clear q0 q1 q2 q3 q4 q5 r1 r2 r3 r4 r5;have HE : Hid ((O ++ B1 ++ B2 ++ B3 ++ B4 ++ B5 ++ P).data.toList = A) := Lib.hid (by
    obtain ⟨e1, e2, e3, e4⟩ := HNs.out;have eP : P.size = R.size := by rw [HPR.out]
    have h := blk_cat O B1 B2 B3 B4 B5 P done 1 HO.out HL1.out (by rw [eP, e1]; exact HL2.out) (by rw [eP, e2]; exact HL3.out) (by rw [eP, e1, e3]; exact HL4.out) (by rw [eP, e2, e4]; exact HL5.out);rw [h, HPR.out, HDA.out])
   have hE : R.extract R.size R.size = ⟨#[]⟩ := by apply bts_ext; rw [ex_list]; simp
   go_wp2_with fail;go_ret;refine ⟨?_, HX5.out⟩;have hT : tb A = O ++ B1 ++ B2 ++ B3 ++ B4 ++ B5 ++ P := bts_ext (by rw [tb_list, HE.out]);rw [hT];rfl
  ·have t0 : decide ((65535 : Int) < (R.size : Int)) = true := decide_eq_true (by omega);have n0 : 65535 < R.size := by omega
   have t1 : ((65535 : Int) == (R.size : Int)) = false := beq_eq_false_iff_ne.2 (by omega);have HDA : Hid (done ++ (Sto.blk 0 (R.data.toList.take 65535) ++ Sto.all k (R.data.toList.drop 65535)) = A) := Lib.hid (by rw [← HD.out, Sto.all_more (by rw [list_size]; exact h6)]);obtain ⟨P, hP⟩ : ∃ P, R.extract 0 65535 = P := ⟨_, rfl⟩;have hPs2 : P.size = 65535 := by rw [← hP]; simp; omega
   have HPs2 := Lib.hid hPs2;have HPl : Hid (P.data.toList = R.data.toList.take 65535) := Lib.hid (by rw [← hP, ex_list]; simp);have hPs : P.size ≤ 65535 := by omega
   have hRI : (65535 : Int) ≤ (R.size : Int) := by omega
   have w255 : IntKind.i64.wrap (255 : Int) = 255 := by rw [IntKind.wrap_i64]; rfl
   have w0 : IntKind.i64.wrap (0 : Int) = 0 := by rw [IntKind.wrap_i64]; rfl
   clear hPs2;obtain ⟨B1, hB1⟩ : ∃ B : ByteArray, (⟨#[UInt8.ofNat (0)]⟩ : ByteArray) = B := ⟨_, rfl⟩;have HC1 : Hid (∀ w, Calls Tryd.prog 33 #[.int .i64 0] w fun e w' => e = .returned (.string B1) ∧ Ext w w') := Lib.hid (fun w => by have h := byte_any (0) (by omega) w; rw [hB1] at h; exact h);have HL1 : Hid (B1.data.toList = [UInt8.ofNat (0)]) := Lib.hid (by rw [← hB1]);have s1 : B1.size ≤ 1 := by rw [← hB1]; exact Nat.le_refl 1
   clear hB1;obtain ⟨B2, hB2⟩ : ∃ B : ByteArray, (⟨#[UInt8.ofNat (255)]⟩ : ByteArray) = B := ⟨_, rfl⟩;have HC2 : Hid (∀ w, Calls Tryd.prog 33 #[.int .i64 255] w fun e w' => e = .returned (.string B2) ∧ Ext w w') := Lib.hid (fun w => by have h := byte_any (255) (by omega) w; rw [hB2] at h; exact h);have HL2 : Hid (B2.data.toList = [UInt8.ofNat (255)]) := Lib.hid (by rw [← hB2]);have s2 : B2.size ≤ 1 := by rw [← hB2]; exact Nat.le_refl 1
   clear hB2;obtain ⟨B3, hB3⟩ : ∃ B : ByteArray, (⟨#[UInt8.ofNat (255)]⟩ : ByteArray) = B := ⟨_, rfl⟩;have HC3 : Hid (∀ w, Calls Tryd.prog 33 #[.int .i64 255] w fun e w' => e = .returned (.string B3) ∧ Ext w w') := Lib.hid (fun w => by have h := byte_any (255) (by omega) w; rw [hB3] at h; exact h);have HL3 : Hid (B3.data.toList = [UInt8.ofNat (255)]) := Lib.hid (by rw [← hB3]);have s3 : B3.size ≤ 1 := by rw [← hB3]; exact Nat.le_refl 1
   clear hB3;obtain ⟨B4, hB4⟩ : ∃ B : ByteArray, (⟨#[UInt8.ofNat (0)]⟩ : ByteArray) = B := ⟨_, rfl⟩;have HC4 : Hid (∀ w, Calls Tryd.prog 33 #[.int .i64 0] w fun e w' => e = .returned (.string B4) ∧ Ext w w') := Lib.hid (fun w => by have h := byte_any (0) (by omega) w; rw [hB4] at h; exact h);have HL4 : Hid (B4.data.toList = [UInt8.ofNat (0)]) := Lib.hid (by rw [← hB4]);have s4 : B4.size ≤ 1 := by rw [← hB4]; exact Nat.le_refl 1
   clear hB4;obtain ⟨B5, hB5⟩ : ∃ B : ByteArray, (⟨#[UInt8.ofNat (0)]⟩ : ByteArray) = B := ⟨_, rfl⟩;have HC5 : Hid (∀ w, Calls Tryd.prog 33 #[.int .i64 0] w fun e w' => e = .returned (.string B5) ∧ Ext w w') := Lib.hid (fun w => by have h := byte_any (0) (by omega) w; rw [hB5] at h; exact h);have HL5 : Hid (B5.data.toList = [UInt8.ofNat (0)]) := Lib.hid (by rw [← hB5]);have s5 : B5.size ≤ 1 := by rw [← hB5]; exact Nat.le_refl 1
   clear hB5;have q0 : ¬ 9223372036854775807 < O.size + B1.size := by omega
   have q1 : ¬ 9223372036854775807 < O.size + B1.size + B2.size := by omega
   have r1 : ¬ 9223372036854775807 < (O ++ B1).size + B2.size := by simp only [ByteArray.size_append]; omega
   have q2 : ¬ 9223372036854775807 < O.size + B1.size + B2.size + B3.size := by omega
   have r2 : ¬ 9223372036854775807 < (O ++ B1 ++ B2).size + B3.size := by simp only [ByteArray.size_append]; omega
   have q3 : ¬ 9223372036854775807 < O.size + B1.size + B2.size + B3.size + B4.size := by omega
   have r3 : ¬ 9223372036854775807 < (O ++ B1 ++ B2 ++ B3).size + B4.size := by simp only [ByteArray.size_append]; omega
   have q4 : ¬ 9223372036854775807 < O.size + B1.size + B2.size + B3.size + B4.size + B5.size := by omega
   have r4 : ¬ 9223372036854775807 < (O ++ B1 ++ B2 ++ B3 ++ B4).size + B5.size := by simp only [ByteArray.size_append]; omega
   have q5 : ¬ 9223372036854775807 < O.size + B1.size + B2.size + B3.size + B4.size + B5.size + P.size := by omega
   have r5 : ¬ 9223372036854775807 < (O ++ B1 ++ B2 ++ B3 ++ B4 ++ B5).size + P.size := by simp only [ByteArray.size_append]; omega
   have HX0 : Hid (Ext w wr.drew) := Lib.hid (Below.drew HX.out);go_wp2_with fail;refine wp_region_held_drew (S := fun w' => True) (by kernel_rfl) trivial (fun hHeld => ?_);clear hHeld;have hHeld : True := trivial;refine tkH 0 (v := ?_) rfl hHeld ?_ ?_;rotate_left
   ·intro w hSw;(try dsimp only at hSw);go_split_ands;go_simp;(try with_reducible rfl)
   (try simp only [Act.put, xa, xb, xc, xd, xe, xf]);refine tkH 1 (v := ?_) rfl hHeld ?_ ?_;rotate_left
   ·intro w hSw;(try dsimp only at hSw);go_split_ands;go_simp;(try with_reducible rfl)
   (try simp only [Act.put, xa, xb, xc, xd, xe, xf]);refine tkH 4 (v := ?_) rfl hHeld ?_ ?_;rotate_left
   ·intro w hSw;(try dsimp only at hSw);go_split_ands;go_simp;(try with_reducible rfl)
   (try simp only [Act.put, xa, xb, xc, xd, xe, xf]);refine tkH 5 (v := ?_) rfl hHeld ?_ ?_;rotate_left
   ·intro w hSw;(try dsimp only at hSw);go_split_ands;go_simp;(try with_reducible rfl)
   (try simp only [Act.put, xa, xb, xc, xd, xe, xf]);refine tkH 8 (v := ?_) rfl hHeld ?_ ?_;rotate_left
   ·intro w hSw;(try dsimp only at hSw);go_split_ands;go_simp;(try with_reducible rfl)
   (try simp only [Act.put, xa, xb, xc, xd, xe, xf]);refine tkH 9 (v := ?_) rfl hHeld ?_ ?_;rotate_left
   ·intro w hSw;(try dsimp only at hSw);go_split_ands;go_simp;(try with_reducible rfl)
   (try simp only [Act.put, xa, xb, xc, xd, xe, xf]);refine tkH 12 (v := ?_) rfl hHeld ?_ ?_;rotate_left
   ·intro w hSw;(try dsimp only at hSw);go_split_ands;go_simp;(try with_reducible rfl)
   (try simp only [Act.put, xa, xb, xc, xd, xe, xf]);refine tkH 13 (v := ?_) rfl hHeld ?_ ?_;rotate_left
   ·intro w hSw;(try dsimp only at hSw);go_split_ands;go_simp;(try with_reducible rfl)
   (try simp only [Act.put, xa, xb, xc, xd, xe, xf]);refine tkH 14 (v := ?_) rfl hHeld ?_ ?_;rotate_left
   ·intro w hSw;(try dsimp only at hSw);go_split_ands;go_simp;(try with_reducible rfl)
   (try simp only [Act.put, xa, xb, xc, xd, xe, xf]);refine tkH 17 (v := ?_) rfl hHeld ?_ ?_;rotate_left
   ·intro w hSw;(try dsimp only at hSw);go_split_ands;go_simp;(try with_reducible rfl)
   (try simp only [Act.put, xa, xb, xc, xd, xe, xf]);refine tkH 18 (v := ?_) rfl hHeld ?_ ?_;rotate_left
   ·intro w hSw;(try dsimp only at hSw);go_split_ands;go_simp;(try with_reducible rfl)
   (try simp only [Act.put, xa, xb, xc, xd, xe, xf]);refine tkH 19 (v := ?_) rfl hHeld ?_ ?_;rotate_left
   ·intro w hSw;(try dsimp only at hSw);go_split_ands;go_simp;(try with_reducible rfl)
   (try simp only [Act.put, xa, xb, xc, xd, xe, xf]);refine tkH 22 (v := ?_) rfl hHeld ?_ ?_;rotate_left
   ·intro w hSw;(try dsimp only at hSw);go_split_ands;go_simp;(try with_reducible rfl)
   (try simp only [Act.put, xa, xb, xc, xd, xe, xf]);refine tkH 23 (v := ?_) rfl hHeld ?_ ?_;rotate_left
   ·intro w hSw;(try dsimp only at hSw);go_split_ands;go_simp;(try with_reducible rfl)
   (try simp only [Act.put, xa, xb, xc, xd, xe, xf]);refine tkH 24 (v := ?_) rfl hHeld ?_ ?_;rotate_left
   ·intro w hSw;(try dsimp only at hSw);go_split_ands;go_simp;(try with_reducible rfl)
   (try simp only [Act.put, xa, xb, xc, xd, xe, xf]);refine wpAnyH_ready (rs := [2]) (by kernel_rfl) (by simp) ?_;refine AllReadyH.cons rfl (fun KK hK => ?_) AllReadyH.nil;clear hHeld;go_simp;with_reducible refine (HC1.out _).mono ?_
   rintro e w_1 ⟨rfl, h⟩;have HX1 := Lib.hid (HX0.out.trans h);clear h;go_simp;refine hK.out _ _ trivial (fun hHeld => ?_);clear hK KK;(try simp only [Act.put, xa, xb, xc, xd, xe, xf]);refine tkH 3 (v := ?_) rfl hHeld ?_ ?_;rotate_left
   ·intro w hSw;(try dsimp only at hSw);go_split_ands;go_simp;(try with_reducible rfl)
   (try simp only [Act.put, xa, xb, xc, xd, xe, xf]);refine wpAnyH_ready (rs := [6]) (by kernel_rfl) (by simp) ?_;refine AllReadyH.cons rfl (fun KK hK => ?_) AllReadyH.nil;clear hHeld;go_simp;with_reducible refine (HC2.out _).mono ?_
   rintro e w_2 ⟨rfl, h⟩;have HX2 := Lib.hid (HX1.out.trans h);clear h;go_simp;refine hK.out _ _ trivial (fun hHeld => ?_);clear hK KK;(try simp only [Act.put, xa, xb, xc, xd, xe, xf]);refine tkH 7 (v := ?_) rfl hHeld ?_ ?_;rotate_left
   ·intro w hSw;(try dsimp only at hSw);go_split_ands;go_simp;(try with_reducible rfl)
   (try simp only [Act.put, xa, xb, xc, xd, xe, xf]);refine wpAnyH_ready (rs := [10]) (by kernel_rfl) (by simp) ?_;refine AllReadyH.cons rfl (fun KK hK => ?_) AllReadyH.nil;clear hHeld;go_simp;with_reducible refine (HC3.out _).mono ?_
   rintro e w_3 ⟨rfl, h⟩;have HX3 := Lib.hid (HX2.out.trans h);clear h;go_simp;refine hK.out _ _ trivial (fun hHeld => ?_);clear hK KK;(try simp only [Act.put, xa, xb, xc, xd, xe, xf]);refine tkH 11 (v := ?_) rfl hHeld ?_ ?_;rotate_left
   ·intro w hSw;(try dsimp only at hSw);go_split_ands;go_simp;(try with_reducible rfl)
   (try simp only [Act.put, xa, xb, xc, xd, xe, xf]);refine wpAnyH_ready (rs := [15]) (by kernel_rfl) (by simp) ?_;refine AllReadyH.cons rfl (fun KK hK => ?_) AllReadyH.nil;clear hHeld;go_simp;with_reducible refine (HC4.out _).mono ?_
   rintro e w_4 ⟨rfl, h⟩;have HX4 := Lib.hid (HX3.out.trans h);clear h;go_simp;refine hK.out _ _ trivial (fun hHeld => ?_);clear hK KK;(try simp only [Act.put, xa, xb, xc, xd, xe, xf]);refine tkH 16 (v := ?_) rfl hHeld ?_ ?_;rotate_left
   ·intro w hSw;(try dsimp only at hSw);go_split_ands;go_simp;(try with_reducible rfl)
   (try simp only [Act.put, xa, xb, xc, xd, xe, xf]);refine wpAnyH_ready (rs := [20]) (by kernel_rfl) (by simp) ?_;refine AllReadyH.cons rfl (fun KK hK => ?_) AllReadyH.nil;clear hHeld;go_simp;with_reducible refine (HC5.out _).mono ?_
   rintro e w_5 ⟨rfl, h⟩;have HX5 := Lib.hid (HX4.out.trans h);clear h;go_simp;refine hK.out _ _ trivial (fun hHeld => ?_);clear hK KK;(try simp only [Act.put, xa, xb, xc, xd, xe, xf]);refine tkH 21 (v := ?_) rfl hHeld ?_ ?_;rotate_left
   ·intro w hSw;(try dsimp only at hSw);go_split_ands;go_simp;(try with_reducible rfl)
   (try simp only [Act.put, xa, xb, xc, xd, xe, xf]);refine tkH 25 (v := ?_) rfl hHeld ?_ ?_;rotate_left
   ·intro w hSw;(try dsimp only at hSw);go_split_ands;go_simp;(try with_reducible rfl)
   (try simp only [Act.put, xa, xb, xc, xd, xe, xf]);refine tkH 26 (v := ?_) rfl hHeld ?_ ?_;rotate_left
   ·intro w hSw;(try dsimp only at hSw);go_split_ands;go_simp;(try with_reducible rfl)
   (try simp only [Act.put, xa, xb, xc, xd, xe, xf]);refine wpAnyH_done (by kernel_rfl) ?_ _;clear hHeld;clear q0 q1 q2 q3 q4 q5 r1 r2 r3 r4 r5;obtain ⟨O2, hO2⟩ : ∃ O2, O ++ B1 ++ B2 ++ B3 ++ B4 ++ B5 ++ P = O2 := ⟨_, rfl⟩;have HE : Hid (O2.data.toList = done ++ Sto.blk 0 (R.data.toList.take 65535)) := Lib.hid (by
    rw [← hO2, blk_cat O B1 B2 B3 B4 B5 P done 0 HO.out HL1.out (by rw [HPs2.out]; exact HL2.out) (by rw [HPs2.out]; exact HL3.out) (by rw [HPs2.out]; exact HL4.out) (by rw [HPs2.out]; exact HL5.out), HPl.out])
   obtain ⟨S, hS⟩ : ∃ S, R.extract 65535 R.size = S := ⟨_, rfl⟩;have hSs : S.size = R.size - 65535 := by rw [← hS]; simp
   have HSl : Hid (S.data.toList = R.data.toList.drop 65535) := Lib.hid (by rw [← hS, ex_list, List.take_of_length_le (by rw [List.length_drop, list_size]; omega)]);have hne : S.toList.isEmpty = false := emp_no S (by omega);have HSs := Lib.hid hSs;clear hSs;go_wp2_with fail;go_roundw
   case rel => exact ⟨S, O2, _, k, rfl, by rw [hO2], by have := HSs.out; omega, HE, Lib.hid (by rw [List.append_assoc, HSl.out]; exact HDA.out), Lib.hid (by have := HSs.out; have := HK.out; omega), HX5⟩
   case measure => show S.size < R.size; have := HSs.out; omega
end Go.Proofs.YtnhbjgmfbcedaaaDoor
namespace Go.Proofs.YtnhbjgmfbcedaaaDoor
open Go.RowKit
set_option maxHeartbeats 4000000 in
theorem deflatePacks_any (s : ByteArray) (w : World) (hTb : Tabs w) (EB ES : Value) (hB : w.cell? ⟨0, 0, none⟩ = some EB) (hS : w.cell? ⟨3, 0, none⟩ = some ES) (hs : s.size ≤ maxLen) :
  Calls Tryd.prog 7 #[.string s] w fun e w' => e = .returned (.bool true) ∧ Ext w w' := by
 have HTb := Lib.hid hTb;have HB := Lib.hid hB;have HS := Lib.hid hS;have HBl := Lib.hid (fun w => blank_calls w);unfold maxLen at hs;clear hTb hB hS;by_cases h1 : 3000 < s.size
 ·go_enter Tryd.func7, Tryd.ntmps7
  go_wp2_with fail;refine (HBl.out _).mono ?_;rintro e w1 ⟨rfl, h1⟩;have X1 := Lib.hid (h1);clear h1;go_wp2_with fail;go_ret;exact ⟨rfl, X1.out⟩
 have hs3 : s.size ≤ 3000 := by omega
 have t0 : decide ((3000 : Int) < (s.size : Int)) = false := decide_eq_false (by omega);have hSt := fun w => storedOf_calls s w (by omega);obtain ⟨A, hA⟩ : ∃ A, Sto.all (s.size + 1) s.data.toList = A := ⟨_, rfl⟩;have hAl := Sto.all_length (s.size + 1) s.data.toList;rw [list_sz, hA] at hAl;have hAl2 : A.length ≤ 4000 := by omega
 rw [hA, tb_eq] at hSt;have HSt := Lib.hid hSt;have HA := Lib.hid hA;clear hSt hA hAl;go_enter Tryd.func7, Tryd.ntmps7
 go_wp2_with fail;refine (HBl.out _).mono ?_;rintro e w1 ⟨rfl, h1⟩;have X1 := Lib.hid (h1);clear h1;go_wp2_with fail;refine (deflate_any s w1 (HTb.out.ext X1.out) EB ES ((X1.out.cell (World.block_lt_of_cell? w _ HB.out)).trans HB.out) ((X1.out.cell (World.block_lt_of_cell? w _ HS.out)).trans HS.out) (by omega)).mono ?_;rintro e w2 ⟨⟨a, rfl, hR, hal⟩, h2⟩;have X2 := Lib.hid (X1.out.trans h2);rw [HA.out] at hal;obtain ⟨bl, hia⟩ := hR.infl [] (by simp; omega) (most := s.size) (by rw [list_sz]; exact Nat.le_refl _) (by omega);rw [List.append_nil] at hia;have HO := Lib.hid (fun w => inflateOf_any ⟨a.toArray⟩ (s.size : Int) w (by show a.length ≤ maxLen; unfold maxLen; omega));rw [hia] at HO;unfold IOPost at HO;simp only [tb_self] at HO;clear hR h2 hia;go_wp2_with fail;refine (zip_any s w2 (HTb.out.ext X2.out) EB ES ((X2.out.cell (World.block_lt_of_cell? w _ HB.out)).trans HB.out) ((X2.out.cell (World.block_lt_of_cell? w _ HS.out)).trans HS.out) (by omega)).mono ?_;rintro e w3 ⟨⟨b, rfl, hR, hbl⟩, h3⟩;have X3 := Lib.hid (X2.out.trans h3);rw [HA.out] at hbl;have hz := unz_zip hR (by omega) (most := s.size) (by rw [list_sz]; exact Nat.le_refl _) (by omega);have HU := Lib.hid (fun w => unzipOf_any ⟨(zipL b s.data.toList).toArray⟩ (s.size : Int) w (by show (zipL b s.data.toList).length ≤ maxLen; rw [zipL_length]; unfold maxLen; omega));rw [hz] at HU;unfold UoPost at HU;simp only [tb_self] at HU;obtain ⟨Z, hZ⟩ : ∃ Z, zipL b s.data.toList = Z := ⟨_, rfl⟩;rw [hZ] at HU;rw [hZ];clear hR h3 hbl hz hZ
 go_wp2_with fail;refine (HO.out _).mono ?_;rintro e w4 ⟨⟨v, rfl, x, lo, rfl, e9, _, ht, ⟨p5, n5, u5, e5⟩, ⟨p6, n6, u6, e6⟩, ⟨p7, n7, u7, e7⟩, ⟨p8, n8, u8, e8⟩, ⟨k10, e10⟩⟩, h4⟩;obtain ⟨xt, ct, e11⟩ := lit_row ht;obtain ⟨nt, hnt⟩ : ∃ nt, (tksB bl).length = nt := ⟨_, rfl⟩;rw [e5, e6, e7, e8, e9, e10, e11, hnt];have X4 := Lib.hid (X3.out.trans h4);clear h4 e5 e6 e7 e8 e9 e10 e11 hnt ht;go_upto_region 9 with fail;refine wp_world (fun wz => Ext w4 wz ∧ wz.heap.size = w4.heap.size + 1 ∧ Bk wz (w4.heap.size) #[.string s, .int .i64 (a.length : Int), .int .i64 0, .slice p5 n5 u5, .slice p6 n6 u6, .slice p7 n7 u7, .slice p8 n8 u8, .int .i64 (bl.length : Int), .int .i64 k10, .slice xt nt ct]) ⟨by repeat (first | exact Ext.refl _ | refine Ext.alloc ?_ _), by simp, by repeat (first | exact Bk.at (by simp) | refine Bk.old ?_)⟩ ?_;rintro w5 ⟨hX, hZ, hB0⟩;have X5 := Lib.hid (X4.out.trans hX);have HB5 := Lib.hid hB0;clear hX hZ hB0;go_wp2_with fail;refine (HU.out _).mono ?_;rintro e w6 ⟨rfl, h6⟩;have X6 := Lib.hid (X5.out.trans h6);have HB6 := Lib.hid (HB5.out.ext h6);clear h6;obtain ⟨T, hT⟩ : ∃ T, w4.heap.size = T := ⟨_, rfl⟩;rw [hT] at HB6;rw [hT];have c0 := HB6.out.cell 0;have c1 := HB6.out.cell 1;have c2 := HB6.out.cell 2;simp only [xg, xh, xi] at c0 c1 c2;have e1 : (s.toList == s.toList) = true := beq_self_eq_true _;have e2 : (s.data == s.data) = true := by simp
 have e3 : ((a.length : Int) == (a.length : Int)) = true := beq_self_eq_true _;have hle : decide ((a.length : Int) ≤ (A.length : Int)) = true := decide_eq_true (by omega);clear hT;go_wp2_with fail;refine (HSt.out _).mono ?_;rintro e w7 ⟨rfl, h7⟩;have X7 := Lib.hid (X6.out.trans h7);clear h7;go_wp2_with fail;go_ret;exact ⟨rfl, X7.out⟩
end Go.Proofs.YtnhbjgmfbcedaaaDoor
namespace Go.Proofs.YtnhbjgmfbcedaaaDoor
open Go.RowKit Go.ChangeShapes
def tabD (n : String) (zs : List Nat) : List (String × DataW Unit) := [(n, Lib.tabData .i64 (zs.map fun z => ((z : Nat) : Int)))]
theorem tab_row {l : List (String × DataW Unit)} {W : World} {n : String} {g m : Nat} {t : TypeId} {zs : List Nat} (h : laidMetH Tryd.prog l W) (hl : l.filter (fun x => x.1 == n) = tabD n zs)
    (hm : laidMetH Tryd.prog (tabD n zs) W = laidMet Tryd.prog (tabD n zs) W) (hg : Tryd.prog.globalNamed n = some g) (hty : (Tryd.prog.globals[g]?).map (·.type) = some t) (ht : Tryd.prog.underlying t = some (.array m 3)) (hct : Tryd.prog.cellsOf t = m) (hlen : zs.length = m) :
    ∀ k, k < m → W.cell? ⟨g, k, none⟩ = some (.int .i64 ((zs.getD k 0 : Nat) : Int)) := by
  have h1 := laidMetH.filter (fun x => x.1 == n) h
  rw [hl, hm] at h1
  have hT := Lib.tabIs_of_head (rest := []) hg hty ht Tryd.underlying3 (by kernel_rfl) hct h1
  intro k hk
  have := hT.cell hg k (by simp; omega)
  rw [this]
  simp [List.getD, hlen, hk]
theorem tabs_of_laid {l : List (String × DataW Unit)} {W : World} (h : laidMetH Tryd.prog l W)
    (h1 : l.filter (fun x => x.1 == "layercake/inflate.Lens") = tabD "layercake/inflate.Lens" Inf.lensL) (h2 : l.filter (fun x => x.1 == "layercake/inflate.LenBits") = tabD "layercake/inflate.LenBits" Inf.lensB)
    (h3 : l.filter (fun x => x.1 == "layercake/inflate.Dists") = tabD "layercake/inflate.Dists" Inf.distsL) (h4 : l.filter (fun x => x.1 == "layercake/inflate.DistBits") = tabD "layercake/inflate.DistBits" Inf.distsB)
    (h5 : l.filter (fun x => x.1 == "layercake/inflate.Order") = tabD "layercake/inflate.Order" Inf.orderL) : Tabs W :=
  ⟨tab_row h h1 rfl (by kernel_rfl) (by kernel_rfl) Tryd.underlying152 (by kernel_rfl) rfl,
   tab_row h h2 rfl (by kernel_rfl) (by kernel_rfl) Tryd.underlying152 (by kernel_rfl) rfl,
   tab_row h h3 rfl (by kernel_rfl) (by kernel_rfl) Tryd.underlying153 (by kernel_rfl) rfl,
   tab_row h h4 rfl (by kernel_rfl) (by kernel_rfl) Tryd.underlying153 (by kernel_rfl) rfl,
   tab_row h h5 rfl (by kernel_rfl) (by kernel_rfl) Tryd.underlying129 (by kernel_rfl) rfl⟩
end Go.Proofs.YtnhbjgmfbcedaaaDoor
namespace Go.Proofs.YtnhbjgmfbcedaaaDoor
open Go.ChangeShapes Go.WideShapes Go.ChangeAt Go.RowKit
theorem law_readAll {H : Type} {enc : TypeId × Value → H} {P : Program} (hl : laidOutB P = true) {W W' : World} (sp : Nat → Bool) (hB : Below W.heap.size W W') :
  ∀ (ts : List TypeId) (vs : List Value) (ds : List (DataW H)) (ps : List MemPlace),
   (∀ t ∈ ts, P.readableRec t = true ∧ t < P.types.size) → (∀ p ∈ ps, p.block < W.heap.size) → (∀ p ∈ ps, sp p.block = true) →
   DataW.TrodAll enc P W 0 (fun _ => true) true ts vs ds ps → DataW.TrodAll enc P W' 0 sp true ts vs ds ps
 | [], [], [], _, _, _, _, h => h
 | t :: ts, v :: vs, d :: ds, ps, hr, hlt, hsp, h => by
  obtain ⟨p, q, h1, h2, rfl⟩ := h;have ht := hr t (List.mem_cons_self ..);refine ⟨p, q, ?_, ?_, rfl⟩
  ·exact WideElems.Trod_stays hl ht.1 ht.2 h1 (fun x hx => hB.same (hlt x (List.mem_append_left _ hx))) (fun x hx => hsp x (List.mem_append_left _ hx))
  ·exact law_readAll hl sp hB ts vs ds q (fun t' ht' => hr t' (List.mem_cons_of_mem _ ht')) (fun x hx => hlt x (List.mem_append_right _ hx)) (fun x hx => hsp x (List.mem_append_right _ hx)) h2
 | [], [], _ :: _, _, _, _, _, h => h.elim
 | [], _ :: _, _, _, _, _, _, h => h.elim
 | _ :: _, [], _, _, _, _, _, h => h.elim
 | _ :: _, _ :: _, [], _, _, _, _, h => h.elim
theorem law_post {H : Type} {enc : TypeId × Value → H} {P : Program} (hl : laidOutB P = true) {f : Func} {s : ChangeSpec} {apart fresh handsOn : Bool} {W W' : World} {args : Array Value} {ds : List (DataW H)} {before : List MemPlace} {tb : TypeId}
  (hW : DataW.Whole enc P f.params.toList s.vars apart W args.toList ds [] before) (hv : s.vars = [])
  (hfn : s.fn H (ds ++ []) = { results := [.lit (.bool true)], args := ds })
  (hread : f.params.toList.all (fun t => P.readableRec t && decide (t < P.types.size)) = true)
  (hres : f.resultTypes = #[tb]) (hb : P.underlying tb = some .bool) (hB : Below W.heap.size W W') :
  s.post enc P f apart fresh handsOn false W args (.bool true) W' := by
 have hlt : ∀ p ∈ before, p.block < W.heap.size := fun p hp => hW.lt p hp;have hr : ∀ t ∈ f.params.toList, P.readableRec t = true ∧ t < P.types.size := by
  intro t ht;have := List.all_eq_true.1 hread t ht;simpa using this
 have hW0 := hW;obtain ⟨p, q, hA, hV, hpq, hfz, hnd⟩ := hW;rw [hv] at hV;have hq : q = [] := by simpa [DataW.TrodVars] using hV
 subst hq;rw [List.append_nil] at hpq;subst hpq;have hargs : ∀ sp : Nat → Bool, (∀ x ∈ before, sp x.block = true) → DataW.TrodAll enc P W' 0 sp true f.params.toList args.toList ds before :=
  fun sp hsp => law_readAll hl sp hB _ _ _ _ hr hlt hsp hA
 have hold : ∀ x ∈ before, (fun b => decide (b < W.heap.size)) x.block = true := fun x hx => by simpa using hlt x hx
 have hresults : ∀ (b : Nat) (sp : Nat → Bool) (hd : Bool), DataW.TrodAll enc P W' b sp hd f.resultTypes.toList ((Value.bool true).resultList f.resultTypes.size) [.lit (.bool true)] [] := by
  intro b sp hd;rw [hres];exact trodAll_mk1 (shut_bool hb true)
 refine ⟨ds, [], before, [], before, [], hW0, ?_, ?_, ?_, World.keptBut_mono (fun x hx => ⟨hx, ?_⟩) (hB.frame (· ∈ before)), fun _ => ?_⟩
 ·rw [hfn]; exact hresults _ _ _
 ·rw [hfn]; exact hargs _ hold
 ·rw [hfn, hv]; rfl
 ·exact Or.inr (Or.inl hx)
 ·cases ‹false = true›
end Go.Proofs.YtnhbjgmfbcedaaaDoor
