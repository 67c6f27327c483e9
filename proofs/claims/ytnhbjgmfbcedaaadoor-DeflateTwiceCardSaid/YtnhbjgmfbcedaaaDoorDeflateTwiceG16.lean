/-
  match.finder: longest.
-/
import Derived.Test.YtnhbjgmfbcedaaaDoorDeflateTwiceG1
import Derived.Test.YtnhbjgmfbcedaaaDoorDeflateTwiceG15
import Derived.Test.YtnhbjgmfbcedaaaDoorDeflateTwiceG4
import Derived.BigQuiet
import Derived.Deep.RegionHeld3
set_option linter.unusedSimpArgs false
set_option linter.unusedVariables false
set_option maxRecDepth 100000
namespace Go.Proofs.YtnhbjgmfbcedaaaDoor
open Go.RowKit
theorem longest_no (B mp ab a q : Nat) (s : ByteArray) (wd tries : Int) (w : World) (h : FSt w B mp ab s wd tries q) (ha : s.size < a + 3) (hs : s.size ≤ 300000) (hl : a ≤ s.size) :
  Calls Tryd.prog 70 #[.pointer (some ⟨B, 0, none⟩), .int .i64 (a : Int)] w fun e w' => e = .returned (.tuple #[.int .i64 0, .int .i64 0]) ∧ w' = w := by
 have c0 := h.bk.cell 0;have t : (s.size : Int) < (a : Int) + 3 := by omega
 clear h;go_enter Tryd.func70, Tryd.ntmps70
 go_wp2_with fail;go_ret2;exact ⟨rfl, rfl⟩
set_option linter.unusedSimpArgs false in
set_option maxHeartbeats 4000000 in
theorem longest_yes (B mp ab a W T : Nat) (s : ByteArray) (w : World) (h : FSt w B mp ab s (W : Int) (T : Int) a) (ha : a + 3 ≤ s.size) (hs : s.size ≤ 300000) (hW : W ≤ 1000000) (hT9 : T ≤ 1000000) :
  Calls Tryd.prog 70 #[.pointer (some ⟨B, 0, none⟩), .int .i64 (a : Int)] w fun e w' => ∃ m d : Nat, e = .returned (.tuple #[.int .i64 (m : Int), .int .i64 (d : Int)]) ∧ Mt.Good (byt s) s.size W a m d ∧ (s.size ≤ T → Mt.Long (byt s) s.size W a m d) ∧ Ext w w' := by
 have HF := Lib.hid h;have c0 := h.bk.cell 0;have t : ¬ (s.size : Int) < (a : Int) + 3 := by omega
 have h0 : a < s.size := by omega
 clear h;obtain ⟨A1, hA1⟩ : ∃ A, a + 1 = A := ⟨_, rfl⟩;obtain ⟨A2, hA2⟩ : ∃ A, a + 2 = A := ⟨_, rfl⟩;have d1 : (a : Int) + 1 = (A1 : Int) := by omega
 have d2 : (a : Int) + 2 = (A2 : Int) := by omega
 have h1 : A1 < s.size := by omega
 have h2 : A2 < s.size := by omega
 obtain ⟨x, hx⟩ : ∃ z, (s[a]'h0).toNat = z := ⟨_, rfl⟩;have HBx : Hid (byt s a = x) := Lib.hid ((byt_at s a h0).trans hx);have hxI : (((s[a]'h0).toNat : Nat) : Int) = (x : Int) := by rw [hx]
 have hxl : x < 256 := by rw [← hx]; exact UInt8.toNat_lt _
 clear hx;obtain ⟨y, hy⟩ : ∃ z, (s[A1]'h1).toNat = z := ⟨_, rfl⟩;have HBy : Hid (byt s A1 = y) := Lib.hid ((byt_at s A1 h1).trans hy);have hyI : (((s[A1]'h1).toNat : Nat) : Int) = (y : Int) := by rw [hy]
 have hyl : y < 256 := by rw [← hy]; exact UInt8.toNat_lt _
 clear hy;obtain ⟨z, hz⟩ : ∃ z, (s[A2]'h2).toNat = z := ⟨_, rfl⟩;have HBz : Hid (byt s A2 = z) := Lib.hid ((byt_at s A2 h2).trans hz);have hzI : (((s[A2]'h2).toNat : Nat) : Int) = (z : Int) := by rw [hz]
 have hzl : z < 256 := by rw [← hz]; exact UInt8.toNat_lt _
 clear hz;have HA := Lib.hid (And.intro hA1 hA2);clear hA1 hA2;go_enter Tryd.func70, Tryd.ntmps70
 go_wp2_with fail;obtain ⟨wa1, wa2⟩ : IntKind.i64.wrap (A1 : Int) = (A1 : Int) ∧ IntKind.i64.wrap (A2 : Int) = (A2 : Int) := ⟨wrapi (by omega) (by omega), wrapi (by omega) (by omega)⟩;have S_0 := Lib.hid (HF.out);have X_0 := Lib.hid (Ext.refl w);have HPO : Hid (prO s a = Mt.prv (byt s) x y z a) := Lib.hid (by unfold prO; rw [HA.out.1, HA.out.2, HBx.out, HBy.out, HBz.out]);obtain ⟨r, hr⟩ : ∃ r, Mt.prv (byt s) x y z a = r := ⟨_, rfl⟩;have HR := Lib.hid hr;rw [hr] at HPO;clear hr;refine wp_region_held_drew (S := fun w' => w'.cell? ⟨B, 0, none⟩ = some (.string s) ∧ w'.cell? ⟨B, 2, none⟩ = some (.map (some mp))) (by kernel_rfl) ⟨S_0.out.bk.cell 0, S_0.out.bk.cell 2⟩ (fun hHeld => ?_);clear hHeld;refine anyH_world (fun wz => Ext w wz) (show Ext w w.drew from Below.drew (Ext.refl w)) ?_;rintro w1 h;have S_1 := Lib.hid (S_0.out.ext h);have X_1 := Lib.hid (X_0.out.trans h);clear h S_0 X_0;have hHeld : w1.cell? ⟨B, 0, none⟩ = some (.string s) ∧ w1.cell? ⟨B, 2, none⟩ = some (.map (some mp)) := ⟨S_1.out.bk.cell 0, S_1.out.bk.cell 2⟩;refine tkH 0 (v := ?_) rfl hHeld ?_ ?_;rotate_left
 ·intro w hSw;(try dsimp only at hSw);go_split_ands;go_simp;(try with_reducible rfl)
 (try simp only [Act.put, xa, xb, xc, xd, xe, xf]);refine tkH 1 (v := ?_) rfl hHeld ?_ ?_;rotate_left
 ·intro w hSw;(try dsimp only at hSw);go_split_ands;go_simp;(try with_reducible rfl)
 (try simp only [Act.put, xa, xb, xc, xd, xe, xf]);refine tkH 2 (v := ?_) rfl hHeld ?_ ?_;rotate_left
 ·intro w hSw;(try dsimp only at hSw);go_split_ands;go_simp;(try with_reducible rfl)
 (try simp only [Act.put, xa, xb, xc, xd, xe, xf]);refine tkH 3 (v := ?_) rfl hHeld ?_ ?_;rotate_left
 ·intro w hSw;(try dsimp only at hSw);go_split_ands;go_simp;(try with_reducible rfl)
 (try simp only [Act.put, xa, xb, xc, xd, xe, xf]);refine tkH 4 (v := ?_) rfl hHeld ?_ ?_;rotate_left
 ·intro w hSw;(try dsimp only at hSw);go_split_ands;go_simp;(try with_reducible rfl)
 (try simp only [Act.put, xa, xb, xc, xd, xe, xf]);refine tkH 5 (v := ?_) rfl hHeld ?_ ?_;rotate_left
 ·intro w hSw;(try dsimp only at hSw);go_split_ands;go_simp;(try with_reducible rfl)
 (try simp only [Act.put, xa, xb, xc, xd, xe, xf]);refine tkH 6 (v := ?_) rfl hHeld ?_ ?_;rotate_left
 ·intro w hSw;(try dsimp only at hSw);go_split_ands;go_simp;(try with_reducible rfl)
 (try simp only [Act.put, xa, xb, xc, xd, xe, xf]);refine tkH 7 (v := ?_) rfl hHeld ?_ ?_;rotate_left
 ·intro w hSw;(try dsimp only at hSw);go_split_ands;go_simp;(try with_reducible rfl)
 (try simp only [Act.put, xa, xb, xc, xd, xe, xf]);refine tkH 8 (v := ?_) rfl hHeld ?_ ?_;rotate_left
 ·intro w hSw;(try dsimp only at hSw);go_split_ands;go_simp;(try with_reducible rfl)
 (try simp only [Act.put, xa, xb, xc, xd, xe, xf]);refine tkH 9 (v := ?_) rfl hHeld ?_ ?_;rotate_left
 ·intro w hSw;(try dsimp only at hSw);go_split_ands;go_simp;(try with_reducible rfl)
 (try simp only [Act.put, xa, xb, xc, xd, xe, xf]);refine tkH 10 (v := ?_) rfl hHeld ?_ ?_;rotate_left
 ·intro w hSw;(try dsimp only at hSw);go_split_ands;go_simp;(try with_reducible rfl)
 (try simp only [Act.put, xa, xb, xc, xd, xe, xf]);refine tkH 11 (v := ?_) rfl hHeld ?_ ?_;rotate_left
 ·intro w hSw;(try dsimp only at hSw);go_split_ands;go_simp;(try with_reducible rfl)
 (try simp only [Act.put, xa, xb, xc, xd, xe, xf]);refine tkH 12 (v := ?_) rfl hHeld ?_ ?_;rotate_left
 ·intro w hSw;(try dsimp only at hSw);go_split_ands;go_simp;(try with_reducible rfl)
 (try simp only [Act.put, xa, xb, xc, xd, xe, xf]);refine tkH 13 (v := ?_) rfl hHeld ?_ ?_;rotate_left
 ·intro w hSw;(try dsimp only at hSw);go_split_ands;go_simp;(try with_reducible rfl)
 (try simp only [Act.put, xa, xb, xc, xd, xe, xf]);refine tkH 14 (v := ?_) rfl hHeld ?_ ?_;rotate_left
 ·intro w hSw;(try dsimp only at hSw);go_split_ands;go_simp;(try with_reducible rfl)
 (try simp only [Act.put, xa, xb, xc, xd, xe, xf]);refine tkH 15 (v := ?_) rfl hHeld ?_ ?_;rotate_left
 ·intro w hSw;(try dsimp only at hSw);go_split_ands;go_simp;(try with_reducible rfl)
 (try simp only [Act.put, xa, xb, xc, xd, xe, xf]);refine tkH 16 (v := ?_) rfl hHeld ?_ ?_;rotate_left
 ·intro w hSw;(try dsimp only at hSw);go_split_ands;go_simp;(try with_reducible rfl)
 (try simp only [Act.put, xa, xb, xc, xd, xe, xf]);refine tkH 17 (v := ?_) rfl hHeld ?_ ?_;rotate_left
 ·intro w hSw;(try dsimp only at hSw);go_split_ands;go_simp;(try with_reducible rfl)
 (try simp only [Act.put, xa, xb, xc, xd, xe, xf]);refine tkH 18 (v := ?_) rfl hHeld ?_ ?_;rotate_left
 ·intro w hSw;(try dsimp only at hSw);go_split_ands;go_simp;(try with_reducible rfl)
 (try simp only [Act.put, xa, xb, xc, xd, xe, xf]);refine tkH 19 (v := ?_) rfl hHeld ?_ ?_;rotate_left
 ·intro w hSw;(try dsimp only at hSw);go_split_ands;go_simp;(try with_reducible rfl)
 (try simp only [Act.put, xa, xb, xc, xd, xe, xf]);refine tkH 20 (v := ?_) rfl hHeld ?_ ?_;rotate_left
 ·intro w hSw;(try dsimp only at hSw);go_split_ands;go_simp;(try with_reducible rfl)
 (try simp only [Act.put, xa, xb, xc, xd, xe, xf]);refine tkH 21 (v := ?_) rfl hHeld ?_ ?_;rotate_left
 ·intro w hSw;(try dsimp only at hSw);go_split_ands;go_simp;(try with_reducible rfl)
 (try simp only [Act.put, xa, xb, xc, xd, xe, xf]);refine tkH 22 (v := ?_) rfl hHeld ?_ ?_;rotate_left
 ·intro w hSw;(try dsimp only at hSw);go_split_ands;go_simp;(try with_reducible rfl)
 (try simp only [Act.put, xa, xb, xc, xd, xe, xf]);refine tkH 23 (v := ?_) rfl hHeld ?_ ?_;rotate_left
 ·intro w hSw;(try dsimp only at hSw);go_split_ands;go_simp;(try with_reducible rfl)
 (try simp only [Act.put, xa, xb, xc, xd, xe, xf]);refine tkH 24 (v := ?_) rfl hHeld ?_ ?_;rotate_left
 ·intro w hSw;(try dsimp only at hSw);go_split_ands;go_simp;(try with_reducible rfl)
 (try simp only [Act.put, xa, xb, xc, xd, xe, xf]);refine wpAnyH_ready (rs := [25]) (by kernel_rfl) (by simp) ?_;refine AllReadyH.cons rfl (fun KK hK => ?_) AllReadyH.nil;clear hHeld;have t0 := S_1.out.mm.look hxl hyl hzl;unfold kb at t0;rw [HR.out] at t0;go_simp;clear t0;refine hK.out _ _ ⟨S_1.out.bk.cell 0, S_1.out.bk.cell 2⟩ (fun hHeld => ?_);clear hK KK;(try simp only [Act.put, xa, xb, xc, xd, xe, xf]);refine tkH 26 (v := ?_) rfl hHeld ?_ ?_;rotate_left
 ·intro w hSw;(try dsimp only at hSw);go_split_ands;go_simp;(try with_reducible rfl)
 (try simp only [Act.put, xa, xb, xc, xd, xe, xf]);refine tkH 27 (v := ?_) rfl hHeld ?_ ?_;rotate_left
 ·intro w hSw;(try dsimp only at hSw);go_split_ands;go_simp;(try with_reducible rfl)
 (try simp only [Act.put, xa, xb, xc, xd, xe, xf]);refine tkH 28 (v := ?_) rfl hHeld ?_ ?_;rotate_left
 ·intro w hSw;(try dsimp only at hSw);go_split_ands;go_simp;(try with_reducible rfl)
 (try simp only [Act.put, xa, xb, xc, xd, xe, xf]);refine tkH 29 (v := ?_) rfl hHeld ?_ ?_;rotate_left
 ·intro w hSw;(try dsimp only at hSw);go_split_ands;go_simp;(try with_reducible rfl)
 (try simp only [Act.put, xa, xb, xc, xd, xe, xf]);refine tkH 30 (v := ?_) rfl hHeld ?_ ?_;rotate_left
 ·intro w hSw;(try dsimp only at hSw);go_split_ands;go_simp;(try with_reducible rfl)
 (try simp only [Act.put, xa, xb, xc, xd, xe, xf]);refine wpAnyH_done (by kernel_rfl) ?_ _;clear hHeld;have HLS : Hid (Mt.Look (byt s) s.size W a r 0 0) := Lib.hid (by rw [← HPO.out]; exact Mt.Look.start _ _ _ _);have HKS : Hid (∀ k, r = some k → k < a ∧ byt s k = byt s a ∧ byt s (k + 1) = byt s (a + 1) ∧ byt s (k + 2) = byt s (a + 2) ∧ 0 + k + 1 ≤ a) := Lib.hid (fun k hk => by
  have q := Mt.prv_some (HPO.out.trans hk);exact ⟨q.1, q.2.1, q.2.2.1, q.2.2.2.1, by have := q.1; omega⟩)
 have HOS : Hid ((r.isSome = true ∧ ((r.getD 0 : Nat) : Int) = cI r) ∨ (r.isSome = false ∧ r = none)) := Lib.hid (by cases r with | none => exact .inr ⟨rfl, rfl⟩ | some k => exact .inl ⟨rfl, rfl⟩);obtain ⟨ob, hob⟩ : ∃ ob, r.isSome = ob := ⟨_, rfl⟩;rw [hob] at HOS;simp only [hob];clear hob;clear wa1 wa2 d1 d2 c0 t HPO HR hxI hyI hzI;go_wp2_with fail;go_loopw [4, 5, 6, 8] (fun l d k n wr => ∃ (m dd nn : Nat) (c : Option Nat) (kI : Int), l = .int .i64 (m : Int) ∧ d = .int .i64 (dd : Int) ∧ k = .int .i64 kI ∧ n = .int .i64 (nn : Int) ∧ Hid (Mt.Look (byt s) s.size W a c m dd) ∧ Hid (∀ k, c = some k → k < a ∧ byt s k = byt s a ∧ byt s (k + 1) = byt s (a + 1) ∧ byt s (k + 2) = byt s (a + 2) ∧ nn + k + 1 ≤ a) ∧ Hid ((ob = true ∧ kI = cI c) ∨ (ob = false ∧ c = none)) ∧ m ≤ 258 ∧ dd ≤ a ∧ nn ≤ a ∧ Hid (Ext w wr)) (fun _ _ k _ _ => (intOf k + 1).toNat)
 case atStart => exact ⟨0, 0, 0, r, _, rfl, rfl, rfl, rfl, HLS, HKS, HOS, by omega, by omega, by omega, X_1⟩
 case round =>
  clear HLS HKS HOS S_1 X_1;obtain ⟨m, dd, nn, c, kI, rfl, rfl, rfl, rfl, HL, HK, HO, hm, hd, hn, HX⟩ := hrel;have hdw := HL.out;clear hdw;have HS := Lib.hid (HF.out.ext HX.out);rcases HO.out with ⟨rfl, hk⟩ | ⟨rfl, rfl⟩
  ·cases c with
   | none =>
    have hkn : kI = -1 := hk;clear hk HO;subst hkn;go_wp2_with fail;go_ret2;exact ⟨m, dd, rfl, HL.out.good, fun hq => HL.out.none_, HX.out⟩
   | some k =>
    have hks : kI = (k : Int) := hk;clear hk HO;subst hks;obtain ⟨k1, k2, k3, k4, k5⟩ := HK.out k rfl;have HKK := Lib.hid (And.intro k2 (And.intro k3 k4));clear k2 k3 k4;have c0 := HS.out.bk.cell 0;have c1 := HS.out.bk.cell 1;have c4 := HS.out.bk.cell 4;have t1 : decide ((0 : Int) ≤ (k : Int)) = true := decide_eq_true (by omega);by_cases hw : a - k ≤ W
    ·have t2 : decide ((a : Int) - (k : Int) ≤ (W : Int)) = true := decide_eq_true (by omega);by_cases hT : nn < T
     ·have t3 : decide ((nn : Int) < (T : Int)) = true := decide_eq_true (by omega);go_wp2_with fail;clear t1 t2 t3 c0 c1 c4;obtain ⟨L, hL⟩ : ∃ L, Mt.mlen (byt s) s.size k a = L := ⟨_, rfl⟩;have HLL := Lib.hid hL;clear hL;go_loopw [9] (fun z wr => ∃ zz : Nat, z = .int .i64 (zz : Int) ∧ zz ≤ 258 ∧ a + zz ≤ s.size ∧ Hid (Mt.mlf (byt s) s.size k a zz = L) ∧ Hid (Ext w wr)) (fun z _ => 258 - (intOf z).toNat)
      case atStart => exact ⟨0, rfl, by omega, by omega, HLL, HX⟩
      case round =>
       clear HX HS;obtain ⟨zz, rfl, hz, hza, HM, HX⟩ := hrel;have HS := Lib.hid (HF.out.ext HX.out);by_cases q1 : zz < 258
       ·have t1 : decide ((zz : Int) < 258) = true := decide_eq_true (by omega);obtain ⟨A3, hA3⟩ : ∃ A, a + zz = A := ⟨_, rfl⟩;have d3 : (a : Int) + (zz : Int) = (A3 : Int) := by omega
        have HA3 := Lib.hid hA3;have hA3l : A3 ≤ s.size := by omega
        rw [hA3] at hza;clear hA3;by_cases q2 : A3 < s.size
        ·have t2 : decide ((A3 : Int) < (s.size : Int)) = true := decide_eq_true (by omega);obtain ⟨K3, hK3⟩ : ∃ A, k + zz = A := ⟨_, rfl⟩;have d4 : (k : Int) + (zz : Int) = (K3 : Int) := by omega
         have HK3 := Lib.hid hK3;have hK3l : K3 < s.size := by have := HA3.out; omega
         clear hK3;obtain ⟨u, hu⟩ : ∃ z, (s[K3]'hK3l).toNat = z := ⟨_, rfl⟩;have HBu : Hid (byt s K3 = u) := Lib.hid ((byt_at s K3 hK3l).trans hu);have huI : (((s[K3]'hK3l).toNat : Nat) : Int) = (u : Int) := by rw [hu]
         have hul : u < 256 := by rw [← hu]; exact UInt8.toNat_lt _
         clear hu;obtain ⟨v, hv⟩ : ∃ z, (s[A3]'q2).toNat = z := ⟨_, rfl⟩;have HBv : Hid (byt s A3 = v) := Lib.hid ((byt_at s A3 q2).trans hv);have hvI : (((s[A3]'q2).toNat : Nat) : Int) = (v : Int) := by rw [hv]
         have hvl : v < 256 := by rw [← hv]; exact UInt8.toNat_lt _
         clear hv;have hzn : zz + 1 ≤ 258 := by omega
         have hzan : a + (zz + 1) ≤ s.size := by have := HA3.out; omega
         by_cases q3 : u = v
         ·have t3 : ((u : Int) == (v : Int)) = true := beq_iff_eq.2 (by omega);have HMY : Hid (Mt.mlf (byt s) s.size k a (zz + 1) = L) := Lib.hid (by rw [← HM.out]; exact (Mt.mlf_yes ⟨q1, by have := HA3.out; omega, by rw [HK3.out, HA3.out, HBu.out, HBv.out]; exact q3⟩).symm);obtain ⟨wa1, wa2⟩ : IntKind.i64.wrap (A3 : Int) = (A3 : Int) ∧ IntKind.i64.wrap (K3 : Int) = (K3 : Int) := ⟨wrapi (by omega) (by omega), wrapi (by omega) (by omega)⟩;go_wp2_with fail;have S_0 := Lib.hid (HS.out);have X_0 := Lib.hid (HX.out);clear HS HX;refine wp_region_held_drew (S := fun w' => w'.cell? ⟨B, 0, none⟩ = some (.string s)) (by kernel_rfl) (S_0.out.bk.cell 0) (fun hHeld => ?_);clear hHeld;refine anyH_world (fun wz => Ext wr wz) (show Ext wr wr.drew from Below.drew (Ext.refl wr)) ?_;rintro w1 h;have S_1 := Lib.hid (S_0.out.ext h);have X_1 := Lib.hid (X_0.out.trans h);clear h S_0 X_0;have hHeld : w1.cell? ⟨B, 0, none⟩ = some (.string s) := (S_1.out.bk.cell 0);refine tkH 0 (v := ?_) rfl hHeld ?_ ?_;rotate_left
          ·intro w hSw;(try dsimp only at hSw);go_split_ands;go_simp;(try with_reducible rfl)
          (try simp only [Act.put, xa, xb, xc, xd, xe, xf]);refine tkH 1 (v := ?_) rfl hHeld ?_ ?_;rotate_left
          ·intro w hSw;(try dsimp only at hSw);go_split_ands;go_simp;(try with_reducible rfl)
          (try simp only [Act.put, xa, xb, xc, xd, xe, xf]);refine tkH 2 (v := ?_) rfl hHeld ?_ ?_;rotate_left
          ·intro w hSw;(try dsimp only at hSw);go_split_ands;go_simp;(try with_reducible rfl)
          (try simp only [Act.put, xa, xb, xc, xd, xe, xf]);refine tkH 3 (v := ?_) rfl hHeld ?_ ?_;rotate_left
          ·intro w hSw;(try dsimp only at hSw);go_split_ands;go_simp;(try with_reducible rfl)
          (try simp only [Act.put, xa, xb, xc, xd, xe, xf]);refine tkH 4 (v := ?_) rfl hHeld ?_ ?_;rotate_left
          ·intro w hSw;(try dsimp only at hSw);go_split_ands;go_simp;(try with_reducible rfl)
          (try simp only [Act.put, xa, xb, xc, xd, xe, xf]);refine tkH 5 (v := ?_) rfl hHeld ?_ ?_;rotate_left
          ·intro w hSw;(try dsimp only at hSw);go_split_ands;go_simp;(try with_reducible rfl)
          (try simp only [Act.put, xa, xb, xc, xd, xe, xf]);refine tkH 6 (v := ?_) rfl hHeld ?_ ?_;rotate_left
          ·intro w hSw;(try dsimp only at hSw);go_split_ands;go_simp;(try with_reducible rfl)
          (try simp only [Act.put, xa, xb, xc, xd, xe, xf]);refine tkH 7 (v := ?_) rfl hHeld ?_ ?_;rotate_left
          ·intro w hSw;(try dsimp only at hSw);go_split_ands;go_simp;(try with_reducible rfl)
          (try simp only [Act.put, xa, xb, xc, xd, xe, xf]);refine tkH 8 (v := ?_) rfl hHeld ?_ ?_;rotate_left
          ·intro w hSw;(try dsimp only at hSw);go_split_ands;go_simp;(try with_reducible rfl)
          (try simp only [Act.put, xa, xb, xc, xd, xe, xf]);refine tkH 9 (v := ?_) rfl hHeld ?_ ?_;rotate_left
          ·intro w hSw;(try dsimp only at hSw);go_split_ands;go_simp;(try with_reducible rfl)
          (try simp only [Act.put, xa, xb, xc, xd, xe, xf]);refine tkH 10 (v := ?_) rfl hHeld ?_ ?_;rotate_left
          ·intro w hSw;(try dsimp only at hSw);go_split_ands;go_simp;(try with_reducible rfl)
          (try simp only [Act.put, xa, xb, xc, xd, xe, xf]);refine tkH 11 (v := ?_) rfl hHeld ?_ ?_;rotate_left
          ·intro w hSw;(try dsimp only at hSw);go_split_ands;go_simp;(try with_reducible rfl)
          (try simp only [Act.put, xa, xb, xc, xd, xe, xf]);refine tkH 12 (v := ?_) rfl hHeld ?_ ?_;rotate_left
          ·intro w hSw;(try dsimp only at hSw);go_split_ands;go_simp;(try with_reducible rfl)
          (try simp only [Act.put, xa, xb, xc, xd, xe, xf]);refine tkH 13 (v := ?_) rfl hHeld ?_ ?_;rotate_left
          ·intro w hSw;(try dsimp only at hSw);go_split_ands;go_simp;(try with_reducible rfl)
          (try simp only [Act.put, xa, xb, xc, xd, xe, xf]);refine tkH 14 (v := ?_) rfl hHeld ?_ ?_;rotate_left
          ·intro w hSw;(try dsimp only at hSw);go_split_ands;go_simp;(try with_reducible rfl)
          (try simp only [Act.put, xa, xb, xc, xd, xe, xf]);refine tkH 15 (v := ?_) rfl hHeld ?_ ?_;rotate_left
          ·intro w hSw;(try dsimp only at hSw);go_split_ands;go_simp;(try with_reducible rfl)
          (try simp only [Act.put, xa, xb, xc, xd, xe, xf]);refine tkH 16 (v := ?_) rfl hHeld ?_ ?_;rotate_left
          ·intro w hSw;(try dsimp only at hSw);go_split_ands;go_simp;(try with_reducible rfl)
          (try simp only [Act.put, xa, xb, xc, xd, xe, xf]);refine tkH 17 (v := ?_) rfl hHeld ?_ ?_;rotate_left
          ·intro w hSw;(try dsimp only at hSw);go_split_ands;go_simp;(try with_reducible rfl)
          (try simp only [Act.put, xa, xb, xc, xd, xe, xf]);refine tkH 18 (v := ?_) rfl hHeld ?_ ?_;rotate_left
          ·intro w hSw;(try dsimp only at hSw);go_split_ands;go_simp;(try with_reducible rfl)
          (try simp only [Act.put, xa, xb, xc, xd, xe, xf]);refine tkH 19 (v := ?_) rfl hHeld ?_ ?_;rotate_left
          ·intro w hSw;(try dsimp only at hSw);go_split_ands;go_simp;(try with_reducible rfl)
          (try simp only [Act.put, xa, xb, xc, xd, xe, xf]);refine tkH 20 (v := ?_) rfl hHeld ?_ ?_;rotate_left
          ·intro w hSw;(try dsimp only at hSw);go_split_ands;go_simp;(try with_reducible rfl)
          (try simp only [Act.put, xa, xb, xc, xd, xe, xf]);refine tkH 21 (v := ?_) rfl hHeld ?_ ?_;rotate_left
          ·intro w hSw;(try dsimp only at hSw);go_split_ands;go_simp;(try with_reducible rfl)
          (try simp only [Act.put, xa, xb, xc, xd, xe, xf]);refine tkH 22 (v := ?_) rfl hHeld ?_ ?_;rotate_left
          ·intro w hSw;(try dsimp only at hSw);go_split_ands;go_simp;(try with_reducible rfl)
          (try simp only [Act.put, xa, xb, xc, xd, xe, xf]);refine tkH 23 (v := ?_) rfl hHeld ?_ ?_;rotate_left
          ·intro w hSw;(try dsimp only at hSw);go_split_ands;go_simp;(try with_reducible rfl)
          (try simp only [Act.put, xa, xb, xc, xd, xe, xf]);refine tkH 24 (v := ?_) rfl hHeld ?_ ?_;rotate_left
          ·intro w hSw;(try dsimp only at hSw);go_split_ands;go_simp;(try with_reducible rfl)
          (try simp only [Act.put, xa, xb, xc, xd, xe, xf]);refine tkH 25 (v := ?_) rfl hHeld ?_ ?_;rotate_left
          ·intro w hSw;(try dsimp only at hSw);go_split_ands;go_simp;(try with_reducible rfl)
          (try simp only [Act.put, xa, xb, xc, xd, xe, xf]);refine tkH 26 (v := ?_) rfl hHeld ?_ ?_;rotate_left
          ·intro w hSw;(try dsimp only at hSw);go_split_ands;go_simp;(try with_reducible rfl)
          (try simp only [Act.put, xa, xb, xc, xd, xe, xf]);refine tkH 27 (v := ?_) rfl hHeld ?_ ?_;rotate_left
          ·intro w hSw;(try dsimp only at hSw);go_split_ands;go_simp;(try with_reducible rfl)
          (try simp only [Act.put, xa, xb, xc, xd, xe, xf]);refine tkH 28 (v := ?_) rfl hHeld ?_ ?_;rotate_left
          ·intro w hSw;(try dsimp only at hSw);go_split_ands;go_simp;(try with_reducible rfl)
          (try simp only [Act.put, xa, xb, xc, xd, xe, xf]);refine tkH 29 (v := ?_) rfl hHeld ?_ ?_;rotate_left
          ·intro w hSw;(try dsimp only at hSw);go_split_ands;go_simp;(try with_reducible rfl)
          (try simp only [Act.put, xa, xb, xc, xd, xe, xf]);refine tkH 30 (v := ?_) rfl hHeld ?_ ?_;rotate_left
          ·intro w hSw;(try dsimp only at hSw);go_split_ands;go_simp;(try with_reducible rfl)
          (try simp only [Act.put, xa, xb, xc, xd, xe, xf]);refine tkH 31 (v := ?_) rfl hHeld ?_ ?_;rotate_left
          ·intro w hSw;(try dsimp only at hSw);go_split_ands;go_simp;(try with_reducible rfl)
          (try simp only [Act.put, xa, xb, xc, xd, xe, xf]);refine wpAnyH_done (by kernel_rfl) ?_ _;clear hHeld;clear wa1 wa2;go_wp2_with fail;go_roundw
          case rel => exact ⟨zz + 1, by go_num, hzn, hzan, HMY, X_1⟩
          case measure => simp [intOf]; omega
         ·have t3 : ((u : Int) == (v : Int)) = false := beq_eq_false_iff_ne.2 (by omega);obtain ⟨wa1, wa2⟩ : IntKind.i64.wrap (A3 : Int) = (A3 : Int) ∧ IntKind.i64.wrap (K3 : Int) = (K3 : Int) := ⟨wrapi (by omega) (by omega), wrapi (by omega) (by omega)⟩;go_wp2_with fail;have S_0 := Lib.hid (HS.out);have X_0 := Lib.hid (HX.out);clear HS HX;refine wp_region_held_drew (S := fun w' => w'.cell? ⟨B, 0, none⟩ = some (.string s)) (by kernel_rfl) (S_0.out.bk.cell 0) (fun hHeld => ?_);clear hHeld;refine anyH_world (fun wz => Ext wr wz) (show Ext wr wr.drew from Below.drew (Ext.refl wr)) ?_;rintro w1 h;have S_1 := Lib.hid (S_0.out.ext h);have X_1 := Lib.hid (X_0.out.trans h);clear h S_0 X_0;have hHeld : w1.cell? ⟨B, 0, none⟩ = some (.string s) := (S_1.out.bk.cell 0);refine tkH 0 (v := ?_) rfl hHeld ?_ ?_;rotate_left
          ·intro w hSw;(try dsimp only at hSw);go_split_ands;go_simp;(try with_reducible rfl)
          (try simp only [Act.put, xa, xb, xc, xd, xe, xf]);refine tkH 1 (v := ?_) rfl hHeld ?_ ?_;rotate_left
          ·intro w hSw;(try dsimp only at hSw);go_split_ands;go_simp;(try with_reducible rfl)
          (try simp only [Act.put, xa, xb, xc, xd, xe, xf]);refine tkH 2 (v := ?_) rfl hHeld ?_ ?_;rotate_left
          ·intro w hSw;(try dsimp only at hSw);go_split_ands;go_simp;(try with_reducible rfl)
          (try simp only [Act.put, xa, xb, xc, xd, xe, xf]);refine tkH 3 (v := ?_) rfl hHeld ?_ ?_;rotate_left
          ·intro w hSw;(try dsimp only at hSw);go_split_ands;go_simp;(try with_reducible rfl)
          (try simp only [Act.put, xa, xb, xc, xd, xe, xf]);refine tkH 4 (v := ?_) rfl hHeld ?_ ?_;rotate_left
          ·intro w hSw;(try dsimp only at hSw);go_split_ands;go_simp;(try with_reducible rfl)
          (try simp only [Act.put, xa, xb, xc, xd, xe, xf]);refine tkH 5 (v := ?_) rfl hHeld ?_ ?_;rotate_left
          ·intro w hSw;(try dsimp only at hSw);go_split_ands;go_simp;(try with_reducible rfl)
          (try simp only [Act.put, xa, xb, xc, xd, xe, xf]);refine tkH 6 (v := ?_) rfl hHeld ?_ ?_;rotate_left
          ·intro w hSw;(try dsimp only at hSw);go_split_ands;go_simp;(try with_reducible rfl)
          (try simp only [Act.put, xa, xb, xc, xd, xe, xf]);refine tkH 7 (v := ?_) rfl hHeld ?_ ?_;rotate_left
          ·intro w hSw;(try dsimp only at hSw);go_split_ands;go_simp;(try with_reducible rfl)
          (try simp only [Act.put, xa, xb, xc, xd, xe, xf]);refine tkH 8 (v := ?_) rfl hHeld ?_ ?_;rotate_left
          ·intro w hSw;(try dsimp only at hSw);go_split_ands;go_simp;(try with_reducible rfl)
          (try simp only [Act.put, xa, xb, xc, xd, xe, xf]);refine tkH 9 (v := ?_) rfl hHeld ?_ ?_;rotate_left
          ·intro w hSw;(try dsimp only at hSw);go_split_ands;go_simp;(try with_reducible rfl)
          (try simp only [Act.put, xa, xb, xc, xd, xe, xf]);refine tkH 10 (v := ?_) rfl hHeld ?_ ?_;rotate_left
          ·intro w hSw;(try dsimp only at hSw);go_split_ands;go_simp;(try with_reducible rfl)
          (try simp only [Act.put, xa, xb, xc, xd, xe, xf]);refine tkH 11 (v := ?_) rfl hHeld ?_ ?_;rotate_left
          ·intro w hSw;(try dsimp only at hSw);go_split_ands;go_simp;(try with_reducible rfl)
          (try simp only [Act.put, xa, xb, xc, xd, xe, xf]);refine tkH 12 (v := ?_) rfl hHeld ?_ ?_;rotate_left
          ·intro w hSw;(try dsimp only at hSw);go_split_ands;go_simp;(try with_reducible rfl)
          (try simp only [Act.put, xa, xb, xc, xd, xe, xf]);refine tkH 13 (v := ?_) rfl hHeld ?_ ?_;rotate_left
          ·intro w hSw;(try dsimp only at hSw);go_split_ands;go_simp;(try with_reducible rfl)
          (try simp only [Act.put, xa, xb, xc, xd, xe, xf]);refine tkH 14 (v := ?_) rfl hHeld ?_ ?_;rotate_left
          ·intro w hSw;(try dsimp only at hSw);go_split_ands;go_simp;(try with_reducible rfl)
          (try simp only [Act.put, xa, xb, xc, xd, xe, xf]);refine tkH 15 (v := ?_) rfl hHeld ?_ ?_;rotate_left
          ·intro w hSw;(try dsimp only at hSw);go_split_ands;go_simp;(try with_reducible rfl)
          (try simp only [Act.put, xa, xb, xc, xd, xe, xf]);refine tkH 16 (v := ?_) rfl hHeld ?_ ?_;rotate_left
          ·intro w hSw;(try dsimp only at hSw);go_split_ands;go_simp;(try with_reducible rfl)
          (try simp only [Act.put, xa, xb, xc, xd, xe, xf]);refine tkH 17 (v := ?_) rfl hHeld ?_ ?_;rotate_left
          ·intro w hSw;(try dsimp only at hSw);go_split_ands;go_simp;(try with_reducible rfl)
          (try simp only [Act.put, xa, xb, xc, xd, xe, xf]);refine tkH 18 (v := ?_) rfl hHeld ?_ ?_;rotate_left
          ·intro w hSw;(try dsimp only at hSw);go_split_ands;go_simp;(try with_reducible rfl)
          (try simp only [Act.put, xa, xb, xc, xd, xe, xf]);refine tkH 19 (v := ?_) rfl hHeld ?_ ?_;rotate_left
          ·intro w hSw;(try dsimp only at hSw);go_split_ands;go_simp;(try with_reducible rfl)
          (try simp only [Act.put, xa, xb, xc, xd, xe, xf]);refine tkH 20 (v := ?_) rfl hHeld ?_ ?_;rotate_left
          ·intro w hSw;(try dsimp only at hSw);go_split_ands;go_simp;(try with_reducible rfl)
          (try simp only [Act.put, xa, xb, xc, xd, xe, xf]);refine tkH 21 (v := ?_) rfl hHeld ?_ ?_;rotate_left
          ·intro w hSw;(try dsimp only at hSw);go_split_ands;go_simp;(try with_reducible rfl)
          (try simp only [Act.put, xa, xb, xc, xd, xe, xf]);refine tkH 22 (v := ?_) rfl hHeld ?_ ?_;rotate_left
          ·intro w hSw;(try dsimp only at hSw);go_split_ands;go_simp;(try with_reducible rfl)
          (try simp only [Act.put, xa, xb, xc, xd, xe, xf]);refine tkH 23 (v := ?_) rfl hHeld ?_ ?_;rotate_left
          ·intro w hSw;(try dsimp only at hSw);go_split_ands;go_simp;(try with_reducible rfl)
          (try simp only [Act.put, xa, xb, xc, xd, xe, xf]);refine tkH 24 (v := ?_) rfl hHeld ?_ ?_;rotate_left
          ·intro w hSw;(try dsimp only at hSw);go_split_ands;go_simp;(try with_reducible rfl)
          (try simp only [Act.put, xa, xb, xc, xd, xe, xf]);refine tkH 25 (v := ?_) rfl hHeld ?_ ?_;rotate_left
          ·intro w hSw;(try dsimp only at hSw);go_split_ands;go_simp;(try with_reducible rfl)
          (try simp only [Act.put, xa, xb, xc, xd, xe, xf]);refine tkH 26 (v := ?_) rfl hHeld ?_ ?_;rotate_left
          ·intro w hSw;(try dsimp only at hSw);go_split_ands;go_simp;(try with_reducible rfl)
          (try simp only [Act.put, xa, xb, xc, xd, xe, xf]);refine tkH 27 (v := ?_) rfl hHeld ?_ ?_;rotate_left
          ·intro w hSw;(try dsimp only at hSw);go_split_ands;go_simp;(try with_reducible rfl)
          (try simp only [Act.put, xa, xb, xc, xd, xe, xf]);refine tkH 28 (v := ?_) rfl hHeld ?_ ?_;rotate_left
          ·intro w hSw;(try dsimp only at hSw);go_split_ands;go_simp;(try with_reducible rfl)
          (try simp only [Act.put, xa, xb, xc, xd, xe, xf]);refine tkH 29 (v := ?_) rfl hHeld ?_ ?_;rotate_left
          ·intro w hSw;(try dsimp only at hSw);go_split_ands;go_simp;(try with_reducible rfl)
          (try simp only [Act.put, xa, xb, xc, xd, xe, xf]);refine tkH 30 (v := ?_) rfl hHeld ?_ ?_;rotate_left
          ·intro w hSw;(try dsimp only at hSw);go_split_ands;go_simp;(try with_reducible rfl)
          (try simp only [Act.put, xa, xb, xc, xd, xe, xf]);refine tkH 31 (v := ?_) rfl hHeld ?_ ?_;rotate_left
          ·intro w hSw;(try dsimp only at hSw);go_split_ands;go_simp;(try with_reducible rfl)
          (try simp only [Act.put, xa, xb, xc, xd, xe, xf]);refine wpAnyH_done (by kernel_rfl) ?_ _;clear hHeld;clear wa1 wa2 t1 t2 t3 d3 d4;have HLz : Hid (L = zz) := Lib.hid (by rw [← HM.out]; exact Mt.mlf_no (fun h => q3 (by have := h.2.2; rwa [HK3.out, HA3.out, HBu.out, HBv.out] at this)));have HNx := Lib.hid (Mt.Look.next HL.out (by omega) k1 hw HKK.out.1 HKK.out.2.1 HKK.out.2.2);rw [HLL.out, HLz.out] at HNx;obtain ⟨pv, hpv, hpf, hpc⟩ := S_1.out.ah k (by omega);have hpc := hpc k1;subst hpc;have HKN : Hid (∀ k2, prO s k = some k2 → k2 < a ∧ byt s k2 = byt s a ∧ byt s (k2 + 1) = byt s (a + 1) ∧ byt s (k2 + 2) = byt s (a + 2) ∧ nn + 1 + k2 + 1 ≤ a) := Lib.hid (fun k2 hk2 => by
           have q := Mt.prv_some hk2;exact ⟨by have := q.1; omega, q.2.1.trans HKK.out.1, q.2.2.1.trans HKK.out.2.1, q.2.2.2.1.trans HKK.out.2.2, by have := q.1; omega⟩)
          have HKL : Hid (cI (prO s k) < (k : Int) ∧ -1 ≤ cI (prO s k)) := Lib.hid (by cases hq : prO s k with | none => exact ⟨by show (-1 : Int) < k; omega, by show (-1 : Int) ≤ -1; omega⟩ | some k2 => exact ⟨by show ((k2 : Nat) : Int) < k; have := (Mt.prv_some hq).1; omega, by show (-1 : Int) ≤ ((k2 : Nat) : Int); omega⟩);have HNx2 : Hid (Mt.Look (byt s) s.size W a (prO s k) (if m < zz then zz else m) (if m < zz then a - k else dd)) := HNx;clear HNx;obtain ⟨pr, hpr⟩ : ∃ q, prO s k = q := ⟨_, rfl⟩;rw [hpr] at hpv HKN HKL HNx2;clear hpr hpf;obtain ⟨pI, hpI⟩ : ∃ q, cI pr = q := ⟨_, rfl⟩;rw [hpI] at hpv HKL;have HPI := Lib.hid hpI;clear hpI;have c3 := S_1.out.bk.cell 3;have ha3 : (k : Int) < (s.size : Int) := by omega
          by_cases hmz : m < zz
          ·rw [if_pos hmz, if_pos hmz] at HNx2;have hmI : (m : Int) < (zz : Int) := by omega
           obtain ⟨dk, hdk⟩ : ∃ q : Nat, a - k = q := ⟨_, rfl⟩;have hdI : (a : Int) - (k : Int) = (dk : Int) := by omega
           rw [hdk] at HNx2;have HDK := Lib.hid hdk;clear hdk;go_wp2_with fail;go_roundw
           case rel => exact ⟨zz, dk, nn + 1, pr, pI, rfl, rfl, rfl, by go_num, HNx2, HKN, Lib.hid (.inl ⟨by simp, HPI.out.symm⟩), hz, by have := HDK.out; omega, by omega, X_1⟩
           case measure => have := HKL.out; simp [intOf]; omega
          ·rw [if_neg hmz, if_neg hmz] at HNx2;have hmI : ¬ (m : Int) < (zz : Int) := by omega
           go_wp2_with fail;go_roundw
           case rel => exact ⟨m, dd, nn + 1, pr, pI, rfl, rfl, rfl, by go_num, HNx2, HKN, Lib.hid (.inl ⟨by simp, HPI.out.symm⟩), hm, hd, by omega, X_1⟩
           case measure => have := HKL.out; simp [intOf]; omega
        ·have t2 : decide ((A3 : Int) < (s.size : Int)) = false := decide_eq_false (by omega);have wa1 : IntKind.i64.wrap (A3 : Int) = (A3 : Int) := wrapi (by omega) (by omega);go_wp2_with fail;have S_0 := Lib.hid (HS.out);have X_0 := Lib.hid (HX.out);clear HS HX;refine wp_region_held_drew (S := fun w' => w'.cell? ⟨B, 0, none⟩ = some (.string s)) (by kernel_rfl) (S_0.out.bk.cell 0) (fun hHeld => ?_);clear hHeld;refine anyH_world (fun wz => Ext wr wz) (show Ext wr wr.drew from Below.drew (Ext.refl wr)) ?_;rintro w1 h;have S_1 := Lib.hid (S_0.out.ext h);have X_1 := Lib.hid (X_0.out.trans h);clear h S_0 X_0;have hHeld : w1.cell? ⟨B, 0, none⟩ = some (.string s) := (S_1.out.bk.cell 0);refine tkH 0 (v := ?_) rfl hHeld ?_ ?_;rotate_left
         ·intro w hSw;(try dsimp only at hSw);go_split_ands;go_simp;(try with_reducible rfl)
         (try simp only [Act.put, xa, xb, xc, xd, xe, xf]);refine tkH 1 (v := ?_) rfl hHeld ?_ ?_;rotate_left
         ·intro w hSw;(try dsimp only at hSw);go_split_ands;go_simp;(try with_reducible rfl)
         (try simp only [Act.put, xa, xb, xc, xd, xe, xf]);refine tkH 2 (v := ?_) rfl hHeld ?_ ?_;rotate_left
         ·intro w hSw;(try dsimp only at hSw);go_split_ands;go_simp;(try with_reducible rfl)
         (try simp only [Act.put, xa, xb, xc, xd, xe, xf]);refine tkH 3 (v := ?_) rfl hHeld ?_ ?_;rotate_left
         ·intro w hSw;(try dsimp only at hSw);go_split_ands;go_simp;(try with_reducible rfl)
         (try simp only [Act.put, xa, xb, xc, xd, xe, xf]);refine tkH 4 (v := ?_) rfl hHeld ?_ ?_;rotate_left
         ·intro w hSw;(try dsimp only at hSw);go_split_ands;go_simp;(try with_reducible rfl)
         (try simp only [Act.put, xa, xb, xc, xd, xe, xf]);refine tkH 5 (v := ?_) rfl hHeld ?_ ?_;rotate_left
         ·intro w hSw;(try dsimp only at hSw);go_split_ands;go_simp;(try with_reducible rfl)
         (try simp only [Act.put, xa, xb, xc, xd, xe, xf]);refine tkH 6 (v := ?_) rfl hHeld ?_ ?_;rotate_left
         ·intro w hSw;(try dsimp only at hSw);go_split_ands;go_simp;(try with_reducible rfl)
         (try simp only [Act.put, xa, xb, xc, xd, xe, xf]);refine tkH 7 (v := ?_) rfl hHeld ?_ ?_;rotate_left
         ·intro w hSw;(try dsimp only at hSw);go_split_ands;go_simp;(try with_reducible rfl)
         (try simp only [Act.put, xa, xb, xc, xd, xe, xf]);refine tkH 8 (v := ?_) rfl hHeld ?_ ?_;rotate_left
         ·intro w hSw;(try dsimp only at hSw);go_split_ands;go_simp;(try with_reducible rfl)
         (try simp only [Act.put, xa, xb, xc, xd, xe, xf]);refine tkH 9 (v := ?_) rfl hHeld ?_ ?_;rotate_left
         ·intro w hSw;(try dsimp only at hSw);go_split_ands;go_simp;(try with_reducible rfl)
         (try simp only [Act.put, xa, xb, xc, xd, xe, xf]);refine tkH 10 (v := ?_) rfl hHeld ?_ ?_;rotate_left
         ·intro w hSw;(try dsimp only at hSw);go_split_ands;go_simp;(try with_reducible rfl)
         (try simp only [Act.put, xa, xb, xc, xd, xe, xf]);refine tkH 11 (v := ?_) rfl hHeld ?_ ?_;rotate_left
         ·intro w hSw;(try dsimp only at hSw);go_split_ands;go_simp;(try with_reducible rfl)
         (try simp only [Act.put, xa, xb, xc, xd, xe, xf]);refine tkH 12 (v := ?_) rfl hHeld ?_ ?_;rotate_left
         ·intro w hSw;(try dsimp only at hSw);go_split_ands;go_simp;(try with_reducible rfl)
         (try simp only [Act.put, xa, xb, xc, xd, xe, xf]);refine tkH 13 (v := ?_) rfl hHeld ?_ ?_;rotate_left
         ·intro w hSw;(try dsimp only at hSw);go_split_ands;go_simp;(try with_reducible rfl)
         (try simp only [Act.put, xa, xb, xc, xd, xe, xf]);refine wpAnyH_take (i := 14) (v := undef) rfl (by kernel_rfl) (by kernel_rfl) (by kernel_rfl) (fun _ _ _ h => h) (Or.inr ⟨by kernel_rfl, rfl⟩) hHeld ?_;(try simp only [Act.put, xa, xb, xc, xd, xe, xf]);refine wpAnyH_take (i := 15) (v := undef) rfl (by kernel_rfl) (by kernel_rfl) (by kernel_rfl) (fun _ _ _ h => h) (Or.inr ⟨by kernel_rfl, rfl⟩) hHeld ?_;(try simp only [Act.put, xa, xb, xc, xd, xe, xf]);refine wpAnyH_take (i := 16) (v := undef) rfl (by kernel_rfl) (by kernel_rfl) (by kernel_rfl) (fun _ _ _ h => h) (Or.inr ⟨by kernel_rfl, rfl⟩) hHeld ?_;(try simp only [Act.put, xa, xb, xc, xd, xe, xf]);refine wpAnyH_take (i := 17) (v := undef) rfl (by kernel_rfl) (by kernel_rfl) (by kernel_rfl) (fun _ _ _ h => h) (Or.inr ⟨by kernel_rfl, rfl⟩) hHeld ?_;(try simp only [Act.put, xa, xb, xc, xd, xe, xf]);refine wpAnyH_take (i := 18) (v := undef) rfl (by kernel_rfl) (by kernel_rfl) (by kernel_rfl) (fun _ _ _ h => h) (Or.inr ⟨by kernel_rfl, rfl⟩) hHeld ?_;(try simp only [Act.put, xa, xb, xc, xd, xe, xf]);refine wpAnyH_take (i := 19) (v := undef) rfl (by kernel_rfl) (by kernel_rfl) (by kernel_rfl) (fun _ _ _ h => h) (Or.inr ⟨by kernel_rfl, rfl⟩) hHeld ?_;(try simp only [Act.put, xa, xb, xc, xd, xe, xf]);refine wpAnyH_take (i := 20) (v := undef) rfl (by kernel_rfl) (by kernel_rfl) (by kernel_rfl) (fun _ _ _ h => h) (Or.inr ⟨by kernel_rfl, rfl⟩) hHeld ?_;(try simp only [Act.put, xa, xb, xc, xd, xe, xf]);refine wpAnyH_take (i := 21) (v := undef) rfl (by kernel_rfl) (by kernel_rfl) (by kernel_rfl) (fun _ _ _ h => h) (Or.inr ⟨by kernel_rfl, rfl⟩) hHeld ?_
         (try simp only [Act.put, xa, xb, xc, xd, xe, xf]);refine wpAnyH_take (i := 22) (v := undef) rfl (by kernel_rfl) (by kernel_rfl) (by kernel_rfl) (fun _ _ _ h => h) (Or.inr ⟨by kernel_rfl, rfl⟩) hHeld ?_;(try simp only [Act.put, xa, xb, xc, xd, xe, xf]);refine wpAnyH_take (i := 23) (v := undef) rfl (by kernel_rfl) (by kernel_rfl) (by kernel_rfl) (fun _ _ _ h => h) (Or.inr ⟨by kernel_rfl, rfl⟩) hHeld ?_;(try simp only [Act.put, xa, xb, xc, xd, xe, xf]);refine wpAnyH_take (i := 24) (v := undef) rfl (by kernel_rfl) (by kernel_rfl) (by kernel_rfl) (fun _ _ _ h => h) (Or.inr ⟨by kernel_rfl, rfl⟩) hHeld ?_;(try simp only [Act.put, xa, xb, xc, xd, xe, xf]);refine wpAnyH_take (i := 25) (v := undef) rfl (by kernel_rfl) (by kernel_rfl) (by kernel_rfl) (fun _ _ _ h => h) (Or.inr ⟨by kernel_rfl, rfl⟩) hHeld ?_;(try simp only [Act.put, xa, xb, xc, xd, xe, xf]);refine wpAnyH_take (i := 26) (v := undef) rfl (by kernel_rfl) (by kernel_rfl) (by kernel_rfl) (fun _ _ _ h => h) (Or.inr ⟨by kernel_rfl, rfl⟩) hHeld ?_;(try simp only [Act.put, xa, xb, xc, xd, xe, xf]);refine wpAnyH_take (i := 27) (v := undef) rfl (by kernel_rfl) (by kernel_rfl) (by kernel_rfl) (fun _ _ _ h => h) (Or.inr ⟨by kernel_rfl, rfl⟩) hHeld ?_;(try simp only [Act.put, xa, xb, xc, xd, xe, xf]);refine wpAnyH_take (i := 28) (v := undef) rfl (by kernel_rfl) (by kernel_rfl) (by kernel_rfl) (fun _ _ _ h => h) (Or.inr ⟨by kernel_rfl, rfl⟩) hHeld ?_;(try simp only [Act.put, xa, xb, xc, xd, xe, xf]);refine wpAnyH_take (i := 29) (v := undef) rfl (by kernel_rfl) (by kernel_rfl) (by kernel_rfl) (fun _ _ _ h => h) (Or.inr ⟨by kernel_rfl, rfl⟩) hHeld ?_
         (try simp only [Act.put, xa, xb, xc, xd, xe, xf]);refine wpAnyH_take (i := 30) (v := undef) rfl (by kernel_rfl) (by kernel_rfl) (by kernel_rfl) (fun _ _ _ h => h) (Or.inr ⟨by kernel_rfl, rfl⟩) hHeld ?_;(try simp only [Act.put, xa, xb, xc, xd, xe, xf]);refine tkH 31 (v := ?_) rfl hHeld ?_ ?_;rotate_left
         ·intro w hSw;(try dsimp only at hSw);go_split_ands;go_simp;(try with_reducible rfl)
         (try simp only [Act.put, xa, xb, xc, xd, xe, xf]);refine wpAnyH_done (by kernel_rfl) ?_ _;clear hHeld;clear wa1 t1 t2 d3;have HLz : Hid (L = zz) := Lib.hid (by rw [← HM.out]; exact Mt.mlf_no (fun h => q2 (by have := h.2.1; rwa [HA3.out] at this)));have HNx := Lib.hid (Mt.Look.next HL.out (by omega) k1 hw HKK.out.1 HKK.out.2.1 HKK.out.2.2);rw [HLL.out, HLz.out] at HNx;obtain ⟨pv, hpv, hpf, hpc⟩ := S_1.out.ah k (by omega);have hpc := hpc k1;subst hpc;have HKN : Hid (∀ k2, prO s k = some k2 → k2 < a ∧ byt s k2 = byt s a ∧ byt s (k2 + 1) = byt s (a + 1) ∧ byt s (k2 + 2) = byt s (a + 2) ∧ nn + 1 + k2 + 1 ≤ a) := Lib.hid (fun k2 hk2 => by
          have q := Mt.prv_some hk2;exact ⟨by have := q.1; omega, q.2.1.trans HKK.out.1, q.2.2.1.trans HKK.out.2.1, q.2.2.2.1.trans HKK.out.2.2, by have := q.1; omega⟩)
         have HKL : Hid (cI (prO s k) < (k : Int) ∧ -1 ≤ cI (prO s k)) := Lib.hid (by cases hq : prO s k with | none => exact ⟨by show (-1 : Int) < k; omega, by show (-1 : Int) ≤ -1; omega⟩ | some k2 => exact ⟨by show ((k2 : Nat) : Int) < k; have := (Mt.prv_some hq).1; omega, by show (-1 : Int) ≤ ((k2 : Nat) : Int); omega⟩);have HNx2 : Hid (Mt.Look (byt s) s.size W a (prO s k) (if m < zz then zz else m) (if m < zz then a - k else dd)) := HNx;clear HNx;obtain ⟨pr, hpr⟩ : ∃ q, prO s k = q := ⟨_, rfl⟩;rw [hpr] at hpv HKN HKL HNx2;clear hpr hpf;obtain ⟨pI, hpI⟩ : ∃ q, cI pr = q := ⟨_, rfl⟩;rw [hpI] at hpv HKL;have HPI := Lib.hid hpI;clear hpI;have c3 := S_1.out.bk.cell 3;have ha3 : (k : Int) < (s.size : Int) := by omega
         by_cases hmz : m < zz
         ·rw [if_pos hmz, if_pos hmz] at HNx2;have hmI : (m : Int) < (zz : Int) := by omega
          obtain ⟨dk, hdk⟩ : ∃ q : Nat, a - k = q := ⟨_, rfl⟩;have hdI : (a : Int) - (k : Int) = (dk : Int) := by omega
          rw [hdk] at HNx2;have HDK := Lib.hid hdk;clear hdk;go_wp2_with fail;go_roundw
          case rel => exact ⟨zz, dk, nn + 1, pr, pI, rfl, rfl, rfl, by go_num, HNx2, HKN, Lib.hid (.inl ⟨by simp, HPI.out.symm⟩), hz, by have := HDK.out; omega, by omega, X_1⟩
          case measure => have := HKL.out; simp [intOf]; omega
         ·rw [if_neg hmz, if_neg hmz] at HNx2;have hmI : ¬ (m : Int) < (zz : Int) := by omega
          go_wp2_with fail;go_roundw
          case rel => exact ⟨m, dd, nn + 1, pr, pI, rfl, rfl, rfl, by go_num, HNx2, HKN, Lib.hid (.inl ⟨by simp, HPI.out.symm⟩), hm, hd, by omega, X_1⟩
          case measure => have := HKL.out; simp [intOf]; omega
       ·have t1 : decide ((zz : Int) < 258) = false := decide_eq_false (by omega);go_wp2_with fail;have S_0 := Lib.hid (HS.out);have X_0 := Lib.hid (HX.out);clear HS HX;refine wp_region_held_drew (S := fun w' => w'.cell? ⟨B, 0, none⟩ = some (.string s)) (by kernel_rfl) (S_0.out.bk.cell 0) (fun hHeld => ?_);clear hHeld;refine anyH_world (fun wz => Ext wr wz) (show Ext wr wr.drew from Below.drew (Ext.refl wr)) ?_;rintro w1 h;have S_1 := Lib.hid (S_0.out.ext h);have X_1 := Lib.hid (X_0.out.trans h);clear h S_0 X_0;have hHeld : w1.cell? ⟨B, 0, none⟩ = some (.string s) := (S_1.out.bk.cell 0);refine tkH 0 (v := ?_) rfl hHeld ?_ ?_;rotate_left
        ·intro w hSw;(try dsimp only at hSw);go_split_ands;go_simp;(try with_reducible rfl)
        (try simp only [Act.put, xa, xb, xc, xd, xe, xf]);refine tkH 1 (v := ?_) rfl hHeld ?_ ?_;rotate_left
        ·intro w hSw;(try dsimp only at hSw);go_split_ands;go_simp;(try with_reducible rfl)
        (try simp only [Act.put, xa, xb, xc, xd, xe, xf]);refine tkH 2 (v := ?_) rfl hHeld ?_ ?_;rotate_left
        ·intro w hSw;(try dsimp only at hSw);go_split_ands;go_simp;(try with_reducible rfl)
        (try simp only [Act.put, xa, xb, xc, xd, xe, xf]);refine wpAnyH_take (i := 3) (v := undef) rfl (by kernel_rfl) (by kernel_rfl) (by kernel_rfl) (fun _ _ _ h => h) (Or.inr ⟨by kernel_rfl, rfl⟩) hHeld ?_;(try simp only [Act.put, xa, xb, xc, xd, xe, xf]);refine wpAnyH_take (i := 4) (v := undef) rfl (by kernel_rfl) (by kernel_rfl) (by kernel_rfl) (fun _ _ _ h => h) (Or.inr ⟨by kernel_rfl, rfl⟩) hHeld ?_;(try simp only [Act.put, xa, xb, xc, xd, xe, xf]);refine wpAnyH_take (i := 5) (v := undef) rfl (by kernel_rfl) (by kernel_rfl) (by kernel_rfl) (fun _ _ _ h => h) (Or.inr ⟨by kernel_rfl, rfl⟩) hHeld ?_;(try simp only [Act.put, xa, xb, xc, xd, xe, xf]);refine wpAnyH_take (i := 6) (v := undef) rfl (by kernel_rfl) (by kernel_rfl) (by kernel_rfl) (fun _ _ _ h => h) (Or.inr ⟨by kernel_rfl, rfl⟩) hHeld ?_;(try simp only [Act.put, xa, xb, xc, xd, xe, xf]);refine wpAnyH_take (i := 7) (v := undef) rfl (by kernel_rfl) (by kernel_rfl) (by kernel_rfl) (fun _ _ _ h => h) (Or.inr ⟨by kernel_rfl, rfl⟩) hHeld ?_;(try simp only [Act.put, xa, xb, xc, xd, xe, xf]);refine wpAnyH_take (i := 8) (v := undef) rfl (by kernel_rfl) (by kernel_rfl) (by kernel_rfl) (fun _ _ _ h => h) (Or.inr ⟨by kernel_rfl, rfl⟩) hHeld ?_;(try simp only [Act.put, xa, xb, xc, xd, xe, xf]);refine wpAnyH_take (i := 9) (v := undef) rfl (by kernel_rfl) (by kernel_rfl) (by kernel_rfl) (fun _ _ _ h => h) (Or.inr ⟨by kernel_rfl, rfl⟩) hHeld ?_;(try simp only [Act.put, xa, xb, xc, xd, xe, xf]);refine wpAnyH_take (i := 10) (v := undef) rfl (by kernel_rfl) (by kernel_rfl) (by kernel_rfl) (fun _ _ _ h => h) (Or.inr ⟨by kernel_rfl, rfl⟩) hHeld ?_
        (try simp only [Act.put, xa, xb, xc, xd, xe, xf]);refine wpAnyH_take (i := 11) (v := undef) rfl (by kernel_rfl) (by kernel_rfl) (by kernel_rfl) (fun _ _ _ h => h) (Or.inr ⟨by kernel_rfl, rfl⟩) hHeld ?_;(try simp only [Act.put, xa, xb, xc, xd, xe, xf]);refine tkH 12 (v := ?_) rfl hHeld ?_ ?_;rotate_left
        ·intro w hSw;(try dsimp only at hSw);go_split_ands;go_simp;(try with_reducible rfl)
        (try simp only [Act.put, xa, xb, xc, xd, xe, xf]);refine tkH 13 (v := ?_) rfl hHeld ?_ ?_;rotate_left
        ·intro w hSw;(try dsimp only at hSw);go_split_ands;go_simp;(try with_reducible rfl)
        (try simp only [Act.put, xa, xb, xc, xd, xe, xf]);refine wpAnyH_take (i := 14) (v := undef) rfl (by kernel_rfl) (by kernel_rfl) (by kernel_rfl) (fun _ _ _ h => h) (Or.inr ⟨by kernel_rfl, rfl⟩) hHeld ?_;(try simp only [Act.put, xa, xb, xc, xd, xe, xf]);refine wpAnyH_take (i := 15) (v := undef) rfl (by kernel_rfl) (by kernel_rfl) (by kernel_rfl) (fun _ _ _ h => h) (Or.inr ⟨by kernel_rfl, rfl⟩) hHeld ?_;(try simp only [Act.put, xa, xb, xc, xd, xe, xf]);refine wpAnyH_take (i := 16) (v := undef) rfl (by kernel_rfl) (by kernel_rfl) (by kernel_rfl) (fun _ _ _ h => h) (Or.inr ⟨by kernel_rfl, rfl⟩) hHeld ?_;(try simp only [Act.put, xa, xb, xc, xd, xe, xf]);refine wpAnyH_take (i := 17) (v := undef) rfl (by kernel_rfl) (by kernel_rfl) (by kernel_rfl) (fun _ _ _ h => h) (Or.inr ⟨by kernel_rfl, rfl⟩) hHeld ?_;(try simp only [Act.put, xa, xb, xc, xd, xe, xf]);refine wpAnyH_take (i := 18) (v := undef) rfl (by kernel_rfl) (by kernel_rfl) (by kernel_rfl) (fun _ _ _ h => h) (Or.inr ⟨by kernel_rfl, rfl⟩) hHeld ?_;(try simp only [Act.put, xa, xb, xc, xd, xe, xf]);refine wpAnyH_take (i := 19) (v := undef) rfl (by kernel_rfl) (by kernel_rfl) (by kernel_rfl) (fun _ _ _ h => h) (Or.inr ⟨by kernel_rfl, rfl⟩) hHeld ?_;(try simp only [Act.put, xa, xb, xc, xd, xe, xf]);refine wpAnyH_take (i := 20) (v := undef) rfl (by kernel_rfl) (by kernel_rfl) (by kernel_rfl) (fun _ _ _ h => h) (Or.inr ⟨by kernel_rfl, rfl⟩) hHeld ?_;(try simp only [Act.put, xa, xb, xc, xd, xe, xf]);refine wpAnyH_take (i := 21) (v := undef) rfl (by kernel_rfl) (by kernel_rfl) (by kernel_rfl) (fun _ _ _ h => h) (Or.inr ⟨by kernel_rfl, rfl⟩) hHeld ?_
        (try simp only [Act.put, xa, xb, xc, xd, xe, xf]);refine wpAnyH_take (i := 22) (v := undef) rfl (by kernel_rfl) (by kernel_rfl) (by kernel_rfl) (fun _ _ _ h => h) (Or.inr ⟨by kernel_rfl, rfl⟩) hHeld ?_;(try simp only [Act.put, xa, xb, xc, xd, xe, xf]);refine wpAnyH_take (i := 23) (v := undef) rfl (by kernel_rfl) (by kernel_rfl) (by kernel_rfl) (fun _ _ _ h => h) (Or.inr ⟨by kernel_rfl, rfl⟩) hHeld ?_;(try simp only [Act.put, xa, xb, xc, xd, xe, xf]);refine wpAnyH_take (i := 24) (v := undef) rfl (by kernel_rfl) (by kernel_rfl) (by kernel_rfl) (fun _ _ _ h => h) (Or.inr ⟨by kernel_rfl, rfl⟩) hHeld ?_;(try simp only [Act.put, xa, xb, xc, xd, xe, xf]);refine wpAnyH_take (i := 25) (v := undef) rfl (by kernel_rfl) (by kernel_rfl) (by kernel_rfl) (fun _ _ _ h => h) (Or.inr ⟨by kernel_rfl, rfl⟩) hHeld ?_;(try simp only [Act.put, xa, xb, xc, xd, xe, xf]);refine wpAnyH_take (i := 26) (v := undef) rfl (by kernel_rfl) (by kernel_rfl) (by kernel_rfl) (fun _ _ _ h => h) (Or.inr ⟨by kernel_rfl, rfl⟩) hHeld ?_;(try simp only [Act.put, xa, xb, xc, xd, xe, xf]);refine wpAnyH_take (i := 27) (v := undef) rfl (by kernel_rfl) (by kernel_rfl) (by kernel_rfl) (fun _ _ _ h => h) (Or.inr ⟨by kernel_rfl, rfl⟩) hHeld ?_;(try simp only [Act.put, xa, xb, xc, xd, xe, xf]);refine wpAnyH_take (i := 28) (v := undef) rfl (by kernel_rfl) (by kernel_rfl) (by kernel_rfl) (fun _ _ _ h => h) (Or.inr ⟨by kernel_rfl, rfl⟩) hHeld ?_;(try simp only [Act.put, xa, xb, xc, xd, xe, xf]);refine wpAnyH_take (i := 29) (v := undef) rfl (by kernel_rfl) (by kernel_rfl) (by kernel_rfl) (fun _ _ _ h => h) (Or.inr ⟨by kernel_rfl, rfl⟩) hHeld ?_
        (try simp only [Act.put, xa, xb, xc, xd, xe, xf]);refine wpAnyH_take (i := 30) (v := undef) rfl (by kernel_rfl) (by kernel_rfl) (by kernel_rfl) (fun _ _ _ h => h) (Or.inr ⟨by kernel_rfl, rfl⟩) hHeld ?_;(try simp only [Act.put, xa, xb, xc, xd, xe, xf]);refine tkH 31 (v := ?_) rfl hHeld ?_ ?_;rotate_left
        ·intro w hSw;(try dsimp only at hSw);go_split_ands;go_simp;(try with_reducible rfl)
        (try simp only [Act.put, xa, xb, xc, xd, xe, xf]);refine wpAnyH_done (by kernel_rfl) ?_ _;clear hHeld;clear t1;have HLz : Hid (L = zz) := Lib.hid (by rw [← HM.out]; exact Mt.mlf_no (fun h => q1 h.1));have HNx := Lib.hid (Mt.Look.next HL.out (by omega) k1 hw HKK.out.1 HKK.out.2.1 HKK.out.2.2);rw [HLL.out, HLz.out] at HNx;obtain ⟨pv, hpv, hpf, hpc⟩ := S_1.out.ah k (by omega);have hpc := hpc k1;subst hpc;have HKN : Hid (∀ k2, prO s k = some k2 → k2 < a ∧ byt s k2 = byt s a ∧ byt s (k2 + 1) = byt s (a + 1) ∧ byt s (k2 + 2) = byt s (a + 2) ∧ nn + 1 + k2 + 1 ≤ a) := Lib.hid (fun k2 hk2 => by
         have q := Mt.prv_some hk2;exact ⟨by have := q.1; omega, q.2.1.trans HKK.out.1, q.2.2.1.trans HKK.out.2.1, q.2.2.2.1.trans HKK.out.2.2, by have := q.1; omega⟩)
        have HKL : Hid (cI (prO s k) < (k : Int) ∧ -1 ≤ cI (prO s k)) := Lib.hid (by cases hq : prO s k with | none => exact ⟨by show (-1 : Int) < k; omega, by show (-1 : Int) ≤ -1; omega⟩ | some k2 => exact ⟨by show ((k2 : Nat) : Int) < k; have := (Mt.prv_some hq).1; omega, by show (-1 : Int) ≤ ((k2 : Nat) : Int); omega⟩);have HNx2 : Hid (Mt.Look (byt s) s.size W a (prO s k) (if m < zz then zz else m) (if m < zz then a - k else dd)) := HNx;clear HNx;obtain ⟨pr, hpr⟩ : ∃ q, prO s k = q := ⟨_, rfl⟩;rw [hpr] at hpv HKN HKL HNx2;clear hpr hpf;obtain ⟨pI, hpI⟩ : ∃ q, cI pr = q := ⟨_, rfl⟩;rw [hpI] at hpv HKL;have HPI := Lib.hid hpI;clear hpI;have c3 := S_1.out.bk.cell 3;have ha3 : (k : Int) < (s.size : Int) := by omega
        by_cases hmz : m < zz
        ·rw [if_pos hmz, if_pos hmz] at HNx2;have hmI : (m : Int) < (zz : Int) := by omega
         obtain ⟨dk, hdk⟩ : ∃ q : Nat, a - k = q := ⟨_, rfl⟩;have hdI : (a : Int) - (k : Int) = (dk : Int) := by omega
         rw [hdk] at HNx2;have HDK := Lib.hid hdk;clear hdk;go_wp2_with fail;go_roundw
         case rel => exact ⟨zz, dk, nn + 1, pr, pI, rfl, rfl, rfl, by go_num, HNx2, HKN, Lib.hid (.inl ⟨by simp, HPI.out.symm⟩), hz, by have := HDK.out; omega, by omega, X_1⟩
         case measure => have := HKL.out; simp [intOf]; omega
        ·rw [if_neg hmz, if_neg hmz] at HNx2;have hmI : ¬ (m : Int) < (zz : Int) := by omega
         go_wp2_with fail;go_roundw
         case rel => exact ⟨m, dd, nn + 1, pr, pI, rfl, rfl, rfl, by go_num, HNx2, HKN, Lib.hid (.inl ⟨by simp, HPI.out.symm⟩), hm, hd, by omega, X_1⟩
         case measure => have := HKL.out; simp [intOf]; omega
     ·have t3 : decide ((nn : Int) < (T : Int)) = false := decide_eq_false (by omega);go_wp2_with fail;go_ret2;exact ⟨m, dd, rfl, HL.out.good, fun hq => absurd hq (by omega), HX.out⟩
    ·have t2 : decide ((a : Int) - (k : Int) ≤ (W : Int)) = false := decide_eq_false (by omega);go_wp2_with fail;go_ret2;exact ⟨m, dd, rfl, HL.out.good, fun hq => HL.out.far (by omega), HX.out⟩
  ·go_wp2_with fail;go_ret2;exact ⟨m, dd, rfl, HL.out.good, fun hq => HL.out.none_, HX.out⟩
end Go.Proofs.YtnhbjgmfbcedaaaDoor
