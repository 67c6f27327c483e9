/-
  inflate.Unzip.
  DeflateTwice's walk.
  The tables of package inflate, out of what a row lists.
  The last step of every law's row, once: a call that returns true and turns nothing that was there meets the row's post.
-/
import Derived.Test.YtnhbjgmfbcedaaaDoorDeflateTwiceG1
import Derived.Test.YtnhbjgmfbcedaaaDoorDeflateTwiceG18
import Derived.Test.YtnhbjgmfbcedaaaDoorDeflateTwiceG4
import Derived.Test.YtnhbjgmfbcedaaaDoorDeflateTwiceG21
import Derived.Lib.LaidTab
import Derived.LaidHandle
import Derived.LaidSub
import Derived.Stop.LaidTwo
import Derived.Test.YtnhbjgmfbcedaaaDoorRows
import Derived.ProofKit
import Derived.ShutString
import Derived.Below
import Derived.OpenShut
set_option linter.unusedSimpArgs false
set_option linter.unusedVariables false
set_option maxRecDepth 100000
namespace Go.Proofs.YtnhbjgmfbcedaaaDoor
open Go.RowKit
set_option linter.unusedSimpArgs false in
set_option maxHeartbeats 4000000 in
theorem unzip_any (s : ByteArray) (most : Int) (w : World) (E : Nat → Addr) (hE : Errs w E) (hTb : Tabs w) (hs : s.size ≤ maxLen) :
  Calls Tryd.prog 18 #[.string s, .int .i64 most] w fun e w' => UzPost w w' E (Inf.unz s most) e := by
 have HE := Lib.hid hE;have HTb := Lib.hid hTb;have HBd := Lib.hid (fun w => bound_any s most w hs);have HI := Lib.hid (fun (t : ByteArray) (ht : t.size ≤ maxLen) (w : World) (hE : Errs w E) (hT : Tabs w) => inflate_any t most w E hE hT ht);have HAd := Lib.hid (fun (t : ByteArray) (w : World) (h : t.size ≤ maxLen) => adler_any t w h);unfold maxLen at hs;obtain ⟨r, hr⟩ : ∃ r, Inf.unz s most = r := ⟨_, rfl⟩;rw [hr];unfold Inf.unz at hr;have ev := (err_cells hE (Ext.refl w)).2;have et := (err_cells hE (Ext.refl w)).1;clear hE hTb;by_cases hb : most < 0 ∨ 300000 < most ∨ 300000 < s.size
 ·rw [if_pos hb] at hr;have hd : decide (most < 0 ∨ 300000 < most ∨ 300000 < s.size) = true := decide_eq_true hb;subst hr;go_enter Tryd.func18, Tryd.ntmps18
  go_wp2_with fail;refine (HBd.out _).mono ?_;rintro e _ ⟨rfl, rfl⟩;rw [hd];clear hd hb;go_wp2_with fail;have ev2 : w.drew.cell? ⟨0, 0, none⟩ = some (.iface 210 (.pointer (some (E 1)))) := ev;refine wp_regionQ (by kernel_rfl) (by kernel_rfl) ?_;refine wpQ_yes (by kernel_rfl) (fun K hK => ?_);go_simp;refine hK _ ?_;clear hK K;refine wpQ_yes (by kernel_rfl) (fun K hK => ?_);go_simp;refine hK _ ?_;clear hK K;refine wpQ_yes (by kernel_rfl) (fun K hK => ?_);go_simp;refine hK _ ?_;clear hK K;refine wpQ_nil ?_;go_wp2_with fail;go_ret2;exact ⟨Below.drew (Ext.refl _), rfl⟩
 ·rw [if_neg hb] at hr;have hd : decide (most < 0 ∨ 300000 < most ∨ 300000 < s.size) = false := decide_eq_false hb;have hsz : s.size ≤ 300000 := by omega
  have HR := Lib.hid hr;go_enter Tryd.func18, Tryd.ntmps18
  go_wp2_with fail;refine (HBd.out _).mono ?_;rintro e _ ⟨rfl, rfl⟩;rw [hd];clear hd hb hr;go_upto_region 3 with fail;go_cut [48] (fun s48 wx => s48 = .bool (decide (¬ Inf.headOk s)) ∧ w.drew = wx)
  case first =>
   by_cases h2 : s.size < 2
   ·have f0 : decide ((s.size : Int) < 2) = true := decide_eq_true (by omega);have HQ : Hid (¬ Inf.headOk s) := Lib.hid (fun h => by have := h.1; omega);refine wp_regionQ (by kernel_rfl) (by kernel_rfl) ?_;refine wpQ_yes (by kernel_rfl) (fun K hK => ?_);go_simp;refine hK _ ?_;clear hK K;refine wpQ_yes (by kernel_rfl) (fun K hK => ?_);go_simp;refine hK _ ?_;clear hK K;refine wpQ_yes (by kernel_rfl) (fun K hK => ?_);go_simp;refine hK _ ?_;clear hK K;refine wpQ_yes (by kernel_rfl) (fun K hK => ?_);go_simp;refine hK _ ?_;clear hK K;refine wpQ_no (by kernel_rfl) ?_;(try simp only [Act.put, xa, xb, xc, xd, xe, xf]);refine wpQ_no (by kernel_rfl) ?_;(try simp only [Act.put, xa, xb, xc, xd, xe, xf]);refine wpQ_no (by kernel_rfl) ?_;(try simp only [Act.put, xa, xb, xc, xd, xe, xf]);refine wpQ_no (by kernel_rfl) ?_;(try simp only [Act.put, xa, xb, xc, xd, xe, xf]);refine wpQ_yes (by kernel_rfl) (fun K hK => ?_);go_simp;refine hK _ ?_;clear hK K;refine wpQ_yes (by kernel_rfl) (fun K hK => ?_);go_simp;refine hK _ ?_;clear hK K;refine wpQ_no (by kernel_rfl) ?_;(try simp only [Act.put, xa, xb, xc, xd, xe, xf]);refine wpQ_no (by kernel_rfl) ?_;(try simp only [Act.put, xa, xb, xc, xd, xe, xf]);refine wpQ_no (by kernel_rfl) ?_;(try simp only [Act.put, xa, xb, xc, xd, xe, xf]);refine wpQ_no (by kernel_rfl) ?_;(try simp only [Act.put, xa, xb, xc, xd, xe, xf]);refine wpQ_yes (by kernel_rfl) (fun K hK => ?_);go_simp;refine hK _ ?_;clear hK K;refine wpQ_yes (by kernel_rfl) (fun K hK => ?_);go_simp;refine hK _ ?_
    clear hK K;refine wpQ_no (by kernel_rfl) ?_;(try simp only [Act.put, xa, xb, xc, xd, xe, xf]);refine wpQ_no (by kernel_rfl) ?_;(try simp only [Act.put, xa, xb, xc, xd, xe, xf]);refine wpQ_no (by kernel_rfl) ?_;(try simp only [Act.put, xa, xb, xc, xd, xe, xf]);refine wpQ_no (by kernel_rfl) ?_;(try simp only [Act.put, xa, xb, xc, xd, xe, xf]);refine wpQ_no (by kernel_rfl) ?_;(try simp only [Act.put, xa, xb, xc, xd, xe, xf]);refine wpQ_no (by kernel_rfl) ?_;(try simp only [Act.put, xa, xb, xc, xd, xe, xf]);refine wpQ_no (by kernel_rfl) ?_;(try simp only [Act.put, xa, xb, xc, xd, xe, xf]);refine wpQ_no (by kernel_rfl) ?_;(try simp only [Act.put, xa, xb, xc, xd, xe, xf]);refine wpQ_no (by kernel_rfl) ?_;(try simp only [Act.put, xa, xb, xc, xd, xe, xf]);refine wpQ_no (by kernel_rfl) ?_;(try simp only [Act.put, xa, xb, xc, xd, xe, xf]);refine wpQ_yes (by kernel_rfl) (fun K hK => ?_);go_simp;refine hK _ ?_;clear hK K;refine wpQ_yes (by kernel_rfl) (fun K hK => ?_);go_simp;refine hK _ ?_;clear hK K;refine wpQ_no (by kernel_rfl) ?_;(try simp only [Act.put, xa, xb, xc, xd, xe, xf]);refine wpQ_no (by kernel_rfl) ?_;(try simp only [Act.put, xa, xb, xc, xd, xe, xf]);refine wpQ_no (by kernel_rfl) ?_;(try simp only [Act.put, xa, xb, xc, xd, xe, xf]);refine wpQ_no (by kernel_rfl) ?_;(try simp only [Act.put, xa, xb, xc, xd, xe, xf]);refine wpQ_yes (by kernel_rfl) (fun K hK => ?_);go_simp;refine hK _ ?_;clear hK K;refine wpQ_nil ?_;(try go_wp2_with fail);clear f0;go_meet
    exact ⟨by rw [show decide (¬ Inf.headOk s) = true from decide_eq_true HQ.out], rfl⟩
   ·have f0 : decide ((s.size : Int) < 2) = false := decide_eq_false (by omega);have h0 : 0 < s.size := by omega
    have h1 : 1 < s.size := by omega
    have h0I : (0 : Int) < (s.size : Int) := by omega
    have h1I : (1 : Int) < (s.size : Int) := by omega
    have HH : Hid (Inf.headOk s ↔ (s[0].toNat % 16 = 8 ∧ s[0].toNat / 16 ≤ 7 ∧ (s[0].toNat * 256 + s[1].toNat) % 31 = 0 ∧ s[1].toNat / 32 % 2 = 0)) := Lib.hid (head_is s h1);have ha := s[0].toNat_lt;have hb := s[1].toNat_lt;obtain ⟨K, hK⟩ : ∃ K : Nat, s[0].toNat * 256 + s[1].toNat = K := ⟨_, rfl⟩;obtain ⟨r31, hr31⟩ : ∃ q : Nat, K % 31 = q := ⟨_, rfl⟩;have mC : (K : Int).tmod 31 = (r31 : Int) := by rw [Int.tmod_eq_emod_of_nonneg (by omega)]; omega
    have wa : ∀ z, z = (s[0].toNat : Int) → IntKind.i64.wrap z = z := by rintro _ rfl; rw [IntKind.wrap_i64]; omega
    have wb : ∀ z, z = (s[1].toNat : Int) → IntKind.i64.wrap z = z := by rintro _ rfl; rw [IntKind.wrap_i64]; omega
    have wr : ∀ z, z = (r31 : Int) → IntKind.i64.wrap z = z := by rintro _ rfl; rw [IntKind.wrap_i64]; omega
    rw [hK, hr31] at HH;have gA := u8_15 s[0].toNat ha;have gD := u8_32 s[1].toNat hb;have gO := i64_or8 s[0].toNat s[1].toNat ha hb;rw [hK] at gO;have wK : ∀ z, z = (K : Int) → IntKind.i64.wrap z = z := by rintro _ rfl; rw [IntKind.wrap_i64]; omega
    have wL : ∀ z, z = (s[0].toNat : Int) * 256 → IntKind.i64.wrap z = z := by rintro _ rfl; rw [IntKind.wrap_i64]; omega
    by_cases hA : s[0].toNat % 16 = 8
    ·have fA : (((s[0].toNat % 16 : Nat) : Int) != 8) = false := by rw [bne_eq_false_iff_eq]; omega
     have mA : (s[0].toNat : Int) % 16 = ((s[0].toNat % 16 : Nat) : Int) := by omega
     have fA2 : ((s[0].toNat : Int) % 16 != 8) = false := by rw [bne_eq_false_iff_eq]; omega
     by_cases hB : s[0].toNat / 16 ≤ 7
     ·have fB : decide ((7 : Int) < (s[0].toNat : Int) / 16) = false := decide_eq_false (by omega);by_cases hC : r31 = 0
      ·have fC : ((r31 : Int) != 0) = false := by rw [bne_eq_false_iff_eq]; omega
       by_cases hD : s[1].toNat / 32 % 2 = 0
       ·have fD : (bits BinOp.and IntKind.u8 (s[1].toNat : Int) 32 != 0) = false := by rw [gD]; exact decide_eq_false (by omega)
        have HQ : Hid (Inf.headOk s) := Lib.hid (HH.out.2 ⟨hA, hB, hC, hD⟩);refine wp_regionQ (by kernel_rfl) (by kernel_rfl) ?_;refine wpQ_yes (by kernel_rfl) (fun K hK => ?_);go_simp;refine hK _ ?_;clear hK K;refine wpQ_yes (by kernel_rfl) (fun K hK => ?_);go_simp;refine hK _ ?_;clear hK K;refine wpQ_yes (by kernel_rfl) (fun K hK => ?_);go_simp;refine hK _ ?_;clear hK K;refine wpQ_yes (by kernel_rfl) (fun K hK => ?_);go_simp;refine hK _ ?_;clear hK K;refine wpQ_yes (by kernel_rfl) (fun K hK => ?_);go_simp;refine hK _ ?_;clear hK K;refine wpQ_yes (by kernel_rfl) (fun K hK => ?_);go_simp;refine hK _ ?_;clear hK K;refine wpQ_yes (by kernel_rfl) (fun K hK => ?_);go_simp;refine hK _ ?_;clear hK K;refine wpQ_yes (by kernel_rfl) (fun K hK => ?_);go_simp;refine hK _ ?_;clear hK K;refine wpQ_yes (by kernel_rfl) (fun K hK => ?_);go_simp;refine hK _ ?_;clear hK K;refine wpQ_yes (by kernel_rfl) (fun K hK => ?_);go_simp;refine hK _ ?_;clear hK K;refine wpQ_yes (by kernel_rfl) (fun K hK => ?_);go_simp;refine hK _ ?_;clear hK K;refine wpQ_yes (by kernel_rfl) (fun K hK => ?_);go_simp;refine hK _ ?_;clear hK K;refine wpQ_yes (by kernel_rfl) (fun K hK => ?_);go_simp;refine hK _ ?_;clear hK K;refine wpQ_yes (by kernel_rfl) (fun K hK => ?_);go_simp;refine hK _ ?_;clear hK K;refine wpQ_yes (by kernel_rfl) (fun K hK => ?_);go_simp;refine hK _ ?_;clear hK K;refine wpQ_yes (by kernel_rfl) (fun K hK => ?_);go_simp;refine hK _ ?_;clear hK K;refine wpQ_yes (by kernel_rfl) (fun K hK => ?_);go_simp;refine hK _ ?_
        clear hK K;refine wpQ_yes (by kernel_rfl) (fun K hK => ?_);go_simp;refine hK _ ?_;clear hK K;refine wpQ_yes (by kernel_rfl) (fun K hK => ?_);go_simp;refine hK _ ?_;clear hK K;refine wpQ_yes (by kernel_rfl) (fun K hK => ?_);go_simp;refine hK _ ?_;clear hK K;refine wpQ_yes (by kernel_rfl) (fun K hK => ?_);go_simp;refine hK _ ?_;clear hK K;refine wpQ_yes (by kernel_rfl) (fun K hK => ?_);go_simp;refine hK _ ?_;clear hK K;refine wpQ_yes (by kernel_rfl) (fun K hK => ?_);go_simp;refine hK _ ?_;clear hK K;refine wpQ_yes (by kernel_rfl) (fun K hK => ?_);go_simp;refine hK _ ?_;clear hK K;refine wpQ_yes (by kernel_rfl) (fun K hK => ?_);go_simp;refine hK _ ?_;clear hK K;refine wpQ_yes (by kernel_rfl) (fun K hK => ?_);go_simp;refine hK _ ?_;clear hK K;refine wpQ_yes (by kernel_rfl) (fun K hK => ?_);go_simp;refine hK _ ?_;clear hK K;refine wpQ_yes (by kernel_rfl) (fun K hK => ?_);go_simp;refine hK _ ?_;clear hK K;refine wpQ_yes (by kernel_rfl) (fun K hK => ?_);go_simp;refine hK _ ?_;clear hK K;refine wpQ_yes (by kernel_rfl) (fun K hK => ?_);go_simp;refine hK _ ?_;clear hK K;refine wpQ_yes (by kernel_rfl) (fun K hK => ?_);go_simp;refine hK _ ?_;clear hK K;refine wpQ_yes (by kernel_rfl) (fun K hK => ?_);go_simp;refine hK _ ?_;clear hK K;refine wpQ_yes (by kernel_rfl) (fun K hK => ?_);go_simp;refine hK _ ?_;clear hK K;refine wpQ_nil ?_;(try go_wp2_with fail);clear fA fB fC fD;go_meet
        exact ⟨by rw [show decide (¬ Inf.headOk s) = false from decide_eq_false (fun h => h HQ.out)], rfl⟩
       ·have fD : (bits BinOp.and IntKind.u8 (s[1].toNat : Int) 32 != 0) = true := by rw [gD]; exact decide_eq_true (by omega)
        have HQ : Hid (¬ Inf.headOk s) := Lib.hid (fun h => hD (HH.out.1 h).2.2.2);refine wp_regionQ (by kernel_rfl) (by kernel_rfl) ?_;refine wpQ_yes (by kernel_rfl) (fun K hK => ?_);go_simp;refine hK _ ?_;clear hK K;refine wpQ_yes (by kernel_rfl) (fun K hK => ?_);go_simp;refine hK _ ?_;clear hK K;refine wpQ_yes (by kernel_rfl) (fun K hK => ?_);go_simp;refine hK _ ?_;clear hK K;refine wpQ_yes (by kernel_rfl) (fun K hK => ?_);go_simp;refine hK _ ?_;clear hK K;refine wpQ_yes (by kernel_rfl) (fun K hK => ?_);go_simp;refine hK _ ?_;clear hK K;refine wpQ_yes (by kernel_rfl) (fun K hK => ?_);go_simp;refine hK _ ?_;clear hK K;refine wpQ_yes (by kernel_rfl) (fun K hK => ?_);go_simp;refine hK _ ?_;clear hK K;refine wpQ_yes (by kernel_rfl) (fun K hK => ?_);go_simp;refine hK _ ?_;clear hK K;refine wpQ_yes (by kernel_rfl) (fun K hK => ?_);go_simp;refine hK _ ?_;clear hK K;refine wpQ_yes (by kernel_rfl) (fun K hK => ?_);go_simp;refine hK _ ?_;clear hK K;refine wpQ_yes (by kernel_rfl) (fun K hK => ?_);go_simp;refine hK _ ?_;clear hK K;refine wpQ_yes (by kernel_rfl) (fun K hK => ?_);go_simp;refine hK _ ?_;clear hK K;refine wpQ_yes (by kernel_rfl) (fun K hK => ?_);go_simp;refine hK _ ?_;clear hK K;refine wpQ_yes (by kernel_rfl) (fun K hK => ?_);go_simp;refine hK _ ?_;clear hK K;refine wpQ_yes (by kernel_rfl) (fun K hK => ?_);go_simp;refine hK _ ?_;clear hK K;refine wpQ_yes (by kernel_rfl) (fun K hK => ?_);go_simp;refine hK _ ?_;clear hK K;refine wpQ_yes (by kernel_rfl) (fun K hK => ?_);go_simp;refine hK _ ?_
        clear hK K;refine wpQ_yes (by kernel_rfl) (fun K hK => ?_);go_simp;refine hK _ ?_;clear hK K;refine wpQ_yes (by kernel_rfl) (fun K hK => ?_);go_simp;refine hK _ ?_;clear hK K;refine wpQ_yes (by kernel_rfl) (fun K hK => ?_);go_simp;refine hK _ ?_;clear hK K;refine wpQ_yes (by kernel_rfl) (fun K hK => ?_);go_simp;refine hK _ ?_;clear hK K;refine wpQ_yes (by kernel_rfl) (fun K hK => ?_);go_simp;refine hK _ ?_;clear hK K;refine wpQ_yes (by kernel_rfl) (fun K hK => ?_);go_simp;refine hK _ ?_;clear hK K;refine wpQ_yes (by kernel_rfl) (fun K hK => ?_);go_simp;refine hK _ ?_;clear hK K;refine wpQ_yes (by kernel_rfl) (fun K hK => ?_);go_simp;refine hK _ ?_;clear hK K;refine wpQ_yes (by kernel_rfl) (fun K hK => ?_);go_simp;refine hK _ ?_;clear hK K;refine wpQ_yes (by kernel_rfl) (fun K hK => ?_);go_simp;refine hK _ ?_;clear hK K;refine wpQ_yes (by kernel_rfl) (fun K hK => ?_);go_simp;refine hK _ ?_;clear hK K;refine wpQ_yes (by kernel_rfl) (fun K hK => ?_);go_simp;refine hK _ ?_;clear hK K;refine wpQ_yes (by kernel_rfl) (fun K hK => ?_);go_simp;refine hK _ ?_;clear hK K;refine wpQ_yes (by kernel_rfl) (fun K hK => ?_);go_simp;refine hK _ ?_;clear hK K;refine wpQ_yes (by kernel_rfl) (fun K hK => ?_);go_simp;refine hK _ ?_;clear hK K;refine wpQ_yes (by kernel_rfl) (fun K hK => ?_);go_simp;refine hK _ ?_;clear hK K;refine wpQ_nil ?_;(try go_wp2_with fail);clear fA fB fC fD;go_meet
        exact ⟨by rw [show decide (¬ Inf.headOk s) = true from decide_eq_true HQ.out], rfl⟩
      ·have fC : ((r31 : Int) != 0) = true := by rw [bne_iff_ne]; omega
       have HQ : Hid (¬ Inf.headOk s) := Lib.hid (fun h => hC (HH.out.1 h).2.2.1);refine wp_regionQ (by kernel_rfl) (by kernel_rfl) ?_;refine wpQ_yes (by kernel_rfl) (fun K hK => ?_);go_simp;refine hK _ ?_;clear hK K;refine wpQ_yes (by kernel_rfl) (fun K hK => ?_);go_simp;refine hK _ ?_;clear hK K;refine wpQ_yes (by kernel_rfl) (fun K hK => ?_);go_simp;refine hK _ ?_;clear hK K;refine wpQ_yes (by kernel_rfl) (fun K hK => ?_);go_simp;refine hK _ ?_;clear hK K;refine wpQ_yes (by kernel_rfl) (fun K hK => ?_);go_simp;refine hK _ ?_;clear hK K;refine wpQ_yes (by kernel_rfl) (fun K hK => ?_);go_simp;refine hK _ ?_;clear hK K;refine wpQ_yes (by kernel_rfl) (fun K hK => ?_);go_simp;refine hK _ ?_;clear hK K;refine wpQ_yes (by kernel_rfl) (fun K hK => ?_);go_simp;refine hK _ ?_;clear hK K;refine wpQ_yes (by kernel_rfl) (fun K hK => ?_);go_simp;refine hK _ ?_;clear hK K;refine wpQ_yes (by kernel_rfl) (fun K hK => ?_);go_simp;refine hK _ ?_;clear hK K;refine wpQ_yes (by kernel_rfl) (fun K hK => ?_);go_simp;refine hK _ ?_;clear hK K;refine wpQ_yes (by kernel_rfl) (fun K hK => ?_);go_simp;refine hK _ ?_;clear hK K;refine wpQ_yes (by kernel_rfl) (fun K hK => ?_);go_simp;refine hK _ ?_;clear hK K;refine wpQ_yes (by kernel_rfl) (fun K hK => ?_);go_simp;refine hK _ ?_;clear hK K;refine wpQ_yes (by kernel_rfl) (fun K hK => ?_);go_simp;refine hK _ ?_;clear hK K;refine wpQ_yes (by kernel_rfl) (fun K hK => ?_);go_simp;refine hK _ ?_;clear hK K;refine wpQ_yes (by kernel_rfl) (fun K hK => ?_);go_simp;refine hK _ ?_
       clear hK K;refine wpQ_yes (by kernel_rfl) (fun K hK => ?_);go_simp;refine hK _ ?_;clear hK K;refine wpQ_yes (by kernel_rfl) (fun K hK => ?_);go_simp;refine hK _ ?_;clear hK K;refine wpQ_yes (by kernel_rfl) (fun K hK => ?_);go_simp;refine hK _ ?_;clear hK K;refine wpQ_yes (by kernel_rfl) (fun K hK => ?_);go_simp;refine hK _ ?_;clear hK K;refine wpQ_yes (by kernel_rfl) (fun K hK => ?_);go_simp;refine hK _ ?_;clear hK K;refine wpQ_yes (by kernel_rfl) (fun K hK => ?_);go_simp;refine hK _ ?_;clear hK K;refine wpQ_yes (by kernel_rfl) (fun K hK => ?_);go_simp;refine hK _ ?_;clear hK K;refine wpQ_yes (by kernel_rfl) (fun K hK => ?_);go_simp;refine hK _ ?_;clear hK K;refine wpQ_yes (by kernel_rfl) (fun K hK => ?_);go_simp;refine hK _ ?_;clear hK K;refine wpQ_yes (by kernel_rfl) (fun K hK => ?_);go_simp;refine hK _ ?_;clear hK K;refine wpQ_yes (by kernel_rfl) (fun K hK => ?_);go_simp;refine hK _ ?_;clear hK K;refine wpQ_no (by kernel_rfl) ?_;(try simp only [Act.put, xa, xb, xc, xd, xe, xf]);refine wpQ_no (by kernel_rfl) ?_;(try simp only [Act.put, xa, xb, xc, xd, xe, xf]);refine wpQ_no (by kernel_rfl) ?_;(try simp only [Act.put, xa, xb, xc, xd, xe, xf]);refine wpQ_no (by kernel_rfl) ?_;(try simp only [Act.put, xa, xb, xc, xd, xe, xf]);refine wpQ_yes (by kernel_rfl) (fun K hK => ?_);go_simp;refine hK _ ?_;clear hK K;refine wpQ_nil ?_;(try go_wp2_with fail);clear fA fB fC;go_meet
       exact ⟨by rw [show decide (¬ Inf.headOk s) = true from decide_eq_true HQ.out], rfl⟩
     ·have fB : decide ((7 : Int) < (s[0].toNat : Int) / 16) = true := decide_eq_true (by omega);have HQ : Hid (¬ Inf.headOk s) := Lib.hid (fun h => hB (HH.out.1 h).2.1);refine wp_regionQ (by kernel_rfl) (by kernel_rfl) ?_;refine wpQ_yes (by kernel_rfl) (fun K hK => ?_);go_simp;refine hK _ ?_;clear hK K;refine wpQ_yes (by kernel_rfl) (fun K hK => ?_);go_simp;refine hK _ ?_;clear hK K;refine wpQ_yes (by kernel_rfl) (fun K hK => ?_);go_simp;refine hK _ ?_;clear hK K;refine wpQ_yes (by kernel_rfl) (fun K hK => ?_);go_simp;refine hK _ ?_;clear hK K;refine wpQ_yes (by kernel_rfl) (fun K hK => ?_);go_simp;refine hK _ ?_;clear hK K;refine wpQ_yes (by kernel_rfl) (fun K hK => ?_);go_simp;refine hK _ ?_;clear hK K;refine wpQ_yes (by kernel_rfl) (fun K hK => ?_);go_simp;refine hK _ ?_;clear hK K;refine wpQ_yes (by kernel_rfl) (fun K hK => ?_);go_simp;refine hK _ ?_;clear hK K;refine wpQ_yes (by kernel_rfl) (fun K hK => ?_);go_simp;refine hK _ ?_;clear hK K;refine wpQ_yes (by kernel_rfl) (fun K hK => ?_);go_simp;refine hK _ ?_;clear hK K;refine wpQ_yes (by kernel_rfl) (fun K hK => ?_);go_simp;refine hK _ ?_;clear hK K;refine wpQ_yes (by kernel_rfl) (fun K hK => ?_);go_simp;refine hK _ ?_;clear hK K;refine wpQ_yes (by kernel_rfl) (fun K hK => ?_);go_simp;refine hK _ ?_;clear hK K;refine wpQ_yes (by kernel_rfl) (fun K hK => ?_);go_simp;refine hK _ ?_;clear hK K;refine wpQ_yes (by kernel_rfl) (fun K hK => ?_);go_simp;refine hK _ ?_;clear hK K;refine wpQ_yes (by kernel_rfl) (fun K hK => ?_);go_simp
      refine hK _ ?_;clear hK K;refine wpQ_no (by kernel_rfl) ?_;(try simp only [Act.put, xa, xb, xc, xd, xe, xf]);refine wpQ_no (by kernel_rfl) ?_;(try simp only [Act.put, xa, xb, xc, xd, xe, xf]);refine wpQ_no (by kernel_rfl) ?_;(try simp only [Act.put, xa, xb, xc, xd, xe, xf]);refine wpQ_no (by kernel_rfl) ?_;(try simp only [Act.put, xa, xb, xc, xd, xe, xf]);refine wpQ_no (by kernel_rfl) ?_;(try simp only [Act.put, xa, xb, xc, xd, xe, xf]);refine wpQ_no (by kernel_rfl) ?_;(try simp only [Act.put, xa, xb, xc, xd, xe, xf]);refine wpQ_no (by kernel_rfl) ?_;(try simp only [Act.put, xa, xb, xc, xd, xe, xf]);refine wpQ_no (by kernel_rfl) ?_;(try simp only [Act.put, xa, xb, xc, xd, xe, xf]);refine wpQ_no (by kernel_rfl) ?_;(try simp only [Act.put, xa, xb, xc, xd, xe, xf]);refine wpQ_no (by kernel_rfl) ?_;(try simp only [Act.put, xa, xb, xc, xd, xe, xf]);refine wpQ_yes (by kernel_rfl) (fun K hK => ?_);go_simp;refine hK _ ?_;clear hK K;refine wpQ_yes (by kernel_rfl) (fun K hK => ?_);go_simp;refine hK _ ?_;clear hK K;refine wpQ_no (by kernel_rfl) ?_;(try simp only [Act.put, xa, xb, xc, xd, xe, xf]);refine wpQ_no (by kernel_rfl) ?_;(try simp only [Act.put, xa, xb, xc, xd, xe, xf]);refine wpQ_no (by kernel_rfl) ?_;(try simp only [Act.put, xa, xb, xc, xd, xe, xf]);refine wpQ_no (by kernel_rfl) ?_;(try simp only [Act.put, xa, xb, xc, xd, xe, xf]);refine wpQ_yes (by kernel_rfl) (fun K hK => ?_);go_simp;refine hK _ ?_;clear hK K;refine wpQ_nil ?_;(try go_wp2_with fail);clear fA fB;go_meet
      exact ⟨by rw [show decide (¬ Inf.headOk s) = true from decide_eq_true HQ.out], rfl⟩
    ·have fA : (((s[0].toNat % 16 : Nat) : Int) != 8) = true := by rw [bne_iff_ne]; omega
     have mA : (s[0].toNat : Int) % 16 = ((s[0].toNat % 16 : Nat) : Int) := by omega
     have fA2 : ((s[0].toNat : Int) % 16 != 8) = true := by rw [bne_iff_ne]; omega
     have HQ : Hid (¬ Inf.headOk s) := Lib.hid (fun h => hA (HH.out.1 h).1);refine wp_regionQ (by kernel_rfl) (by kernel_rfl) ?_;refine wpQ_yes (by kernel_rfl) (fun K hK => ?_);go_simp;refine hK _ ?_;clear hK K;refine wpQ_yes (by kernel_rfl) (fun K hK => ?_);go_simp;refine hK _ ?_;clear hK K;refine wpQ_yes (by kernel_rfl) (fun K hK => ?_);go_simp;refine hK _ ?_;clear hK K;refine wpQ_yes (by kernel_rfl) (fun K hK => ?_);go_simp;refine hK _ ?_;clear hK K;refine wpQ_yes (by kernel_rfl) (fun K hK => ?_);go_simp;refine hK _ ?_;clear hK K;refine wpQ_yes (by kernel_rfl) (fun K hK => ?_);go_simp;refine hK _ ?_;clear hK K;refine wpQ_yes (by kernel_rfl) (fun K hK => ?_);go_simp;refine hK _ ?_;clear hK K;refine wpQ_yes (by kernel_rfl) (fun K hK => ?_);go_simp;refine hK _ ?_;clear hK K;refine wpQ_yes (by kernel_rfl) (fun K hK => ?_);go_simp;refine hK _ ?_;clear hK K;refine wpQ_yes (by kernel_rfl) (fun K hK => ?_);go_simp;refine hK _ ?_;clear hK K;refine wpQ_no (by kernel_rfl) ?_;(try simp only [Act.put, xa, xb, xc, xd, xe, xf]);refine wpQ_no (by kernel_rfl) ?_;(try simp only [Act.put, xa, xb, xc, xd, xe, xf]);refine wpQ_no (by kernel_rfl) ?_;(try simp only [Act.put, xa, xb, xc, xd, xe, xf]);refine wpQ_no (by kernel_rfl) ?_;(try simp only [Act.put, xa, xb, xc, xd, xe, xf]);refine wpQ_yes (by kernel_rfl) (fun K hK => ?_);go_simp;refine hK _ ?_;clear hK K;refine wpQ_yes (by kernel_rfl) (fun K hK => ?_);go_simp;refine hK _ ?_;clear hK K;refine wpQ_no (by kernel_rfl) ?_;try simp only [Act.put, xa, xb, xc, xd, xe, xf]
     refine wpQ_no (by kernel_rfl) ?_;(try simp only [Act.put, xa, xb, xc, xd, xe, xf]);refine wpQ_no (by kernel_rfl) ?_;(try simp only [Act.put, xa, xb, xc, xd, xe, xf]);refine wpQ_no (by kernel_rfl) ?_;(try simp only [Act.put, xa, xb, xc, xd, xe, xf]);refine wpQ_no (by kernel_rfl) ?_;(try simp only [Act.put, xa, xb, xc, xd, xe, xf]);refine wpQ_no (by kernel_rfl) ?_;(try simp only [Act.put, xa, xb, xc, xd, xe, xf]);refine wpQ_no (by kernel_rfl) ?_;(try simp only [Act.put, xa, xb, xc, xd, xe, xf]);refine wpQ_no (by kernel_rfl) ?_;(try simp only [Act.put, xa, xb, xc, xd, xe, xf]);refine wpQ_no (by kernel_rfl) ?_;(try simp only [Act.put, xa, xb, xc, xd, xe, xf]);refine wpQ_no (by kernel_rfl) ?_;(try simp only [Act.put, xa, xb, xc, xd, xe, xf]);refine wpQ_yes (by kernel_rfl) (fun K hK => ?_);go_simp;refine hK _ ?_;clear hK K;refine wpQ_yes (by kernel_rfl) (fun K hK => ?_);go_simp;refine hK _ ?_;clear hK K;refine wpQ_no (by kernel_rfl) ?_;(try simp only [Act.put, xa, xb, xc, xd, xe, xf]);refine wpQ_no (by kernel_rfl) ?_;(try simp only [Act.put, xa, xb, xc, xd, xe, xf]);refine wpQ_no (by kernel_rfl) ?_;(try simp only [Act.put, xa, xb, xc, xd, xe, xf]);refine wpQ_no (by kernel_rfl) ?_;(try simp only [Act.put, xa, xb, xc, xd, xe, xf]);refine wpQ_yes (by kernel_rfl) (fun K hK => ?_);go_simp;refine hK _ ?_;clear hK K;refine wpQ_nil ?_;(try go_wp2_with fail);clear fA;go_meet
     exact ⟨by rw [show decide (¬ Inf.headOk s) = true from decide_eq_true HQ.out], rfl⟩
  case rest =>
   obtain ⟨rfl, rfl⟩ := hcut;by_cases hh : Inf.headOk s
   ·have HQ := Lib.hid hh;rw [decide_eq_false (fun h => h hh)];have h2 := hh.1;clear hh;go_wp2_with fail;have hr := HR.out;rw [if_neg (fun h => h HQ.out)] at hr;have HR2 := Lib.hid hr;clear hr HR;obtain ⟨S, hS⟩ : ∃ S, s.extract 2 s.size = S := ⟨_, rfl⟩;have hSs : S.size = s.size - 2 := by rw [← hS]; simp
    have h2n : 2 ≤ s.size := by omega
    have h2I : (2 : Int) ≤ (s.size : Int) := by omega
    go_wp2_with fail;rw [hS];refine (HI.out S (by rw [hSs]; unfold maxLen; omega) _ (HE.out.ext (Below.drew (Ext.refl _))) (HTb.out.ext (Below.drew (Ext.refl _)))).mono ?_;rintro e w2 ⟨h2x, he⟩;have X2 : Hid (Ext w w2) := Lib.hid (Ext.trans (Below.drew (Ext.refl _)) h2x);clear h2x et ev;rw [hS] at HR2;cases hi : Inf.infl S most with
    | error c =>
     rw [hi] at he HR2;simp only at he HR2;subst he;unfold sentV;go_wp2_with fail;go_ret2;rw [← HR2.out];exact ⟨X2.out, rfl⟩
    | ok q =>
     obtain ⟨out, used, bl⟩ := q;have hbd := Inf.infl_most hi;have hus : used ≤ s.size - 2 := by rw [← hSs]; exact hbd.2.1
     have hob : out.length ≤ 300000 := by have := Inf.infl_bd hi; omega
     rw [hi] at he HR2;simp only at he HR2;obtain ⟨T, hT⟩ : ∃ T, tb out = T := ⟨_, rfl⟩;have hTs : T.size = out.length := by rw [← hT, tb_size]
     have hTl : T.data.toList = out := by rw [← hT]; simp [tb]
     rw [hT] at he;subst he;have HT := Lib.hid hT;obtain ⟨A, hA0⟩ : ∃ A, 2 + used = A := ⟨_, rfl⟩;have hAI : (2 : Int) + (used : Int) = (A : Int) := by omega
     have wA : ∀ z, z = (A : Int) → IntKind.i64.wrap z = z := by rintro _ rfl; rw [IntKind.wrap_i64]; omega
     have hAs : A ≤ s.size := by omega
     have hAsI : (A : Int) ≤ (s.size : Int) := by omega
     have hA0n : (0 : Int) ≤ (A : Int) := by omega
     have hAt : ((A : Nat) : Int).toNat = A := by omega
     rw [hA0] at HR2;obtain ⟨R, hR⟩ : ∃ R, s.extract A s.size = R := ⟨_, rfl⟩;have hRs : R.size = s.size - A := by rw [← hR]; simp
     have hRl : R.data.toList = s.data.toList.drop A := by rw [← hR, ex_list, List.take_of_length_le (by rw [List.length_drop, bytes_len]; omega)]
     have HRl := Lib.hid hRl;have HTl := Lib.hid hTl;clear hi hbd hT hTl hRl hS h2;by_cases h4 : R.size = 4
     ·have t4 : ((R.size : Int) != 4) = false := by rw [bne_eq_false_iff_eq]; omega
      have hr := HR2.out;rw [if_neg (by omega)] at hr;have HR3 := Lib.hid hr;clear hr HR2 hRs;go_wp2_with fail;clear t4 hAI wA hR hAsI hA0n hAt;go_loopw [10, 69] (fun x c wr => ∃ k : Nat, k ≤ 4 ∧ c = .int .i64 k ∧ x = .int .u32 ((valN (R.data.toList.take k) : Nat) : Int) ∧ Hid (Ext w2 wr)) (fun _ c _ => 4 - (intOf c).toNat)
      case atStart => exact ⟨0, by omega, rfl, by rw [List.take_zero]; rfl, Lib.hid (Ext.refl _)⟩
      case round =>
       obtain ⟨k, hk, rfl, rfl, HW⟩ := hrel;have X3 := Lib.hid (X2.out.trans HW.out);by_cases hlt : k < 4
       ·have t0 : decide ((k : Int) < 4) = true := decide_eq_true (by omega);have hks : k < R.size := by omega
        have hk0 : (0 : Int) ≤ (k : Int) := by omega
        have hksI : (k : Int) < (R.size : Int) := by omega
        have hv : valN (R.data.toList.take (k + 1)) = vstep (valN (R.data.toList.take k)) R[k] := valN_succ (by rw [bytes_len]; exact hks);obtain ⟨x, hx⟩ : ∃ x, valN (R.data.toList.take k) = x := ⟨_, rfl⟩;have hxl := valN_lt (R.data.toList.take k);rw [hx] at hv hxl ⊢;have ho := or_low8 x R[k];have wk : ∀ z, z = (k : Int) + 1 → IntKind.i64.wrap z = z := by rintro _ rfl; rw [IntKind.wrap_i64]; omega
        go_wp2_with fail;go_roundw
        case rel => exact ⟨k + 1, by omega, by go_num, by rw [hv], HW⟩
        case measure => simp [intOf]; omega
       ·obtain rfl : k = 4 := by omega
        have e1 : R.data.toList.take 4 = R.data.toList := List.take_of_length_le (by rw [bytes_len]; omega);rw [e1, HRl.out];have hr := HR3.out;obtain ⟨v, hv⟩ : ∃ v, valN (s.data.toList.drop A) = v := ⟨_, rfl⟩;rw [hv] at hr ⊢;have hTm : T.size ≤ maxLen := by unfold maxLen; omega
        go_wp2_with fail;refine (HAd.out T _ hTm).mono ?_;rintro e w3 ⟨rfl, h3⟩;subst h3;rw [HTl.out];obtain ⟨y, hy⟩ : ∃ y, Adl.adler out = y := ⟨_, rfl⟩;rw [hy] at hr ⊢;by_cases hvy : v = y
        ·have t5 : ((v : Int) != (y : Int)) = false := by rw [bne_eq_false_iff_eq]; omega
         rw [if_neg (fun h => h hvy)] at hr;subst hr;go_wp2_with fail;go_ret2;exact ⟨X3.out, by show _ = Ending.returned (.tuple #[.string (tb out), .nilIface]); rw [HT.out]; rfl⟩
        ·have t5 : ((v : Int) != (y : Int)) = true := by rw [bne_iff_ne]; omega
         rw [if_pos hvy] at hr;subst hr;go_wp2_with fail;have es : wr.drew.cell? ⟨2, 0, none⟩ = some (.iface 210 (.pointer (some (E 3)))) := ext_cell X3.out (HE.out.var 3 (by decide));refine wp_regionQ (by kernel_rfl) (by kernel_rfl) ?_;refine wpQ_yes (by kernel_rfl) (fun K hK => ?_);go_simp;refine hK _ ?_;clear hK K;refine wpQ_yes (by kernel_rfl) (fun K hK => ?_);go_simp;refine hK _ ?_;clear hK K;refine wpQ_yes (by kernel_rfl) (fun K hK => ?_);go_simp;refine hK _ ?_;clear hK K;refine wpQ_nil ?_;go_wp2_with fail;go_ret2;exact ⟨Below.drew X3.out, rfl⟩
     ·have t4 : ((R.size : Int) != 4) = true := by rw [bne_iff_ne]; omega
      have hr := HR2.out;rw [if_pos (by omega)] at hr;subst hr;clear hRs;go_wp2_with fail;have et2 : w2.drew.cell? ⟨1, 0, none⟩ = some (.iface 210 (.pointer (some (E 0)))) := (err_cells HE.out X2.out).1;refine wp_regionQ (by kernel_rfl) (by kernel_rfl) ?_;refine wpQ_yes (by kernel_rfl) (fun K hK => ?_);go_simp;refine hK _ ?_;clear hK K;refine wpQ_yes (by kernel_rfl) (fun K hK => ?_);go_simp;refine hK _ ?_;clear hK K;refine wpQ_yes (by kernel_rfl) (fun K hK => ?_);go_simp;refine hK _ ?_;clear hK K;refine wpQ_nil ?_;go_wp2_with fail;go_ret2;exact ⟨Below.drew X2.out, rfl⟩
   ·have HQ := Lib.hid hh;rw [decide_eq_true hh];clear hh;go_wp2_with fail;have hr := HR.out;rw [if_pos HQ.out] at hr;subst hr;have et2 : w.drew.drew.cell? ⟨1, 0, none⟩ = some (.iface 210 (.pointer (some (E 0)))) := et;refine wp_regionQ (by kernel_rfl) (by kernel_rfl) ?_;refine wpQ_yes (by kernel_rfl) (fun K hK => ?_);go_simp;refine hK _ ?_;clear hK K;refine wpQ_yes (by kernel_rfl) (fun K hK => ?_);go_simp;refine hK _ ?_;clear hK K;refine wpQ_yes (by kernel_rfl) (fun K hK => ?_);go_simp;refine hK _ ?_;clear hK K;refine wpQ_nil ?_;go_wp2_with fail;go_ret2;exact ⟨Below.drew (Below.drew (Ext.refl _)), rfl⟩
end Go.Proofs.YtnhbjgmfbcedaaaDoor
namespace Go.Proofs.YtnhbjgmfbcedaaaDoor
open Go.RowKit
def behindL : List UInt8 := [98, 101, 104, 105, 110, 100]
theorem behind_infl {l t : List UInt8} (h : Reads l t) (hl : l.length + 6 ≤ 300000) {most : Nat} (hm : t.length ≤ most) (hmm : most ≤ 300000) : ∃ bl, Inf.infl ((⟨l.toArray⟩ : ByteArray) ++ ⟨#[98, 101, 104, 105, 110, 100]⟩) (most : Int) = .ok (t, l.length, bl) := by
 obtain ⟨bl, q⟩ := h.infl behindL (by show l.length + 6 ≤ _; exact hl) hm hmm;refine ⟨bl, ?_⟩;rw [show (⟨#[98, 101, 104, 105, 110, 100]⟩ : ByteArray) = ⟨behindL.toArray⟩ from rfl, ba_app];exact q
theorem behind_size (l : List UInt8) : ((⟨l.toArray⟩ : ByteArray) ++ ⟨#[98, 101, 104, 105, 110, 100]⟩).size = l.length + 6 := by
 rw [ByteArray.size_append]; rfl
set_option maxHeartbeats 4000000 in
theorem deflateTwice_any (s : ByteArray) (window : Int) (w : World) (E : Nat → Addr) (hE : Errs w E) (hTb : Tabs w) (hs : s.size ≤ maxLen) :
  Calls Tryd.prog 10 #[.string s, .int .i64 window] w fun e w' => e = .returned (.bool true) ∧ Ext w w' := by
 have HTb := Lib.hid hTb;have HE := Lib.hid hE;have HBl := Lib.hid (fun w => blank_calls w);unfold maxLen at hs;clear hTb hE;by_cases h1 : 3000 < s.size
 ·have t0 : decide ((3000 : Int) < (s.size : Int)) = true := decide_eq_true (by omega);go_enter Tryd.func10, Tryd.ntmps10
  go_wp2_with fail;refine (HBl.out _).mono ?_;rintro e w1 ⟨rfl, h1⟩;have X1 := Lib.hid (h1);clear h1;go_wp2_with fail;go_ret;exact ⟨rfl, X1.out⟩
 have n1 : ¬ 3000 < s.size := h1;have t0 : decide ((3000 : Int) < (s.size : Int)) = false := decide_eq_false (by omega);by_cases h2 : window < 1
 ·have t1 : decide (window < 1) = true := decide_eq_true h2;go_enter Tryd.func10, Tryd.ntmps10
  go_wp2_with fail;refine (HBl.out _).mono ?_;rintro e w1 ⟨rfl, h1⟩;have X1 := Lib.hid (h1);clear h1;go_wp2_with fail;go_ret;exact ⟨rfl, X1.out⟩
 have t1 : decide (window < 1) = false := decide_eq_false h2;by_cases h3 : 32768 < window
 ·have t2 : decide (32768 < window) = true := decide_eq_true h3;go_enter Tryd.func10, Tryd.ntmps10
  go_wp2_with fail;refine (HBl.out _).mono ?_;rintro e w1 ⟨rfl, h1⟩;have X1 := Lib.hid (h1);clear h1;go_wp2_with fail;go_ret;exact ⟨rfl, X1.out⟩
 have hs3 : s.size ≤ 3000 := by omega
 obtain ⟨m, rfl⟩ : ∃ m : Nat, window = m := ⟨window.toNat, by omega⟩;have t2 : decide ((32768 : Int) < (m : Int)) = false := decide_eq_false (by omega);have n2 : ¬ m < 1 := by omega
 have n3 : ¬ 32768 < m := by omega
 have HK := Lib.hid (fun w => tokens_good s m w (by omega) (by omega) (by omega));clear h1 h2 h3;go_enter Tryd.func10, Tryd.ntmps10
 go_wp2_with fail;refine (HBl.out _).mono ?_;rintro e w1 ⟨rfl, h1⟩;have X1 := Lib.hid (h1);clear h1;go_wp2_with fail;clear t0 t1 t2 n1 n2 n3;refine (HK.out _).mono ?_;rintro e w2 ⟨ts, v, rfl, hown, hTL, hX⟩;obtain ⟨x, c, rfl, hT⟩ := toks_own hown hTL;have HT := Lib.hid hT;have HTL := Lib.hid hTL;have X2 := Lib.hid (X1.out.trans hX);have hfew := hTL.few;have hM := tl_means hTL;have hfl := Dfl.fixedB_len hM.ok;have HM := Lib.hid hM;obtain ⟨n, hn⟩ : ∃ n, ts.length = n := ⟨_, rfl⟩;have HX := Lib.hid (tl_exp hTL);have HMP := Lib.hid (tkl_map ts);rw [hn] at HT hfew hfl HX HMP;rw [hn];have HN := Lib.hid hn;clear hown hTL hT hX hn hM;go_wp2_with fail;refine (fixedD_any x n c (tkl ts) w2 E (HE.out.ext X2.out) (HTb.out.ext X2.out) HT.out (by unfold maxLen; omega)).mono ?_;rintro e w3 ⟨h3, hr⟩;rw [HX.out, HMP.out] at hr;rcases hr with ⟨out, a, ho, ha1, ha2, rfl⟩ | ⟨_, _, _, _, _, ho, _⟩;rotate_left
 ·cases ho
 have hRa := reads_fixed HM.out ha1 ha2;obtain ⟨bla, hia⟩ := behind_infl hRa (by omega) (most := s.size) (by rw [list_sz]; exact Nat.le_refl _) (by omega);have hal : a.length ≤ 50000 := by omega
 have X3 := Lib.hid (X2.out.trans h3);have HT3 := Lib.hid (HT.out.ext h3);have HIa := Lib.hid (fun (w : World) (hE : Errs w E) (hT : Tabs w) => inflate_any ((⟨a.toArray⟩ : ByteArray) ++ ⟨#[98, 101, 104, 105, 110, 100]⟩) (s.size : Int) w E hE hT (by rw [behind_size]; unfold maxLen; omega));rw [hia] at HIa;unfold InfPost at HIa;simp only [tb_self] at HIa;clear ho ha1 ha2 hRa hia h3 HT hfl;go_wp2_with fail;refine (dynamicD_any x n c (tkl ts) w3 E (HE.out.ext X3.out) (HTb.out.ext X3.out) HT3.out (by unfold maxLen; omega)).mono ?_;rintro e w4 ⟨h4, hr⟩;rw [HX.out, HMP.out] at hr;rcases hr with ⟨out2, many, far, few, rs, b, ho, hok, hb1, hb2, rfl⟩ | ⟨_, _, _, _, _, ho, _⟩;rotate_left
 ·cases ho
 have hRb := reads_dyn HM.out hok hb1 hb2;have hdl := Dfl.dynB_len hok HM.out.ok;rw [HN.out] at hdl;have hbl : b.length ≤ 50000 := by omega
 obtain ⟨blb, hib⟩ := behind_infl hRb (by omega) (most := s.size) (by rw [list_sz]; exact Nat.le_refl _) (by omega);have X4 := Lib.hid (X3.out.trans h4);have HIb := Lib.hid (fun (w : World) (hE : Errs w E) (hT : Tabs w) => inflate_any ((⟨b.toArray⟩ : ByteArray) ++ ⟨#[98, 101, 104, 105, 110, 100]⟩) (s.size : Int) w E hE hT (by rw [behind_size]; unfold maxLen; omega));rw [hib] at HIb;unfold InfPost at HIb;simp only [tb_self] at HIb;clear ho hb1 hb2 hRb hib h4 hdl hok HT3;have hE4 := HE.out.ext X4.out;go_wp2_with fail;refine (zip_any s w4 (HTb.out.ext X4.out) _ _ (hE4.var 1 (by decide)) (hE4.var 2 (by decide)) (by omega)).mono ?_;rintro e w5 ⟨⟨z, rfl, hR, hzl⟩, h5⟩;have X5 := Lib.hid (X4.out.trans h5);have hAl := Sto.all_length (s.size + 1) s.data.toList;rw [list_sz] at hAl;have hz := unz_zip hR (by omega) (most := s.size) (by rw [list_sz]; exact Nat.le_refl _) (by omega);have HU := Lib.hid (fun (w : World) (hE : Errs w E) (hT : Tabs w) => unzip_any ⟨(zipL z s.data.toList).toArray⟩ (s.size : Int) w E hE hT (by show (zipL z s.data.toList).length ≤ maxLen; rw [zipL_length]; unfold maxLen; omega));rw [hz] at HU;unfold UzPost at HU;simp only [tb_self] at HU;obtain ⟨Z, hZ⟩ : ∃ Z, zipL z s.data.toList = Z := ⟨_, rfl⟩;rw [hZ] at HU;rw [hZ];clear hR h5 hz hZ hAl hE4 hzl;have q1 : ¬ 9223372036854775807 < a.length + 6 := by omega
 have q2 : ¬ 9223372036854775807 < b.length + 6 := by omega
 go_wp2_with fail;refine (HIa.out _ (HE.out.ext X5.out) (HTb.out.ext X5.out)).mono ?_;rintro e w6 ⟨h6, rfl⟩;have X6 := Lib.hid (X5.out.trans h6);clear h6;go_wp2_with fail;refine (HIb.out _ (HE.out.ext X6.out) (HTb.out.ext X6.out)).mono ?_;rintro e w7 ⟨h7, rfl⟩;have X7 := Lib.hid (X6.out.trans h7);clear h7;go_wp2_with fail;refine (HU.out _ (HE.out.ext X7.out) (HTb.out.ext X7.out)).mono ?_;rintro e w8 ⟨h8, rfl⟩;have X8 := Lib.hid (X7.out.trans h8);clear h8;have e1 : (s.toList == s.toList) = true := beq_self_eq_true _;have e2 : (s.data == s.data) = true := by simp
 have e3 : ((a.length : Int) == (a.length : Int)) = true := beq_self_eq_true _;have e4 : ((b.length : Int) == (b.length : Int)) = true := beq_self_eq_true _;go_wp2_with fail;go_ret;exact ⟨rfl, X8.out⟩
end Go.Proofs.YtnhbjgmfbcedaaaDoor
namespace Go.Proofs.YtnhbjgmfbcedaaaDoor
open Go.RowKit Go.ChangeShapes
def tabD (n : String) (zs : List Nat) : List (String × DataW Unit) := [(n, Lib.tabData .i64 (zs.map fun z => ((z : Nat) : Int)))]
theorem tab_row {l : List (String × DataW Unit)} {W : World} {n : String} {g m : Nat} {t : TypeId} {zs : List Nat} (h : laidMetH Tryd.prog l W) (hl : l.filter (fun x => x.1 == n) = tabD n zs)
    (hm : laidMetH Tryd.prog (tabD n zs) W = laidMet Tryd.prog (tabD n zs) W) (hg : Tryd.prog.globalNamed n = some g) (hty : (Tryd.prog.globals[g]?).map (·.type) = some t) (ht : Tryd.prog.underlying t = some (.array m 3)) (hct : Tryd.prog.cellsOf t = m) (hlen : zs.length = m) :
    ∀ k, k < m → W.cell? ⟨g, k, none⟩ = some (.int .i64 ((zs.getD k 0 : Nat) : Int)) := by
  have h1 := laidMetH.filter (fun x => x.1 == n) h
  rw [hl, hm] at h1
  have hT := Lib.tabIs_of_head (rest := []) hg hty ht Tryd.underlying3 (by kernel_rfl) hct h1
  intro k hk
  have := hT.cell hg k (by simp; omega)
  rw [this]
  simp [List.getD, hlen, hk]
theorem tabs_of_laid {l : List (String × DataW Unit)} {W : World} (h : laidMetH Tryd.prog l W)
    (h1 : l.filter (fun x => x.1 == "layercake/inflate.Lens") = tabD "layercake/inflate.Lens" Inf.lensL) (h2 : l.filter (fun x => x.1 == "layercake/inflate.LenBits") = tabD "layercake/inflate.LenBits" Inf.lensB)
    (h3 : l.filter (fun x => x.1 == "layercake/inflate.Dists") = tabD "layercake/inflate.Dists" Inf.distsL) (h4 : l.filter (fun x => x.1 == "layercake/inflate.DistBits") = tabD "layercake/inflate.DistBits" Inf.distsB)
    (h5 : l.filter (fun x => x.1 == "layercake/inflate.Order") = tabD "layercake/inflate.Order" Inf.orderL) : Tabs W :=
  ⟨tab_row h h1 rfl (by kernel_rfl) (by kernel_rfl) Tryd.underlying152 (by kernel_rfl) rfl,
   tab_row h h2 rfl (by kernel_rfl) (by kernel_rfl) Tryd.underlying152 (by kernel_rfl) rfl,
   tab_row h h3 rfl (by kernel_rfl) (by kernel_rfl) Tryd.underlying153 (by kernel_rfl) rfl,
   tab_row h h4 rfl (by kernel_rfl) (by kernel_rfl) Tryd.underlying153 (by kernel_rfl) rfl,
   tab_row h h5 rfl (by kernel_rfl) (by kernel_rfl) Tryd.underlying129 (by kernel_rfl) rfl⟩
end Go.Proofs.YtnhbjgmfbcedaaaDoor
namespace Go.Proofs.YtnhbjgmfbcedaaaDoor
open Go.ChangeShapes Go.WideShapes Go.ChangeAt Go.RowKit
theorem law_readAll {H : Type} {enc : TypeId × Value → H} {P : Program} (hl : laidOutB P = true) {W W' : World} (sp : Nat → Bool) (hB : Below W.heap.size W W') :
  ∀ (ts : List TypeId) (vs : List Value) (ds : List (DataW H)) (ps : List MemPlace),
   (∀ t ∈ ts, P.readableRec t = true ∧ t < P.types.size) → (∀ p ∈ ps, p.block < W.heap.size) → (∀ p ∈ ps, sp p.block = true) →
   DataW.TrodAll enc P W 0 (fun _ => true) true ts vs ds ps → DataW.TrodAll enc P W' 0 sp true ts vs ds ps
 | [], [], [], _, _, _, _, h => h
 | t :: ts, v :: vs, d :: ds, ps, hr, hlt, hsp, h => by
  obtain ⟨p, q, h1, h2, rfl⟩ := h;have ht := hr t (List.mem_cons_self ..);refine ⟨p, q, ?_, ?_, rfl⟩
  ·exact WideElems.Trod_stays hl ht.1 ht.2 h1 (fun x hx => hB.same (hlt x (List.mem_append_left _ hx))) (fun x hx => hsp x (List.mem_append_left _ hx))
  ·exact law_readAll hl sp hB ts vs ds q (fun t' ht' => hr t' (List.mem_cons_of_mem _ ht')) (fun x hx => hlt x (List.mem_append_right _ hx)) (fun x hx => hsp x (List.mem_append_right _ hx)) h2
 | [], [], _ :: _, _, _, _, _, h => h.elim
 | [], _ :: _, _, _, _, _, _, h => h.elim
 | _ :: _, [], _, _, _, _, _, h => h.elim
 | _ :: _, _ :: _, [], _, _, _, _, h => h.elim
theorem law_post {H : Type} {enc : TypeId × Value → H} {P : Program} (hl : laidOutB P = true) {f : Func} {s : ChangeSpec} {apart fresh handsOn : Bool} {W W' : World} {args : Array Value} {ds : List (DataW H)} {before : List MemPlace} {tb : TypeId}
  (hW : DataW.Whole enc P f.params.toList s.vars apart W args.toList ds [] before) (hv : s.vars = [])
  (hfn : s.fn H (ds ++ []) = { results := [.lit (.bool true)], args := ds })
  (hread : f.params.toList.all (fun t => P.readableRec t && decide (t < P.types.size)) = true)
  (hres : f.resultTypes = #[tb]) (hb : P.underlying tb = some .bool) (hB : Below W.heap.size W W') :
  s.post enc P f apart fresh handsOn false W args (.bool true) W' := by
 have hlt : ∀ p ∈ before, p.block < W.heap.size := fun p hp => hW.lt p hp;have hr : ∀ t ∈ f.params.toList, P.readableRec t = true ∧ t < P.types.size := by
  intro t ht;have := List.all_eq_true.1 hread t ht;simpa using this
 have hW0 := hW;obtain ⟨p, q, hA, hV, hpq, hfz, hnd⟩ := hW;rw [hv] at hV;have hq : q = [] := by simpa [DataW.TrodVars] using hV
 subst hq;rw [List.append_nil] at hpq;subst hpq;have hargs : ∀ sp : Nat → Bool, (∀ x ∈ before, sp x.block = true) → DataW.TrodAll enc P W' 0 sp true f.params.toList args.toList ds before :=
  fun sp hsp => law_readAll hl sp hB _ _ _ _ hr hlt hsp hA
 have hold : ∀ x ∈ before, (fun b => decide (b < W.heap.size)) x.block = true := fun x hx => by simpa using hlt x hx
 have hresults : ∀ (b : Nat) (sp : Nat → Bool) (hd : Bool), DataW.TrodAll enc P W' b sp hd f.resultTypes.toList ((Value.bool true).resultList f.resultTypes.size) [.lit (.bool true)] [] := by
  intro b sp hd;rw [hres];exact trodAll_mk1 (shut_bool hb true)
 refine ⟨ds, [], before, [], before, [], hW0, ?_, ?_, ?_, World.keptBut_mono (fun x hx => ⟨hx, ?_⟩) (hB.frame (· ∈ before)), fun _ => ?_⟩
 ·rw [hfn]; exact hresults _ _ _
 ·rw [hfn]; exact hargs _ hold
 ·rw [hfn, hv]; rfl
 ·exact Or.inr (Or.inl hx)
 ·cases ‹false = true›
end Go.Proofs.YtnhbjgmfbcedaaaDoor
