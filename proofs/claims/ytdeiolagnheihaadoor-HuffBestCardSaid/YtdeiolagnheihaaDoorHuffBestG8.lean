/-
  HuffBest's walk.
  The package's errors, out of what a row lists.
  The last step of every law's row, once: a call that returns true and turns nothing that was there meets the row's post.
-/
import Derived.Test.YtdeiolagnheihaaDoorHuffBestG1
import Derived.Test.YtdeiolagnheihaaDoorHuffBestG5
import Derived.Test.YtdeiolagnheihaaDoorHuffBestG6
import Derived.Test.YtdeiolagnheihaaDoorHuffBestG7
import Derived.Test.YtdeiolagnheihaaDoorHuffBestG3
import Derived.LaidHandle
import Derived.LaidSub
import Derived.Stop.LaidTwo
import Derived.Test.YtdeiolagnheihaaDoorRows
import Derived.ProofKit
import Derived.ShutString
import Derived.Below
import Derived.OpenShut
set_option linter.unusedSimpArgs false
set_option linter.unusedVariables false
set_option maxRecDepth 100000
namespace Go.Proofs.YtdeiolagnheihaaDoor
open Go.RowKit
theorem Errs.sents2 {w : World} {E : Nat → Addr} (h : Errs w E) : Sents w := by
 have h1 := h.var 1 (by decide);have h2 := h.var 2 (by decide);simp only [gk, sentV] at h1 h2;exact ⟨⟨_, h1⟩, ⟨_, h2⟩⟩
theorem used_cnt (f : Nat → Int) (i : Nat) : (Pkg.used (cntN f) (i + 1)).length = (Pkg.used (cntN f) i).length + if 0 < f i then 1 else 0 := by
 rw [Hb.used_succ, List.length_append];congr 1
 unfold cntN;by_cases h : 0 < f i
 ·rw [if_pos h, if_pos (by omega)]; rfl
 ·rw [if_neg h, if_neg (by omega)]; rfl
theorem used_le (c : Nat → Nat) (n : Nat) : (Pkg.used c n).length ≤ n := by
 have := List.length_filter_le (fun i => decide (0 < c i)) (List.range n);rw [List.length_range] at this;exact this
theorem some_any (x : Option Addr) (len cap : Nat) (f : Nat → Int) (w : World) (hx : Ints w x len f) (hl : len ≤ maxLen) :
  Calls Tryd.prog 33 #[.slice x len cap] w fun e w' => e = .returned (.int .i64 (((Pkg.used (cntN f) len).length : Nat) : Int)) ∧ w = w' := by
 have HX := Lib.hid hx;unfold maxLen at hl;clear hx;go_enter Tryd.func33, Tryd.ntmps33
 go_wp2_with fail;go_loopw [3, 4] (fun s c wr => ∃ (i n : Nat), c = .int .i64 (i : Int) ∧ i ≤ len ∧ n ≤ i ∧ s = .int .i64 (n : Int) ∧ Hid ((Pkg.used (cntN f) i).length = n) ∧ wr = w) (fun _ c _ => len - (intOf c).toNat)
 case atStart => exact ⟨0, 0, rfl, by omega, Nat.le_refl _, rfl, Lib.hid rfl, by first | rfl | trivial⟩
 case round =>
  obtain ⟨i, n, rfl, hi, hn, rfl, HN, hw⟩ := hrel;have hw2 := hw.symm;clear hw;subst hw2;by_cases hlt : i < len
  ·have t0 : decide ((i : Int) < (len : Int)) = true := decide_eq_true (by omega);have n0 : i < len := hlt;obtain ⟨a, rfl⟩ : ∃ a, x = some a := by
    cases x with
    | none => have := HX.out.1 rfl; omega
    | some a => exact ⟨a, rfl⟩
   have kx := (HX.out.2 a rfl i hlt).1;obtain ⟨y, hy⟩ : ∃ y, f i = y := ⟨_, rfl⟩;rw [hy] at kx;have HN2 := Lib.hid (used_cnt f i);rw [hy, HN.out] at HN2;have wi : ∀ z, z = (i : Int) + 1 → IntKind.i64.wrap z = z := by intro z hz; rw [IntKind.wrap_i64]; omega
   have wn : ∀ z, z = (n : Int) + 1 → IntKind.i64.wrap z = z := by intro z hz; rw [IntKind.wrap_i64]; omega
   clear hy;by_cases h0 : 0 < y
   ·have t1 : decide (0 < y) = true := decide_eq_true h0;have HN3 : Hid ((Pkg.used (cntN f) (i + 1)).length = n + 1) := Lib.hid (by rw [HN2.out, if_pos h0]);go_wp2_with fail;go_roundw
    case rel => exact ⟨i + 1, n + 1, by go_num, by omega, by omega, by go_num, HN3, by first | rfl | trivial⟩
    case measure => simp [intOf]; omega
   ·have t1 : decide (0 < y) = false := decide_eq_false h0;have HN3 : Hid ((Pkg.used (cntN f) (i + 1)).length = n) := Lib.hid (by rw [HN2.out, if_neg h0, Nat.add_zero]);go_wp2_with fail;go_roundw
    case rel => exact ⟨i + 1, n, by go_num, by omega, by omega, rfl, HN3, by first | rfl | trivial⟩
    case measure => simp [intOf]; omega
  ·obtain rfl : i = len := by omega
   have t0 : decide ((i : Int) < (i : Int)) = false := decide_eq_false (by omega);have n0 : ¬ i < i := by omega
   go_wp2_with fail;go_ret;exact ⟨by rw [HN.out]; rfl, by first | rfl | trivial⟩
theorem costS_nat {f : Nat → Int} {len m : Nat} (h : ∀ j, j < len → f j = ((cntN f j : Nat) : Int)) : ∀ i, i ≤ len → costS f (lenF f len m) i = ((Pkg.sumTo (fun s => Pkg.lens (cntN f) len m s * cntN f s) i : Nat) : Int)
 | 0, _ => rfl
 | i + 1, hi => by
  have ih := costS_nat (m := m) h i (by omega);show costS f (lenF f len m) i + f i * lenF f len m i = _;rw [ih, h i (by omega), Pkg.sumTo];unfold lenF;rw [Int.natCast_add, Int.natCast_mul, Int.mul_comm]
theorem least_is {cnt : Nat → Nat} {len m : Nat} (hl : len ≤ 300) (hm : 1 ≤ m) (hm2 : m ≤ 15) (h : (Pkg.used cnt len).length ≤ 2 ^ m) (hc : ∀ s, s < len → cnt s ≤ 1048576) :
  (if (Hb.fall cnt len).length = 0 then 0 else if (Hb.fall cnt len).length = 1 then (Hb.fall cnt len).getD 0 0 else Hb.bst (fun p => ((Hb.fall cnt len).drop p).sum) (Hb.fall cnt len).length m 0 2) = Hb.costS cnt len m := by
 have e1 : Hb.costS cnt len m = ((Pkg.used cnt len).map fun i => Pkg.lens cnt len m i * cnt i).sum := by
  rw [Pkg.sum_used];refine Pkg.sumTo_congr (fun i hi => ?_);split
  ·rfl
  ·rename_i q;rw [show cnt i = 0 by omega, Nat.mul_zero]
 have hfl := Hb.fall_length cnt len;by_cases h0 : (Hb.fall cnt len).length = 0
 ·rw [if_pos h0, e1, List.length_eq_zero_iff.1 (show (Pkg.used cnt len).length = 0 by omega)];rfl
 ·rw [if_neg h0];by_cases h1 : (Hb.fall cnt len).length = 1
  ·rw [if_pos h1, e1];obtain ⟨i, hi⟩ := List.length_eq_one_iff.1 (show (Pkg.used cnt len).length = 1 by omega);have hp := Hb.fall_perm cnt len;rw [hi] at hp;have hf : Hb.fall cnt len = [cnt i] := List.perm_singleton.1 hp;rw [hf, hi];have hln : Pkg.lens cnt len m i = 1 := by
    unfold Pkg.lens;rw [hi, if_pos (by simp), if_pos (by simp)]
   simp [hln]
  ·rw [if_neg h1, hfl];exact Hb.best_is (by omega) hl hm hm2 h hc (fun p hp => Hb.fall_rest cnt len p hp)
theorem shl_one (m : Nat) (h : m ≤ 15) : (2 ^ m : Nat) ≤ 32768 := Nat.pow_le_pow_right (by decide) h
set_option linter.unusedSimpArgs false in
set_option maxHeartbeats 8000000 in
theorem huffBest_any (x : Option Addr) (len cap : Nat) (f : Nat → Int) (most : Int) (w : World) (E : Nat → Addr) (hE : Errs w E) (hx : Ints w x len f) (hx0 : x = none → cap = 0) (hl : len ≤ maxLen) :
  Calls Tryd.prog 10 #[.slice x len cap, .int .i64 most] w fun e w' => e = .returned (.bool true) ∧ Ext w w' := by
 have HE := Lib.hid hE;have HX := Lib.hid hx;have HL := Lib.hid hl;unfold maxLen at hl;clear hE hx;by_cases h1 : 400 < len
 ·have t1 : decide ((400 : Int) < (len : Int)) = true := decide_eq_true (by omega);go_enter Tryd.func10, Tryd.ntmps10
  go_wp2_with fail;refine (two_any _ HE.out.sents2).mono ?_;rintro e w1 ⟨rfl, h1⟩;have X1 := Lib.hid (h1);clear h1;go_wp2_with fail;go_ret;exact ⟨rfl, X1.out⟩
 have t1 : decide ((400 : Int) < (len : Int)) = false := decide_eq_false (by omega);have n1 : ¬ 400 < len := h1;obtain ⟨n, hn⟩ : ∃ n, (Pkg.used (cntN f) len).length = n := ⟨_, rfl⟩;have HN := Lib.hid hn;have hnl : n ≤ len := by rw [← hn]; exact used_le _ _
 have HSm := Lib.hid (fun w1 (hX : Ext w w1) => some_any x len cap f w1 (HX.out.ext hX) HL.out);rw [hn] at HSm;clear hn;by_cases h2 : 24 < n ∧ len ≤ 300
 ·have t2 : decide ((24 : Int) < (n : Int)) = true := decide_eq_true (by omega);have t3 : decide ((len : Int) ≤ 300) = true := decide_eq_true (by omega);have n2 : 24 < n := h2.1;have n3 : len ≤ 300 := h2.2;clear h2;go_enter Tryd.func10, Tryd.ntmps10
  go_wp2_with fail;refine (two_any _ HE.out.sents2).mono ?_;rintro e w1 ⟨rfl, h1⟩;have X1 := Lib.hid (h1);clear h1;go_wp2_with fail;refine (HSm.out _ X1.out).mono ?_;rintro e w2 ⟨rfl, rfl⟩;go_wp2_with fail;go_ret;exact ⟨rfl, X1.out⟩
 go_enter Tryd.func10, Tryd.ntmps10
 go_wp2_with fail;refine (two_any _ HE.out.sents2).mono ?_;rintro e w1 ⟨rfl, h1⟩;have X1 := Lib.hid (h1);clear h1;go_upto_region 2 with fail;go_cut [30] (fun s30 wx => s30 = .bool false ∧ Hid (Ext w wx))
 case first =>
  have HS1 := Lib.hid (HSm.out _ X1.out);by_cases h24 : 24 < n
  ·have t2 : decide ((24 : Int) < (n : Int)) = true := decide_eq_true (by omega);have t3 : decide ((len : Int) ≤ 300) = false := decide_eq_false (by omega);have n3 : ¬ len ≤ 300 := by omega
   go_wp2_with fail;refine HS1.out.mono ?_;rintro e w2 ⟨rfl, rfl⟩;go_wp2_with fail;go_meet
   exact ⟨rfl, X1⟩
  ·have t2 : decide ((24 : Int) < (n : Int)) = false := decide_eq_false (by omega);go_wp2_with fail;refine HS1.out.mono ?_;rintro e w2 ⟨rfl, rfl⟩;go_wp2_with fail;go_meet
   exact ⟨rfl, X1⟩
 case rest =>
 clear X1;obtain ⟨rfl, X1⟩ := hcut;rename World => w1';by_cases hbad : lenBad f len most
 ·have HBad := Lib.hid hbad;have hBc := HE.out.var 1 (by decide);have HBc := Lib.hid hBc;clear hBc h2 hbad t1 n1;go_wp2_with fail;refine (ints_calls x len cap f _ (HX.out.ext X1.out) (by omega) hx0).mono ?_;rintro e w2 ⟨⟨v, rfl, y, c, rfl, hi⟩, h2⟩;have HI := Lib.hid hi;have X2 := Lib.hid (X1.out.trans h2);clear hi h2 X1;go_wp2_with fail;refine (lengths_bad y len c f most w2 HI.out HL.out _ ((X2.out.cell (World.block_lt_of_cell? w _ HBc.out)).trans HBc.out) HBad.out).mono ?_;rintro e w3 ⟨rfl, hX⟩;have X3 := Lib.hid (X2.out.trans hX);clear hX X2 HI;go_upto_region 5 with fail;go_cut [8] (fun s8 wx => ∃ b, s8 = .bool b ∧ Hid (b = true ↔ (300 < len ∨ most < 1 ∨ 15 < most)) ∧ wx = w3)
  case first =>
   by_cases q1 : 300 < len
   ·have t4 : decide ((300 : Int) < (len : Int)) = true := decide_eq_true (by omega);go_wp2_with fail;go_meet
    exact ⟨true, rfl, Lib.hid ⟨fun _ => .inl q1, fun _ => rfl⟩, rfl⟩
   ·have t4 : decide ((300 : Int) < (len : Int)) = false := decide_eq_false (by omega);by_cases q2 : most < 1
    ·have t5 : decide (most < 1) = true := decide_eq_true q2;go_wp2_with fail;go_meet
     exact ⟨true, rfl, Lib.hid ⟨fun _ => .inr (.inl q2), fun _ => rfl⟩, rfl⟩
    ·have t5 : decide (most < 1) = false := decide_eq_false q2;by_cases q3 : 15 < most
     ·have t6 : decide (15 < most) = true := decide_eq_true q3;go_wp2_with fail;go_meet
      exact ⟨true, rfl, Lib.hid ⟨fun _ => .inr (.inr q3), fun _ => rfl⟩, rfl⟩
     ·have t6 : decide (15 < most) = false := decide_eq_false q3;go_wp2_with fail;go_meet
      exact ⟨false, rfl, Lib.hid ⟨(fun q => by cases q), (fun q => by rcases q with q | q | q <;> omega)⟩, rfl⟩
  case rest =>
  obtain ⟨b0, rfl, HB0, hw⟩ := hcut;have hw2 := hw.symm;clear hw;subst hw2;go_upto_block 0 with fail;go_cut [8] (fun s8 wx => s8 = .bool true ∧ wx = w3)
  case first =>
   go_wp2_with fail;go_loopw [8, 9] (fun s8 c wr => ∃ (i : Nat) (b : Bool), c = .int .i64 (i : Int) ∧ i ≤ len ∧ s8 = .bool b ∧ Hid (b = true ↔ (300 < len ∨ most < 1 ∨ 15 < most ∨ ∃ j, j < i ∧ (f j < 0 ∨ 1048576 < f j))) ∧ wr = w3) (fun _ c _ => len - (intOf c).toNat)
   case atStart =>
    refine ⟨0, b0, rfl, by omega, rfl, Lib.hid ⟨fun q => ?_, fun q => ?_⟩, by first | rfl | trivial⟩
    ·rcases HB0.out.1 q with r | r | r
     ·exact .inl r
     ·exact .inr (.inl r)
     ·exact .inr (.inr (.inl r))
    ·refine HB0.out.2 ?_;rcases q with r | r | r | ⟨j, hj, _⟩
     ·exact .inl r
     ·exact .inr (.inl r)
     ·exact .inr (.inr r)
     ·omega
   case round =>
    obtain ⟨i, b, rfl, hi, rfl, HB, hw⟩ := hrel;have hw2 := hw.symm;clear hw;subst hw2;by_cases hlt : i < len
    ·have t0 : decide ((i : Int) < (len : Int)) = true := decide_eq_true (by omega);have n0 : i < len := hlt;obtain ⟨a, ha⟩ : ∃ a, x = some a := by
      cases x with
      | none => have := HX.out.1 rfl; omega
      | some a => exact ⟨a, rfl⟩
     subst ha;have kx := ((HX.out.ext X3.out).2 a rfl i hlt).1;obtain ⟨y, hy⟩ : ∃ y, f i = y := ⟨_, rfl⟩;rw [hy] at kx;have HY := Lib.hid hy;have wi : ∀ z, z = (i : Int) + 1 → IntKind.i64.wrap z = z := by intro z hz; rw [IntKind.wrap_i64]; omega
     have HNX : Hid (∀ b' : Bool, (b' = true ↔ (b = true ∨ y < 0 ∨ 1048576 < y)) → (b' = true ↔ (300 < len ∨ most < 1 ∨ 15 < most ∨ ∃ j, j < i + 1 ∧ (f j < 0 ∨ 1048576 < f j)))) := Lib.hid (fun b' hb' => by
      rw [hb'];constructor
      ·rintro (q | q)
       ·rcases HB.out.1 q with r | r | r | ⟨j, hj, r⟩
        ·exact .inl r
        ·exact .inr (.inl r)
        ·exact .inr (.inr (.inl r))
        ·exact .inr (.inr (.inr ⟨j, by omega, r⟩))
       ·exact .inr (.inr (.inr ⟨i, by omega, by rw [HY.out]; exact q⟩))
      ·rintro (r | r | r | ⟨j, hj, r⟩)
       ·exact .inl (HB.out.2 (.inl r))
       ·exact .inl (HB.out.2 (.inr (.inl r)))
       ·exact .inl (HB.out.2 (.inr (.inr (.inl r))))
       ·rcases Nat.lt_or_ge j i with q | q
        ·exact .inl (HB.out.2 (.inr (.inr (.inr ⟨j, q, r⟩))))
        ·obtain rfl : j = i := by omega
         rw [HY.out] at r;exact .inr r)
     clear hy;cases b with
     | true =>
      go_wp2_with fail;go_roundw
      case rel => exact ⟨i + 1, true, by go_num, by omega, rfl, Lib.hid (HNX.out true ⟨fun _ => .inl rfl, fun _ => rfl⟩), by first | rfl | trivial⟩
      case measure => simp [intOf]; omega
     | false =>
      by_cases q1 : y < 0
      ·have t4 : decide (y < 0) = true := decide_eq_true q1;go_wp2_with fail;go_roundw
       case rel => exact ⟨i + 1, true, by go_num, by omega, rfl, Lib.hid (HNX.out true ⟨fun _ => .inr (.inl q1), fun _ => rfl⟩), by first | rfl | trivial⟩
       case measure => simp [intOf]; omega
      ·have t4 : decide (y < 0) = false := decide_eq_false q1;by_cases q2 : 1048576 < y
       ·have t5 : decide ((1048576 : Int) < y) = true := decide_eq_true q2;go_wp2_with fail;go_roundw
        case rel => exact ⟨i + 1, true, by go_num, by omega, rfl, Lib.hid (HNX.out true ⟨fun _ => .inr (.inr q2), fun _ => rfl⟩), by first | rfl | trivial⟩
        case measure => simp [intOf]; omega
       ·have t5 : decide ((1048576 : Int) < y) = false := decide_eq_false q2;go_wp2_with fail;go_roundw
        case rel => exact ⟨i + 1, false, by go_num, by omega, rfl, Lib.hid (HNX.out false ⟨fun q => (by cases q), fun q => (by rcases q with q | q | q; exact q; exact absurd q q1; exact absurd q q2)⟩), by first | rfl | trivial⟩
        case measure => simp [intOf]; omega
    ·obtain rfl : i = len := by omega
     have t0 : decide ((i : Int) < (i : Int)) = false := decide_eq_false (by omega);have n0 : ¬ i < i := by omega
     obtain rfl : b = true := HB.out.2 (by
      rcases HBad.out with r | r | r | ⟨j, hj, r⟩
      ·exact .inl r
      ·exact .inr (.inl r)
      ·exact .inr (.inr (.inl r))
      ·exact .inr (.inr (.inr ⟨j, hj, r⟩)))
     go_wp2_with fail;go_meet
     exact ⟨rfl, rfl⟩
  case rest =>
  obtain ⟨rfl, hw⟩ := hcut;have hw2 := hw.symm;clear hw;subst hw2;go_wp2_with fail;refine (coded_any _ E (HE.out.ext X3.out) _ _ _ 2 (ErrV.sent 1 (by decide))).mono ?_;rintro e w9 ⟨he, h9⟩;obtain rfl : e = .returned (.bool true) := by rw [he]; exact ret_bool (by decide)
  have X9 := Lib.hid (X3.out.trans h9);clear he h9;go_wp2_with fail;go_ret;exact ⟨rfl, X9.out⟩
 have hlen : len ≤ 300 := by
  rcases Nat.lt_or_ge 300 len with q | q
  ·exact absurd (.inl q) hbad
  ·exact q
 have hm1 : 1 ≤ most := by
  rcases Int.lt_or_le most 1 with q | q
  ·exact absurd (.inr (.inl q)) hbad
  ·exact q
 have hm2 : most ≤ 15 := by
  rcases Int.lt_or_le 15 most with q | q
  ·exact absurd (.inr (.inr (.inl q))) hbad
  ·exact q
 have hfb : ∀ j, j < len → 0 ≤ f j ∧ f j ≤ 1048576 := fun j hj => by
  constructor
  ·rcases Int.lt_or_le (f j) 0 with q | q
   ·exact absurd (.inr (.inr (.inr ⟨j, hj, .inl q⟩))) hbad
   ·exact q
  ·rcases Int.lt_or_le 1048576 (f j) with q | q
   ·exact absurd (.inr (.inr (.inr ⟨j, hj, .inr q⟩))) hbad
   ·exact q
 have HFB := Lib.hid hfb;obtain ⟨m, rfl⟩ : ∃ m : Nat, most = m := ⟨most.toNat, by omega⟩;have hn24 : n ≤ 24 := by omega
 have hcnt : ∀ j, j < len → f j = ((cntN f j : Nat) : Int) := fun j hj => by unfold cntN; have := HFB.out j hj; omega
 have HCN := Lib.hid hcnt;have hESc := HE.out.var 2 (by decide);have HES := Lib.hid hESc;clear hbad hfb hcnt h2 hESc t1 n1;go_wp2_with fail;refine (ints_calls x len cap f _ (HX.out.ext X1.out) (by omega) hx0).mono ?_;rintro e w2 ⟨⟨v, rfl, y, c, rfl, hi⟩, h2⟩;have HI := Lib.hid hi;have X2 := Lib.hid (X1.out.trans h2);clear hi h2 X1;go_wp2_with fail;refine (lengths_good y len c f m w2 HI.out _ ((X2.out.cell (World.block_lt_of_cell? w _ HES.out)).trans HES.out) ⟨hlen, by omega, by omega, HFB.out⟩).mono ?_;rintro e w3 ⟨hX, hr⟩;have X3 := Lib.hid (X2.out.trans hX);clear hX X2 HI;have t4 : decide ((300 : Int) < (len : Int)) = false := decide_eq_false (by omega);have t5 : decide ((m : Int) < 1) = false := decide_eq_false (by omega);have t6 : decide ((15 : Int) < (m : Int)) = false := decide_eq_false (by omega);have n4 : ¬ 300 < len := by omega
 have n5 : ¬ m < 1 := by omega
 have n6 : ¬ 15 < m := by omega
 rw [HN.out] at hr;rcases hr with ⟨hbig, rfl⟩ | ⟨hsm, g, rfl, hI, hge⟩
 ·have hbig2 := hbig;have hSE := HE.out.var 2 (by decide);simp only [gk] at hSE;have hESE : (sentV (E 2)) = sentV (E 2) := rfl;clear hESE hSE hbig2;go_upto_region 5 with fail;go_cut [8] (fun s8 wx => s8 = .bool false ∧ wx = w3)
  case first =>
   go_wp2_with fail;go_meet
   exact ⟨rfl, rfl⟩
  case rest =>
  obtain ⟨rfl, hw⟩ := hcut;have hw2 := hw.symm;clear hw;subst hw2;clear t4 t5 t6 n4 n5 n6;go_upto_block 0 with fail;go_cut [8] (fun s8 wx => s8 = .bool false ∧ wx = w3)
  case first =>
   go_wp2_with fail;go_loopw [8, 9] (fun s8 c wr => ∃ i : Nat, c = .int .i64 (i : Int) ∧ i ≤ len ∧ s8 = .bool false ∧ wr = w3) (fun _ c _ => len - (intOf c).toNat)
   case atStart => exact ⟨0, rfl, by omega, rfl, by first | rfl | trivial⟩
   case round =>
    obtain ⟨i, rfl, hi, rfl, hw⟩ := hrel;have hw2 := hw.symm;clear hw;subst hw2;by_cases hlt : i < len
    ·have t0 : decide ((i : Int) < (len : Int)) = true := decide_eq_true (by omega);have n0 : i < len := hlt;obtain ⟨a, ha⟩ : ∃ a, x = some a := by
      cases x with
      | none => have := HX.out.1 rfl; omega
      | some a => exact ⟨a, rfl⟩
     subst ha;have kx := ((HX.out.ext X3.out).2 a rfl i hlt).1;have hb := HFB.out i hlt;obtain ⟨y, hy⟩ : ∃ y, f i = y := ⟨_, rfl⟩;rw [hy] at kx hb;have wi : ∀ z, z = (i : Int) + 1 → IntKind.i64.wrap z = z := by intro z hz; rw [IntKind.wrap_i64]; omega
     have t4 : decide (y < 0) = false := decide_eq_false (by omega);have t5 : decide ((1048576 : Int) < y) = false := decide_eq_false (by omega);clear hy;go_wp2_with fail;go_roundw
     case rel => exact ⟨i + 1, by go_num, by omega, rfl, by first | rfl | trivial⟩
     case measure => simp [intOf]; omega
    ·obtain rfl : i = len := by omega
     have t0 : decide ((i : Int) < (i : Int)) = false := decide_eq_false (by omega);have n0 : ¬ i < i := by omega
     go_wp2_with fail;go_meet
     exact ⟨rfl, rfl⟩
  case rest =>
  obtain ⟨rfl, hw⟩ := hcut;have hw2 := hw.symm;clear hw;subst hw2;obtain ⟨P, hP⟩ : ∃ P : Nat, 2 ^ m = P := ⟨_, rfl⟩;have hPl : P ≤ 32768 := by rw [← hP]; exact shl_one m (by omega)
  have ePw : ((2 : Int) ^ m) = (P : Int) := by rw [← hP]; exact (Int.natCast_pow 2 m).symm
  have wP : ∀ z, z = (P : Int) → IntKind.i64.wrap z = z := by intro z hz; rw [IntKind.wrap_i64]; omega
  rw [hP] at hbig;have t4 : decide ((P : Int) < (n : Int)) = true := decide_eq_true (by omega);clear hP;go_upto_region 12 with fail;have HP := Lib.hid (still_of (HSm.out w3.drew (X3.out.trans (Below.drew (Ext.refl _)))));refine wp_regionQ (by kernel_rfl) (by kernel_rfl) ?_;refine wpQ_yes (by kernel_rfl) (fun K hK => ?_);go_simp;refine hK _ ?_;clear hK K;refine wpQ_yes (by kernel_rfl) (fun K hK => ?_);go_simp;refine ⟨_, HP.out, hK _ ?_⟩;clear hK K;refine wpQ_yes (by kernel_rfl) (fun K hK => ?_);go_simp;refine hK _ ?_;clear hK K;refine wpQ_yes (by kernel_rfl) (fun K hK => ?_);go_simp;refine hK _ ?_;clear hK K;refine wpQ_yes (by kernel_rfl) (fun K hK => ?_);go_simp;refine hK _ ?_;clear hK K;refine wpQ_nil ?_;go_wp2_with fail;refine (coded_any _ E (HE.out.ext (X3.out.trans (Below.drew (Ext.refl _)))) _ _ _ 3 (ErrV.sent 2 (by decide))).mono ?_;rintro e w9 ⟨he, h9⟩;obtain rfl : e = .returned (.bool true) := by rw [he]; exact ret_bool (by decide)
  have X9 := Lib.hid ((X3.out.trans (Below.drew (Ext.refl _))).trans h9);clear he h9;go_wp2_with fail;go_ret;exact ⟨rfl, X9.out⟩
 ·have HSMb := Lib.hid hsm;have HG := Lib.hid (show Ints w3 (some ⟨g, 0, none⟩) len (lenF f len m) from hI);have hlg := lens_good f len m (fun j hj => (HFB.out j hj).1) hlen (by omega) (by omega) (by rw [HN.out]; exact hsm);have HLG := Lib.hid hlg;clear hI hlg hge;go_upto_region 5 with fail;go_cut [8] (fun s8 wx => s8 = .bool false ∧ wx = w3)
  case first =>
   go_wp2_with fail;go_meet
   exact ⟨rfl, rfl⟩
  case rest =>
  obtain ⟨rfl, hw⟩ := hcut;have hw2 := hw.symm;clear hw;subst hw2;clear t4 t5 t6 n4 n5 n6;go_upto_block 0 with fail;go_cut [8] (fun s8 wx => s8 = .bool false ∧ wx = w3)
  case first =>
   go_wp2_with fail;go_loopw [8, 9] (fun s8 c wr => ∃ i : Nat, c = .int .i64 (i : Int) ∧ i ≤ len ∧ s8 = .bool false ∧ wr = w3) (fun _ c _ => len - (intOf c).toNat)
   case atStart => exact ⟨0, rfl, by omega, rfl, by first | rfl | trivial⟩
   case round =>
    obtain ⟨i, rfl, hi, rfl, hw⟩ := hrel;have hw2 := hw.symm;clear hw;subst hw2;by_cases hlt : i < len
    ·have t0 : decide ((i : Int) < (len : Int)) = true := decide_eq_true (by omega);have n0 : i < len := hlt;obtain ⟨a, ha⟩ : ∃ a, x = some a := by
      cases x with
      | none => have := HX.out.1 rfl; omega
      | some a => exact ⟨a, rfl⟩
     subst ha;have kx := ((HX.out.ext X3.out).2 a rfl i hlt).1;have hb := HFB.out i hlt;obtain ⟨y, hy⟩ : ∃ y, f i = y := ⟨_, rfl⟩;rw [hy] at kx hb;have wi : ∀ z, z = (i : Int) + 1 → IntKind.i64.wrap z = z := by intro z hz; rw [IntKind.wrap_i64]; omega
     have t4 : decide (y < 0) = false := decide_eq_false (by omega);have t5 : decide ((1048576 : Int) < y) = false := decide_eq_false (by omega);clear hy;go_wp2_with fail;go_roundw
     case rel => exact ⟨i + 1, by go_num, by omega, rfl, by first | rfl | trivial⟩
     case measure => simp [intOf]; omega
    ·obtain rfl : i = len := by omega
     have t0 : decide ((i : Int) < (i : Int)) = false := decide_eq_false (by omega);have n0 : ¬ i < i := by omega
     go_wp2_with fail;go_meet
     exact ⟨rfl, rfl⟩
  case rest =>
  obtain ⟨rfl, hw⟩ := hcut;have hw2 := hw.symm;clear hw;subst hw2;obtain ⟨P, hP⟩ : ∃ P : Nat, 2 ^ m = P := ⟨_, rfl⟩;have hPl : P ≤ 32768 := by rw [← hP]; exact shl_one m (by omega)
  have ePw : ((2 : Int) ^ m) = (P : Int) := by rw [← hP]; exact (Int.natCast_pow 2 m).symm
  have wP : ∀ z, z = (P : Int) → IntKind.i64.wrap z = z := by intro z hz; rw [IntKind.wrap_i64]; omega
  rw [hP] at hsm;have t4 : decide ((P : Int) < (n : Int)) = false := decide_eq_false (by omega);clear hP;go_upto_region 12 with fail;have HP := Lib.hid (still_of (HSm.out w3.drew (X3.out.trans (Below.drew (Ext.refl _)))));refine wp_regionQ (by kernel_rfl) (by kernel_rfl) ?_;refine wpQ_yes (by kernel_rfl) (fun K hK => ?_);go_simp;refine hK _ ?_;clear hK K;refine wpQ_yes (by kernel_rfl) (fun K hK => ?_);go_simp;refine ⟨_, HP.out, hK _ ?_⟩;clear hK K;refine wpQ_yes (by kernel_rfl) (fun K hK => ?_);go_simp;refine hK _ ?_;clear hK K;refine wpQ_yes (by kernel_rfl) (fun K hK => ?_);go_simp;refine hK _ ?_;clear hK K;refine wpQ_yes (by kernel_rfl) (fun K hK => ?_);go_simp;refine hK _ ?_;clear hK K;refine wpQ_nil ?_;have tl : ((len : Int) != (len : Int)) = false := by simp
  go_wp2_with fail;refine (validCode_any (some ⟨g, 0, none⟩) len len (lenF f len m) w3.drew (HG.out.ext (Below.drew (Ext.refl _))) HL.out).mono ?_;rintro e w4 ⟨he, hw4⟩;have hv0 : vcode (lenF f len m) len = 0 := by unfold vcode; rw [if_pos HLG.out.2.1, if_pos HLG.out.2.2]
  rw [hv0] at he;subst he;have hw5 := hw4.symm;clear hw4 hv0;subst hw5;have X4 := Lib.hid (X3.out.trans (Below.drew (Ext.refl w3)));have HG4 := Lib.hid (HG.out.ext (Below.drew (Ext.refl w3)));generalize w3.drew = w4 at X4 HG4 ⊢;have e10 : ∀ i, costS f (lenF f len m) (i + 1) = costS f (lenF f len m) i + f i * lenF f len m i := fun _ => rfl;have HCB := Lib.hid (costS_bd f (lenF f len m) len HFB.out (fun j hj => ⟨(HLG.out.1 j hj).1, by have := (HLG.out.1 j hj).2.1; omega⟩));have HE10 := Lib.hid e10;clear e10 t4 tl ePw wP hPl;go_upto_block 2 with fail;go_cut [10] (fun s10 wx => s10 = .int .i64 (costS f (lenF f len m) len) ∧ Hid (Ext w4 wx))
  case first =>
   go_wp2_with fail;go_loopw [10, 11] (fun s10 c wr => ∃ i : Nat, c = .int .i64 (i : Int) ∧ i ≤ len ∧ s10 = .int .i64 (costS f (lenF f len m) i) ∧ Hid (Ext w4 wr)) (fun _ c _ => len - (intOf c).toNat)
   case atStart => exact ⟨0, rfl, by omega, rfl, Lib.hid (Ext.refl _)⟩
   case round =>
    obtain ⟨i, rfl, hi, rfl, HW⟩ := hrel;by_cases hlt : i < len
    ·have t0 : decide ((i : Int) < (len : Int)) = true := decide_eq_true (by omega);have n0 : i < len := hlt;obtain ⟨a, ha⟩ : ∃ a, x = some a := by
      cases x with
      | none => have := HX.out.1 rfl; omega
      | some a => exact ⟨a, rfl⟩
     subst ha;have kx := ((HX.out.ext (X4.out.trans HW.out)).2 a rfl i hlt).1;have kg := ((HG4.out.ext HW.out).2 _ rfl i hlt).1;rw [add_plain] at kg;have hb := HFB.out i hlt;have hg := HLG.out.1 i hlt;have hs := HE10.out i;have hs0 := HCB.out i (by omega);have hs1 := HCB.out (i + 1) (by omega);have HSS := Lib.hid hs;obtain ⟨y, hy⟩ : ∃ y, f i = y := ⟨_, rfl⟩;obtain ⟨z, hz⟩ : ∃ z, lenF f len m i = z := ⟨_, rfl⟩;obtain ⟨S, hS⟩ : ∃ S, costS f (lenF f len m) i = S := ⟨_, rfl⟩;obtain ⟨S1, hS1⟩ : ∃ S1, costS f (lenF f len m) (i + 1) = S1 := ⟨_, rfl⟩;rw [hy] at kx hb hg hs;rw [hz] at kg hg hs;rw [hS] at hs hs0;rw [hS1] at hs hs1;rw [hS];have HS1 := Lib.hid hS1;obtain ⟨yz, hyz⟩ : ∃ yz, y * z = yz := ⟨_, rfl⟩;have hzy : z * y = yz := by rw [Int.mul_comm]; exact hyz
     rw [hyz] at hs;have hyzb : 0 ≤ yz := by rw [← hyz]; exact Int.mul_nonneg hb.1 hg.1
     have eS : S + yz = S1 := hs.symm;have w1 : ∀ q, q = yz → IntKind.i64.wrap q = q := by intro q hq; rw [IntKind.wrap_i64]; omega
     have w2' : ∀ q, q = S1 → IntKind.i64.wrap q = q := by intro q hq; rw [IntKind.wrap_i64]; omega
     have wi : ∀ z, z = (i : Int) + 1 → IntKind.i64.wrap z = z := by intro z hz; rw [IntKind.wrap_i64]; omega
     have t4 : decide ((m : Int) < z) = false := decide_eq_false (by omega);have hpos := hg.2.2;clear hs hs0 hs1 hy hz hS hS1 hyz;by_cases h0 : 0 < y
     ·have t5 : decide (0 < z) = true := decide_eq_true (hpos.2 h0);have t6 : decide (0 < y) = true := decide_eq_true h0;clear hpos hg hb hyzb;go_upto_region 20 with fail;refine wp_regionQ (by kernel_rfl) (by kernel_rfl) ?_;refine wpQ_yes (by kernel_rfl) (fun K hK => ?_);go_simp;refine hK _ ?_;clear hK K;refine wpQ_yes (by kernel_rfl) (fun K hK => ?_);go_simp;refine hK _ ?_;clear hK K;refine wpQ_yes (by kernel_rfl) (fun K hK => ?_);go_simp;refine hK _ ?_;clear hK K;refine wpQ_yes (by kernel_rfl) (fun K hK => ?_);go_simp;refine hK _ ?_;clear hK K;refine wpQ_yes (by kernel_rfl) (fun K hK => ?_);go_simp;refine hK _ ?_;clear hK K;refine wpQ_yes (by kernel_rfl) (fun K hK => ?_);go_simp;refine hK _ ?_;clear hK K;refine wpQ_yes (by kernel_rfl) (fun K hK => ?_);go_simp;refine hK _ ?_;clear hK K;refine wpQ_yes (by kernel_rfl) (fun K hK => ?_);go_simp;refine hK _ ?_;clear hK K;refine wpQ_yes (by kernel_rfl) (fun K hK => ?_);go_simp;refine hK _ ?_;clear hK K;refine wpQ_yes (by kernel_rfl) (fun K hK => ?_);go_simp;refine hK _ ?_;clear hK K;refine wpQ_yes (by kernel_rfl) (fun K hK => ?_);go_simp;refine hK _ ?_;clear hK K;refine wpQ_yes (by kernel_rfl) (fun K hK => ?_);go_simp;refine hK _ ?_;clear hK K;refine wpQ_yes (by kernel_rfl) (fun K hK => ?_);go_simp;refine hK _ ?_;clear hK K;refine wpQ_yes (by kernel_rfl) (fun K hK => ?_);go_simp;refine hK _ ?_;clear hK K;refine wpQ_yes (by kernel_rfl) (fun K hK => ?_);go_simp;refine hK _ ?_;clear hK K;refine wpQ_yes (by kernel_rfl) (fun K hK => ?_);go_simp
      refine hK _ ?_;clear hK K;refine wpQ_yes (by kernel_rfl) (fun K hK => ?_);go_simp;refine hK _ ?_;clear hK K;refine wpQ_yes (by kernel_rfl) (fun K hK => ?_);go_simp;refine hK _ ?_;clear hK K;refine wpQ_yes (by kernel_rfl) (fun K hK => ?_);go_simp;refine hK _ ?_;clear hK K;refine wpQ_nil ?_;have kx : wr.drew.cell? (a.add i) = some (.int .i64 y) := kx;have kg : wr.drew.cell? ⟨g, i, none⟩ = some (.int .i64 z) := kg;have HW2 : Hid (Ext w4 wr.drew) := Lib.hid (Below.drew HW.out);clear HW;generalize wr.drew = wq at kx kg HW2 ⊢;go_upto_region 22 with fail;refine wp_regionQ (by kernel_rfl) (by kernel_rfl) ?_;refine wpQ_yes (by kernel_rfl) (fun K hK => ?_);go_simp;refine hK _ ?_;clear hK K;refine wpQ_yes (by kernel_rfl) (fun K hK => ?_);go_simp;refine hK _ ?_;clear hK K;refine wpQ_yes (by kernel_rfl) (fun K hK => ?_);go_simp;refine hK _ ?_;clear hK K;refine wpQ_yes (by kernel_rfl) (fun K hK => ?_);go_simp;refine hK _ ?_;clear hK K;refine wpQ_yes (by kernel_rfl) (fun K hK => ?_);go_simp;refine hK _ ?_;clear hK K;refine wpQ_yes (by kernel_rfl) (fun K hK => ?_);go_simp;refine hK _ ?_;clear hK K;refine wpQ_yes (by kernel_rfl) (fun K hK => ?_);go_simp;refine hK _ ?_;clear hK K;refine wpQ_yes (by kernel_rfl) (fun K hK => ?_);go_simp;refine hK _ ?_;clear hK K;refine wpQ_yes (by kernel_rfl) (fun K hK => ?_);go_simp;refine hK _ ?_;clear hK K;refine wpQ_yes (by kernel_rfl) (fun K hK => ?_);go_simp;refine hK _ ?_;clear hK K;refine wpQ_yes (by kernel_rfl) (fun K hK => ?_);go_simp;refine hK _ ?_;clear hK K
      refine wpQ_yes (by kernel_rfl) (fun K hK => ?_);go_simp;refine hK _ ?_;clear hK K;refine wpQ_nil ?_;go_wp2_with fail;go_roundw
      case rel => exact ⟨i + 1, by go_num, by omega, by rw [HS1.out], Lib.hid (Below.drew HW2.out)⟩
      case measure => simp [intOf]; omega
     ·have hz0 : ¬ 0 < z := fun q => h0 (hpos.1 q);have t5 : decide (0 < z) = false := decide_eq_false hz0;have t6 : decide (0 < y) = false := decide_eq_false h0;clear hpos hg hb hyzb;go_upto_region 20 with fail;refine wp_regionQ (by kernel_rfl) (by kernel_rfl) ?_;refine wpQ_yes (by kernel_rfl) (fun K hK => ?_);go_simp;refine hK _ ?_;clear hK K;refine wpQ_yes (by kernel_rfl) (fun K hK => ?_);go_simp;refine hK _ ?_;clear hK K;refine wpQ_yes (by kernel_rfl) (fun K hK => ?_);go_simp;refine hK _ ?_;clear hK K;refine wpQ_yes (by kernel_rfl) (fun K hK => ?_);go_simp;refine hK _ ?_;clear hK K;refine wpQ_yes (by kernel_rfl) (fun K hK => ?_);go_simp;refine hK _ ?_;clear hK K;refine wpQ_yes (by kernel_rfl) (fun K hK => ?_);go_simp;refine hK _ ?_;clear hK K;refine wpQ_yes (by kernel_rfl) (fun K hK => ?_);go_simp;refine hK _ ?_;clear hK K;refine wpQ_yes (by kernel_rfl) (fun K hK => ?_);go_simp;refine hK _ ?_;clear hK K;refine wpQ_yes (by kernel_rfl) (fun K hK => ?_);go_simp;refine hK _ ?_;clear hK K;refine wpQ_yes (by kernel_rfl) (fun K hK => ?_);go_simp;refine hK _ ?_;clear hK K;refine wpQ_yes (by kernel_rfl) (fun K hK => ?_);go_simp;refine hK _ ?_;clear hK K;refine wpQ_yes (by kernel_rfl) (fun K hK => ?_);go_simp;refine hK _ ?_;clear hK K;refine wpQ_yes (by kernel_rfl) (fun K hK => ?_);go_simp;refine hK _ ?_;clear hK K;refine wpQ_yes (by kernel_rfl) (fun K hK => ?_);go_simp;refine hK _ ?_;clear hK K;refine wpQ_yes (by kernel_rfl) (fun K hK => ?_);go_simp;refine hK _ ?_;clear hK K;refine wpQ_yes (by kernel_rfl) (fun K hK => ?_)
      go_simp;refine hK _ ?_;clear hK K;refine wpQ_yes (by kernel_rfl) (fun K hK => ?_);go_simp;refine hK _ ?_;clear hK K;refine wpQ_yes (by kernel_rfl) (fun K hK => ?_);go_simp;refine hK _ ?_;clear hK K;refine wpQ_yes (by kernel_rfl) (fun K hK => ?_);go_simp;refine hK _ ?_;clear hK K;refine wpQ_nil ?_;have kx : wr.drew.cell? (a.add i) = some (.int .i64 y) := kx;have kg : wr.drew.cell? ⟨g, i, none⟩ = some (.int .i64 z) := kg;have HW2 : Hid (Ext w4 wr.drew) := Lib.hid (Below.drew HW.out);clear HW;generalize wr.drew = wq at kx kg HW2 ⊢;go_upto_region 22 with fail;refine wp_regionQ (by kernel_rfl) (by kernel_rfl) ?_;refine wpQ_yes (by kernel_rfl) (fun K hK => ?_);go_simp;refine hK _ ?_;clear hK K;refine wpQ_yes (by kernel_rfl) (fun K hK => ?_);go_simp;refine hK _ ?_;clear hK K;refine wpQ_yes (by kernel_rfl) (fun K hK => ?_);go_simp;refine hK _ ?_;clear hK K;refine wpQ_yes (by kernel_rfl) (fun K hK => ?_);go_simp;refine hK _ ?_;clear hK K;refine wpQ_yes (by kernel_rfl) (fun K hK => ?_);go_simp;refine hK _ ?_;clear hK K;refine wpQ_yes (by kernel_rfl) (fun K hK => ?_);go_simp;refine hK _ ?_;clear hK K;refine wpQ_yes (by kernel_rfl) (fun K hK => ?_);go_simp;refine hK _ ?_;clear hK K;refine wpQ_yes (by kernel_rfl) (fun K hK => ?_);go_simp;refine hK _ ?_;clear hK K;refine wpQ_yes (by kernel_rfl) (fun K hK => ?_);go_simp;refine hK _ ?_;clear hK K;refine wpQ_yes (by kernel_rfl) (fun K hK => ?_);go_simp;refine hK _ ?_;clear hK K;refine wpQ_yes (by kernel_rfl) (fun K hK => ?_);go_simp;refine hK _ ?_
      clear hK K;refine wpQ_yes (by kernel_rfl) (fun K hK => ?_);go_simp;refine hK _ ?_;clear hK K;refine wpQ_nil ?_;go_wp2_with fail;go_roundw
      case rel => exact ⟨i + 1, by go_num, by omega, by rw [HS1.out], Lib.hid (Below.drew HW2.out)⟩
      case measure => simp [intOf]; omega
    ·obtain rfl : i = len := by omega
     have t0 : decide ((i : Int) < (i : Int)) = false := decide_eq_false (by omega);have n0 : ¬ i < i := by omega
     go_wp2_with fail;go_meet
     exact ⟨rfl, HW⟩
  case rest =>
  obtain ⟨rfl, HW⟩ := hcut;rename World => w5;have X5 := Lib.hid (X4.out.trans HW.out);have HG5 := Lib.hid (HG4.out.ext HW.out);have hcs := costS_nat (m := m) HCN.out len (Nat.le_refl _);have hlt := least_is (cnt := cntN f) (len := len) (m := m) hlen (by omega) (by omega) (by rw [HN.out]; exact HSMb.out) (fun s hs => by have h := HFB.out s hs; have h2 := HCN.out s hs; omega);have hRV : ((if (Hb.fall (cntN f) len).length = 0 then 0 else if (Hb.fall (cntN f) len).length = 1 then (Hb.fall (cntN f) len).getD 0 0 else Hb.bst (fun p => ((Hb.fall (cntN f) len).drop p).sum) (Hb.fall (cntN f) len).length m 0 2 : Nat) : Int) = costS f (lenF f len m) len := by rw [hlt, hcs]; rfl
  obtain ⟨S, hS⟩ : ∃ S, costS f (lenF f len m) len = S := ⟨_, rfl⟩;have hcg := fun (wz : World) (y4 y5 : Option Addr) (c4 c5 : Nat) (h4 : Ints wz y4 len f) (h5 : Ints wz y5 len (lenF f len m)) => cost_good y4 y5 len c4 c5 f (lenF f len m) wz h4 h5 hlen HFB.out (fun j hj => ⟨(HLG.out.1 j hj).1, by have := (HLG.out.1 j hj).2.1; omega⟩);have hlc := fun (wz : World) (hz : Ext w wz) => leastCost_any x len cap (cntN f) m wz (by
   have h := HX.out.ext hz;refine ⟨h.1, fun a ha j hj => ?_⟩;obtain ⟨q1, q2, q3⟩ := h.2 a ha j hj;have hj2 := HCN.out j hj;rw [hj2] at q1 q2 q3;exact ⟨q1, q2, q3⟩) hlen (by omega) (by omega) (fun s hs => by have h := HFB.out s hs; have h2 := HCN.out s hs; omega)
  rw [hRV] at hlc;rw [hS] at hcg hlc ⊢;have HCG := Lib.hid hcg;have HLC := Lib.hid hlc;have tS : (S == S) = true := beq_self_eq_true _;clear hcs hlt hRV hS hcg hlc HW HG4 X4;go_wp2_with fail;refine (ints_calls x len cap f _ (HX.out.ext X5.out) (by omega) hx0).mono ?_;rintro e w6 ⟨⟨v, rfl, y4, c4, rfl, h4⟩, h6⟩;have H4 := Lib.hid h4;have X6 := Lib.hid (X5.out.trans h6);have HG6 := Lib.hid (HG5.out.ext h6);clear h4 h6 X5 HG5;go_wp2_with fail;refine (ints_calls (some ⟨g, 0, none⟩) len len (lenF f len m) _ HG6.out (by omega) (fun h => by cases h)).mono ?_;rintro e w7 ⟨⟨v, rfl, y5, c5, rfl, h5⟩, h7⟩;have X7 := Lib.hid (X6.out.trans h7);have HCG7 := Lib.hid (HCG.out w7 y4 y5 c4 c5 (H4.out.ext h7) h5);clear h5 h7 X6;go_wp2_with fail;refine HCG7.out.mono ?_;rintro e w8 ⟨rfl, h8⟩;have X8 := Lib.hid (X7.out.trans h8);clear h8;go_wp2_with fail;refine (HLC.out _ X8.out).mono ?_;rintro e w9 ⟨rfl, h9⟩;have X9 := Lib.hid (X8.out.trans h9);clear h9;go_wp2_with fail;go_ret;exact ⟨rfl, X9.out⟩
end Go.Proofs.YtdeiolagnheihaaDoor
namespace Go.Proofs.YtdeiolagnheihaaDoor
open Go.RowKit Go.ChangeShapes
theorem rowName : (Tryd.prog.cutTypes.find? (·.1 == "internal/reflectlite.rtype")).map (·.2) = some 166 := by kernel_rfl
theorem oneRow : ((List.range Tryd.prog.types.size).filter fun t => Tryd.prog.rowNamed t [101, 114, 114, 111, 114]) = [25] := by kernel_rfl
theorem etName : Tryd.prog.globalNamed "errors.errorType" = some 9 := by kernel_rfl
theorem errType_of_laid {l : List (String × DataW Unit)} {W : World} (h : laidMetH Tryd.prog l W)
  (hl : l.filter (fun x => x.1 == "errors.errorType") = [("errors.errorType", .iface "internal/reflectlite.rtype" (.agg [.ptr (.lit (.string [101, 114, 114, 111, 114]))]))]) : ErrType W := by
 have h1 := laidMetH.filter (fun x => x.1 == "errors.errorType") h
 rw [hl] at h1;have h' : laidMet Tryd.prog [] W ∧ handlesMet Tryd.prog [("errors.errorType", .iface "internal/reflectlite.rtype" (.agg [.ptr (.lit (.string [101, 114, 114, 111, 114]))]))] W := h1
 obtain ⟨name, u, ty, e1, e2, e3, e4, e5⟩ := h'.2 _ (List.mem_singleton.2 rfl);have en : name = [101, 114, 114, 111, 114] := (Option.some.inj e1).symm;subst en;obtain rfl := Option.some.inj (rowName.symm.trans e2);have hm : ty ∈ (List.range Tryd.prog.types.size).filter fun t => Tryd.prog.rowNamed t [101, 114, 114, 111, 114] := List.mem_filter.2 ⟨List.mem_range.2 e3, e4⟩;rw [oneRow] at hm;obtain rfl := List.mem_singleton.1 hm;have hh : typeHandle Tryd.prog 25 = hdl 25 := by kernel_rfl
 rw [hh] at e5;unfold ErrType;simpa using World.var?_cell etName e5 0
theorem sentinel_row {l : List (String × DataW Unit)} {W : World} {n : String} {g : Nat} {text : List UInt8} {ti : TypeId} {ms : Array (String × TypeId)} (h : laidMetH Tryd.prog l W)
  (hl : l.filter (fun x => x.1 == n) = [(n, .iface "*errors.errorString" (.ptr (.agg [.lit (.string text)])))]) (hg : Tryd.prog.globalNamed n = some g)
  (ht : (Tryd.prog.globals[g]?).map (·.type) = some ti) (hi : Tryd.prog.underlying ti = some (.interface ms)) :
  ∃ (E : Addr), W.cell? ⟨g, 0, none⟩ = some (sentV E) ∧ (∃ s : ByteArray, W.cell? E = some (.string s) ∧ s.data.toList = text) ∧ ∃ c t, W.heap[E.block]? = some (.cells c t (0, 0)) := by
 have h1 := laidMetH.filter (fun x => x.1 == n) h;rw [hl] at h1;have h2 : laidMet Tryd.prog [(n, .iface "*errors.errorString" (.ptr (.agg [.lit (.string text)])))] W := h1
 obtain ⟨ps, ⟨g0, t0, cs0, f0, p0, q0, hg0, ht0, hv0, hd0, _, e0⟩, _, hrows⟩ := h2;obtain rfl := Option.some.inj (hg.symm.trans hg0);obtain rfl := Option.some.inj (ht.symm.trans ht0);subst e0;obtain ⟨l0⟩ := cs0;have ok0 : ∀ u v, l0 = [.iface u v] → Value.okWide Tryd.prog W .any 0 u v := fun u v e => by
  subst e;exact (hrows g 0 (by simp [MemPlace.row])).2 u v (by simpa using World.var?_cell hg0 hv0 0)
 obtain ⟨a0, s0, rfl, hc0, hs0, hz0, rfl⟩ := errorString_of_trod hi sent_row Tryd.underlying180 Tryd.underlying199 rfl rfl Tryd.underlying9 (by kernel_rfl) (by kernel_rfl) hd0 ok0;obtain ⟨c, t, hb⟩ := (hrows a0.block a0.off (by simp [MemPlace.row])).1;exact ⟨a0, by unfold sentV; simpa using World.var?_cell hg0 hv0 0, ⟨s0, hc0, hs0⟩, c, t, hb⟩
def nameE : Nat → String
 | 0 => "layercake/api.ErrText"
 | 1 => "layercake/api.ErrBound"
 | 2 => "layercake/api.ErrShape"
 | 3 => "layercake/api.ErrSum"
 | 4 => "layercake/api.ErrName"
 | 5 => "layercake/api.ErrNone"
 | 6 => "layercake/api.ErrColors"
 | 7 => "layercake/api.ErrFull"
 | _ => "layercake/api.ErrPower"
def textE : Nat → List UInt8
 | 0 => [108, 97, 121, 101, 114, 99, 97, 107, 101, 58, 32, 116, 101, 120, 116]
 | 1 => [108, 97, 121, 101, 114, 99, 97, 107, 101, 58, 32, 98, 111, 117, 110, 100]
 | 2 => [108, 97, 121, 101, 114, 99, 97, 107, 101, 58, 32, 115, 104, 97, 112, 101]
 | 3 => [108, 97, 121, 101, 114, 99, 97, 107, 101, 58, 32, 115, 117, 109]
 | 4 => [108, 97, 121, 101, 114, 99, 97, 107, 101, 58, 32, 110, 97, 109, 101]
 | 5 => [108, 97, 121, 101, 114, 99, 97, 107, 101, 58, 32, 110, 111, 110, 101]
 | 6 => [108, 97, 121, 101, 114, 99, 97, 107, 101, 58, 32, 99, 111, 108, 111, 114, 115]
 | 7 => [108, 97, 121, 101, 114, 99, 97, 107, 101, 58, 32, 102, 117, 108, 108]
 | _ => [108, 97, 121, 101, 114, 99, 97, 107, 101, 58, 32, 112, 111, 119, 101, 114]
def errD (k : Nat) : List (String × DataW Unit) := [(nameE k, .iface "*errors.errorString" (.ptr (.agg [.lit (.string (textE k))])))]
theorem textE_ne : ∀ j, j < 9 → ∀ k, k < 9 → j ≠ k → textE j ≠ textE k := by decide
theorem errs_of_laid {l : List (String × DataW Unit)} {W : World} (h : laidMetH Tryd.prog l W)
  (het : l.filter (fun x => x.1 == "errors.errorType") = [("errors.errorType", .iface "internal/reflectlite.rtype" (.agg [.ptr (.lit (.string [101, 114, 114, 111, 114]))]))])
  (hl0 : l.filter (fun x => x.1 == nameE 0) = errD 0) (hl1 : l.filter (fun x => x.1 == nameE 1) = errD 1) (hl2 : l.filter (fun x => x.1 == nameE 2) = errD 2)
  (hl3 : l.filter (fun x => x.1 == nameE 3) = errD 3) (hl4 : l.filter (fun x => x.1 == nameE 4) = errD 4) (hl5 : l.filter (fun x => x.1 == nameE 5) = errD 5)
  (hl6 : l.filter (fun x => x.1 == nameE 6) = errD 6) (hl7 : l.filter (fun x => x.1 == nameE 7) = errD 7) (hl8 : l.filter (fun x => x.1 == nameE 8) = errD 8) :
  ∃ E, Errs W E ∧ ∀ k, k < 9 → ∃ s : ByteArray, W.cell? (E k) = some (.string s) ∧ s.data.toList = textE k := by
 have key : ∀ k, k < 9 → ∃ (E : Addr), W.cell? ⟨gk k, 0, none⟩ = some (sentV E) ∧ (∃ s : ByteArray, W.cell? E = some (.string s) ∧ s.data.toList = textE k) ∧ ∃ c t, W.heap[E.block]? = some (.cells c t (0, 0)) := by
  intro k hk;match k, hk with
  | 0, _ => exact sentinel_row h hl0 (by kernel_rfl) (by kernel_rfl) Tryd.underlying25
  | 1, _ => exact sentinel_row h hl1 (by kernel_rfl) (by kernel_rfl) Tryd.underlying25
  | 2, _ => exact sentinel_row h hl2 (by kernel_rfl) (by kernel_rfl) Tryd.underlying25
  | 3, _ => exact sentinel_row h hl3 (by kernel_rfl) (by kernel_rfl) Tryd.underlying25
  | 4, _ => exact sentinel_row h hl4 (by kernel_rfl) (by kernel_rfl) Tryd.underlying25
  | 5, _ => exact sentinel_row h hl5 (by kernel_rfl) (by kernel_rfl) Tryd.underlying25
  | 6, _ => exact sentinel_row h hl6 (by kernel_rfl) (by kernel_rfl) Tryd.underlying25
  | 7, _ => exact sentinel_row h hl7 (by kernel_rfl) (by kernel_rfl) Tryd.underlying25
  | 8, _ => exact sentinel_row h hl8 (by kernel_rfl) (by kernel_rfl) Tryd.underlying25
 let E : Nat → Addr := fun k => if hk : k < 9 then (key k hk).choose else ⟨0, 0, none⟩
 have hE : ∀ k (hk : k < 9), E k = (key k hk).choose := fun k hk => by simp [E, hk]
 refine ⟨E, ⟨errType_of_laid h het, fun k hk => ?_, fun k hk => ?_, fun j k hj hk hjk => ?_⟩, fun k hk => ?_⟩
 ·rw [hE k hk]; exact (key k hk).choose_spec.1
 ·rw [hE k hk]; exact (key k hk).choose_spec.2.2
 ·rw [hE j hj, hE k hk];intro e;obtain ⟨s, h1, h2⟩ := (key j hj).choose_spec.2.1;obtain ⟨s', h3, h4⟩ := (key k hk).choose_spec.2.1;rw [e, h3] at h1;injection h1 with h1; injection h1 with h1;subst h1;exact textE_ne j hj k hk hjk (h2.symm.trans h4)
 ·rw [hE k hk]; exact (key k hk).choose_spec.2.1
end Go.Proofs.YtdeiolagnheihaaDoor
namespace Go.Proofs.YtdeiolagnheihaaDoor
open Go.ChangeShapes Go.WideShapes Go.ChangeAt Go.RowKit
theorem law_readAll {H : Type} {enc : TypeId × Value → H} {P : Program} (hl : laidOutB P = true) {W W' : World} (sp : Nat → Bool) (hB : Below W.heap.size W W') :
  ∀ (ts : List TypeId) (vs : List Value) (ds : List (DataW H)) (ps : List MemPlace),
   (∀ t ∈ ts, P.readableRec t = true ∧ t < P.types.size) → (∀ p ∈ ps, p.block < W.heap.size) → (∀ p ∈ ps, sp p.block = true) →
   DataW.TrodAll enc P W 0 (fun _ => true) true ts vs ds ps → DataW.TrodAll enc P W' 0 sp true ts vs ds ps
 | [], [], [], _, _, _, _, h => h
 | t :: ts, v :: vs, d :: ds, ps, hr, hlt, hsp, h => by
  obtain ⟨p, q, h1, h2, rfl⟩ := h;have ht := hr t (List.mem_cons_self ..);refine ⟨p, q, ?_, ?_, rfl⟩
  ·exact WideElems.Trod_stays hl ht.1 ht.2 h1 (fun x hx => hB.same (hlt x (List.mem_append_left _ hx))) (fun x hx => hsp x (List.mem_append_left _ hx))
  ·exact law_readAll hl sp hB ts vs ds q (fun t' ht' => hr t' (List.mem_cons_of_mem _ ht')) (fun x hx => hlt x (List.mem_append_right _ hx)) (fun x hx => hsp x (List.mem_append_right _ hx)) h2
 | [], [], _ :: _, _, _, _, _, h => h.elim
 | [], _ :: _, _, _, _, _, _, h => h.elim
 | _ :: _, [], _, _, _, _, _, h => h.elim
 | _ :: _, _ :: _, [], _, _, _, _, h => h.elim
theorem law_post {H : Type} {enc : TypeId × Value → H} {P : Program} (hl : laidOutB P = true) {f : Func} {s : ChangeSpec} {apart fresh handsOn : Bool} {W W' : World} {args : Array Value} {ds : List (DataW H)} {before : List MemPlace} {tb : TypeId}
  (hW : DataW.Whole enc P f.params.toList s.vars apart W args.toList ds [] before) (hv : s.vars = [])
  (hfn : s.fn H (ds ++ []) = { results := [.lit (.bool true)], args := ds })
  (hread : f.params.toList.all (fun t => P.readableRec t && decide (t < P.types.size)) = true)
  (hres : f.resultTypes = #[tb]) (hb : P.underlying tb = some .bool) (hB : Below W.heap.size W W') :
  s.post enc P f apart fresh handsOn false W args (.bool true) W' := by
 have hlt : ∀ p ∈ before, p.block < W.heap.size := fun p hp => hW.lt p hp;have hr : ∀ t ∈ f.params.toList, P.readableRec t = true ∧ t < P.types.size := by
  intro t ht;have := List.all_eq_true.1 hread t ht;simpa using this
 have hW0 := hW;obtain ⟨p, q, hA, hV, hpq, hfz, hnd⟩ := hW;rw [hv] at hV;have hq : q = [] := by simpa [DataW.TrodVars] using hV
 subst hq;rw [List.append_nil] at hpq;subst hpq;have hargs : ∀ sp : Nat → Bool, (∀ x ∈ before, sp x.block = true) → DataW.TrodAll enc P W' 0 sp true f.params.toList args.toList ds before :=
  fun sp hsp => law_readAll hl sp hB _ _ _ _ hr hlt hsp hA
 have hold : ∀ x ∈ before, (fun b => decide (b < W.heap.size)) x.block = true := fun x hx => by simpa using hlt x hx
 have hresults : ∀ (b : Nat) (sp : Nat → Bool) (hd : Bool), DataW.TrodAll enc P W' b sp hd f.resultTypes.toList ((Value.bool true).resultList f.resultTypes.size) [.lit (.bool true)] [] := by
  intro b sp hd;rw [hres];exact trodAll_mk1 (shut_bool hb true)
 refine ⟨ds, [], before, [], before, [], hW0, ?_, ?_, ?_, World.keptBut_mono (fun x hx => ⟨hx, ?_⟩) (hB.frame (· ∈ before)), fun _ => ?_⟩
 ·rw [hfn]; exact hresults _ _ _
 ·rw [hfn]; exact hargs _ hold
 ·rw [hfn, hv]; rfl
 ·exact Or.inr (Or.inl hx)
 ·cases ‹false = true›
end Go.Proofs.YtdeiolagnheihaaDoor
