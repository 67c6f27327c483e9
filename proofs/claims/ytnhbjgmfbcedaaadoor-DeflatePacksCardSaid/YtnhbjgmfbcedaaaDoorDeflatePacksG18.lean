/-
  The document's reader: word.
  The document's High.
  The document's words of lengths.
  The document's reader: codes; what stands beside it.
-/
import Derived.Test.YtnhbjgmfbcedaaaDoorDeflatePacksG1
import Derived.Test.YtnhbjgmfbcedaaaDoorDeflatePacksG17
import Derived.Test.YtnhbjgmfbcedaaaDoorDeflatePacksG11
import Derived.Test.YtnhbjgmfbcedaaaDoorDeflatePacksG2
import Derived.Test.YtnhbjgmfbcedaaaDoorDeflatePacksG6
import Derived.Test.YtnhbjgmfbcedaaaDoorDeflatePacksG3
set_option linter.unusedSimpArgs false
set_option linter.unusedVariables false
set_option maxRecDepth 100000
namespace Go.Proofs.YtnhbjgmfbcedaaaDoor
open Go.RowKit
theorem high_mod (x : Nat) : ∀ k, Bts.high (x % 2 ^ k) k = Bts.high x k := by
 have h : ∀ k j y, k ≤ j → Bts.high (y % 2 ^ j) k = Bts.high y k := by
  intro k;induction k with
  | zero => intro j y _; rfl
  | succ k ih =>
   intro j y hj;have e1 : y % 2 ^ j / 2 ^ k % 2 = y / 2 ^ k % 2 := by
    have t1 : (y % 2 ^ j).testBit k = y.testBit k := by rw [Nat.testBit_mod_two_pow]; simp; omega
    rw [Nat.testBit_eq_decide_div_mod_eq, Nat.testBit_eq_decide_div_mod_eq, decide_eq_decide] at t1;omega
   apply Bts.val_inj
   ·rw [Bts.high_length, Bts.high_length]
   ·rw [Bts.val_high_succ, Bts.val_high_succ, e1, ih j y (by omega)]
 intro k; exact h k k x (Nat.le_refl _)
theorem val_high_code (N : Nat) : ∀ k a, Bts.val (Bts.high (codeAt N a k) k) = N / 2 ^ a % 2 ^ k := by
 intro k;induction k with
 | zero => intro a; simp [codeAt, Bts.high, Bts.val, Nat.mod_one]
 | succ k ih =>
  intro a;have hl := codeAt_lt N (a + 1) k;have hb : N / 2 ^ a % 2 < 2 := Nat.mod_lt _ (by decide);rw [Bts.val_high_succ, ← high_mod (codeAt N a (k + 1)) k, codeAt_first];obtain ⟨b, hbb⟩ : ∃ b, N / 2 ^ a % 2 = b := ⟨_, rfl⟩;rw [hbb] at hb ⊢;rw [Nat.mul_comm b, Nat.mul_add_mod, Nat.mod_eq_of_lt hl, ih (a + 1), Nat.mul_add_div (Nat.two_pow_pos k), Nat.div_eq_of_lt hl, Nat.add_zero, Nat.mod_eq_of_lt hb, ← hbb];rw [Nat.pow_succ 2 a, ← Nat.div_div_eq_div_mul, Nat.pow_succ];generalize N / 2 ^ a = z;generalize 2 ^ k = q;rw [Nat.mul_comm q 2, Nat.mod_mul]
theorem high_code (L : List UInt8) (a k : Nat) (h : a + k ≤ 8 * L.length) : Bts.high (codeAt (Crc.num L) a k) k = ((Bts.allB L).drop a).take k := by
 apply Bts.val_inj
 ·rw [Bts.high_length, List.length_take, List.length_drop, Bts.allB_length]; omega
 ·rw [val_high_code, bits_num L a k h]
theorem word_bits (L : List UInt8) (a k x : Nat) (h : a + k ≤ 8 * L.length) (hx : x < 2 ^ k) : Bts.high x k = ((Bts.allB L).drop a).take k ↔ x = codeAt (Crc.num L) a k := by
 constructor
 ·intro e;have := codeAt_high x k (Crc.num L) a (by rw [e, bits_num L a k h]);rw [Nat.mod_eq_of_lt hx] at this; exact this.symm
 ·intro e; rw [e]; exact high_code L a k h
theorem bs_inj {M M' : List Bool} (h : bs M = bs M') : M = M' := by
 apply Bts.str_inj;rw [← bs_list, ← bs_list, h]
/-- the longest of so many words -/
def mx (f : Nat → Int) : Nat → Nat
 | 0 => 0
 | i + 1 => max (mx f i) (f i).toNat
theorem mx_le (f : Nat → Int) (len : Nat) (h : ∀ j, j < len → 0 ≤ f j ∧ f j ≤ 15) : ∀ i, i ≤ len → mx f i ≤ 15 := by
 intro i;induction i with
 | zero => intro _; exact Nat.zero_le _
 | succ i ih => intro hi; have := ih (by omega); have := h i (by omega); simp only [mx]; omega
theorem mx_ge (f : Nat → Int) : ∀ i j, j < i → (f j).toNat ≤ mx f i := by
 intro i;induction i with
 | zero => intro j h; omega
 | succ i ih =>
  intro j h;simp only [mx];by_cases e : j = i
  ·subst e; omega
  ·have := ih j (by omega); omega
/-- a code's words in memory -/
def Cw (w : World) (Q : Nat) (v : Value) (f : Nat → Int) (len : Nat) : Prop := Inf.good f len ∧ ∃ C c, v = .slice (some ⟨C, 0, none⟩) len c ∧ C ≠ Q ∧ Cv w C len (fun i => .string (bs (Bts.high (word f len i) (f i).toNat)))
theorem Cw.keep {w w' : World} {Q : Nat} {v : Value} {f : Nat → Int} {len : Nat} {S : Nat → Prop} (h : Cw w Q v f len) (hk : Keeps S w w') (hS : ∀ C, (∃ l c, v = .slice (some ⟨C, 0, none⟩) l c) → ¬ S C) : Cw w' Q v f len := by
 obtain ⟨h0, C, c, h1, h2, h3⟩ := h;exact ⟨h0, C, c, h1, h2, h3.keeps hk (hS C ⟨_, _, h1⟩)⟩
theorem Cw.quiet {w w' : World} {Q : Nat} {v : Value} {f : Nat → Int} {len : Nat} (h : Cw w Q v f len) (hk : Keeps (fun k => k = Q) w w') : Cw w' Q v f len := by
 obtain ⟨h0, C, c, h1, h2, h3⟩ := h;exact ⟨h0, C, c, h1, h2, h3.keeps hk h2⟩
theorem gpost_dead {Q : Nat} {T : ByteArray} {a e : Nat} {x : Nat → Value} {w w' : World} {g : Except Nat (Nat × Nat)} (he : e ≠ 0) (hK : Keeps (fun k => k = Q) w w') (hB : Bk w' Q (qc T a e x)) : GPost Q T a e x w g (.returned (.int .i64 0)) w' := by
 refine ⟨hK, ?_⟩;rw [if_neg he];exact ⟨rfl, hB⟩
theorem gpost_err {Q : Nat} {T : ByteArray} {a c : Nat} {x : Nat → Value} {w w' : World} {g : Except Nat (Nat × Nat)} (hg : g = .error c) (hK : Keeps (fun k => k = Q) w w') (hB : Bk w' Q (qc T a (c + 1) x)) : GPost Q T a 0 x w g (.returned (.int .i64 0)) w' := by
 subst hg; exact ⟨hK, by rw [if_pos rfl]; exact ⟨rfl, hB⟩⟩
theorem gpost_ok {Q : Nat} {T : ByteArray} {a a' n : Nat} {x : Nat → Value} {w w' : World} {g : Except Nat (Nat × Nat)} {v : Value} (hg : g = .ok (n, a')) (hv : v = .int .i64 (n : Int)) (hK : Keeps (fun k => k = Q) w w') (hB : Bk w' Q (qc T a' 0 x)) : GPost Q T a 0 x w g (.returned v) w' := by
 subst hg hv; exact ⟨hK, by rw [if_pos rfl]; exact ⟨rfl, hB⟩⟩
/-- no word stands there that is shorter than n, where nothing failed -/
def NobE (e : Nat) (L : List UInt8) (f : Nat → Int) (len a n : Nat) : Prop := e = 0 → ∀ m k, m < n → ¬ Inf.Hit L f len a m k
set_option linter.unusedSimpArgs false in
set_option maxHeartbeats 8000000 in
theorem qword_any (Q a e len : Nat) (f : Nat → Int) (v : Value) (L : List UInt8) (x : Nat → Value) (w : World) (hB : Bk w Q (qc (bs (Bts.allB L)) a e x)) (hC : Cw w Q v f len) (ha : a ≤ 8 * L.length) (hL : L.length ≤ 300000) :
  Calls Tryd.prog 86 #[.pointer (some ⟨Q, 0, none⟩), v] w fun r w' => GPost Q (bs (Bts.allB L)) a e x w (Inf.nxt L f len a) r w' := by
 have HO := Lib.hid (fun (w : World) (h : Bk w Q (qc (bs (Bts.allB L)) a e x)) => rok_any Q a e (bs (Bts.allB L)) x w h);have HF := Lib.hid (fun (w : World) (h : Bk w Q (qc (bs (Bts.allB L)) a e x)) => rfail_any Q a e 1 (bs (Bts.allB L)) x w h);have hsz : (bs (Bts.allB L)).size = 8 * L.length := by rw [bs_size, Bts.allB_length]
 obtain ⟨T, hT⟩ : ∃ T, bs (Bts.allB L) = T := ⟨_, rfl⟩;rw [hT] at hB hsz HO HF ⊢;have HT := Lib.hid hT;have HB := Lib.hid hB;obtain ⟨hgood, C, cc, rfl, hCQ, hcv⟩ := hC;have HGd := Lib.hid hgood;have HCv := Lib.hid hcv;have HC0 := Lib.hid hCQ;have hlen : len ≤ 300 := hgood.1.1;have HFB := Lib.hid hgood.1.2;obtain ⟨g, hg⟩ : ∃ g, Inf.nxt L f len a = g := ⟨_, rfl⟩;rw [hg];have HG := Lib.hid hg;clear hB hT hgood hcv hCQ hg;go_enter Tryd.func86, Tryd.ntmps86
 go_wp2_with fail;go_loopw [5, 6] (fun y z wr => ∃ i : Nat, i ≤ len ∧ z = .int .i64 i ∧ y = .int .i64 (mx f i : Int) ∧ wr = w) (fun _ z _ => len - (intOf z).toNat)
 case atStart => exact ⟨0, by omega, rfl, rfl, by first | rfl | trivial⟩
 case round =>
  obtain ⟨i, hi, rfl, rfl, hw⟩ := hrel;have hw2 := hw.symm;clear hw;subst hw2;by_cases hlt : i < len
  ·have hc := (HCv.out i hlt).1;obtain ⟨S, hS⟩ : ∃ S, bs (Bts.high (word f len i) (f i).toNat) = S := ⟨_, rfl⟩;have hSs : S.size = (f i).toNat := by rw [← hS, bs_size, Bts.high_length]
   have hfb := HFB.out i hlt;simp only [hS] at hc;obtain ⟨P, hP⟩ : ∃ P, mx f i = P := ⟨_, rfl⟩;have hm : mx f (i + 1) = if P < S.size then S.size else P := by simp only [mx, hP, hSs]; split <;> omega
   have HM := Lib.hid hm;rw [hP];have wi : ∀ z, z = (i : Int) + 1 → IntKind.i64.wrap z = z := by rintro _ rfl; rw [IntKind.wrap_i64]; omega
   have hiI : (i : Int) < (len : Int) := by omega
   by_cases hlm : P < S.size
   ·have t1 : decide ((P : Int) < (S.size : Int)) = true := decide_eq_true (by omega);clear hS hP hm hfb hSs;go_wp2_with fail;go_roundw
    case rel => exact ⟨i + 1, by omega, by go_num, by rw [HM.out, if_pos hlm], by first | rfl | trivial⟩
    case measure => simp [intOf]; omega
   ·have t1 : decide ((P : Int) < (S.size : Int)) = false := decide_eq_false (by omega);clear hS hP hm hfb hSs;go_wp2_with fail;go_roundw
    case rel => exact ⟨i + 1, by omega, by go_num, by rw [HM.out, if_neg hlm], by first | rfl | trivial⟩
    case measure => simp [intOf]; omega
  ·obtain rfl : i = len := by omega
   obtain ⟨P, hP⟩ : ∃ P, mx f i = P := ⟨_, rfl⟩;have hP15 : P ≤ 15 := by rw [← hP]; exact mx_le f i HFB.out i (Nat.le_refl _)
   have HP := Lib.hid hP;rw [hP];clear hP hlt;go_wp2_with fail;go_loopw [7] (fun z wr => ∃ n : Nat, 1 ≤ n ∧ n ≤ P + 1 ∧ z = .int .i64 n ∧ Hid (Ext w wr) ∧ Hid (NobE e L f i a n)) (fun z _ => P + 1 - (intOf z).toNat)
   case atStart => exact ⟨1, by omega, by omega, rfl, Lib.hid (Ext.refl _), Lib.hid (fun _ m k hm hh => by have := hh.1; omega)⟩
   case round =>
    obtain ⟨n, hn1, hn2, rfl, HX, HN⟩ := hrel;by_cases hnP : n ≤ P
    ·have t1 : decide ((n : Int) ≤ (P : Int)) = true := decide_eq_true (by omega);have n1 : n ≤ P := hnP;refine wp_world (fun wz => Ext w wz) HX.out ?_;rintro wo hXo;clear HX;have HX := Lib.hid hXo;have HBo := Lib.hid (HB.out.ext hXo);clear hXo;go_wp2_with fail;refine (HO.out wo HBo.out).mono ?_;rintro r _ ⟨rfl, rfl⟩;by_cases he : e = 0
     ·subst he;have hd : decide (0 = 0) = true := rfl;rw [hd];obtain ⟨Z, hZ⟩ : ∃ Z, T.size = Z := ⟨_, rfl⟩;obtain ⟨A, hA⟩ : ∃ A, a + n = A := ⟨_, rfl⟩;have hAI : (a : Int) + (n : Int) = (A : Int) := by omega
      have hA2 : A ≤ 3000000 := by omega
      have wA : ∀ z, z = (A : Int) → IntKind.i64.wrap z = z := by rintro _ rfl; rw [IntKind.wrap_i64]; omega
      have c0 := HBo.out.cell 0;have c1 := HBo.out.cell 1;simp only [qc] at c0 c1;clear t1 n1;go_wp2_with fail;by_cases hlz : Z < A
      ·have t2 : decide ((Z : Int) < (A : Int)) = true := decide_eq_true (by omega);have HQ : Hid (g = .error 0) := Lib.hid (by
        rw [← HG.out];refine Inf.nxt_none fun m k hh => ?_;have h1 := hh.2.2.1;rcases Nat.lt_or_ge m n with q | q
        ·exact HN.out rfl m k q hh
        ·omega)
       refine wp_regionQ (by kernel_rfl) (by kernel_rfl) ?_;refine wpQ_yes (by kernel_rfl) (fun K hK => ?_);go_simp;refine hK _ ?_;clear hK K;refine wpQ_yes (by kernel_rfl) (fun K hK => ?_);go_simp;refine hK _ ?_;clear hK K;refine wpQ_yes (by kernel_rfl) (fun K hK => ?_);go_simp;refine hK _ ?_;clear hK K;refine wpQ_yes (by kernel_rfl) (fun K hK => ?_);go_simp;refine hK _ ?_;clear hK K;refine wpQ_yes (by kernel_rfl) (fun K hK => ?_);go_simp;refine hK _ ?_;clear hK K;refine wpQ_yes (by kernel_rfl) (fun K hK => ?_);go_simp;refine hK _ ?_;clear hK K;refine wpQ_yes (by kernel_rfl) (fun K hK => ?_);go_simp;refine hK _ ?_;clear hK K;refine wpQ_yes (by kernel_rfl) (fun K hK => ?_);go_simp;refine hK _ ?_;clear hK K;refine wpQ_yes (by kernel_rfl) (fun K hK => ?_);go_simp;refine hK _ ?_;clear hK K;refine wpQ_yes (by kernel_rfl) (fun K hK => ?_);go_simp;refine hK _ ?_;clear hK K;refine wpQ_yes (by kernel_rfl) (fun K hK => ?_);go_simp;refine hK _ ?_;clear hK K;refine wpQ_yes (by kernel_rfl) (fun K hK => ?_);go_simp;refine hK _ ?_;clear hK K;refine wpQ_nil ?_;go_wp2_with fail;refine (HF.out _ HBo.out.drew).mono ?_;rintro r w1 ⟨rfl, hB1, hK1⟩;have HB1 := Lib.hid hB1;have HK1 := Lib.hid (((HX.out.drewN 1).keeps (S := fun k => k = Q)).trans hK1 (fun _ _ q => q));clear hB1 hK1;go_wp2_with fail;go_ret;exact gpost_err HQ.out HK1.out HB1.out
      ·have t2 : decide ((Z : Int) < (A : Int)) = false := decide_eq_false (by omega);have hAZ : A ≤ Z := by omega
       have HAL : Hid (a + n ≤ 8 * L.length) := Lib.hid (by omega);refine wp_regionQ (by kernel_rfl) (by kernel_rfl) ?_;refine wpQ_yes (by kernel_rfl) (fun K hK => ?_);go_simp;refine hK _ ?_;clear hK K;refine wpQ_yes (by kernel_rfl) (fun K hK => ?_);go_simp;refine hK _ ?_;clear hK K;refine wpQ_yes (by kernel_rfl) (fun K hK => ?_);go_simp;refine hK _ ?_;clear hK K;refine wpQ_yes (by kernel_rfl) (fun K hK => ?_);go_simp;refine hK _ ?_;clear hK K;refine wpQ_yes (by kernel_rfl) (fun K hK => ?_);go_simp;refine hK _ ?_;clear hK K;refine wpQ_yes (by kernel_rfl) (fun K hK => ?_);go_simp;refine hK _ ?_;clear hK K;refine wpQ_yes (by kernel_rfl) (fun K hK => ?_);go_simp;refine hK _ ?_;clear hK K;refine wpQ_yes (by kernel_rfl) (fun K hK => ?_);go_simp;refine hK _ ?_;clear hK K;refine wpQ_yes (by kernel_rfl) (fun K hK => ?_);go_simp;refine hK _ ?_;clear hK K;refine wpQ_yes (by kernel_rfl) (fun K hK => ?_);go_simp;refine hK _ ?_;clear hK K;refine wpQ_yes (by kernel_rfl) (fun K hK => ?_);go_simp;refine hK _ ?_;clear hK K;refine wpQ_yes (by kernel_rfl) (fun K hK => ?_);go_simp;refine hK _ ?_;clear hK K;refine wpQ_nil ?_;go_wp2_with fail;clear t2 hlz c0 c1;go_loopw [8] (fun z wr => ∃ j : Nat, j ≤ i ∧ z = .int .i64 j ∧ Hid (Ext w wr) ∧ Hid (∀ k, k < j → ¬ Inf.Hit L f i a n k)) (fun z _ => i - (intOf z).toNat)
       case atStart => exact ⟨0, by omega, rfl, Lib.hid (HX.out.drewN 1), Lib.hid (fun k hk => by omega)⟩
       case round =>
        obtain ⟨j, hj, rfl, HY, HJ⟩ := hrel;by_cases hlj : j < i
        ·have hcc := HCv.out.ext HY.out;have hc := (hcc j hlj).1;obtain ⟨S, hS⟩ : ∃ S, bs (Bts.high (word f i j) (f j).toNat) = S := ⟨_, rfl⟩;have hSs : S.size = (f j).toNat := by rw [← hS, bs_size, Bts.high_length]
         have hfb := HFB.out j hlj;simp only [hS] at hc;have wi : ∀ z, z = (j : Int) + 1 → IntKind.i64.wrap z = z := by rintro _ rfl; rw [IntKind.wrap_i64]; omega
         have hjI : (j : Int) < (i : Int) := by omega
         have HBy := Lib.hid (HB.out.ext HY.out);have c0 := HBy.out.cell 0;have c1 := HBy.out.cell 1;simp only [qc] at c0 c1;have HSs := Lib.hid hSs;have HS := Lib.hid hS;by_cases hsn : S.size = n
         ·have t3 : ((S.size : Int) == (n : Int)) = true := beq_iff_eq.2 (by omega);have haA2 : (a : Int) ≤ (A : Int) := by omega
          have hAZ2 : (A : Int) ≤ (Z : Int) := by omega
          have ha0 : (0 : Int) ≤ (a : Int) := by omega
          have haA : a ≤ A := by omega
          have hat : ((a : Nat) : Int).toNat = a := by omega
          have hAt : ((A : Nat) : Int).toNat = A := by omega
          have hAT : A ≤ T.size := by omega
          obtain ⟨X, hX⟩ : ∃ X, T.extract a A = X := ⟨_, rfl⟩;have hXs : X = bs (((Bts.allB L).drop a).take n) := by rw [← hX, ← HT.out, bs_extract _ _ _ haA, show A - a = n by omega]
          have hw2 : word f i j < 2 ^ n := by
           have := (word_lt2 f i j n HGd.out.2 hlj (by omega) hn1 (by omega)).2; exact this
          have hiff : S = X ↔ word f i j = codeAt (Crc.num L) a n := by
           rw [← word_bits L a n _ HAL.out hw2, hXs, ← hS];have e1 : (f j).toNat = n := by omega
           rw [e1];exact ⟨fun h => bs_inj h, fun h => by rw [h]⟩
          have HI := Lib.hid hiff;by_cases hSX : S = X
          ·have HH : Hid (Inf.Hit L f i a n j) := Lib.hid ⟨hn1, by omega, HAL.out, hlj, by omega, HI.out.1 hSX⟩;have HQ : Hid (g = .ok (j, A)) := Lib.hid (by rw [← HG.out, ← hA]; exact Inf.nxt_hit HGd.out.2 HH.out);have HBA := Lib.hid ((HBy.out.drewN 1).put1 A);subst hSX;have t4 : (S.toList == S.toList) = true := beq_self_eq_true _;clear hS hSs hXs hiff hw2 hsz hfb hZ hA;go_wp2_with fail;refine wp_regionQ (by kernel_rfl) (by kernel_rfl) ?_;refine wpQ_yes (by kernel_rfl) (fun K hK => ?_);go_simp;refine hK _ ?_;clear hK K;refine wpQ_yes (by kernel_rfl) (fun K hK => ?_);go_simp;refine hK _ ?_;clear hK K;refine wpQ_yes (by kernel_rfl) (fun K hK => ?_);go_simp;refine hK _ ?_;clear hK K;refine wpQ_yes (by kernel_rfl) (fun K hK => ?_);go_simp;refine hK _ ?_;clear hK K;refine wpQ_yes (by kernel_rfl) (fun K hK => ?_);go_simp;refine hK _ ?_;clear hK K;refine wpQ_yes (by kernel_rfl) (fun K hK => ?_);go_simp;refine hK _ ?_;clear hK K;refine wpQ_yes (by kernel_rfl) (fun K hK => ?_);go_simp;refine hK _ ?_;clear hK K;refine wpQ_yes (by kernel_rfl) (fun K hK => ?_);go_simp;refine hK _ ?_;clear hK K;refine wpQ_yes (by kernel_rfl) (fun K hK => ?_);go_simp;refine hK _ ?_;clear hK K;refine wpQ_yes (by kernel_rfl) (fun K hK => ?_);go_simp;refine hK _ ?_;clear hK K;refine wpQ_yes (by kernel_rfl) (fun K hK => ?_);go_simp;refine hK _ ?_;clear hK K;refine wpQ_yes (by kernel_rfl) (fun K hK => ?_);go_simp;refine hK _ ?_;clear hK K;refine wpQ_yes (by kernel_rfl) (fun K hK => ?_);go_simp;refine hK _ ?_;clear hK K
           refine wpQ_yes (by kernel_rfl) (fun K hK => ?_);go_simp;refine hK _ ?_;clear hK K;refine wpQ_yes (by kernel_rfl) (fun K hK => ?_);go_simp;refine hK _ ?_;clear hK K;refine wpQ_yes (by kernel_rfl) (fun K hK => ?_);go_simp;refine hK _ ?_;clear hK K;refine wpQ_yes (by kernel_rfl) (fun K hK => ?_);go_simp;refine hK _ ?_;clear hK K;refine wpQ_yes (by kernel_rfl) (fun K hK => ?_);go_simp;refine hK _ ?_;clear hK K;refine wpQ_yes (by kernel_rfl) (fun K hK => ?_);go_simp;refine hK _ ?_;clear hK K;refine wpQ_yes (by kernel_rfl) (fun K hK => ?_);go_simp;refine hK _ ?_;clear hK K;refine wpQ_yes (by kernel_rfl) (fun K hK => ?_);go_simp;refine hK _ ?_;clear hK K;refine wpQ_yes (by kernel_rfl) (fun K hK => ?_);go_simp;refine hK _ ?_;clear hK K;refine wpQ_yes (by kernel_rfl) (fun K hK => ?_);go_simp;refine hK _ ?_;clear hK K;refine wpQ_yes (by kernel_rfl) (fun K hK => ?_);go_simp;refine hK _ ?_;clear hK K;refine wpQ_yes (by kernel_rfl) (fun K hK => ?_);go_simp;refine hK _ ?_;clear hK K;refine wpQ_yes (by kernel_rfl) (fun K hK => ?_);go_simp;refine hK _ ?_;clear hK K;refine wpQ_yes (by kernel_rfl) (fun K hK => ?_);go_simp;refine hK _ ?_;clear hK K;refine wpQ_yes (by kernel_rfl) (fun K hK => ?_);go_simp;refine hK _ ?_;clear hK K;refine wpQ_yes (by kernel_rfl) (fun K hK => ?_);go_simp;refine hK _ ?_;clear hK K;refine wpQ_nil ?_;have f1 := HBy.out.frozen 1;go_wp2_with fail;go_ret;exact gpost_ok HQ.out rfl ((((HY.out.drewN 1).keeps (S := fun k => k = Q))).setCell (p := ⟨Q, 1, none⟩) (.inl rfl) _) HBA.out
          ·have HJ2 : Hid (∀ k, k < j + 1 → ¬ Inf.Hit L f i a n k) := Lib.hid (fun k hk hh => by
            rcases Nat.lt_succ_iff_lt_or_eq.1 hk with q | q
            ·exact HJ.out k q hh
            ·subst q; exact hSX (HI.out.2 hh.2.2.2.2.2))
           have t4 : (S.toList == X.toList) = false := by
            rw [ByteArray.toList_eq, ByteArray.toList_eq];exact beq_eq_false_iff_ne.2 (fun q => hSX (bytes_ext q))
           clear hS hSs hXs hiff hw2 hsz hfb hZ hA;go_wp2_with fail;refine wp_regionQ (by kernel_rfl) (by kernel_rfl) ?_;refine wpQ_yes (by kernel_rfl) (fun K hK => ?_);go_simp;refine hK _ ?_;clear hK K;refine wpQ_yes (by kernel_rfl) (fun K hK => ?_);go_simp;refine hK _ ?_;clear hK K;refine wpQ_yes (by kernel_rfl) (fun K hK => ?_);go_simp;refine hK _ ?_;clear hK K;refine wpQ_yes (by kernel_rfl) (fun K hK => ?_);go_simp;refine hK _ ?_;clear hK K;refine wpQ_yes (by kernel_rfl) (fun K hK => ?_);go_simp;refine hK _ ?_;clear hK K;refine wpQ_yes (by kernel_rfl) (fun K hK => ?_);go_simp;refine hK _ ?_;clear hK K;refine wpQ_yes (by kernel_rfl) (fun K hK => ?_);go_simp;refine hK _ ?_;clear hK K;refine wpQ_yes (by kernel_rfl) (fun K hK => ?_);go_simp;refine hK _ ?_;clear hK K;refine wpQ_yes (by kernel_rfl) (fun K hK => ?_);go_simp;refine hK _ ?_;clear hK K;refine wpQ_yes (by kernel_rfl) (fun K hK => ?_);go_simp;refine hK _ ?_;clear hK K;refine wpQ_yes (by kernel_rfl) (fun K hK => ?_);go_simp;refine hK _ ?_;clear hK K;refine wpQ_yes (by kernel_rfl) (fun K hK => ?_);go_simp;refine hK _ ?_;clear hK K;refine wpQ_yes (by kernel_rfl) (fun K hK => ?_);go_simp;refine hK _ ?_;clear hK K;refine wpQ_yes (by kernel_rfl) (fun K hK => ?_);go_simp;refine hK _ ?_;clear hK K;refine wpQ_yes (by kernel_rfl) (fun K hK => ?_);go_simp;refine hK _ ?_;clear hK K;refine wpQ_yes (by kernel_rfl) (fun K hK => ?_);go_simp;refine hK _ ?_;clear hK K;refine wpQ_yes (by kernel_rfl) (fun K hK => ?_);go_simp;refine hK _ ?_;clear hK K
           refine wpQ_yes (by kernel_rfl) (fun K hK => ?_);go_simp;refine hK _ ?_;clear hK K;refine wpQ_yes (by kernel_rfl) (fun K hK => ?_);go_simp;refine hK _ ?_;clear hK K;refine wpQ_yes (by kernel_rfl) (fun K hK => ?_);go_simp;refine hK _ ?_;clear hK K;refine wpQ_yes (by kernel_rfl) (fun K hK => ?_);go_simp;refine hK _ ?_;clear hK K;refine wpQ_yes (by kernel_rfl) (fun K hK => ?_);go_simp;refine hK _ ?_;clear hK K;refine wpQ_yes (by kernel_rfl) (fun K hK => ?_);go_simp;refine hK _ ?_;clear hK K;refine wpQ_yes (by kernel_rfl) (fun K hK => ?_);go_simp;refine hK _ ?_;clear hK K;refine wpQ_yes (by kernel_rfl) (fun K hK => ?_);go_simp;refine hK _ ?_;clear hK K;refine wpQ_yes (by kernel_rfl) (fun K hK => ?_);go_simp;refine hK _ ?_;clear hK K;refine wpQ_yes (by kernel_rfl) (fun K hK => ?_);go_simp;refine hK _ ?_;clear hK K;refine wpQ_yes (by kernel_rfl) (fun K hK => ?_);go_simp;refine hK _ ?_;clear hK K;refine wpQ_yes (by kernel_rfl) (fun K hK => ?_);go_simp;refine hK _ ?_;clear hK K;refine wpQ_nil ?_;go_wp2_with fail;go_roundw
           case rel => exact ⟨j + 1, by omega, by go_num, Lib.hid (HY.out.drewN 1), HJ2⟩
           case measure => simp [intOf]; omega
         ·have t3 : ((S.size : Int) == (n : Int)) = false := beq_eq_false_iff_ne.2 (by omega);have n3 : ¬ S.size = n := hsn;have HJ2 : Hid (∀ k, k < j + 1 → ¬ Inf.Hit L f i a n k) := Lib.hid (fun k hk hh => by
           rcases Nat.lt_succ_iff_lt_or_eq.1 hk with q | q
           ·exact HJ.out k q hh
           ·subst q;have h1 := hh.2.2.2.2.1;have h2 := HSs.out;omega)
          clear hS hSs hsz hfb hZ hA;go_wp2_with fail;refine wp_regionQ (by kernel_rfl) (by kernel_rfl) ?_;refine wpQ_yes (by kernel_rfl) (fun K hK => ?_);go_simp;refine hK _ ?_;clear hK K;refine wpQ_yes (by kernel_rfl) (fun K hK => ?_);go_simp;refine hK _ ?_;clear hK K;refine wpQ_yes (by kernel_rfl) (fun K hK => ?_);go_simp;refine hK _ ?_;clear hK K;refine wpQ_yes (by kernel_rfl) (fun K hK => ?_);go_simp;refine hK _ ?_;clear hK K;refine wpQ_yes (by kernel_rfl) (fun K hK => ?_);go_simp;refine hK _ ?_;clear hK K;refine wpQ_yes (by kernel_rfl) (fun K hK => ?_);go_simp;refine hK _ ?_;clear hK K;refine wpQ_yes (by kernel_rfl) (fun K hK => ?_);go_simp;refine hK _ ?_;clear hK K;refine wpQ_yes (by kernel_rfl) (fun K hK => ?_);go_simp;refine hK _ ?_;clear hK K;refine wpQ_no (by kernel_rfl) ?_;(try simp only [Act.put, xa, xb, xc, xd, xe, xf]);refine wpQ_no (by kernel_rfl) ?_;(try simp only [Act.put, xa, xb, xc, xd, xe, xf]);refine wpQ_no (by kernel_rfl) ?_;(try simp only [Act.put, xa, xb, xc, xd, xe, xf]);refine wpQ_no (by kernel_rfl) ?_;(try simp only [Act.put, xa, xb, xc, xd, xe, xf]);refine wpQ_no (by kernel_rfl) ?_;(try simp only [Act.put, xa, xb, xc, xd, xe, xf]);refine wpQ_no (by kernel_rfl) ?_;(try simp only [Act.put, xa, xb, xc, xd, xe, xf]);refine wpQ_no (by kernel_rfl) ?_;(try simp only [Act.put, xa, xb, xc, xd, xe, xf]);refine wpQ_no (by kernel_rfl) ?_;(try simp only [Act.put, xa, xb, xc, xd, xe, xf]);refine wpQ_no (by kernel_rfl) ?_;(try simp only [Act.put, xa, xb, xc, xd, xe, xf]);refine wpQ_no (by kernel_rfl) ?_
          (try simp only [Act.put, xa, xb, xc, xd, xe, xf]);refine wpQ_no (by kernel_rfl) ?_;(try simp only [Act.put, xa, xb, xc, xd, xe, xf]);refine wpQ_no (by kernel_rfl) ?_;(try simp only [Act.put, xa, xb, xc, xd, xe, xf]);refine wpQ_no (by kernel_rfl) ?_;(try simp only [Act.put, xa, xb, xc, xd, xe, xf]);refine wpQ_no (by kernel_rfl) ?_;(try simp only [Act.put, xa, xb, xc, xd, xe, xf]);refine wpQ_no (by kernel_rfl) ?_;(try simp only [Act.put, xa, xb, xc, xd, xe, xf]);refine wpQ_no (by kernel_rfl) ?_;(try simp only [Act.put, xa, xb, xc, xd, xe, xf]);refine wpQ_no (by kernel_rfl) ?_;(try simp only [Act.put, xa, xb, xc, xd, xe, xf]);refine wpQ_no (by kernel_rfl) ?_;(try simp only [Act.put, xa, xb, xc, xd, xe, xf]);refine wpQ_no (by kernel_rfl) ?_;(try simp only [Act.put, xa, xb, xc, xd, xe, xf]);refine wpQ_no (by kernel_rfl) ?_;(try simp only [Act.put, xa, xb, xc, xd, xe, xf]);refine wpQ_yes (by kernel_rfl) (fun K hK => ?_);go_simp;refine hK _ ?_;clear hK K;refine wpQ_nil ?_;go_wp2_with fail;go_roundw
          case rel => exact ⟨j + 1, by omega, by go_num, Lib.hid (HY.out.drewN 1), HJ2⟩
          case measure => simp [intOf]; omega
        ·obtain rfl : j = i := by omega
         have HN2 : Hid (NobE 0 L f j a (n + 1)) := Lib.hid (fun _ m k hm hh => by
          rcases Nat.lt_succ_iff_lt_or_eq.1 hm with q | q
          ·exact HN.out rfl m k q hh
          ·subst q; exact HJ.out k hh.2.2.2.1 hh)
         have wi : ∀ z, z = (n : Int) + 1 → IntKind.i64.wrap z = z := by rintro _ rfl; rw [IntKind.wrap_i64]; omega
         go_wp2_with fail;go_roundw
         case rel => exact ⟨n + 1, by omega, by omega, by go_num, HY, HN2⟩
         case measure => simp [intOf]; omega
     ·have hd : decide (e = 0) = false := decide_eq_false he;have hfl : fl e 1 = e := if_neg he;rw [hd];go_wp2_with fail;refine (HF.out _ HBo.out).mono ?_;rintro r w1 ⟨rfl, hB1, hK1⟩;rw [hfl] at hB1;have HB1 := Lib.hid hB1;have HK1 := Lib.hid ((HX.out.keeps (S := fun k => k = Q)).trans hK1 (fun _ _ q => q));clear hB1 hK1;go_wp2_with fail;go_ret;exact gpost_dead he HK1.out HB1.out
    ·have t1 : decide ((n : Int) ≤ (P : Int)) = false := decide_eq_false (by omega);have n1 : ¬ n ≤ P := hnP;have HBo := Lib.hid (HB.out.ext HX.out);go_wp2_with fail;refine (HF.out wr HBo.out).mono ?_;rintro r w1 ⟨rfl, hB1, hK1⟩;have HB1 := Lib.hid hB1;have HK1 := Lib.hid ((HX.out.keeps (S := fun k => k = Q)).trans hK1 (fun _ _ q => q));clear hB1 hK1;go_wp2_with fail;go_ret;by_cases he : e = 0
     ·subst he;refine gpost_err (c := 0) ?_ HK1.out HB1.out;rw [← HG.out];refine Inf.nxt_none fun m k hh => ?_;have h1 := hh.2.2.2.2.1;have h2 := mx_ge f i k hh.2.2.2.1;have h3 := HP.out;exact HN.out rfl m k (by omega) hh
     ·have hfl : fl e 1 = e := if_neg he;have q := HB1.out;rw [hfl] at q;exact gpost_dead he HK1.out q
end Go.Proofs.YtnhbjgmfbcedaaaDoor
namespace Go.Proofs.YtnhbjgmfbcedaaaDoor
open Go.RowKit
theorem high_any (x k : Nat) (hx : x < 4294967296) (hk : k ≤ 64) (w : World) : Calls Tryd.prog 41 #[.int .u32 (x : Int), .int .i64 (k : Int)] w fun e w' => e = .returned (.string (bs (Bts.high x k))) ∧ Ext w w' := by
  go_enter Tryd.func41, Tryd.ntmps41
  go_wp2_with fail;rw [show ({ data := #[] } : ByteArray) = bs [] from bs_nil];go_loopw [0, 5, 6] (fun p o c wr => ∃ i : Nat, i ≤ k ∧ c = .int .i64 i ∧ p = .int .u32 ((x / 2 ^ i : Nat) : Int) ∧ o = .string (bs (Bts.high x i)) ∧ Hid (Ext w wr)) (fun _ _ c _ => k - (intOf c).toNat)
  case atStart => exact ⟨0, by omega, rfl, by simp, rfl, Lib.hid (Ext.refl w)⟩
  case round =>
    obtain ⟨i, hi, rfl, rfl, rfl, HX⟩ := hrel;by_cases hlt : i < k
    · obtain ⟨y, hy⟩ : ∃ y, x / 2 ^ i = y := ⟨_, rfl⟩;have hy2 : x / 2 ^ (i + 1) = y / 2 := by rw [Nat.pow_succ, ← Nat.div_div_eq_div_mul, hy]
      have hyl : y < 4294967296 := by rw [← hy]; exact Nat.lt_of_le_of_lt (Nat.div_le_self _ _) hx
      have HL : Hid (bs [y % 2 == 1] ++ bs (Bts.high x i) = bs (Bts.high x (i + 1))) := Lib.hid (by rw [bs_append, Bts.high, hy]; rfl);have hz1 : (bs (Bts.high x i)).size ≤ 64 := by rw [bs_size, Bts.high_length]; omega
      have hz2 : (bs [y % 2 == 1]).size = 1 := by rw [bs_size]; rfl
      rw [hy];have HY2 := Lib.hid hy2;clear hy hy2;go_wp2_with fail;refine (bit_any y _).mono ?_;rintro e w2 ⟨rfl, hE⟩;have HX2 := Lib.hid (HX.out.trans hE);clear hE;go_wp2_with fail;rw [HL.out];go_roundw
      case rel => exact ⟨i + 1, by omega, by go_num, by rw [HY2.out]; go_num, rfl, HX2⟩
      case measure => simp [intOf]; omega
    · obtain rfl : i = k := by omega
      go_wp2_with fail;go_ret;exact ⟨rfl, HX.out⟩
end Go.Proofs.YtnhbjgmfbcedaaaDoor
namespace Go.Proofs.YtnhbjgmfbcedaaaDoor
open Go.RowKit
theorem strinfo : (Tryd.prog.info? 9).map (fun i => (i.zero, i.size, i.bytes)) = some (some (.string ⟨#[]⟩), 1, 16) := by kernel_rfl
/-- where the document's count of words stands: at length n, element i, the last word had length l and number c -/
def CodeAt (f : Nat → Int) (len n i l c : Nat) : Prop :=
 l ≤ n ∧ c < 32768 ∧ (l = 0 → c = 0 ∧ first f len n + many f n i = 0) ∧ (0 < l → first f len n + many f n i = (c + 1) * 2 ^ (n - l))
theorem CodeAt.skip {f : Nat → Int} {len n i l c : Nat} (h : CodeAt f len n i l c) (hf : ¬ f i = n) : CodeAt f len n (i + 1) l c := by
 unfold CodeAt at *; rw [many_not f n i hf]; exact h
theorem CodeAt.next {f : Nat → Int} {len n l c : Nat} (h : CodeAt f len n len l c) (hn : 1 ≤ n) : CodeAt f len (n + 1) 0 l c := by
 obtain ⟨h1, h2, h3, h4⟩ := h;refine ⟨by omega, h2, fun q => ?_, fun q => ?_⟩
 ·obtain ⟨q1, q2⟩ := h3 q;refine ⟨q1, ?_⟩;rw [first_succ f len n hn, q2]; rfl
 ·have q2 := h4 q;rw [first_succ f len n hn, q2, show many f (n + 1) 0 = 0 from rfl, Nat.add_zero, show n + 1 - l = (n - l) + 1 by omega, Nat.pow_succ, Nat.mul_assoc]
theorem CodeAt.start (f : Nat → Int) (len : Nat) : CodeAt f len 1 0 0 0 := ⟨by omega, by omega, fun _ => ⟨rfl, rfl⟩, fun h => by omega⟩
/-- the word of element i, of length n -/
theorem CodeAt.hit {f : Nat → Int} {len n i l c : Nat} (_h : CodeAt f len n i l c) (hf : f i = n) (hn : 1 ≤ n) (hw : first f len n + many f n i < 32768) :
  CodeAt f len n (i + 1) n (first f len n + many f n i) ∧ word f len i = first f len n + many f n i := by
 refine ⟨⟨by omega, hw, fun q => by omega, fun _ => ?_⟩, ?_⟩
 ·rw [many_at f n i hf, Nat.sub_self, Nat.pow_zero]; omega
 ·unfold word; rw [if_pos (by omega), hf]; rfl
def outAt (f : Nat → Int) (len n i j : Nat) : Value := if 1 ≤ f j ∧ (f j < n ∨ (f j = n ∧ j < i)) then .string (bs (Bts.high (word f len j) (f j).toNat)) else .string (bs [])
set_option maxHeartbeats 4000000 in
theorem codesOf_any (x : Option Addr) (len cap : Nat) (f : Nat → Int) (w : World) (hx : Ints w x len f) (hb : inBounds f len) (hc : complete f len) :
  Calls Tryd.prog 46 #[.slice x len cap] w fun e w' => (∃ B, w.heap.size ≤ B ∧ e = .returned (.slice (some ⟨B, 0, none⟩) len len) ∧ Cv w' B len (fun i => .string (bs (Bts.high (word f len i) (f i).toNat)))) ∧ Ext w w' := by
 have hl := hb.1;have HX := Lib.hid hx;have HB := Lib.hid hb;have HC := Lib.hid hc;have hmk := fun w => run_make_row' (P := Tryd.prog) 68 9 (.string ⟨#[]⟩) 16 Tryd.underlying68 strinfo rfl .i64 .i64 len (by omega) (by omega) w;clear hx hb hc;go_enter Tryd.func46, Tryd.ntmps46
 go_wp2_with fail;clear hmk;have HR0 : Hid (Cv (w.alloc (.cells (madeCells #[.string ⟨#[]⟩] len) 9)) w.heap.size len (outAt f len 1 0)) := Lib.hid ((Cv.made w len _ _).congr (fun j hj => by
  unfold outAt;rw [if_neg (by omega)];exact congrArg Value.string bs_nil.symm))
 have HX0 : Hid (Ext w (w.alloc (.cells (madeCells #[.string ⟨#[]⟩] len) 9))) := Lib.hid ((Ext.refl w).alloc _);go_loopw [4, 5, 6] (fun u v q wr => ∃ n l c : Nat, 1 ≤ n ∧ n ≤ 16 ∧ q = .int .i64 n ∧ v = .int .i64 l ∧ u = .int .u32 c ∧ Hid (CodeAt f len n 0 l c) ∧ Hid (Cv wr w.heap.size len (outAt f len n 0)) ∧ Hid (Ext w wr)) (fun _ _ q _ => 16 - (intOf q).toNat)
 case atStart => exact ⟨1, 0, 0, by omega, by omega, rfl, rfl, rfl, Lib.hid (CodeAt.start f len), HR0, HX0⟩
 case round =>
  obtain ⟨n, l, c, hn1, hn2, rfl, rfl, rfl, HCA, HR, HE⟩ := hrel;by_cases hlt : n < 16
  ·have tn : decide ((n : Int) ≤ 15) = true := decide_eq_true (by omega);go_wp2_with fail;go_loopw [4, 5, 7] (fun u v q wr => ∃ i l c : Nat, i ≤ len ∧ q = .int .i64 i ∧ v = .int .i64 l ∧ u = .int .u32 c ∧ Hid (CodeAt f len n i l c) ∧ Hid (Cv wr w.heap.size len (outAt f len n i)) ∧ Hid (Ext w wr)) (fun _ _ q _ => len - (intOf q).toNat)
   case atStart => exact ⟨0, l, c, by omega, rfl, rfl, rfl, HCA, HR, HE⟩
   case round =>
    clear HCA HR HE;obtain ⟨i, l, c, hi, rfl, rfl, rfl, HCA, HR, HE⟩ := hrel;by_cases hil : i < len
    ·obtain ⟨a, rfl⟩ : ∃ a, x = some a := by
      cases x with
      | none => have := HX.out.1 rfl; omega
      | some a => exact ⟨a, rfl⟩
     obtain ⟨hcell, f1, f2⟩ := (HX.out.ext HE.out).2 a rfl i hil;by_cases hfn : f i = n
     ·have hwl := word_lt f len HC.out i n hil hfn hn1 (by omega);obtain ⟨W, hW⟩ : ∃ W, first f len n + many f n i = W := ⟨_, rfl⟩
      have hW15 : W < 32768 := by omega
      have hhit := CodeAt.hit HCA.out hfn hn1 (by omega);rw [hW] at hhit;have HCA2 := Lib.hid hhit.1;have HW := Lib.hid hhit.2;have hln := HCA.out.1;have hc15 := HCA.out.2.1;have HR2 : Hid (∀ wz, Cv wz w.heap.size len (outAt f len n i) → Cv (wz.setCell ⟨w.heap.size, i, none⟩ (.string (bs (Bts.high W n)))) w.heap.size len (outAt f len n (i + 1))) := Lib.hid (fun wz hz => hz.put i _ _ hil (fun j _ => by
       unfold outAt;by_cases hj : j = i
       ·subst hj; rw [if_pos (by omega), if_pos rfl, HW.out, hfn]; rfl
       ·rw [if_neg hj];by_cases h2 : 1 ≤ f j ∧ (f j < n ∨ (f j = n ∧ j < i))
        ·rw [if_pos h2, if_pos (by omega)]
        ·rw [if_neg h2, if_neg (by omega)]))
      have t1 : ((f i) != (n : Int)) = false := by rw [hfn]; simp
      rw [hfn] at hcell t1;by_cases hl0 : l = 0
      ·have hW0 : W = 0 := by rw [← hW]; exact (HCA.out.2.2.1 hl0).2
       have hc0 : c = 0 := (HCA.out.2.2.1 hl0).1;obtain rfl : W = c := by omega
       have t2 : decide ((0 : Int) < (l : Int)) = false := decide_eq_false (by omega);have hlz : l ≤ 0 := by omega
       clear hwl hW hfn hhit f1 f2 hl0 hc0 hW0;go_wp2_with fail;refine (high_any W n (by omega) (by omega) _).mono ?_;rintro e w5 ⟨rfl, h5⟩;have HE5 := Lib.hid (HE.out.trans h5);have HR5 := Lib.hid (HR.out.ext h5);obtain ⟨c5, z5⟩ := HR5.out i hil;clear h5 hcell;go_wp2_with fail;go_roundw
       case rel => exact ⟨i + 1, n, W, by omega, by go_num, rfl, rfl, HCA2, Lib.hid (HR2.out _ HR5.out), Lib.hid (Below.setCell HE5.out (by simp) _)⟩
       case measure => first | (simp [intOf]; done) | (simp [intOf]; omega)
      ·have hWe : W = (c + 1) * 2 ^ (n - l) := by rw [← hW]; exact HCA.out.2.2.2 (by omega)
       obtain ⟨d, hd⟩ : ∃ d, n - l = d := ⟨_, rfl⟩;have hd2 : (n : Int) - (l : Int) = (d : Int) := by omega
       rw [hd] at hWe;have hm : ((c : Int) + 1) * 2 ^ d = (W : Int) := by rw [hWe]; simp
       have hlp : 0 < l := by omega
       clear hwl hW hfn hhit f1 f2 hd hWe hl0;go_wp2_with fail;refine (high_any W n (by omega) (by omega) _).mono ?_;rintro e w5 ⟨rfl, h5⟩;have HE5 := Lib.hid (HE.out.trans h5);have HR5 := Lib.hid (HR.out.ext h5);obtain ⟨c5, z5⟩ := HR5.out i hil;clear h5 hcell;go_wp2_with fail;go_roundw
       case rel => exact ⟨i + 1, n, W, by omega, by go_num, rfl, rfl, HCA2, Lib.hid (HR2.out _ HR5.out), Lib.hid (Below.setCell HE5.out (by simp) _)⟩
       case measure => first | (simp [intOf]; done) | (simp [intOf]; omega)
     ·have t1 : ((f i) != (n : Int)) = true := by rw [bne_iff_ne]; exact hfn
      have HCA2 := Lib.hid (HCA.out.skip hfn);have HR2 : Hid (Cv wr w.heap.size len (outAt f len n (i + 1))) := Lib.hid (HR.out.congr (fun j _ => by
       unfold outAt;by_cases h2 : 1 ≤ f j ∧ (f j < n ∨ (f j = n ∧ j < i))
       ·rw [if_pos h2, if_pos (by omega)]
       ·rw [if_neg h2, if_neg (by intro h3; apply h2; refine ⟨h3.1, ?_⟩; rcases h3.2 with q | ⟨q1, q2⟩; exact .inl q; right; refine ⟨q1, ?_⟩; rcases Nat.lt_succ_iff_lt_or_eq.1 q2 with q3 | q3; exact q3; subst q3; exact absurd q1 hfn)]))
      clear hfn;go_wp2_with fail;go_roundw
      case rel => exact ⟨i + 1, l, c, by omega, by go_num, rfl, rfl, HCA2, HR2, HE⟩
      case measure => simp [intOf]; omega
    ·obtain rfl : i = len := by omega
     have HCA2 := Lib.hid (HCA.out.next hn1);have HR2 : Hid (Cv wr w.heap.size i (outAt f i (n + 1) 0)) := Lib.hid (HR.out.congr (fun j hj => by
      unfold outAt;by_cases h2 : 1 ≤ f j ∧ (f j < n ∨ (f j = n ∧ j < i))
      ·rw [if_pos h2, if_pos (by omega)]
      ·rw [if_neg h2, if_neg (by omega)]))
     go_wp2_with fail;go_roundw
     case rel => exact ⟨n + 1, l, c, by omega, by omega, by go_num, rfl, rfl, HCA2, HR2, HE⟩
     case measure => simp [intOf]; omega
  ·obtain rfl : n = 16 := by omega
   go_wp2_with fail;go_ret;refine ⟨⟨w.heap.size, Nat.le_refl _, rfl, HR.out.congr (fun j hj => ?_)⟩, HE.out⟩;have q := HB.out.2 j hj;unfold outAt;by_cases h2 : 1 ≤ f j
   ·rw [if_pos (by omega)]
   ·have h0 : f j = 0 := by omega
    rw [if_neg (by omega), h0]; rfl
end Go.Proofs.YtnhbjgmfbcedaaaDoor
namespace Go.Proofs.YtnhbjgmfbcedaaaDoor
open Go.RowKit
theorem vcode_zero {f : Nat → Int} {len : Nat} (h : Inf.good f len) : vcode f len = 0 := by unfold vcode; rw [if_pos h.1, if_pos h.2]
theorem vcode_pos {f : Nat → Int} {len : Nat} (h : ¬ Inf.good f len) : 0 < vcode f len ∧ vcode f len ≤ 3 := by
 unfold vcode;by_cases h1 : inBounds f len
 ·rw [if_pos h1];rw [if_neg (fun h2 => h ⟨h1, h2⟩)]; omega
 ·rw [if_neg h1]; omega
open Classical in
def CPost (Q : Nat) (T : ByteArray) (a e : Nat) (x : Nat → Value) (w : World) (f : Nat → Int) (len : Nat) (r : Ending) (w' : World) : Prop :=
 Keeps (fun k => k = Q) w w' ∧ if e = 0 then
  if Inf.good f len then ∃ v, r = .returned v ∧ Cw w' Q v f len ∧ Bk w' Q (qc T a 0 x) ∧ (∀ C l c, v = .slice (some ⟨C, 0, none⟩) l c → w.heap.size ≤ C)
  else r = .returned (.slice none 0 0) ∧ Bk w' Q (qc T a 1 x)
 else r = .returned (.slice none 0 0) ∧ Bk w' Q (qc T a e x)
set_option linter.unusedSimpArgs false in
set_option maxHeartbeats 2000000 in
theorem qcodes_any (Q a e len cap : Nat) (xp : Option Addr) (f : Nat → Int) (T : ByteArray) (x : Nat → Value) (w : World) (hB : Bk w Q (qc T a e x)) (hI : Ints w xp len f) (hl : len ≤ 400) :
  Calls Tryd.prog 87 #[.pointer (some ⟨Q, 0, none⟩), .slice xp len cap] w fun r w' => CPost Q T a e x w f len r w' := by
 have HO := Lib.hid (fun (w : World) (h : Bk w Q (qc T a e x)) => rok_any Q a e T x w h);have HO1 := Lib.hid (fun (w : World) (h : Bk w Q (qc T a 1 x)) => rok_any Q a 1 T x w h);have HF := Lib.hid (fun (w : World) (h : Bk w Q (qc T a e x)) => rfail_any Q a e 1 T x w h);have HB := Lib.hid hB;have HI := Lib.hid hI;have HQl := Lib.hid hB.lt;clear hB hI;by_cases he : e = 0
 ·subst he;by_cases hg : Inf.good f len
  ·have hv := vcode_zero hg;have HG := Lib.hid hg;have HV := Lib.hid (validCode_any xp len cap f w HI.out (by unfold maxLen; omega));rw [hv] at HV;have HCo := Lib.hid (codesOf_any xp len cap f w HI.out hg.1 hg.2);clear hg hv;go_enter Tryd.func87, Tryd.ntmps87
   go_wp2_with fail;refine (HO.out _ HB.out).mono ?_;rintro r _ ⟨rfl, rfl⟩;go_wp2_with fail;refine HV.out.mono ?_;rintro r _ ⟨rfl, rfl⟩;go_wp2_with fail;refine (HO.out _ HB.out).mono ?_;rintro r _ ⟨rfl, rfl⟩;go_wp2_with fail;refine HCo.out.mono ?_;rintro r w1 ⟨⟨C, hC, rfl, hcv⟩, hX⟩;have H1 := Lib.hid (And.intro hC hcv);have HX := Lib.hid hX;clear hC hcv hX;go_wp2_with fail;go_ret;refine ⟨HX.out.keeps, ?_⟩;rw [if_pos rfl, if_pos HG.out];exact ⟨_, rfl, ⟨HG.out, C, _, rfl, by have := H1.out.1; have := HQl.out; omega, H1.out.2⟩, HB.out.ext HX.out, fun C' l c q => by injection q with q; injection q with q; injection q with q; have := H1.out.1; omega⟩
  ·have hv := vcode_pos hg;obtain ⟨vc, hvc⟩ : ∃ vc, vcode f len = vc := ⟨_, rfl⟩;rw [hvc] at hv;have HG := Lib.hid hg;have HV := Lib.hid (validCode_any xp len cap f w HI.out (by unfold maxLen; omega));rw [hvc] at HV;have t1 : decide (0 < vc) = true := decide_eq_true hv.1;clear hg hvc hv;go_enter Tryd.func87, Tryd.ntmps87
   go_wp2_with fail;refine (HO.out _ HB.out).mono ?_;rintro r _ ⟨rfl, rfl⟩;go_wp2_with fail;refine HV.out.mono ?_;rintro r _ ⟨rfl, rfl⟩;go_wp2_with fail;refine (HF.out _ HB.out).mono ?_;rintro r w1 ⟨rfl, hB1, hK1⟩;rw [show fl 0 1 = 1 from rfl] at hB1;have HB1 := Lib.hid hB1;have HK1 := Lib.hid hK1;clear hB1 hK1;go_wp2_with fail;refine (HO1.out w1 HB1.out).mono ?_;rintro r _ ⟨rfl, rfl⟩;go_wp2_with fail;go_ret;refine ⟨HK1.out, ?_⟩;rw [if_pos rfl, if_neg HG.out];exact ⟨rfl, HB1.out⟩
 ·have hd : decide (e = 0) = false := decide_eq_false he;go_enter Tryd.func87, Tryd.ntmps87
  go_wp2_with fail;refine (HO.out _ HB.out).mono ?_;rintro r _ ⟨rfl, rfl⟩;rw [hd];go_wp2_with fail;refine (HO.out _ HB.out).mono ?_;rintro r _ ⟨rfl, rfl⟩;rw [hd];go_wp2_with fail;go_ret;refine ⟨Keeps.refl _ _, ?_⟩;rw [if_neg he];exact ⟨rfl, HB.out⟩
/-- a reader's memory on its way: its cells, its row of bytes; what was turned since w -/
structure QGo (w wr : World) (Q : Nat) (T : ByteArray) (a e : Nat) (x : Nat → Value) (v0 vo : Value) (out : List UInt8) : Prop where
 bk : Bk wr Q (qc T a e x)
 x2 : x 2 = vo
 row : wr.ownsRow 0 5 1 vo out.length (bytesV out)
 nq : vo.ownBlock ≠ some Q
 step : IStep w wr Q Q v0 vo
section
variable {w wr w' : World} {Q a a' e e' : Nat} {T : ByteArray} {x x' : Nat → Value} {v0 vo vo' : Value} {out out' : List UInt8}
theorem QGo.quiet (h : QGo w wr Q T a e x v0 vo out) (hk : Keeps (fun k => k = Q) wr w') (hb : Bk w' Q (qc T a' e' x)) : QGo w w' Q T a' e' x v0 vo out :=
 ⟨hb, h.x2, ownsRow_kept h.row hk (fun k q e => h.nq (by rw [q, e])), h.nq, h.step.trans ⟨hk.mono (fun _ _ q => .inl q), fun _ q => .inl q⟩⟩
theorem QGo.ext (h : QGo w wr Q T a e x v0 vo out) (hE : Ext wr w') : QGo w w' Q T a e x v0 vo out := h.quiet hE.keeps (h.bk.ext hE)
/-- a byte more -/
theorem QGo.push {L : Nat} {wb : World} {y : UInt8} (h : QGo w wr Q T a e x v0 vo out) (hL : out.length = L) (hE : Ext wr wb) (hg : wb.grownBy w' vo.ownBlock) (ho : w'.ownsRow 0 5 1 vo' (L + 1) (bytesV out ++ [.int .u8 (y.toNat : Int)]))
  (hat : vo'.ownBlock = vo.ownBlock ∨ vo'.ownBlock = some wb.heap.size) : Bk w' Q (qc T a e x) ∧ QGo w (w'.setCell ⟨Q, 2, none⟩ vo') Q T a e (xset x 2 vo') v0 vo' (out ++ [y]) := by
 have hQl : Q < wr.heap.size := h.bk.lt;have hs := hE.size;have hbk := (h.bk.ext hE).keeps (Keeps.grown hg) h.nq;have hv : ∀ k, vo'.ownBlock = some k → vo.ownBlock = some k ∨ wr.heap.size ≤ k := by
  intro k hk;rcases hat with q | q
  ·rw [q] at hk; exact .inl hk
  ·rw [q] at hk; injection hk with hk; exact .inr (by omega)
 have hvQ : vo'.ownBlock ≠ some Q := by
  intro e;rcases hv Q e with q | q
  ·exact h.nq q
  ·omega
 have hK0 : Keeps (fun k => vo.ownBlock = some k) wr w' := (hE.keeps (S := fun k => vo.ownBlock = some k)).trans (Keeps.grown hg) (fun _ _ q => q);refine ⟨hbk, hbk.putx 2 (.inl rfl) vo', by simp [xset], ?_, hvQ, h.step.trans ⟨(hK0.mono (fun _ _ q => .inr (.inr q))).setCell (p := ⟨Q, 2, none⟩) (.inl (.inl rfl)) _, hv⟩⟩;have e : bytesV (out ++ [y]) = bytesV out ++ [.int .u8 (y.toNat : Int)] := by simp [bytesV]
 rw [e, List.length_append, hL];exact ownsRow_setCell_other ho hvQ _
end
end Go.Proofs.YtnhbjgmfbcedaaaDoor
