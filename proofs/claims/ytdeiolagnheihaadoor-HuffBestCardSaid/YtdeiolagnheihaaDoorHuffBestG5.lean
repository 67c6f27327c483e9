/-
  The document's chooser: the best of all shapes, with a memory.
  The document's LeastCost.
  huff.Lengths: its test of the counts.
-/
import Derived.Test.YtdeiolagnheihaaDoorHuffBestG1
import Derived.Test.YtdeiolagnheihaaDoorHuffBestG4
import Derived.Test.YtdeiolagnheihaaDoorHuffBestG2
import Derived.Deep.DeepCutAuto
import Derived.Deep.CutBlock
import Derived.Test.YtdeiolagnheihaaDoorHuffBestG3
import Derived.Laws.AppendOwnNone
import Derived.StillTailTactics
set_option linter.unusedSimpArgs false
set_option linter.unusedVariables false
set_option maxRecDepth 100000
namespace Go.Proofs.YtdeiolagnheihaaDoor
open Go.RowKit
namespace Hb
theorem bst_never (rest : Nat → Nat) (m : Nat) : ∀ f p q, bst rest m f p q ≤ never
 | 0, p, q => by unfold bst; split; (split <;> simp [never]); exact Nat.le_refl _
 | f + 1, p, q => by
  unfold bst;split
  ·split <;> simp [never]
  ·split
   ·exact Nat.le_refl _
   ·exact minK_never _ _ _
theorem minK_step {c n V b : Nat} {g : Nat → Nat} (hg : g n = V) (hb : b = minK c g n) : minK c g (n + 1) = if V < 1099511627776 ∧ c + V < b then c + V else b := by
 subst hg hb; rfl
def val (rest : Nat → Nat) (m most j : Nat) : Nat := bst rest m (most + 1 - j / (m + 1) / (m + 1)) (j / (m + 1) % (m + 1)) (j % (m + 1))
theorem val_key {rest : Nat → Nat} {m most d p q : Nat} (hp : p ≤ m) (hq : q ≤ m) : val rest m most ((d * (m + 1) + p) * (m + 1) + q) = bst rest m (most + 1 - d) p q := by
 unfold val;have h1 : ((d * (m + 1) + p) * (m + 1) + q) / (m + 1) = d * (m + 1) + p := by
  rw [Nat.mul_comm, Nat.mul_add_div (by omega), Nat.div_eq_of_lt (by omega), Nat.add_zero]
 have h2 : ((d * (m + 1) + p) * (m + 1) + q) % (m + 1) = q := by
  rw [Nat.mul_comm, Nat.mul_add_mod, Nat.mod_eq_of_lt (by omega)]
 have h3 : (d * (m + 1) + p) / (m + 1) = d := by
  rw [Nat.mul_comm, Nat.mul_add_div (by omega), Nat.div_eq_of_lt (by omega), Nat.add_zero]
 have h4 : (d * (m + 1) + p) % (m + 1) = p := by
  rw [Nat.mul_comm, Nat.mul_add_mod, Nat.mod_eq_of_lt (by omega)]
 rw [h1, h2, h3, h4]
def many (m most : Nat) : Nat := (most + 2) * (m + 1) * (m + 1)
theorem key_lt {m most d p q : Nat} (hd : d ≤ most) (hp : p ≤ m) (hq : q ≤ m) : (d * (m + 1) + p) * (m + 1) + q < many m most := by
 unfold many;have h1 : d * (m + 1) + p < (d + 1) * (m + 1) := by rw [Nat.succ_mul]; omega
 have h2 : (d + 1) * (m + 1) ≤ (most + 1) * (m + 1) := Nat.mul_le_mul_right _ (by omega);have h3 : (d * (m + 1) + p + 1) * (m + 1) ≤ (most + 1) * (m + 1) * (m + 1) := Nat.mul_le_mul_right _ (by omega);have h4 : (most + 1) * (m + 1) * (m + 1) ≤ (most + 2) * (m + 1) * (m + 1) := Nat.mul_le_mul_right _ (Nat.mul_le_mul_right _ (by omega));rw [Nat.succ_mul] at h3;omega
end Hb
/-- a chooser in memory: what it knows is right -/
structure CB (w : World) (Bx R K m most : Nat) (rest : Nat → Nat) (g : Nat → Int) : Prop where
 bx : Bk w Bx #[.slice (some ⟨R, 0, none⟩) (m + 1) (m + 1), .int .i64 (most : Int), .slice (some ⟨K, 0, none⟩) (Hb.many m most) (Hb.many m most)]
 rr : Cs w R (m + 1) .i64 (fun i => ((rest i : Nat) : Int))
 kk : Cs w K (Hb.many m most) .i64 g
 ok : ∀ j, j < Hb.many m most → g j = -1 ∨ g j = ((Hb.val rest m most j : Nat) : Int)
 n1 : Bx ≠ K
 n2 : R ≠ K
theorem CB.put {w : World} {Bx R K m most : Nat} {rest : Nat → Nat} {g : Nat → Int} (h : CB w Bx R K m most rest g) (j : Nat) (hj : j < Hb.many m most) (x : Nat) (hx : x = Hb.val rest m most j) : ∃ g', CB (w.setCell ⟨K, j, none⟩ (.int .i64 (x : Int))) Bx R K m most rest g' := by
 refine ⟨fun i => if i = j then (x : Int) else g i, h.bx.far (p := ⟨K, j, none⟩) h.n1 _, h.rr.other ⟨K, j, none⟩ _ (fun e => h.n2 (Eq.symm e)), h.kk.put j _ _ hj (fun i _ => ?_), fun i hi => ?_, h.n1, h.n2⟩
 ·rfl
 ·by_cases e : i = j
  ·subst e;right
   rw [if_pos rfl, hx]
  ·rw [if_neg e];exact h.ok i hi
set_option linter.unusedSimpArgs false in
set_option maxHeartbeats 8000000 in
theorem best_any (Bx R K m most : Nat) (rest : Nat → Nat) (hm : m ≤ 400) (hmost : most ≤ 15) (hrest : ∀ i, rest i ≤ 1000000000) :
  ∀ (f d p q : Nat) (w : World) (g : Nat → Int), d + f = most + 1 → 1 ≤ d → p ≤ m → q ≤ 1000 → CB w Bx R K m most rest g →
   Calls Tryd.prog 68 #[.pointer (some ⟨Bx, 0, none⟩), .int .i64 (d : Int), .int .i64 (p : Int), .int .i64 (q : Int)] w fun e w' => e = .returned (.int .i64 ((Hb.bst rest m f p q : Nat) : Int)) ∧ (∃ g', CB w' Bx R K m most rest g') ∧ Keeps (fun k => k = K) w w' := by
 intro f;induction f with
 | zero =>
  intro d p q w g hd hd1 hp hq hC;have HC := Lib.hid hC;have b0 := hC.bx.cell 0;have b1 := hC.bx.cell 1;simp only [List.getElem?_toArray, List.getElem?_cons_succ, List.getElem?_cons_zero] at b0 b1;have em : ((m + 1 : Nat) : Int) - 1 = (m : Int) := by omega
  have wm : IntKind.i64.wrap (m : Int) = (m : Int) := by rw [IntKind.wrap_i64]; omega
  obtain ⟨M1, hM1⟩ : ∃ M1, m + 1 = M1 := ⟨_, rfl⟩;rw [hM1] at b0 em;clear hC;by_cases hpm : p = m
  ·subst hpm;have t1 : ((p : Int) == (p : Int)) = true := beq_self_eq_true _;by_cases hq0 : q = 0
   ·have hv : Hb.bst rest p 0 p q = 0 := by subst hq0; exact Hb.bst_zero 0
    have t2 : ((q : Int) == 0) = true := beq_iff_eq.2 (by omega);rw [hv];clear hq0 hv hM1;go_enter Tryd.func68, Tryd.ntmps68
    go_wp2_with fail;go_ret;exact ⟨rfl, ⟨g, HC.out⟩, Keeps.refl _ _⟩
   ·have hv : Hb.bst rest p 0 p q = 1099511627776 := by unfold Hb.bst; rw [if_pos rfl, if_neg hq0]; rfl
    have t2 : ((q : Int) == 0) = false := beq_eq_false_iff_ne.2 (by omega);rw [hv];clear hq0 hv hM1;go_enter Tryd.func68, Tryd.ntmps68
    go_wp2_with fail;go_ret;exact ⟨rfl, ⟨g, HC.out⟩, Keeps.refl _ _⟩
  ·have t1 : ((p : Int) == (m : Int)) = false := beq_eq_false_iff_ne.2 (by omega);have t2 : decide ((most : Int) < (d : Int)) = true := decide_eq_true (by omega);have hv : Hb.bst rest m 0 p q = 1099511627776 := by unfold Hb.bst; rw [if_neg hpm]; rfl
   rw [hv];clear hpm hv hM1;go_enter Tryd.func68, Tryd.ntmps68
   go_wp2_with fail;go_ret;exact ⟨rfl, ⟨g, HC.out⟩, Keeps.refl _ _⟩
 | succ f ih =>
  intro d p q w g hd hd1 hp hq hC;have HI := Lib.hid ih;clear ih;have HC := Lib.hid hC;have b0 := hC.bx.cell 0;have b1 := hC.bx.cell 1;have b2 := hC.bx.cell 2;simp only [List.getElem?_toArray, List.getElem?_cons_succ, List.getElem?_cons_zero] at b0 b1 b2;have em : ((m + 1 : Nat) : Int) - 1 = (m : Int) := by omega
  have wm : IntKind.i64.wrap (m : Int) = (m : Int) := by rw [IntKind.wrap_i64]; omega
  obtain ⟨M1, hM1⟩ : ∃ M1, m + 1 = M1 := ⟨_, rfl⟩;obtain ⟨NK, hNK⟩ : ∃ NK, Hb.many m most = NK := ⟨_, rfl⟩;have HNK := Lib.hid hNK;have HM1 := Lib.hid hM1;rw [hM1] at b0 em;rw [hNK] at b2;clear hC;by_cases hpm : p = m
  ·subst hpm;have t1 : ((p : Int) == (p : Int)) = true := beq_self_eq_true _;by_cases hq0 : q = 0
   ·have hv : Hb.bst rest p (f + 1) p q = 0 := by subst hq0; exact Hb.bst_zero _
    have t2 : ((q : Int) == 0) = true := beq_iff_eq.2 (by omega);rw [hv];clear hq0 hv hM1 hNK;go_enter Tryd.func68, Tryd.ntmps68
    go_wp2_with fail;go_ret;exact ⟨rfl, ⟨g, HC.out⟩, Keeps.refl _ _⟩
   ·have hv : Hb.bst rest p (f + 1) p q = 1099511627776 := by unfold Hb.bst; rw [if_pos rfl, if_neg hq0]; rfl
    have t2 : ((q : Int) == 0) = false := beq_eq_false_iff_ne.2 (by omega);rw [hv];clear hq0 hv hM1 hNK;go_enter Tryd.func68, Tryd.ntmps68
    go_wp2_with fail;go_ret;exact ⟨rfl, ⟨g, HC.out⟩, Keeps.refl _ _⟩
  ·have t1 : ((p : Int) == (m : Int)) = false := beq_eq_false_iff_ne.2 (by omega);have t2 : decide ((most : Int) < (d : Int)) = false := decide_eq_false (by omega);obtain ⟨mp, hmp⟩ : ∃ mp, m - p = mp := ⟨_, rfl⟩;have emp : (m : Int) - (p : Int) = (mp : Int) := by omega
   have wmp : IntKind.i64.wrap (mp : Int) = (mp : Int) := by rw [IntKind.wrap_i64]; omega
   have ndm : ¬ most < d := by omega
   by_cases hq0 : q = 0
   ·have hv : Hb.bst rest m (f + 1) p q = 1099511627776 := by unfold Hb.bst; rw [if_neg hpm, if_pos (.inl hq0)]; rfl
    have t3 : ((q : Int) == 0) = true := beq_iff_eq.2 (by omega);rw [hv];clear hq0 hv hM1 hNK hpm hmp;go_enter Tryd.func68, Tryd.ntmps68
    go_wp2_with fail;go_ret;exact ⟨rfl, ⟨g, HC.out⟩, Keeps.refl _ _⟩
   ·have t3 : ((q : Int) == 0) = false := beq_eq_false_iff_ne.2 (by omega);by_cases hqm : mp < q
    ·have hv : Hb.bst rest m (f + 1) p q = 1099511627776 := by unfold Hb.bst; rw [if_neg hpm, if_pos (.inr (by omega))]; rfl
     have t4 : decide ((mp : Int) < (q : Int)) = true := decide_eq_true (by omega);rw [hv];clear hq0 hv hM1 hNK hpm hmp;go_enter Tryd.func68, Tryd.ntmps68
     go_wp2_with fail;go_ret;exact ⟨rfl, ⟨g, HC.out⟩, Keeps.refl _ _⟩
    ·have t4 : decide ((mp : Int) < (q : Int)) = false := decide_eq_false (by omega);have n4 : ¬ mp < q := hqm;have hv : Hb.bst rest m (f + 1) p q = Hb.minK (rest p) (fun k => Hb.bst rest m f (p + k) (2 * (q - k))) (q + 1) := by
      show (if p = m then _ else _) = _;rw [if_neg hpm, if_neg (by omega)]
     obtain ⟨V, hV⟩ : ∃ V, Hb.bst rest m (f + 1) p q = V := ⟨_, rfl⟩;rw [hV] at hv;rw [hV];have HV := Lib.hid hv.symm;have HVV := Lib.hid hV;obtain ⟨key, hkey⟩ : ∃ key, (d * M1 + p) * M1 + q = key := ⟨_, rfl⟩;have hkl : key < NK := by rw [← hkey, ← hNK, ← hM1]; exact Hb.key_lt (by omega) hp (by omega)
     have hKV : Hb.val rest m most key = V := by
      rw [← hkey, ← hM1, Hb.val_key hp (by omega), ← hV];congr 1
      omega
     have hNb : NK ≤ 10000000 := by
      rw [← hNK];unfold Hb.many;exact Nat.le_trans (Nat.mul_le_mul (Nat.mul_le_mul (show most + 2 ≤ 17 by omega) (show m + 1 ≤ 401 by omega)) (show m + 1 ≤ 401 by omega)) (by decide)
     obtain ⟨k1, hk1⟩ : ∃ k1, d * M1 = k1 := ⟨_, rfl⟩;obtain ⟨kp, hkp⟩ : ∃ kp, k1 + p = kp := ⟨_, rfl⟩;obtain ⟨k2, hk2⟩ : ∃ k2, kp * M1 = k2 := ⟨_, rfl⟩;have hk3 : k2 + q = key := by rw [← hk2, ← hkp, ← hk1]; exact hkey
     have hk1b : kp ≤ k2 := by rw [← hk2]; exact Nat.le_mul_of_pos_right _ (by omega)
     have e1 : (d : Int) * (M1 : Int) = (k1 : Int) := by rw [← hk1]; exact (Int.natCast_mul d M1).symm
     have e2 : (kp : Int) * (M1 : Int) = (k2 : Int) := by rw [← hk2]; exact (Int.natCast_mul kp M1).symm
     have e3 : (m : Int) + 1 = (M1 : Int) := by omega
     have e4 : (k1 : Int) + (p : Int) = (kp : Int) := by omega
     have e5 : (k2 : Int) + (q : Int) = (key : Int) := by omega
     have w1 : ∀ z, z = (k1 : Int) → IntKind.i64.wrap z = z := by intro z hz; rw [IntKind.wrap_i64]; omega
     have w2 : ∀ z, z = (k2 : Int) → IntKind.i64.wrap z = z := by intro z hz; rw [IntKind.wrap_i64]; omega
     have w3 : ∀ z, z = (M1 : Int) → IntKind.i64.wrap z = z := by intro z hz; rw [IntKind.wrap_i64]; omega
     have w4 : ∀ z, z = (kp : Int) → IntKind.i64.wrap z = z := by intro z hz; rw [IntKind.wrap_i64]; omega
     have w5 : ∀ z, z = (key : Int) → IntKind.i64.wrap z = z := by intro z hz; rw [IntKind.wrap_i64]; omega
     have hki : (key : Int) < (NK : Int) := by omega
     have hkj : (0 : Int) ≤ (key : Int) := by omega
     have HKV := Lib.hid hKV;have HKL := Lib.hid (show key < Hb.many m most by rw [hNK]; exact hkl);obtain ⟨y, hy⟩ : ∃ y, g key = y := ⟨_, rfl⟩;have kc : w.cell? ⟨K, key, none⟩ = some (.int .i64 y) := by
      have h := (HC.out.kk key HKL.out).1;rw [hy] at h;exact h
     have hok := HC.out.ok key HKL.out;rw [hy, HKV.out] at hok;clear hv hV hkey hKV hk1 hkp hk2 hk3 hk1b hM1 hNK hy hpm hq0 hmp;rcases hok with rfl | rfl
     ·have t5 : decide ((0 : Int) ≤ -1) = false := by decide
      go_enter Tryd.func68, Tryd.ntmps68
      go_wp2_with fail;clear kc b0 b1 b2 e1 e2 e4 e5 w1 w2 w4 w5 t1 t2 t3 t4 t5;go_loopw [11, 12] (fun sl c wr => ∃ (k Lv : Nat), c = .int .i64 (k : Int) ∧ k ≤ q + 1 ∧ sl = .int .i64 (Lv : Int) ∧ Lv ≤ 1099511627776 ∧ Hid (Lv = Hb.minK (rest p) (fun k => Hb.bst rest m f (p + k) (2 * (q - k))) k) ∧ Hid (∃ g', CB wr Bx R K m most rest g') ∧ Hid (Keeps (fun k => k = K) w wr)) (fun _ c _ => q + 1 - (intOf c).toNat)
      case atStart => exact ⟨0, 1099511627776, rfl, by omega, rfl, by omega, Lib.hid rfl, Lib.hid ⟨g, HC.out⟩, Lib.hid (Keeps.refl _ _)⟩
      case round =>
       obtain ⟨k, Lv, rfl, hk, rfl, hLv, HLv, HCB, HKW⟩ := hrel;by_cases hkq : k ≤ q
       ·have t6 : decide ((k : Int) ≤ (q : Int)) = true := decide_eq_true (by omega);have n6 : k ≤ q := hkq;obtain ⟨g1, hC1⟩ := HCB.out;have H1 := Lib.hid hC1;clear hC1 HCB;obtain ⟨pk, hpk⟩ : ∃ pk, p + k = pk := ⟨_, rfl⟩;obtain ⟨d1, hd1'⟩ : ∃ d1, d + 1 = d1 := ⟨_, rfl⟩;obtain ⟨qk, hqk⟩ : ∃ qk, q - k = qk := ⟨_, rfl⟩;obtain ⟨q2, hq2⟩ : ∃ q2, 2 * qk = q2 := ⟨_, rfl⟩;have e6 : (p : Int) + (k : Int) = (pk : Int) := by omega
        have e7 : (d : Int) + 1 = (d1 : Int) := by omega
        have e8 : (q : Int) - (k : Int) = (qk : Int) := by omega
        have e9 : (2 : Int) * (qk : Int) = (q2 : Int) := by omega
        have w6 : ∀ z, z = (pk : Int) → IntKind.i64.wrap z = z := by intro z hz; rw [IntKind.wrap_i64]; omega
        have w7 : ∀ z, z = (d1 : Int) → IntKind.i64.wrap z = z := by intro z hz; rw [IntKind.wrap_i64]; omega
        have w8 : ∀ z, z = (qk : Int) → IntKind.i64.wrap z = z := by intro z hz; rw [IntKind.wrap_i64]; omega
        have w9 : ∀ z, z = (q2 : Int) → IntKind.i64.wrap z = z := by intro z hz; rw [IntKind.wrap_i64]; omega
        have t7 : decide ((m : Int) < (pk : Int)) = false := decide_eq_false (by omega);have n7 : ¬ m < pk := by omega
        obtain ⟨V1, hV1⟩ : ∃ V1, Hb.bst rest m f pk q2 = V1 := ⟨_, rfl⟩;have hV1l : V1 ≤ 1099511627776 := by rw [← hV1]; exact Hb.bst_never rest m f pk q2
        have hcall := HI.out d1 pk q2 wr g1 (by omega) (by omega) (by omega) (by omega) H1.out;rw [hV1] at hcall;have HCL := Lib.hid hcall;have HN : Hid (Hb.minK (rest p) (fun k => Hb.bst rest m f (p + k) (2 * (q - k))) (k + 1) = if V1 < 1099511627776 ∧ rest p + V1 < Lv then rest p + V1 else Lv) := Lib.hid (by
         exact Hb.minK_step (by show Hb.bst rest m f (p + k) (2 * (q - k)) = V1; rw [hpk, hqk, hq2]; exact hV1) HLv.out)
        have HKQ := Lib.hid hkq;clear hcall hV1 hpk hd1' hqk hq2 hkq;go_wp2_with fail;refine HCL.out.mono ?_;rintro e w2 ⟨rfl, ⟨g2, hC2⟩, hk2⟩;have H2 := Lib.hid hC2;have HK2 := Lib.hid (HKW.out.trans hk2 (fun _ _ q => q));clear hC2 hk2 H1 HKW HCL e6 e7 e8 e9 w6 w7 w8 w9 t7 n7 t6 n6;have b0 := H2.out.bx.cell 0;simp only [List.getElem?_toArray, List.getElem?_cons_succ, List.getElem?_cons_zero] at b0;rw [HM1.out] at b0;have hr := hrest p;obtain ⟨rp, hrp⟩ : ∃ rp, rest p = rp := ⟨_, rfl⟩;have kr : w2.cell? ⟨R, p, none⟩ = some (.int .i64 (rp : Int)) := by rw [← hrp]; exact (H2.out.rr p (by omega)).1
        rw [hrp] at hr HN;obtain ⟨c1, hc1⟩ : ∃ c1, rp + V1 = c1 := ⟨_, rfl⟩;rw [hc1] at HN;have e6 : (rp : Int) + (V1 : Int) = (c1 : Int) := by omega
        have w6 : ∀ z, z = (c1 : Int) → IntKind.i64.wrap z = z := by intro z hz; rw [IntKind.wrap_i64]; omega
        have w7 : ∀ z, z = (k : Int) + 1 → IntKind.i64.wrap z = z := by intro z hz; rw [IntKind.wrap_i64]; omega
        have hpi : (p : Int) < (M1 : Int) := by omega
        have hpj : (0 : Int) ≤ (p : Int) := by omega
        have HC1 := Lib.hid hc1;have HRP := Lib.hid hrp;clear hc1 hrp;by_cases hv : V1 < 1099511627776
        ·have t8 : decide ((V1 : Int) < 1099511627776) = true := decide_eq_true (by omega);by_cases hc : c1 < Lv
         ·have t9 : decide ((c1 : Int) < (Lv : Int)) = true := decide_eq_true (by omega);have HL2 : Hid (c1 = Hb.minK (rest p) (fun k => Hb.bst rest m f (p + k) (2 * (q - k))) (k + 1)) := Lib.hid (by rw [HRP.out, HN.out, if_pos ⟨hv, hc⟩]);go_wp2_with fail;go_roundw
          case rel => exact ⟨k + 1, c1, by go_num, by have := HKQ.out; omega, rfl, by have := HC1.out; omega, HL2, Lib.hid ⟨g2, H2.out⟩, HK2⟩
          case measure => have := HKQ.out; simp [intOf]; omega
         ·have t9 : decide ((c1 : Int) < (Lv : Int)) = false := decide_eq_false (by omega);have HL2 : Hid (Lv = Hb.minK (rest p) (fun k => Hb.bst rest m f (p + k) (2 * (q - k))) (k + 1)) := Lib.hid (by rw [HRP.out, HN.out, if_neg (fun q => hc q.2)]);go_wp2_with fail;go_roundw
          case rel => exact ⟨k + 1, Lv, by go_num, by have := HKQ.out; omega, rfl, by have := HC1.out; omega, HL2, Lib.hid ⟨g2, H2.out⟩, HK2⟩
          case measure => have := HKQ.out; simp [intOf]; omega
        ·have t8 : decide ((V1 : Int) < 1099511627776) = false := decide_eq_false (by omega);have HL2 : Hid (Lv = Hb.minK (rest p) (fun k => Hb.bst rest m f (p + k) (2 * (q - k))) (k + 1)) := Lib.hid (by rw [HRP.out, HN.out, if_neg (fun q => hv q.1)]);go_wp2_with fail;go_roundw
         case rel => exact ⟨k + 1, Lv, by go_num, by have := HKQ.out; omega, rfl, by have := HC1.out; omega, HL2, Lib.hid ⟨g2, H2.out⟩, HK2⟩
         case measure => have := HKQ.out; simp [intOf]; omega
       ·obtain rfl : k = q + 1 := by omega
        have t6 : decide (((q + 1 : Nat) : Int) ≤ (q : Int)) = false := decide_eq_false (by omega);have n6 : ¬ q + 1 ≤ q := by omega
        have hLV : Lv = V := by rw [HLv.out, HV.out]
        subst hLV;obtain ⟨g1, hC1⟩ := HCB.out;have b2 := hC1.bx.cell 2;simp only [List.getElem?_toArray, List.getElem?_cons_succ, List.getElem?_cons_zero] at b2;rw [HNK.out] at b2;have kc := (hC1.kk key HKL.out).1;have kf := (hC1.kk key HKL.out).2;have HP := Lib.hid (hC1.put key HKL.out Lv HKV.out.symm);clear hC1 HCB;go_wp2_with fail;go_ret;exact ⟨rfl, HP.out, HKW.out.setCell (.inl rfl) _⟩
     ·have t5 : decide ((0 : Int) ≤ (V : Int)) = true := decide_eq_true (by omega);go_enter Tryd.func68, Tryd.ntmps68
      go_wp2_with fail;go_ret;exact ⟨rfl, ⟨g, HC.out⟩, Keeps.refl _ _⟩
end Go.Proofs.YtdeiolagnheihaaDoor
namespace Go.Proofs.YtdeiolagnheihaaDoor
open Go.RowKit
namespace Hb
theorem ins_at (x : Nat) : ∀ (l : List Nat) (k : Nat), k ≤ l.length → (∀ j, j < k → x ≤ l.getD j 0) → (k < l.length → l.getD k 0 < x) → ins x l = l.take k ++ x :: l.drop k
 | [], k, hk, _, _ => by
  obtain rfl : k = 0 := by simpa using hk
  rfl
 | y :: l, 0, _, _, h2 => by
  have h : y < x := h2 (by simp);unfold ins;rw [if_neg (by omega)];rfl
 | y :: l, k + 1, hk, h1, h2 => by
  have h : x ≤ y := h1 0 (by omega);unfold ins;rw [if_pos h, ins_at x l k (by simpa using hk) (fun j hj => h1 (j + 1) (by omega)) (fun hj => h2 (by simpa using hj))];rfl
theorem fall_le (cnt : Nat → Nat) (n : Nat) : (fall cnt n).length ≤ n := by
 rw [fall_length];have := List.length_filter_le (fun i => decide (0 < cnt i)) (List.range n);rw [List.length_range] at this;exact this
theorem fall_bd {cnt : Nat → Nat} {n b : Nat} (h : ∀ i, i < n → cnt i ≤ b) : ∀ x ∈ fall cnt n, x ≤ b := by
 intro x hx;obtain ⟨i, hi, rfl⟩ := List.mem_map.1 ((fall_perm cnt n).mem_iff.1 hx);exact h i (Pkg.mem_used.1 hi).1
end Hb
def natV (l : List Nat) : List Value := l.map fun n => .int .i64 ((n : Nat) : Int)
theorem natV_get {l : List Nat} {j : Nat} (h : j < l.length) : (natV l)[j]? = some (.int .i64 ((l.getD j 0 : Nat) : Int)) := by
 unfold natV;rw [List.getElem?_map, List.getElem?_eq_getElem h, List.getD, List.getElem?_eq_getElem h];rfl
theorem natV_one (l : List Nat) : ∀ u ∈ natV l, u.oneCell' = true := by
 intro u hu;obtain ⟨n, _, rfl⟩ := List.mem_map.1 hu;rfl
theorem owns_low {w : World} {b b' : Nat} {e : TypeId} {size : Nat} {v : Value} {n : Nat} {xs : List Value} (h : w.ownsRow b e size v n xs) (hb : b' ≤ b) : w.ownsRow b' e size v n xs := by
 obtain ⟨h1, h2⟩ := h;refine ⟨h1, ?_⟩;rcases h2 with h2 | ⟨g, cap, cur, hv, hg, r⟩
 ·exact .inl h2
 ·exact .inr ⟨g, cap, cur, hv, by omega, r⟩
theorem owns_cap {w : World} {b g : Nat} {e : TypeId} {size n c : Nat} {xs : List Value} (h : w.ownsRow b e size (.slice (some ⟨g, 0, none⟩) n c) n xs) : n ≤ c ∧ c ≤ maxLen := by
 rcases h.2 with ⟨h2, _⟩ | ⟨g2, cap, cur, hv, _, _, h4, h5, _⟩
 ·simp at h2
 ·simp only [Value.slice.injEq] at hv;obtain ⟨_, _, rfl⟩ := hv;exact ⟨h4, h5⟩
theorem row_lits {w : World} {base : Nat} {e : TypeId} {size n : Nat} {v : Value} {xs : List Value} (h : w.ownsRow base e size v n xs) : ∃ x c, v = .slice x n c := by
 rcases ownsRow_slice h with ⟨h1, h2⟩ | ⟨g, cap, h1⟩
 ·exact ⟨none, 0, by rw [h1, h2]⟩
 ·exact ⟨_, cap, h1⟩
/-- the row that grows: a slice of the call's own -/
def Fl (w0 wr : World) (v : Value) (l : List Nat) : Prop := Ext w0 wr ∧ wr.ownsRow w0.heap.size 3 1 v l.length (natV l)
set_option linter.unusedSimpArgs false in
set_option maxHeartbeats 8000000 in
theorem leastCost_any (x : Option Addr) (len cap : Nat) (cnt : Nat → Nat) (most : Nat) (w : World) (hx : Ints w x len (fun i => ((cnt i : Nat) : Int))) (hl : len ≤ 300) (hm : 1 ≤ most) (hm2 : most ≤ 15) (hc : ∀ i, i < len → cnt i ≤ 1048576) :
  Calls Tryd.prog 38 #[.slice x len cap, .int .i64 (most : Int)] w fun e w' => e = .returned (.int .i64 ((if (Hb.fall cnt len).length = 0 then 0 else if (Hb.fall cnt len).length = 1 then (Hb.fall cnt len).getD 0 0 else Hb.bst (fun p => ((Hb.fall cnt len).drop p).sum) (Hb.fall cnt len).length most 0 2 : Nat) : Int)) ∧ Ext w w' := by
 have HX := Lib.hid hx;have HCc := Lib.hid hc;obtain ⟨RV, hRV⟩ : ∃ RV : Nat, (if (Hb.fall cnt len).length = 0 then 0 else if (Hb.fall cnt len).length = 1 then (Hb.fall cnt len).getD 0 0 else Hb.bst (fun p => ((Hb.fall cnt len).drop p).sum) (Hb.fall cnt len).length most 0 2) = RV := ⟨_, rfl⟩;rw [hRV];have HRV := Lib.hid hRV;clear hRV;obtain ⟨i0, hi0, hz0, hz1, hz2⟩ : ∃ i, Tryd.prog.info? 3 = some i ∧ i.zero = some (.int .i64 0) ∧ i.size = 1 ∧ i.bytes = 8 := ⟨_, rfl, rfl, rfl, rfl⟩;clear hx hc;go_enter Tryd.func38, Tryd.ntmps38
 go_upto_block 0 with fail;go_cut [5] (fun s5 wx => ∃ (y : Option Addr) (c : Nat), s5 = .slice y (Hb.fall cnt len).length c ∧ Hid (Fl w wx (.slice y (Hb.fall cnt len).length c) (Hb.fall cnt len)))
 case first =>
  go_wp2_with fail;go_loopw [5, 6] (fun s5 c wr => ∃ (i n : Nat) (y : Option Addr) (cc : Nat), c = .int .i64 (i : Int) ∧ i ≤ len ∧ n ≤ i ∧ s5 = .slice y n cc ∧ Hid ((Hb.fall cnt i).length = n) ∧ Hid (Fl w wr (.slice y n cc) (Hb.fall cnt i))) (fun _ c _ => len - (intOf c).toNat)
  case atStart => exact ⟨0, 0, none, 0, rfl, by omega, Nat.le_refl _, rfl, Lib.hid rfl, Lib.hid ⟨Ext.refl _, World.ownsRow_nil _ _ _ _⟩⟩
  case round =>
   obtain ⟨i, n, y, cc, rfl, hi, hni, rfl, HN, HF⟩ := hrel;by_cases hlt : i < len
   ·have t0 : decide ((i : Int) < (len : Int)) = true := decide_eq_true (by omega);have n0 : i < len := hlt;have wi : IntKind.i64.wrap ((i : Int) + 1) = ((i + 1 : Nat) : Int) := by rw [IntKind.wrap_i64]; omega
    obtain ⟨a, ha⟩ : ∃ a, cnt i = a := ⟨_, rfl⟩;have hxi := (HX.out.ext HF.out.1);obtain ⟨xa', rfl⟩ : ∃ a, x = some a := by
     cases x with
     | none => have := HX.out.1 rfl; omega
     | some a => exact ⟨a, rfl⟩
    have kx : wr.cell? (xa'.add i) = some (.int .i64 ((cnt i : Nat) : Int)) := (hxi.2 xa' rfl i hlt).1;rw [ha] at kx;have hab := HCc.out i hlt;rw [ha] at hab;have HA := Lib.hid ha;clear hxi ha;by_cases ha0 : a = 0
    ·have t1 : ((a : Int) == 0) = true := beq_iff_eq.2 (by omega);have HN2 : Hid (Hb.fall cnt (i + 1) = Hb.fall cnt i) := Lib.hid (by show (if cnt i = 0 then _ else _) = _; rw [HA.out, if_pos ha0]);clear ha0;go_wp2_with fail;go_roundw
     case rel => exact ⟨i + 1, n, y, cc, by go_num, by omega, by omega, rfl, Lib.hid (by rw [HN2.out]; exact HN.out), Lib.hid (by rw [HN2.out]; exact HF.out)⟩
     case measure => simp [intOf]; omega
    ·have t1 : ((a : Int) == 0) = false := beq_eq_false_iff_ne.2 (by omega);have HN2 : Hid (Hb.fall cnt (i + 1) = Hb.ins a (Hb.fall cnt i)) := Lib.hid (by show (if cnt i = 0 then _ else _) = _; rw [HA.out, if_neg ha0]);clear ha0;obtain ⟨l, hl'⟩ : ∃ l, Hb.fall cnt i = l := ⟨_, rfl⟩;have hln := HN.out;rw [hl'] at HN HF HN2 hln;have HLL := Lib.hid hl';have hlb : ∀ j, l.getD j 0 ≤ 1048576 := fun j => by
      rcases Nat.lt_or_ge j l.length with q | q
      ·have hb' := Hb.fall_bd (cnt := cnt) (n := i) (fun s hs => HCc.out s (by omega));rw [hl'] at hb';rw [List.getD, List.getElem?_eq_getElem q];exact hb' _ (List.getElem_mem q)
      ·rw [List.getD, List.getElem?_eq_none q]; exact Nat.zero_le _
     have HLB := Lib.hid hlb;have HKX := Lib.hid kx;clear hl' hlb hln;go_upto_block 2 with fail;clear kx t0 n0 t1;go_cut [7] (fun s7 wx => ∃ k : Nat, s7 = .int .i64 (k : Int) ∧ k ≤ n ∧ Hid (Hb.ins a l = l.take k ++ a :: l.drop k) ∧ Hid (Ext wr wx))
     case first =>
      go_wp2_with fail;go_loopw [7] (fun c w2 => ∃ k : Nat, c = .int .i64 (k : Int) ∧ k ≤ n ∧ Hid (∀ j, j < k → a ≤ l.getD j 0) ∧ Hid (Ext wr w2)) (fun c _ => n - (intOf c).toNat)
      case atStart => exact ⟨0, rfl, by omega, Lib.hid (fun j h => by omega), Lib.hid (Ext.refl _)⟩
      case round =>
       obtain ⟨k, rfl, hk, HB, HW⟩ := hrel;rename World => w2;by_cases hkn : k < n
       ·have t2 : decide ((k : Int) < (n : Int)) = true := decide_eq_true (by omega);have n2 : k < n := hkn;obtain ⟨hX, hrow⟩ := HF.out;rw [HN.out] at hrow;have hrow2 := ownsRow_kept hrow HW.out.keeps (fun _ _ => id);rcases ownsRow_slice hrow2 with ⟨q, h0⟩ | ⟨gb, cap', q⟩
        ·omega
        ·injection q with q1 q2 q3;subst q1;have kl : w2.cell? ⟨gb, k, none⟩ = some (.int .i64 ((l.getD k 0 : Nat) : Int)) := by
          rw [hrow2.cellAt k (by omega)];exact natV_get (by have := HN.out; omega)
         have kx : w2.cell? (xa'.add i) = some (.int .i64 (a : Int)) := (HW.out.cell (World.block_lt_of_cell? wr _ HKX.out)).trans HKX.out;obtain ⟨b, hb⟩ : ∃ b, l.getD k 0 = b := ⟨_, rfl⟩;rw [hb] at kl;have HBk := Lib.hid hb;have hki : (k : Int) < (n : Int) := by omega
         have hkj : (0 : Int) ≤ (k : Int) := by omega
         have wk : IntKind.i64.wrap ((k : Int) + 1) = ((k + 1 : Nat) : Int) := by rw [IntKind.wrap_i64]; omega
         clear hX hrow hrow2 hb q2 q3;by_cases hab2 : a ≤ b
         ·have t3 : decide ((a : Int) ≤ (b : Int)) = true := decide_eq_true (by omega);go_upto_region 7 with fail;refine wp_regionQ (by kernel_rfl) (by kernel_rfl) ?_;refine wpQ_yes (by kernel_rfl) (fun K hK => ?_);go_simp;refine hK _ ?_;clear hK K;refine wpQ_yes (by kernel_rfl) (fun K hK => ?_);go_simp;refine hK _ ?_;clear hK K;refine wpQ_yes (by kernel_rfl) (fun K hK => ?_);go_simp;refine hK _ ?_;clear hK K;refine wpQ_yes (by kernel_rfl) (fun K hK => ?_);go_simp;refine hK _ ?_;clear hK K;refine wpQ_yes (by kernel_rfl) (fun K hK => ?_);go_simp;refine hK _ ?_;clear hK K;refine wpQ_yes (by kernel_rfl) (fun K hK => ?_);go_simp;refine hK _ ?_;clear hK K;refine wpQ_yes (by kernel_rfl) (fun K hK => ?_);go_simp;refine hK _ ?_;clear hK K;refine wpQ_yes (by kernel_rfl) (fun K hK => ?_);go_simp;refine hK _ ?_;clear hK K;refine wpQ_yes (by kernel_rfl) (fun K hK => ?_);go_simp;refine hK _ ?_;clear hK K;refine wpQ_yes (by kernel_rfl) (fun K hK => ?_);go_simp;refine hK _ ?_;clear hK K;refine wpQ_yes (by kernel_rfl) (fun K hK => ?_);go_simp;refine hK _ ?_;clear hK K;refine wpQ_yes (by kernel_rfl) (fun K hK => ?_);go_simp;refine hK _ ?_;clear hK K;refine wpQ_yes (by kernel_rfl) (fun K hK => ?_);go_simp;refine hK _ ?_;clear hK K;refine wpQ_yes (by kernel_rfl) (fun K hK => ?_);go_simp;refine hK _ ?_;clear hK K;refine wpQ_yes (by kernel_rfl) (fun K hK => ?_);go_simp;refine hK _ ?_;clear hK K;refine wpQ_nil ?_;clear kl kx;go_wp2_with fail;go_roundw
          case rel => exact ⟨k + 1, by go_num, by omega, Lib.hid (fun j hj => by
           rcases Nat.lt_or_ge j k with q | q
           ·exact HB.out j q
           ·obtain rfl : j = k := by omega
            rw [HBk.out]; exact hab2), Lib.hid (HW.out.trans (Below.drew (Ext.refl _)))⟩
          case measure => simp [intOf]; omega
         ·have t3 : decide ((a : Int) ≤ (b : Int)) = false := decide_eq_false (by omega);go_upto_region 7 with fail;refine wp_regionQ (by kernel_rfl) (by kernel_rfl) ?_;refine wpQ_yes (by kernel_rfl) (fun K hK => ?_);go_simp;refine hK _ ?_;clear hK K;refine wpQ_yes (by kernel_rfl) (fun K hK => ?_);go_simp;refine hK _ ?_;clear hK K;refine wpQ_yes (by kernel_rfl) (fun K hK => ?_);go_simp;refine hK _ ?_;clear hK K;refine wpQ_yes (by kernel_rfl) (fun K hK => ?_);go_simp;refine hK _ ?_;clear hK K;refine wpQ_yes (by kernel_rfl) (fun K hK => ?_);go_simp;refine hK _ ?_;clear hK K;refine wpQ_yes (by kernel_rfl) (fun K hK => ?_);go_simp;refine hK _ ?_;clear hK K;refine wpQ_yes (by kernel_rfl) (fun K hK => ?_);go_simp;refine hK _ ?_;clear hK K;refine wpQ_yes (by kernel_rfl) (fun K hK => ?_);go_simp;refine hK _ ?_;clear hK K;refine wpQ_yes (by kernel_rfl) (fun K hK => ?_);go_simp;refine hK _ ?_;clear hK K;refine wpQ_yes (by kernel_rfl) (fun K hK => ?_);go_simp;refine hK _ ?_;clear hK K;refine wpQ_yes (by kernel_rfl) (fun K hK => ?_);go_simp;refine hK _ ?_;clear hK K;refine wpQ_yes (by kernel_rfl) (fun K hK => ?_);go_simp;refine hK _ ?_;clear hK K;refine wpQ_yes (by kernel_rfl) (fun K hK => ?_);go_simp;refine hK _ ?_;clear hK K;refine wpQ_yes (by kernel_rfl) (fun K hK => ?_);go_simp;refine hK _ ?_;clear hK K;refine wpQ_yes (by kernel_rfl) (fun K hK => ?_);go_simp;refine hK _ ?_;clear hK K;refine wpQ_nil ?_;clear kl kx;go_wp2_with fail;go_meet
          exact ⟨k, rfl, hk, Lib.hid (Hb.ins_at a l k (by rw [HN.out]; omega) HB.out (fun _ => by rw [HBk.out]; omega)), Lib.hid (HW.out.trans (Below.drew (Ext.refl _)))⟩
       ·obtain rfl : k = n := by omega
        have t2 : decide ((k : Int) < (k : Int)) = false := decide_eq_false (by omega);have n2 : ¬ k < k := by omega
        go_upto_region 7 with fail;refine wp_regionQ (by kernel_rfl) (by kernel_rfl) ?_;refine wpQ_yes (by kernel_rfl) (fun K hK => ?_);go_simp;refine hK _ ?_;clear hK K;refine wpQ_yes (by kernel_rfl) (fun K hK => ?_);go_simp;refine hK _ ?_;clear hK K;refine wpQ_yes (by kernel_rfl) (fun K hK => ?_);go_simp;refine hK _ ?_;clear hK K;refine wpQ_yes (by kernel_rfl) (fun K hK => ?_);go_simp;refine hK _ ?_;clear hK K;refine wpQ_yes (by kernel_rfl) (fun K hK => ?_);go_simp;refine hK _ ?_;clear hK K;refine wpQ_no (by kernel_rfl) ?_;(try simp only [Act.put, xa, xb, xc, xd, xe, xf]);refine wpQ_no (by kernel_rfl) ?_;(try simp only [Act.put, xa, xb, xc, xd, xe, xf]);refine wpQ_no (by kernel_rfl) ?_;(try simp only [Act.put, xa, xb, xc, xd, xe, xf]);refine wpQ_no (by kernel_rfl) ?_;(try simp only [Act.put, xa, xb, xc, xd, xe, xf]);refine wpQ_no (by kernel_rfl) ?_;(try simp only [Act.put, xa, xb, xc, xd, xe, xf]);refine wpQ_no (by kernel_rfl) ?_;(try simp only [Act.put, xa, xb, xc, xd, xe, xf]);refine wpQ_no (by kernel_rfl) ?_;(try simp only [Act.put, xa, xb, xc, xd, xe, xf]);refine wpQ_no (by kernel_rfl) ?_;(try simp only [Act.put, xa, xb, xc, xd, xe, xf]);refine wpQ_no (by kernel_rfl) ?_;(try simp only [Act.put, xa, xb, xc, xd, xe, xf]);refine wpQ_yes (by kernel_rfl) (fun K hK => ?_);go_simp;refine hK _ ?_;clear hK K;refine wpQ_nil ?_;go_wp2_with fail;go_meet
        exact ⟨k, rfl, hk, Lib.hid (Hb.ins_at a l k (by rw [HN.out]; exact Nat.le_refl _) HB.out (fun q => by rw [HN.out] at q; omega)), Lib.hid (HW.out.trans (Below.drew (Ext.refl _)))⟩
     case rest =>
     obtain ⟨k, rfl, hk, HIN, HW⟩ := hcut;rename World => w3;obtain ⟨hX, hrow⟩ := HF.out;rw [HN.out] at hrow;have hrow3 := ownsRow_kept hrow HW.out.keeps (fun _ _ => id);have X3 := Lib.hid (hX.trans HW.out);have HR3 := Lib.hid hrow3;have hki : (k : Int) ≤ (n : Int) := by omega
     have hkj : (0 : Int) ≤ (k : Int) := by omega
     have kx3 : w3.cell? (xa'.add i) = some (.int .i64 (a : Int)) := (HW.out.cell (World.block_lt_of_cell? wr _ HKX.out)).trans HKX.out;have hs3 : w.heap.size ≤ w3.heap.size := X3.out.size;clear hX hrow HKX;rcases ownsRow_slice hrow3 with ⟨q, h0⟩ | ⟨gb, cap', q⟩
     ·subst h0;injection q with q1 q2 q3;subst q1 q3;obtain rfl : k = 0 := by omega
      have hl0 : l = [] := List.length_eq_zero_iff.1 HN.out;have HL0 := Lib.hid hl0;clear hrow3 hl0;go_upto_region 11 with (at_builtin; refine wpList_append_own_none rfl _ _ 59 rfl w3.heap.size 3 i0 1 Tryd.underlying59 hi0 (.slice none 0 0) 0 [] rfl (World.ownsRow_nil _ _ _ _) rfl ?_);go_upto_region 12 with (at_builtin; refine wpList_append_own_at _ rfl _ _ 59 rfl w3.heap.size 3 i0 (.int .i64 0) 1 8 Tryd.underlying59 hi0 hz0 hz1 hz2 rfl (by decide) (.slice none 0 0) 0 [] rfl (World.ownsRow_nil _ _ _ _) ⟨w3.heap.size, 0, none⟩ 1 1 [.int .i64 (a : Int)] rfl rfl ?b1 ?b2 ?b3 ?b4 ?b5 ?_)
      case b2 => rfl
      case b3 => decide
      intro v5 w5 hown5 hgrow5 _ hat5;(try simp only [Nat.zero_add, List.nil_append] at hown5);obtain ⟨y5, c5, rfl⟩ := row_lits hown5;have E5 : Ext w3 w5 := ((Ext.refl w3).alloc _).trans ((Keeps.grown hgrow5).below (Nat.le_refl _) (fun k _ q => by cases q));have HO5 := Lib.hid hown5;have HE5 := Lib.hid E5;clear hgrow5 hat5 hown5 E5 kx3;go_wp2_with (at_builtin; refine wpList_append_own_none rfl _ _ 59 rfl w3.heap.size 3 i0 1 Tryd.underlying59 hi0 (.slice y5 1 c5) 1 [.int .i64 (a : Int)] rfl HO5.out rfl ?_);go_wp2_with fail;go_roundw
      case rel =>
       refine ⟨i + 1, 1, y5, c5, by go_num, by omega, by omega, rfl, Lib.hid (by rw [HN2.out, HL0.out]; rfl), Lib.hid ⟨X3.out.trans HE5.out, ?_⟩⟩;rw [HN2.out, HL0.out];exact owns_low HO5.out hs3
      case measure => simp [intOf]; omega
     ·injection q with q1 q2 q3;subst q1;have hgb : gb < w3.heap.size := (World.ownsRow.lt hrow3 gb rfl).2;have HGB := Lib.hid hgb;have hcap := (owns_cap hrow3).1;have hkcN : k ≤ cc := by omega
      have hkc : (k : Int) ≤ (cc : Int) := by omega
      have hnc : (n : Int) ≤ (cc : Int) := by omega
      clear hrow3 q2 q3 hgb;have hlk : (l.take k).length = k := by rw [List.length_take, HN.out]; omega
      have hld : (l.drop k).length = n - k := by rw [List.length_drop, HN.out]
      have HLK := Lib.hid (And.intro hlk hld);clear hlk hld;go_upto_region 11 with (at_builtin; refine wpList_append_own_at _ rfl _ _ 59 rfl w3.heap.size 3 i0 (.int .i64 0) 1 8 Tryd.underlying59 hi0 hz0 hz1 hz2 rfl (by decide) (.slice none 0 0) 0 [] rfl (World.ownsRow_nil _ _ _ _) ⟨gb, 0, none⟩ k cc (natV (l.take k)) rfl ?p01 ?p02 (natV_one _) ?p03 ?p04 (Nat.le_refl _) ?_)
      case p01 => unfold natV; rw [List.length_map, HLK.out.1, Nat.mul_one]
      case p02 =>
       intro j u hu;have hjk : j < k := by
        have := (List.getElem?_eq_some_iff.1 hu).1;unfold natV at this;rw [List.length_map, HLK.out.1] at this;exact this
       rw [add_plain, HR3.out.cellAt j (by omega), ← hu];unfold natV;rw [List.getElem?_map, List.getElem?_map, List.getElem?_take_of_lt hjk]
      case p03 => unfold maxLen; omega
      case p04 => omega
      intro v4 w4 hown4 hgrow4 _ hat4;(try simp only [Nat.zero_add, List.nil_append] at hown4);obtain ⟨y4, c4, rfl⟩ := row_lits hown4;have E4 : Ext w3 w4 := (Keeps.grown hgrow4).below (Nat.le_refl _) (fun k _ q => by cases q);have kx4 : w4.cell? (xa'.add i) = some (.int .i64 (a : Int)) := (E4.cell (World.block_lt_of_cell? w3 _ kx3)).trans kx3;have HO4 := Lib.hid hown4;have HE4 := Lib.hid E4;clear hgrow4 hat4 hown4 E4 kx3;go_upto_region 12 with (at_builtin; refine wpList_append_own_at _ rfl _ _ 59 rfl w3.heap.size 3 i0 (.int .i64 0) 1 8 Tryd.underlying59 hi0 hz0 hz1 hz2 rfl (by decide) (.slice y4 k c4) k (natV (l.take k)) rfl (ownsRow_kept HO4.out ((Ext.refl w4).alloc _).keeps (fun _ _ => id)) ⟨w4.heap.size, 0, none⟩ 1 1 [.int .i64 (a : Int)] rfl rfl ?p11 ?p12 ?p13 ?p14 ?p15 ?_)
      case p11 =>
       intro j u hu;rw [add_plain];exact (Bk.at (w := w4) rfl).cell j |>.trans (by simpa using hu)
      case p12 => intro u hu; simp at hu; subst hu; rfl
      case p13 => unfold maxLen; omega
      case p14 => omega
      case p15 => have := HE4.out.size; simp; omega
      intro v5 w5 hown5 hgrow5 _ hat5;obtain ⟨y5, c5, rfl⟩ := row_lits hown5;have E5 : Ext w3 w5 := Below.trans (HE4.out.alloc _) ((Keeps.grown hgrow5).below (B := w3.heap.size) (by have := HE4.out.size; simp; omega) (fun b hb q => by have := (World.ownsRow.lt HO4.out b q).1; omega));have HO5 := Lib.hid hown5;have HE5 := Lib.hid E5;have HR5 := Lib.hid (ownsRow_kept HR3.out E5.keeps (fun _ _ => id));clear hgrow5 hat5 hown5 E5 kx4;by_cases hck : cc = k
      ·have hnk : n = k := by omega
       have HNK := Lib.hid hnk;have hld0 : l.drop k = [] := List.drop_eq_nil_of_le (by rw [HN.out]; omega);have HLD := Lib.hid hld0;have hm0 : n - k = 0 := by omega
       have hc0 : cc - k = 0 := by omega
       clear hld0 hnk;go_wp2_with (at_builtin; refine wpList_append_own_at _ rfl _ _ 59 rfl w3.heap.size 3 i0 (.int .i64 0) 1 8 Tryd.underlying59 hi0 hz0 hz1 hz2 rfl (by decide) (.slice y5 (k + 1) c5) (k + 1) (natV (l.take k) ++ [.int .i64 (a : Int)]) rfl HO5.out ⟨gb, 0, none⟩ (n - k) (cc - k) (natV (l.drop k)) ?qa0 ?qa1 ?qa2 (natV_one _) ?qa3 ?qa4 ?qa5 ?_)
       case qa0 => (simp [Act.eval, hck]; omega)
       case qa1 => unfold natV; rw [List.length_map, HLK.out.2, Nat.mul_one]
       case qa2 =>
        intro j u hu;rw [HLD.out] at hu;simp [natV] at hu
       case qa3 => unfold maxLen; omega
       case qa4 => omega
       case qa5 => exact HE5.out.size
       intro v6 w6 hown6 hgrow6 _ hat6;have e6 : natV (l.take k) ++ Value.int .i64 (a : Int) :: natV (l.drop k) = natV (l.take k ++ a :: l.drop k) := by simp [natV]
       have e7 : n + 1 = k + 1 := by have := HNK.out; omega
       have hown6 : w6.ownsRow w3.heap.size 3 1 v6 (n + 1) (natV (l.take k ++ a :: l.drop k)) := by rw [e7, ← e6]; first | exact hown6 | simpa using hown6
       obtain ⟨y6, c6, rfl⟩ := row_lits hown6;have E6 : Ext w3 w6 := Below.trans HE5.out ((Keeps.grown hgrow6).below (B := w3.heap.size) HE5.out.size (fun b hb q => by have := (World.ownsRow.lt HO5.out b q).1; omega));have HO6 := Lib.hid hown6;have HE6 := Lib.hid E6;clear hgrow6 hat6 hown6 E6 e6 e7;go_wp2_with fail;go_roundw
       case rel =>
        have hlen : (l.take k ++ a :: l.drop k).length = n + 1 := by rw [List.length_append, List.length_cons, HLK.out.1, HLK.out.2]; omega
        refine ⟨i + 1, n + 1, y6, c6, by go_num, by omega, by omega, rfl, Lib.hid (by rw [HN2.out, HIN.out]; exact hlen), Lib.hid ⟨X3.out.trans HE6.out, ?_⟩⟩;rw [HN2.out, HIN.out, hlen];exact owns_low HO6.out hs3
       case measure => simp [intOf]; omega
      ·have hck2 : ¬ k = cc := fun q => hck (Eq.symm q);go_wp2_with (at_builtin; refine wpList_append_own_at _ rfl _ _ 59 rfl w3.heap.size 3 i0 (.int .i64 0) 1 8 Tryd.underlying59 hi0 hz0 hz1 hz2 rfl (by decide) (.slice y5 (k + 1) c5) (k + 1) (natV (l.take k) ++ [.int .i64 (a : Int)]) rfl HO5.out ⟨gb, k, none⟩ (n - k) (cc - k) (natV (l.drop k)) ?qb0 ?qb1 ?qb2 (natV_one _) ?qb3 ?qb4 ?qb5 ?_)
       case qb0 => first | rfl | simp [Act.eval, hck]
       case qb1 => unfold natV; rw [List.length_map, HLK.out.2, Nat.mul_one]
       case qb2 =>
        intro j u hu;have hjk : j < n - k := by
         have := (List.getElem?_eq_some_iff.1 hu).1;unfold natV at this;rw [List.length_map, HLK.out.2] at this;exact this
        have e : (⟨gb, k, none⟩ : Addr).add j = ⟨gb, k + j, none⟩ := by
         unfold Addr.add;split
         ·rename_i q; subst q; rfl
         ·rfl
        rw [e, HR5.out.cellAt (k + j) (by omega), ← hu];unfold natV;rw [List.getElem?_map, List.getElem?_map, List.getElem?_drop]
       case qb3 => unfold maxLen; omega
       case qb4 => omega
       case qb5 => exact HE5.out.size
       intro v6 w6 hown6 hgrow6 _ hat6;have e6 : natV (l.take k) ++ Value.int .i64 (a : Int) :: natV (l.drop k) = natV (l.take k ++ a :: l.drop k) := by simp [natV]
       have e7 : n + 1 = k + 1 + (n - k) := by omega
       have hown6 : w6.ownsRow w3.heap.size 3 1 v6 (n + 1) (natV (l.take k ++ a :: l.drop k)) := by rw [e7, ← e6]; first | exact hown6 | simpa using hown6
       obtain ⟨y6, c6, rfl⟩ := row_lits hown6;have E6 : Ext w3 w6 := Below.trans HE5.out ((Keeps.grown hgrow6).below (B := w3.heap.size) HE5.out.size (fun b hb q => by have := (World.ownsRow.lt HO5.out b q).1; omega));have HO6 := Lib.hid hown6;have HE6 := Lib.hid E6;clear hgrow6 hat6 hown6 E6 e6 e7;go_wp2_with fail;go_roundw
       case rel =>
        have hlen : (l.take k ++ a :: l.drop k).length = n + 1 := by rw [List.length_append, List.length_cons, HLK.out.1, HLK.out.2]; omega
        refine ⟨i + 1, n + 1, y6, c6, by go_num, by omega, by omega, rfl, Lib.hid (by rw [HN2.out, HIN.out]; exact hlen), Lib.hid ⟨X3.out.trans HE6.out, ?_⟩⟩;rw [HN2.out, HIN.out, hlen];exact owns_low HO6.out hs3
       case measure => simp [intOf]; omega
   ·obtain rfl : i = len := by omega
    have t0 : decide ((i : Int) < (i : Int)) = false := decide_eq_false (by omega);have n0 : ¬ i < i := by omega
    have hn := HN.out;go_wp2_with fail;go_meet
    exact ⟨y, cc, by rw [HN.out], by rw [HN.out]; exact HF⟩
 case rest =>
 obtain ⟨y, cc, rfl, HF⟩ := hcut;rename World => w1;obtain ⟨L, hL⟩ : ∃ L, Hb.fall cnt len = L := ⟨_, rfl⟩;have hLb : ∀ s ∈ L, s ≤ 1048576 := by rw [← hL]; exact Hb.fall_bd HCc.out
 have hLl : L.length ≤ 300 := by rw [← hL]; exact Nat.le_trans (Hb.fall_le cnt len) hl
 rw [hL] at HF HRV ⊢;obtain ⟨M, hM⟩ : ∃ M, L.length = M := ⟨_, rfl⟩;obtain ⟨X1, hrow⟩ := HF.out;rw [hM] at hrow hLl HRV ⊢;have HX1 := Lib.hid X1;have HR1 := Lib.hid hrow;have HM := Lib.hid hM;have HLb := Lib.hid hLb;clear X1 hrow HF hM hLb hL;by_cases hM0 : M = 0
 ·have t1 : ((M : Int) == 0) = true := beq_iff_eq.2 (by omega);have hv : RV = 0 := by rw [← HRV.out, if_pos hM0]
  have HV := Lib.hid hv;clear hM0 hv;go_wp2_with fail;go_ret;exact ⟨by rw [HV.out]; rfl, HX1.out⟩
 have t1 : ((M : Int) == 0) = false := beq_eq_false_iff_ne.2 (by omega);obtain ⟨gb, rfl⟩ : ∃ gb, y = some ⟨gb, 0, none⟩ := by
  rcases ownsRow_slice HR1.out with ⟨q, h0⟩ | ⟨gb, cap', q⟩
  ·omega
  ·injection q with q1 q2 q3;exact ⟨gb, q1⟩
 by_cases hM1 : M = 1
 ·have t2 : ((M : Int) == 1) = true := beq_iff_eq.2 (by omega);have hv : RV = L.getD 0 0 := by rw [← HRV.out, if_neg hM0, if_pos hM1]
  have HV := Lib.hid hv;have k0 : w1.cell? ⟨gb, 0, none⟩ = some (.int .i64 ((L.getD 0 0 : Nat) : Int)) := by
   rw [HR1.out.cellAt 0 (by omega)];exact natV_get (by have := HM.out; omega)
  have hMi : (0 : Int) < (M : Int) := by omega
  clear hM0 hM1 hv;go_wp2_with fail;go_ret;exact ⟨by rw [HV.out]; rfl, HX1.out⟩
 have t2 : ((M : Int) == 1) = false := beq_eq_false_iff_ne.2 (by omega);have hv : RV = Hb.bst (fun p => (L.drop p).sum) M most 0 2 := by rw [← HRV.out, if_neg hM0, if_neg hM1]
 have HV := Lib.hid hv;clear hv;obtain ⟨M1, hM1'⟩ : ∃ M1, M + 1 = M1 := ⟨_, rfl⟩;have HM1 := Lib.hid hM1';have e1 : (M : Int) + 1 = (M1 : Int) := by omega
 have w1' : ∀ z, z = (M1 : Int) → IntKind.i64.wrap z = z := by intro z hz; rw [IntKind.wrap_i64]; omega
 have hM1b : M1 ≤ 301 := by omega
 have hmk := fun w => run_make_row' (P := Tryd.prog) 59 3 (.int .i64 0) 8 Tryd.underlying59 i64info rfl .i64 .i64 M1 (by omega) (by omega) w;have hM2 : 2 ≤ M := by omega
 clear hM0 hM1 hM1';go_upto_block 4 with fail;refine wp_world (fun wz => Ext w1 wz ∧ Cs wz w1.heap.size M1 .i64 (fun _ => 0)) (by first | exact ⟨Below.drew ((Ext.refl _).alloc _), by rw [made_eq]; exact (Cs.born _ _ _ _ _).drew⟩ | exact ⟨(Ext.refl _).alloc _, by rw [made_eq]; exact Cs.born _ _ _ _ _⟩) ?_;rintro w2 ⟨hE, hR⟩;obtain ⟨R, hRe⟩ : ∃ q, w1.heap.size = q := ⟨_, rfl⟩;rw [hRe] at hR;rw [hRe];have HX2 := Lib.hid (HX1.out.trans hE);have HR2 := Lib.hid (ownsRow_kept HR1.out hE.keeps (fun _ _ => id));have HGR := Lib.hid (show gb < R ∧ w.heap.size ≤ R from ⟨hRe ▸ (World.ownsRow.lt HR1.out gb rfl).2, hRe ▸ HX1.out.size⟩);have hdr : ∀ p, (L.drop p).sum ≤ 1000000000 := fun p => by
  have h1 : ∀ (l : List Nat), (∀ s ∈ l, s ≤ 1048576) → l.sum ≤ l.length * 1048576 := by
   intro l;induction l with
   | nil => intro _; simp
   | cons a l ih =>
    intro h;have q1 := ih (fun s hs => h s (List.mem_cons_of_mem _ hs));have q2 := h a (List.mem_cons_self ..);rw [List.sum_cons, List.length_cons, Nat.succ_mul];omega
  have h2 := h1 (L.drop p) (fun s hs => HLb.out s (List.mem_of_mem_drop hs));have h3 : (L.drop p).length ≤ 300 := by rw [List.length_drop, HM.out]; omega
  have h4 : (L.drop p).length * 1048576 ≤ 300 * 1048576 := Nat.mul_le_mul_right _ h3;omega
 have HDR := Lib.hid hdr;have HC2 : Hid (Cs w2 R M1 .i64 (fun p => if M ≤ p then (((L.drop p).sum : Nat) : Int) else 0)) := Lib.hid (fun i hi => by
  have h := hR i hi;refine ⟨?_, h.2⟩;rw [h.1];congr 2
  simp only [];split
  ·rw [List.drop_eq_nil_of_le (by rw [HM.out]; omega)]; rfl
  ·rfl)
 clear hE hR hRe hmk hdr HR1 HX1 t1 t2;have em1 : (M : Int) - 1 = ((M - 1 : Nat) : Int) := by omega
 go_cut [] (fun wx => Hid (Ext w wx) ∧ Hid (wx.ownsRow w.heap.size 3 1 (.slice (some ⟨gb, 0, none⟩) M cc) M (natV L)) ∧ Hid (Cs wx R M1 .i64 (fun p => (((L.drop p).sum : Nat) : Int))))
 case first =>
  go_wp2_with fail;go_loopw [10] (fun c wr => ∃ j : Nat, c = .int .i64 ((j : Int) - 1) ∧ j ≤ M ∧ Hid (Ext w wr) ∧ Hid (wr.ownsRow w.heap.size 3 1 (.slice (some ⟨gb, 0, none⟩) M cc) M (natV L)) ∧ Hid (Cs wr R M1 .i64 (fun p => if j ≤ p then (((L.drop p).sum : Nat) : Int) else 0))) (fun c _ => (intOf c + 1).toNat)
  case atStart => exact ⟨M, rfl, by omega, HX2, HR2, HC2⟩
  case round =>
   clear HX2 HR2 HC2;obtain ⟨j, rfl, hj, HX2, HR2, HC2⟩ := hrel;by_cases hj0 : 0 < j
   ·obtain ⟨k, rfl⟩ : ∃ k, j = k + 1 := ⟨j - 1, by omega⟩;have ek : (((k + 1 : Nat) : Int) - 1) = (k : Int) := by omega
    rw [ek];have t0 : decide ((0 : Int) ≤ (k : Int)) = true := decide_eq_true (by omega);obtain ⟨k1, hk1⟩ : ∃ k1, k + 1 = k1 := ⟨_, rfl⟩;have e2 : (k : Int) + 1 = (k1 : Int) := by omega
    have wk1 : ∀ z, z = (k1 : Int) → IntKind.i64.wrap z = z := by intro z hz; rw [IntKind.wrap_i64]; omega
    have hk1M : k1 < M1 := by have := HM1.out; omega
    have hk1i : (k1 : Int) < (M1 : Int) := by omega
    have hk1j : (0 : Int) ≤ (k1 : Int) := by omega
    have hki : (k : Int) < (M1 : Int) := by omega
    have hkM : (k : Int) < (M : Int) := by omega
    have hkj : (0 : Int) ≤ (k : Int) := by omega
    obtain ⟨s1, hs1⟩ : ∃ s1, (L.drop k1).sum = s1 := ⟨_, rfl⟩;obtain ⟨b, hb⟩ : ∃ b, L.getD k 0 = b := ⟨_, rfl⟩;have c1 : wr.cell? ⟨R, k1, none⟩ = some (.int .i64 (s1 : Int)) := by
     have h := (HC2.out k1 hk1M).1;simp only [] at h;rw [if_pos (by omega), hs1] at h;exact h
    have c2 : wr.cell? ⟨gb, k, none⟩ = some (.int .i64 (b : Int)) := by
     rw [HR2.out.cellAt k (by omega), natV_get (by rw [HM.out]; omega), hb]
    obtain ⟨c3, f3⟩ := HC2.out k (by omega);have hsum : (L.drop k).sum = s1 + b := by
     have hkl : k < L.length := by rw [HM.out]; omega
     rw [List.drop_eq_getElem_cons hkl, List.sum_cons, hk1, hs1];have : L[k] = b := by rw [← hb, List.getD, List.getElem?_eq_getElem hkl]; rfl
     rw [this, Nat.add_comm]
    have hsb := HDR.out k;obtain ⟨s0, hs0⟩ : ∃ s0, s1 + b = s0 := ⟨_, rfl⟩;rw [hsum, hs0] at hsb;have e3 : (s1 : Int) + (b : Int) = (s0 : Int) := by omega
    have ws0 : ∀ z, z = (s0 : Int) → IntKind.i64.wrap z = z := by intro z hz; rw [IntKind.wrap_i64]; omega
    have wkm : ∀ z, z = (k : Int) - 1 → IntKind.i64.wrap z = z := by intro z hz; rw [IntKind.wrap_i64]; omega
    have HS0 := Lib.hid (show (L.drop k).sum = s0 by rw [hsum, hs0]);have HK1 := Lib.hid hk1;have HN1 := Lib.hid (show (⟨R, k, none⟩ : Addr) ≠ ⟨R, k1, none⟩ from fun q => by injection q with _ q _; omega);have HN2 := Lib.hid (show gb ≠ R from by have := HGR.out; omega);clear hs1 hb hsum hs0 hk1;go_upto_region 21 with fail;refine wp_region_still_tail 13 (by kernel_rfl) (by kernel_rfl) ?_;simp only [List.take_succ_cons, List.take_zero, List.drop_succ_cons, List.drop_zero];repeat still_step
    refine wpStill_nil ?_;change wpList _ _ _ _ _ wr.drew;go_wp2_with fail;go_roundw
    case rel =>
     have hk9 : Keeps (fun b => b = R) wr (wr.setCell ⟨R, k, none⟩ (.int .i64 (s0 : Int))).drew := (Keeps.setCell (S := fun b => b = R) (p := ⟨R, k, none⟩) (Keeps.refl _ _) (.inl rfl) _).drew;refine ⟨k, rfl, by omega, Lib.hid (Below.drew (Below.setCell HX2.out (show w.heap.size ≤ R from HGR.out.2) _)), Lib.hid (ownsRow_kept HR2.out hk9 (fun b q e => HN2.out (by injection q with q; rw [← e, ← q]))), Lib.hid (HC2.out.put k _ _ (by omega) (fun p hp => ?_)).drew⟩;by_cases e : p = k
     ·subst e;rw [if_pos (Nat.le_refl _), if_pos rfl, HS0.out]
     ·rw [if_neg e];by_cases e2 : k ≤ p
      ·rw [if_pos e2, if_pos (by omega)]
      ·rw [if_neg e2, if_neg (by omega)]
    case measure => simp [intOf]; omega
   ·obtain rfl : j = 0 := by omega
    have t0 : decide ((0 : Int) ≤ ((0 : Nat) : Int) - 1) = false := by decide
    have HC3 : Hid (Cs wr R M1 .i64 (fun p => (((L.drop p).sum : Nat) : Int))) := Lib.hid (by
     intro i hi;have h := HC2.out i hi;simp only [] at h;rw [if_pos (Nat.zero_le _)] at h;exact h)
    go_wp2_with fail;go_meet
    exact ⟨HX2, HR2, HC3⟩
 case rest =>
 clear HX2 HR2 HC2;obtain ⟨HX3, _, HC3⟩ := hcut;rename World => w3;obtain ⟨a1, ha1⟩ : ∃ a1, most + 2 = a1 := ⟨_, rfl⟩;obtain ⟨p1, hp1⟩ : ∃ p1, a1 * M1 = p1 := ⟨_, rfl⟩;obtain ⟨NN, hNN⟩ : ∃ NN, p1 * M1 = NN := ⟨_, rfl⟩;have HNN : Hid (Hb.many M most = NN) := Lib.hid (by unfold Hb.many; rw [HM1.out, ha1, hp1, hNN]);have hp1b : p1 ≤ 17 * 301 := by rw [← hp1]; exact Nat.mul_le_mul (by omega) hM1b
 have hNb : NN ≤ 17 * 301 * 301 := by rw [← hNN]; exact Nat.mul_le_mul hp1b hM1b
 have e4 : (most : Int) + 2 = (a1 : Int) := by omega
 have e5 : (a1 : Int) * (M1 : Int) = (p1 : Int) := by rw [← hp1]; exact (Int.natCast_mul a1 M1).symm
 have e6 : (p1 : Int) * (M1 : Int) = (NN : Int) := by rw [← hNN]; exact (Int.natCast_mul p1 M1).symm
 have w4 : ∀ z, z = (a1 : Int) → IntKind.i64.wrap z = z := by intro z hz; rw [IntKind.wrap_i64]; omega
 have w5 : ∀ z, z = (p1 : Int) → IntKind.i64.wrap z = z := by intro z hz; rw [IntKind.wrap_i64]; omega
 have w6 : ∀ z, z = (NN : Int) → IntKind.i64.wrap z = z := by intro z hz; rw [IntKind.wrap_i64]; omega
 have hmk := fun w => run_make_row' (P := Tryd.prog) 59 3 (.int .i64 0) 8 Tryd.underlying59 i64info rfl .i64 .i64 NN (by omega) (by omega) w;clear ha1 hp1 hNN hp1b em1;go_upto_block 6 with fail;refine wp_world (fun wz => Ext w3 wz ∧ Cs wz w3.heap.size NN .i64 (fun _ => 0)) (by first | exact ⟨Below.drew ((Ext.refl _).alloc _), by rw [made_eq]; exact (Cs.born _ _ _ _ _).drew⟩ | exact ⟨(Ext.refl _).alloc _, by rw [made_eq]; exact Cs.born _ _ _ _ _⟩) ?_;rintro w4' ⟨hE, hK⟩;obtain ⟨K, hKe⟩ : ∃ q, w3.heap.size = q := ⟨_, rfl⟩;rw [hKe] at hK;rw [hKe];have hRK : R < K := hKe ▸ World.block_lt_of_cell? w3 _ (HC3.out 0 (by omega)).1;have HRK := Lib.hid hRK;have HX4 := Lib.hid (HX3.out.trans hE);have HC4 := Lib.hid (Cs.keeps (S := fun _ => False) HC3.out hE.keeps (fun q => q));have HK4 : Hid (Cs w4' K NN .i64 (fun j => if j < 0 then -1 else 0)) := Lib.hid (fun i hi => by
  have h := hK i hi;simpa using h)
 have HWK := Lib.hid (show w.heap.size ≤ K from hKe ▸ HX3.out.size);clear hE hK hKe hmk hRK HX3 HC3 e4 e5 e6 w4 w5 w6;go_cut [] (fun wx => Hid (Ext w wx) ∧ Hid (Cs wx R M1 .i64 (fun p => (((L.drop p).sum : Nat) : Int))) ∧ Hid (Cs wx K NN .i64 (fun _ => -1)))
 case first =>
  go_wp2_with fail;go_loopw [12] (fun c wr => ∃ j : Nat, c = .int .i64 (j : Int) ∧ j ≤ NN ∧ Hid (Ext w wr) ∧ Hid (Cs wr R M1 .i64 (fun p => (((L.drop p).sum : Nat) : Int))) ∧ Hid (Cs wr K NN .i64 (fun p => if p < j then -1 else 0))) (fun c _ => NN - (intOf c).toNat)
  case atStart => exact ⟨0, rfl, by omega, HX4, HC4, HK4⟩
  case round =>
   clear HX4 HC4 HK4;obtain ⟨j, rfl, hj, HX4, HC4, HK4⟩ := hrel;by_cases hjn : j < NN
   ·have t0 : decide ((j : Int) < (NN : Int)) = true := decide_eq_true (by omega);have hji : (j : Int) < (NN : Int) := by omega
    have hjj : (0 : Int) ≤ (j : Int) := by omega
    have wj : ∀ z, z = (j : Int) + 1 → IntKind.i64.wrap z = z := by intro z hz; rw [IntKind.wrap_i64]; omega
    obtain ⟨kc, kf⟩ := HK4.out j hjn;go_wp2_with fail;go_roundw
    case rel =>
     refine ⟨j + 1, by go_num, by omega, Lib.hid (Below.setCell HX4.out (show w.heap.size ≤ K from HWK.out) _), Lib.hid (HC4.out.other ⟨K, j, none⟩ _ (show K ≠ R by have := HRK.out; omega)), Lib.hid (HK4.out.put j _ _ hjn (fun p hp => ?_))⟩;by_cases e : p = j
     ·rw [if_pos (by omega), if_pos e]
     ·rw [if_neg e];by_cases e2 : p < j
      ·rw [if_pos (by omega), if_pos e2]
      ·rw [if_neg (by omega), if_neg e2]
    case measure => simp [intOf]; omega
   ·obtain rfl : j = NN := by omega
    have t0 : decide ((j : Int) < (j : Int)) = false := decide_eq_false (by omega);have HK5 : Hid (Cs wr K j .i64 (fun _ => -1)) := Lib.hid (by
     intro i hi;have h := HK4.out i hi;simp only [] at h;rw [if_pos hi] at h;exact h)
    go_wp2_with fail;go_meet
    exact ⟨HX4, HC4, HK5⟩
 case rest =>
 clear HX4 HC4 HK4;obtain ⟨HX5, HC5, HK5⟩ := hcut;rename World => w5;go_wp2_with fail;refine calls_world (fun wz => Ext w5 wz ∧ Bk wz w5.heap.size #[.slice (some ⟨R, 0, none⟩) M1 M1, .int .i64 (most : Int), .slice (some ⟨K, 0, none⟩) NN NN]) ⟨(Ext.refl _).alloc _, Bk.at rfl⟩ ?_;rintro w6 ⟨hE, hB⟩;obtain ⟨Bx, hBe⟩ : ∃ q, w5.heap.size = q := ⟨_, rfl⟩;rw [hBe] at hB;rw [hBe];have hNp : 0 < NN := by
  rw [← HNN.out];unfold Hb.many;exact Nat.mul_pos (Nat.mul_pos (by omega) (by omega)) (by omega)
 have hKB : K < Bx := hBe ▸ World.block_lt_of_cell? w5 _ (HK5.out 0 hNp).1;have hCB : CB w6 Bx R K M most (fun p => (L.drop p).sum) (fun _ => -1) := by
  refine ⟨?_, ?_, ?_, fun j _ => .inl rfl, by omega, by have := HRK.out; omega⟩
  ·rw [HM1.out, HNN.out]; exact hB
  ·rw [HM1.out]; exact Cs.keeps (S := fun _ => False) HC5.out hE.keeps (fun q => q)
  ·rw [HNN.out]; exact Cs.keeps (S := fun _ => False) HK5.out hE.keeps (fun q => q)
 refine (best_any Bx R K M most (fun p => (L.drop p).sum) (by omega) hm2 HDR.out most 1 0 2 w6 (fun _ => -1) (by omega) (Nat.le_refl _) (Nat.zero_le _) (by decide) hCB).mono ?_;rintro e w7 ⟨rfl, _, hk7⟩;have hX7 : Ext w w7 := Below.trans (HX5.out.trans hE) (hk7.below (B := w.heap.size) (HX5.out.trans hE).size (fun b hb q => by have q : b = K := q; have := HWK.out; omega));have HX7 := Lib.hid hX7;clear hX7 hk7 hCB hE hB hBe;go_wp2_with fail;go_ret;exact ⟨by rw [HV.out]; rfl, HX7.out⟩
end Go.Proofs.YtdeiolagnheihaaDoor
namespace Go.Proofs.YtdeiolagnheihaaDoor
open Go.RowKit
theorem lenF_calls (x : Int) (w : World) (_hx1 : -9223372036854775808 ≤ x) (_hx2 : x ≤ 9223372036854775807) :
  Calls Tryd.prog 61 #[.int .i64 x] w fun e w' => e = .returned (.bool (decide (x < 0 ∨ 1048576 < x))) ∧ w = w' := by
 go_enter Tryd.func61, Tryd.ntmps61
 go_wp2_with fail
 ·go_ret;exact ⟨ret_bool (by simp), rfl⟩
 ·go_ret;exact ⟨rfl, rfl⟩
theorem indexL_calls (x : Option Addr) (len cap : Nat) (f : Nat → Int) (w : World) (hx : Ints w x len f) (hl : len ≤ maxLen) :
  Calls Tryd.prog 75 #[.slice x len cap, .func (.func 61) #[] #[]] w fun e w' => (∃ i : Int, e = .returned (.int .i64 i) ∧ ((i = -1 ∧ ∀ j, j < len → 0 ≤ f j ∧ f j ≤ 1048576) ∨ (0 ≤ i ∧ ∃ j, j < len ∧ (f j < 0 ∨ 1048576 < f j)))) ∧ w = w' := by
 unfold maxLen at hl;have HX := Lib.hid hx;clear hx;go_enter Tryd.func75, Tryd.ntmps75
 go_wp2
 go_loop [5, 8] (fun _ c => ∃ i : Nat, i ≤ len ∧ c = .int .i64 i ∧ Hid (∀ j, j < i → 0 ≤ f j ∧ f j ≤ 1048576)) (fun _ c => len - (intOf c).toNat)
 case atStart => exact ⟨0, by omega, rfl, Lib.hid fun j hj => by omega⟩
 case round =>
  obtain ⟨i, hi, rfl, HF⟩ := hrel;by_cases hlt : i < len
  ·obtain ⟨a, rfl⟩ : ∃ a, x = some a := by
    cases x with
    | none => have := HX.out.1 rfl; omega
    | some a => exact ⟨a, rfl⟩
   obtain ⟨hc, h1, h2⟩ := HX.out.2 a rfl i hlt;go_wp2_with fail;refine (lenF_calls _ _ h1 h2).mono ?_;rintro e w1 ⟨rfl, rfl⟩;by_cases hbad : f i < 0 ∨ 1048576 < f i
   ·have hb := decide_eq_true hbad;have HBAD := Lib.hid hbad;clear hbad;go_wp2_with fail;go_ret;exact ⟨⟨i, rfl, .inr ⟨by omega, i, hlt, HBAD.out⟩⟩, rfl⟩
   ·have hb := decide_eq_false hbad;have HBAD := Lib.hid hbad;clear hbad;go_wp2_with fail;go_round
    case rel =>
     refine ⟨i + 1, by omega, by go_num, Lib.hid fun j hj => ?_⟩;rcases Nat.lt_succ_iff_lt_or_eq.1 hj with q | rfl
     ·exact HF.out j q
     ·have := HBAD.out; omega
    case measure => simp [intOf]; omega
  ·obtain rfl : i = len := by omega
   go_wp2
   go_ret;exact ⟨⟨-1, rfl, .inl ⟨rfl, HF.out⟩⟩, rfl⟩
theorem containsL_calls (x : Option Addr) (len cap : Nat) (f : Nat → Int) (w : World) (hx : Ints w x len f) (hl : len ≤ maxLen) :
  Calls Tryd.prog 60 #[.slice x len cap, .func (.func 61) #[] #[]] w fun e w' => (∃ b : Bool, e = .returned (.bool b) ∧ ((b = false ∧ ∀ j, j < len → 0 ≤ f j ∧ f j ≤ 1048576) ∨ (b = true ∧ ∃ j, j < len ∧ (f j < 0 ∨ 1048576 < f j)))) ∧ w = w' := by
 go_enter Tryd.func60, Tryd.ntmps60
 go_wp2_with fail;refine (indexL_calls x len cap f w hx hl).mono ?_;rintro e w1 ⟨⟨i, rfl, h⟩, rfl⟩;rcases h with ⟨rfl, h⟩ | ⟨hi, h⟩
 ·have H := Lib.hid h;clear h;go_wp2_with fail;go_ret;exact ⟨⟨false, rfl, .inl ⟨rfl, H.out⟩⟩, rfl⟩
 ·have H := Lib.hid h;have t : decide ((0 : Int) ≤ i) = true := decide_eq_true hi;clear h;go_wp2_with fail;go_ret;exact ⟨⟨true, by simp, .inr ⟨rfl, H.out⟩⟩, rfl⟩
end Go.Proofs.YtdeiolagnheihaaDoor
