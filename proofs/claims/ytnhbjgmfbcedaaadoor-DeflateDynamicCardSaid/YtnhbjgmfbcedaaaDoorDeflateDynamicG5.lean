/-
  Tokens as bits, and their bits read: plain laws. No function of the program is named.
  Turned: bits, the highest first.
  deflate.place; a writer of a block: its symbols.
  Quiet regions that draw, step by step (as in XRfA; for seats without the reader).
  The world of a region that draws its order, under a name. No function of the program is named.
  deflate.counts: how often each symbol and each distance stands among tokens.
  deflate.counts walked.
  Runs of lengths: what they say, and how they are read: plain laws. No function of the program is named.
-/
import Derived.Test.YtnhbjgmfbcedaaaDoorDeflateDynamicG1
import Derived.Test.YtnhbjgmfbcedaaaDoorDeflateDynamicG4
import Derived.Test.YtnhbjgmfbcedaaaDoorDeflateDynamicG3
import Derived.Outline
import Derived.StillTailTactics
import Derived.StillTactics
import Derived.Deep.RegionHeld3
import Derived.RegionTactic
import Derived.Deep.DeepCutAuto
import Derived.Deep.CutBlock
set_option linter.unusedSimpArgs false
set_option linter.unusedVariables false
set_option maxRecDepth 100000
namespace Go.Proofs.YtnhbjgmfbcedaaaDoor
open Go.RowKit
namespace Dfl
/-- the place of the greatest number of a row that is not above v, from k down -/
def plcF (l : List Nat) (v : Nat) : Nat → Nat
 | 0 => 0
 | k + 1 => if l.getD (k + 1) 0 ≤ v then k + 1 else plcF l v k
def plc (l : List Nat) (v : Nat) : Nat := plcF l v (l.length - 1)
theorem plcF_is {l : List Nat} {v : Nat} (h0 : l.getD 0 0 ≤ v) : ∀ k, plcF l v k ≤ k ∧ l.getD (plcF l v k) 0 ≤ v ∧ ∀ j, plcF l v k < j → j ≤ k → v < l.getD j 0
 | 0 => ⟨Nat.le_refl _, h0, fun j h1 h2 => by simp [plcF] at h1; omega⟩
 | k + 1 => by
  obtain ⟨h1, h2, h3⟩ := plcF_is h0 k;unfold plcF;by_cases h : l.getD (k + 1) 0 ≤ v
  ·rw [if_pos h]; exact ⟨Nat.le_refl _, h, fun j q1 q2 => by omega⟩
  ·rw [if_neg h];refine ⟨by omega, h2, fun j q1 q2 => ?_⟩;rcases Nat.lt_or_ge j (k + 1) with q | q
   ·exact h3 j q1 (by omega)
   ·have : j = k + 1 := by omega
    subst this; omega
theorem plc_lens {v : Nat} (h1 : 3 ≤ v) (h2 : v ≤ 258) : plc Inf.lensL v < 29 ∧ Inf.lensL.getD (plc Inf.lensL v) 0 ≤ v ∧ v - Inf.lensL.getD (plc Inf.lensL v) 0 < 2 ^ Inf.lensB.getD (plc Inf.lensL v) 0 := by
 obtain ⟨a1, a2, a3⟩ := plcF_is (l := Inf.lensL) (v := v) h1 28;have e : plc Inf.lensL v = plcF Inf.lensL v 28 := rfl;rw [e];generalize plcF Inf.lensL v 28 = k at a1 a2 a3;refine ⟨by omega, a2, ?_⟩;have gap : ∀ k, k < 28 → Inf.lensL.getD (k + 1) 0 ≤ Inf.lensL.getD k 0 + 2 ^ Inf.lensB.getD k 0 := by decide
 rcases Nat.lt_or_ge k 28 with q | q
 ·have := gap k q;have := a3 (k + 1) (by omega) (by omega);omega
 ·have : k = 28 := by omega
  subst this;show v - 258 < 1;omega
theorem plc_dists {v : Nat} (h1 : 1 ≤ v) (h2 : v ≤ 32768) : plc Inf.distsL v < 30 ∧ Inf.distsL.getD (plc Inf.distsL v) 0 ≤ v ∧ v - Inf.distsL.getD (plc Inf.distsL v) 0 < 2 ^ Inf.distsB.getD (plc Inf.distsL v) 0 := by
 obtain ⟨a1, a2, a3⟩ := plcF_is (l := Inf.distsL) (v := v) h1 29;have e : plc Inf.distsL v = plcF Inf.distsL v 29 := rfl;rw [e];generalize plcF Inf.distsL v 29 = k at a1 a2 a3;refine ⟨by omega, a2, ?_⟩;have gap : ∀ k, k < 29 → Inf.distsL.getD (k + 1) 0 ≤ Inf.distsL.getD k 0 + 2 ^ Inf.distsB.getD k 0 := by decide
 rcases Nat.lt_or_ge k 29 with q | q
 ·have := gap k q;have := a3 (k + 1) (by omega) (by omega);omega
 ·have : k = 29 := by omega
  subst this;show v - 24577 < 8192;omega
/-- a symbol's word as bits -/
def wordB (f : Nat → Int) (len k : Nat) : List Bool := Bts.high (word f len k) (f k).toNat
def tokB (f : Nat → Int) (len : Nat) (g : Nat → Int) (gen : Nat) (t : Tk) : List Bool :=
 if t.l = 0 then wordB f len t.b.toNat
 else wordB f len (257 + plc Inf.lensL t.l.toNat) ++ (Bts.low (t.l.toNat - Inf.lensL.getD (plc Inf.lensL t.l.toNat) 0) (Inf.lensB.getD (plc Inf.lensL t.l.toNat) 0) ++
  (wordB g gen (plc Inf.distsL t.d.toNat) ++ Bts.low (t.d.toNat - Inf.distsL.getD (plc Inf.distsL t.d.toNat) 0) (Inf.distsB.getD (plc Inf.distsL t.d.toNat) 0)))
def toksB (f : Nat → Int) (len : Nat) (g : Nat → Int) (gen : Nat) (ts : List Tk) : List Bool := (ts.map (tokB f len g gen)).flatten
/-- what tokens mean behind a text -/
inductive Means : List UInt8 → List Tk → List UInt8 → Prop
 | nil (o : List UInt8) : Means o [] o
 | lit {o o' : List UInt8} {t : Tk} {ts : List Tk} (h1 : t.l = 0) (h2 : t.d = 0) (h : Means (o ++ [t.b]) ts o') : Means o (t :: ts) o'
 | mat {o o' : List UInt8} {t : Tk} {ts : List Tk} (h0 : t.b = 0) (h1 : 3 ≤ t.l) (h2 : t.l ≤ 258) (h3 : 1 ≤ t.d) (h4 : t.d ≤ 32768) (h5 : t.d.toNat ≤ o.length) (h : Means (copyL o t.d.toNat t.l.toNat) ts o') : Means o (t :: ts) o'
theorem Means.grow {o o' : List UInt8} {ts : List Tk} (h : Means o ts o') : o.length ≤ o'.length := by
 induction h with
 | nil o => exact Nat.le_refl _
 | lit h1 h2 h ih => simp at ih; omega
 | mat h0 h1 h2 h3 h4 h5 h ih => rw [copyL_length] at ih; omega
/-- the symbols that tokens use -/
def Uses (f : Nat → Int) (len : Nat) (g : Nat → Int) (gen : Nat) (t : Tk) : Prop :=
 (t.l = 0 → t.b.toNat < len ∧ 1 ≤ f t.b.toNat ∧ f t.b.toNat ≤ 15) ∧
 (t.l ≠ 0 → (257 + plc Inf.lensL t.l.toNat < len ∧ 1 ≤ f (257 + plc Inf.lensL t.l.toNat) ∧ f (257 + plc Inf.lensL t.l.toNat) ≤ 15) ∧ plc Inf.distsL t.d.toNat < gen ∧ 1 ≤ g (plc Inf.distsL t.d.toNat) ∧ g (plc Inf.distsL t.d.toNat) ≤ 15)
/-- bits that stand in a text -/
def At (L : List UInt8) (a : Nat) (B : List Bool) : Prop := a + B.length ≤ 8 * L.length ∧ Crc.num L / 2 ^ a % 2 ^ B.length = Bts.val B
theorem At.left {L : List UInt8} {a : Nat} {B C : List Bool} (h : At L a (B ++ C)) : At L a B := by
 obtain ⟨h1, h2⟩ := h;rw [List.length_append] at h1;refine ⟨by omega, ?_⟩;rw [List.length_append, Nat.pow_add, Nat.mod_mul, Bts.val_append, Nat.mul_comm] at h2;have q1 := Bts.val_lt B;have q2 : Crc.num L / 2 ^ a % 2 ^ B.length < 2 ^ B.length := Nat.mod_lt _ (Nat.two_pow_pos _);have e := congrArg (· % 2 ^ B.length) h2;simp only [Nat.add_mul_mod_self_right, Nat.mod_eq_of_lt q1, Nat.mod_mod] at e;exact e
theorem At.right {L : List UInt8} {a : Nat} {B C : List Bool} (h : At L a (B ++ C)) : At L (a + B.length) C := by
 obtain ⟨h1, h2⟩ := h;rw [List.length_append] at h1;refine ⟨by omega, ?_⟩;rw [List.length_append, Nat.pow_add, Nat.mod_mul, Bts.val_append, Nat.mul_comm] at h2;have q1 := Bts.val_lt B;have q2 : Crc.num L / 2 ^ a % 2 ^ B.length < 2 ^ B.length := Nat.mod_lt _ (Nat.two_pow_pos _);have e := congrArg (· / 2 ^ B.length) h2;simp only [Nat.add_mul_div_right _ _ (Nat.two_pow_pos B.length), Nat.div_eq_of_lt q1, Nat.div_eq_of_lt q2, Nat.zero_add] at e;rw [Nat.pow_add, ← Nat.div_div_eq_div_mul];exact e
theorem At.get {L : List UInt8} {a x k : Nat} (h : At L a (Bts.low x k)) (hx : x < 2 ^ k) : Inf.get L k a = .ok (x, a + k) := by
 obtain ⟨h1, h2⟩ := h;rw [Bts.low_length] at h1 h2;rw [Bts.val_low, Nat.mod_eq_of_lt hx] at h2;unfold Inf.get;rw [if_pos h1, h2]
theorem At.nxt {L : List UInt8} {a len k : Nat} {f : Nat → Int} (h : At L a (wordB f len k)) (hc : complete f len) (hk : k < len) (h1 : 1 ≤ f k) (h2 : f k ≤ 15) : Inf.nxt L f len a = .ok (k, a + (wordB f len k).length) := by
 obtain ⟨m, hm⟩ : ∃ m : Nat, f k = (m : Int) := ⟨(f k).toNat, by omega⟩;obtain ⟨h3, h4⟩ := h;unfold wordB at h3 h4 ⊢;rw [Bts.high_length] at h3 h4 ⊢;rw [hm, Int.toNat_natCast] at h3 h4 ⊢;have hw := (word_lt2 f len k m hc hk hm (by omega) (by omega)).2;have hcode := codeAt_high (word f len k) m (Crc.num L) a h4;rw [Nat.mod_eq_of_lt hw] at hcode;exact Inf.nxt_hit hc ⟨by omega, by omega, h3, hk, hm, hcode.symm⟩
def ev (t : Tk) : Inf.Ev := if t.l = 0 then ⟨t.b.toNat, 0, 0, 0⟩ else ⟨257 + plc Inf.lensL t.l.toNat, plc Inf.distsL t.d.toNat, t.l.toNat, t.d.toNat⟩
theorem toks_read {L : List UInt8} {most len gen : Nat} {f g : Nat → Int} (hcf : complete f len) (hcg : complete g gen) (hE : 256 < len ∧ 1 ≤ f 256 ∧ f 256 ≤ 15) {o o' : List UInt8} {ts : List Tk} (hM : Means o ts o') :
  ∀ (F a : Nat) (tr : List Inf.Ev), o'.length ≤ most → (∀ t ∈ ts, Uses f len g gen t) → ts.length < F → At L a (toksB f len g gen ts ++ wordB f len 256) →
   Inf.toks L most f len g gen F a o tr = .ok (a + (toksB f len g gen ts ++ wordB f len 256).length, o', tr ++ (ts.map ev ++ [⟨256, 0, 0, 0⟩])) := by
 induction hM with
 | nil o =>
  intro F a tr _ _ hF hA;obtain ⟨F, rfl⟩ : ∃ F', F = F' + 1 := ⟨F - 1, by simp at hF; omega⟩;simp only [toksB, List.map_nil, List.flatten_nil, List.nil_append] at hA ⊢;simp only [Inf.toks, hA.nxt hcf hE.1 hE.2.1 hE.2.2, if_true]
 | @lit o o' t ts h1 h2 h ih =>
  intro F a tr hm hu hF hA;obtain ⟨F, rfl⟩ : ∃ F', F = F' + 1 := ⟨F - 1, by simp at hF; omega⟩;have e : toksB f len g gen (t :: ts) = wordB f len t.b.toNat ++ toksB f len g gen ts := by simp [toksB, tokB, h1]
  rw [e, List.append_assoc] at hA ⊢;have hb : t.b.toNat < 256 := t.b.toNat_lt;obtain ⟨u1, u2, u3⟩ := (hu t (List.mem_cons_self ..)).1 h1;have hg := h.grow;rw [List.length_append, List.length_singleton] at hg;have hn := hA.left.nxt hcf u1 u2 u3;have ht : Inf.tok L most g gen t.b.toNat (a + (wordB f len t.b.toNat).length) o = .ok (a + (wordB f len t.b.toNat).length, o ++ [t.b], ⟨t.b.toNat, 0, 0, 0⟩) := by
   unfold Inf.tok;rw [if_pos hb, if_pos (by omega), UInt8.ofNat_toNat]
  simp only [Inf.toks, hn, if_neg (show ¬ t.b.toNat = 256 by omega), ht];rw [ih F (a + (wordB f len t.b.toNat).length) (tr ++ [(⟨t.b.toNat, 0, 0, 0⟩ : Inf.Ev)]) hm (fun x hx => hu x (List.mem_cons_of_mem _ hx)) (by simp at hF; omega) hA.right];congr 2
  ·simp only [List.length_append]; omega
  ·congr 1
   simp [ev, h1]
 | @mat o o' t ts h0 h1 h2 h3 h4 h5 h ih =>
  intro F a tr hm hu hF hA;obtain ⟨F, rfl⟩ : ∃ F', F = F' + 1 := ⟨F - 1, by simp at hF; omega⟩;have hl0 : t.l ≠ 0 := by omega
  obtain ⟨p1, p2, p3⟩ := plc_lens (v := t.l.toNat) (by omega) (by omega);obtain ⟨d1, d2, d3⟩ := plc_dists (v := t.d.toNat) (by omega) (by omega);obtain ⟨⟨u1, u2, u3⟩, v1, v2, v3⟩ := (hu t (List.mem_cons_self ..)).2 hl0;have e : toksB f len g gen (t :: ts) = tokB f len g gen t ++ toksB f len g gen ts := by simp [toksB]
  have e2 : ev t = ⟨257 + plc Inf.lensL t.l.toNat, plc Inf.distsL t.d.toNat, t.l.toNat, t.d.toNat⟩ := by unfold ev; rw [if_neg hl0]
  unfold tokB at e;rw [if_neg hl0] at e;rw [e] at hA ⊢;rw [List.map_cons, e2];have hg := h.grow;rw [copyL_length] at hg;generalize hk : plc Inf.lensL t.l.toNat = k at *;generalize hd : plc Inf.distsL t.d.toNat = d at *;simp only [List.append_assoc] at hA ⊢;have a1 := hA.left.nxt hcf u1 u2 u3;have A2 := hA.right;have a2 := A2.left.get p3;have A3 := A2.right;have a3 := A3.left.nxt hcg v1 v2 v3;have A4 := A3.right;have a4 := A4.left.get d3;have A5 := A4.right;rw [Bts.low_length] at A3 a3 A4 a4 A5;rw [Bts.low_length] at A5;have ht : Inf.tok L most g gen (257 + k) (a + (wordB f len (257 + k)).length) o = .ok (a + (wordB f len (257 + k)).length + Inf.lensB.getD k 0 + (wordB g gen d).length + Inf.distsB.getD d 0, copyL o t.d.toNat t.l.toNat, ⟨257 + k, d, t.l.toNat, t.d.toNat⟩) := by
   unfold Inf.tok;rw [if_neg (by omega), if_neg (by omega), show 257 + k - 257 = k by omega, a2];simp only [];rw [a3];simp only [];unfold Inf.far;rw [if_neg (by omega), a4];simp only [];rw [show 257 + k - 257 = k by omega, show Inf.distsL.getD d 0 + (t.d.toNat - Inf.distsL.getD d 0) = t.d.toNat by omega, show Inf.lensL.getD k 0 + (t.l.toNat - Inf.lensL.getD k 0) = t.l.toNat by omega, if_neg (by omega), if_neg (by omega)]
  simp only [Inf.toks, a1, if_neg (show ¬ 257 + k = 256 by omega), ht];rw [ih F _ (tr ++ [(⟨257 + k, d, t.l.toNat, t.d.toNat⟩ : Inf.Ev)]) hm (fun x hx => hu x (List.mem_cons_of_mem _ hx)) (by simp at hF; omega) A5];congr 2
  ·simp only [List.length_append, Bts.low_length]; omega
  ·congr 1
   simp
end Dfl
end Go.Proofs.YtnhbjgmfbcedaaaDoor
namespace Go.Proofs.YtnhbjgmfbcedaaaDoor
open Go.RowKit
theorem turned_in (B o n V x k : Nat) (v : Value) (w : World) (hW : WAt w B o v V n) (hk : k ≤ 32) (hx : x < 2 ^ k) (hn : n + 32 < 1099511627776) :
  Calls Tryd.prog 95 #[.pointer (some ⟨B, o, none⟩), .int .u32 (x : Int), .int .i64 (k : Int)] w fun e w' => e = .returned .nilIface ∧ ∃ v', WAt w' B o v' (V + Bts.val (Bts.high x k) * 2 ^ n) (n + k) ∧ WStep w w' B o v v' := by
 have hx32 : x < 4294967296 := Nat.lt_of_lt_of_le hx (Nat.pow_le_pow_right (n := 2) (by decide) hk);have hfit : decide (0 ≤ (k : Int) ∧ (k : Int) ≤ 32 ∧ x < 2 ^ (k : Int).toNat) = true := by rw [decide_eq_true_iff]; exact ⟨by omega, by omega, by simpa using hx⟩
 have HX := Lib.hid hx;have HW := Lib.hid hW;have HF := Lib.hid hfit;clear hx hW hfit;go_enter Tryd.func95, Tryd.ntmps95
 go_wp2_with fail;refine (fits_calls x k _ (by omega) (by omega) hx32).mono ?_;rintro e w1 ⟨he, rfl⟩;rw [HF.out] at he;subst he;go_wp2_with fail;go_loopw [7] (fun c wr => ∃ (d Vt : Nat) (u : Value), d ≤ k ∧ c = .int .i64 ((d : Int) - 1) ∧ Hid (WAt wr B o u Vt (n + (k - d))) ∧ Hid (Vt + Bts.val (Bts.high x d) * 2 ^ (n + (k - d)) = V + Bts.val (Bts.high x k) * 2 ^ n) ∧ Hid (WStep w wr B o v u)) (fun c _ => (intOf c + 1).toNat)
 case atStart =>
  refine ⟨k, V, v, by omega, rfl, ?_, ?_, Lib.hid (WStep.refl _ _ _ _)⟩
  ·rw [Nat.sub_self, Nat.add_zero]; exact HW
  ·rw [Nat.sub_self, Nat.add_zero]; exact Lib.hid rfl
 case round =>
  obtain ⟨d, Vt, u, hd, rfl, HA, HV, HS⟩ := hrel;by_cases hlt : 0 < d
  ·obtain ⟨j, rfl⟩ : ∃ j, d = j + 1 := ⟨d - 1, by omega⟩;rw [show (((j + 1 : Nat) : Int) - 1) = (j : Int) by omega];go_wp2_with fail;rw [bit_and x j (Nat.lt_of_le_of_lt (Nat.div_le_self _ _) hx32)];refine (one_calls B o (n + (k - (j + 1))) _ _ u _ HA.out (by omega) (by omega)).mono ?_;rintro e w2 ⟨rfl, u2, hA2, hS2⟩;have HA2 : Hid (WAt w2 B o u2 (Vt + x / 2 ^ j % 2 * 2 ^ (n + (k - (j + 1)))) (n + (k - j))) := Lib.hid (by
    rw [show n + (k - j) = n + (k - (j + 1)) + 1 by omega]; exact hA2)
   have HV2 : Hid (Vt + x / 2 ^ j % 2 * 2 ^ (n + (k - (j + 1))) + Bts.val (Bts.high x j) * 2 ^ (n + (k - j)) = V + Bts.val (Bts.high x k) * 2 ^ n) := Lib.hid (by
    rw [← HV.out, Bts.val_high_succ, show n + (k - j) = n + (k - (j + 1)) + 1 by omega, Nat.pow_succ, Nat.add_mul, Nat.mul_comm 2 (Bts.val _), Nat.mul_assoc (Bts.val _) 2, Nat.mul_comm 2 (2 ^ _)]; omega)
   have HS2 := Lib.hid (HS.out.trans hS2);clear hA2 hS2 HA HS HV;go_wp2_with fail;go_roundw
   case rel => exact ⟨j, _, u2, by omega, rfl, HA2, HV2, HS2⟩
   case measure => first | (simp [intOf]; done) | (simp [intOf]; omega)
  ·obtain rfl : d = 0 := by omega
   rw [show (((0 : Nat) : Int) - 1) = -1 by omega];go_wp2_with fail;go_ret;refine ⟨rfl, u, ?_, HS.out⟩;have q := HA.out;have q2 := HV.out;simp only [Bts.high, Bts.val, Nat.zero_mul, Nat.add_zero, Nat.sub_zero] at q q2;rwa [q2] at q
end Go.Proofs.YtnhbjgmfbcedaaaDoor
namespace Go.Proofs.YtnhbjgmfbcedaaaDoor
open Go.RowKit
theorem WAt.drew {w : World} {B o V n : Nat} {v : Value} (h : WAt w B o v V n) : WAt w.drew B o v V n := ⟨h.c0, h.c1, h.f0, h.f1, h.row, h.apart, h.lt⟩
theorem WStep.undrew {w w' : World} {B o : Nat} {v v' : Value} (h : WStep w.drew w' B o v v') : WStep w w' B o v v' := ⟨⟨h.keeps.os, h.keeps.tape, h.keeps.output, h.keeps.size, h.keeps.block⟩, h.cells, h.marks, h.new⟩
theorem WAt.ext {w w' : World} {B o V n : Nat} {v : Value} (h : WAt w B o v V n) (hE : Ext w w') : WAt w' B o v V n := by
 have hb := World.block_lt_of_cell? w _ h.c0;obtain ⟨l, q1, q2, q3⟩ := h.row;exact ⟨(hE.cell (p := ⟨B, o, none⟩) hb).trans h.c0, (hE.cell (p := ⟨B, o + 1, none⟩) hb).trans h.c1, (hE.frozen (p := ⟨B, o, none⟩) hb).trans h.f0, (hE.frozen (p := ⟨B, o + 1, none⟩) hb).trans h.f1, ⟨l, q1, q2, ownsRow_kept q3 hE.keeps (fun _ _ => id)⟩, h.apart, h.lt⟩
theorem WStep.ext {a b c : World} {B o : Nat} {u v : Value} (h : WStep a b B o u v) (hE : Ext b c) (hB : B < b.heap.size) : WStep a c B o u v :=
 ⟨h.keeps.trans hE.keeps (S' := fun _ => False) (fun _ _ q => q.elim), fun j h1 h2 => (hE.cell (p := ⟨B, j, none⟩) hB).trans (h.cells j h1 h2), fun j => (hE.frozen (p := ⟨B, j, none⟩) hB).trans (h.marks j), h.new⟩
theorem place_any (a : Addr) (n cap v : Nat) (l : List Nat) (w : World) (hl : l.length = n) (hn : 1 ≤ n) (hn2 : n ≤ 1000) (hc : ∀ k, k < n → w.cell? (a.add k) = some (.int .i64 ((l.getD k 0 : Nat) : Int))) (h0 : l.getD 0 0 ≤ v) (hv : v < 1000000000) :
  Calls Tryd.prog 121 #[.slice (some a) n cap, .int .i64 (v : Int)] w fun e w' => e = .returned (.int .i64 ((Dfl.plc l v : Nat) : Int)) ∧ w = w' := by
 have HC := Lib.hid hc;have e1 : (n : Int) - 1 = ((n - 1 : Nat) : Int) := by omega
 obtain ⟨m, hm⟩ : ∃ m, n - 1 = m := ⟨_, rfl⟩;rw [hm] at e1;have wm : ∀ z, z = (m : Int) → IntKind.i64.wrap z = z := by intro z hz; rw [IntKind.wrap_i64]; omega
 have HP : Hid (Dfl.plc l v = Dfl.plcF l v m) := Lib.hid (by unfold Dfl.plc; rw [hl, hm]);have H0 := Lib.hid h0;have hmn : m < n := by omega
 clear hc hm h0 hl;go_enter Tryd.func121, Tryd.ntmps121
 go_wp2_with fail;go_loopw [5] (fun c wr => ∃ k : Nat, c = .int .i64 k ∧ k ≤ m ∧ Hid (Dfl.plc l v = Dfl.plcF l v k) ∧ wr = w) (fun c _ => (intOf c).toNat)
 case atStart => exact ⟨m, rfl, by omega, HP, by first | rfl | trivial⟩
 case round =>
  clear HP;obtain ⟨k, rfl, hk, HP, hw⟩ := hrel;have hw2 := hw.symm;clear hw;subst hw2;have hkn : k < n := by omega
  have hc := HC.out k hkn;obtain ⟨x, hx⟩ : ∃ x, l.getD k 0 = x := ⟨_, rfl⟩;have HX := Lib.hid hx;rw [hx] at hc;clear hx;by_cases hvx : v < x
  ·have t : decide ((v : Int) < (x : Int)) = true := decide_eq_true (by omega);have hk0 : 0 < k := by
    rcases Nat.eq_zero_or_pos k with q | q
    ·have h1 := HX.out;have h2 := H0.out;rw [q] at h1;omega
    ·exact q
   obtain ⟨k', hk'⟩ : ∃ k', k - 1 = k' := ⟨_, rfl⟩;have e2 : (k : Int) - 1 = (k' : Int) := by omega
   have wk : ∀ z, z = (k' : Int) → IntKind.i64.wrap z = z := by intro z hz; rw [IntKind.wrap_i64]; omega
   have HN : Hid (Dfl.plc l v = Dfl.plcF l v k') := Lib.hid (by
    rw [HP.out];obtain ⟨q, rfl⟩ : ∃ q, k = q + 1 := ⟨k - 1, by omega⟩;have : k' = q := by omega
    subst this;simp only [Dfl.plcF];rw [if_neg (by rw [HX.out]; omega)])
   have HK := Lib.hid hk';clear hk';go_wp2_with fail;refine ⟨⟨k', rfl, by have := HK.out; omega, HN, by first | rfl | trivial⟩, by have := HK.out; simp [intOf]; omega⟩
  ·have t : decide ((v : Int) < (x : Int)) = false := decide_eq_false (by omega);have HR : Hid (Dfl.plc l v = k) := Lib.hid (by
    rw [HP.out];cases k with
    | zero => rfl
    | succ q =>
     simp only [Dfl.plcF];rw [if_pos (by rw [HX.out]; omega)])
   go_wp2_with fail;go_ret;exact ⟨by rw [HR.out]; rfl, by first | rfl | trivial⟩
/-- a writer of a block at D, whose bits are written at Wb: its rows -/
structure DF (w : World) (D Wb : Nat) (la da ca ea : Addr) (ln lc dn dc cc ec : Nat) (f g : Nat → Int) : Prop where
 c0 : w.cell? ⟨D, 0, none⟩ = some (.pointer (some ⟨Wb, 0, none⟩))
 c1 : w.cell? ⟨D, 1, none⟩ = some (.slice (some la) ln lc)
 c2 : w.cell? ⟨D, 2, none⟩ = some (.slice (some da) dn dc)
 c3 : w.cell? ⟨D, 3, none⟩ = some (.slice (some ca) ln cc)
 c4 : w.cell? ⟨D, 4, none⟩ = some (.slice (some ea) dn ec)
 li : Ints w (some la) ln f
 di : Ints w (some da) dn g
 lw : U32s w (some ca) ln (word f ln)
 dw : U32s w (some ea) dn (word g dn)
theorem DF.drew {w : World} {D Wb : Nat} {la da ca ea : Addr} {ln lc dn dc cc ec : Nat} {f g : Nat → Int} (h : DF w D Wb la da ca ea ln lc dn dc cc ec f g) : DF w.drew D Wb la da ca ea ln lc dn dc cc ec f g := ⟨h.c0, h.c1, h.c2, h.c3, h.c4, h.li, h.di, h.lw, h.dw⟩
/-- the bits that a writer holds -/
def WB (w : World) (Wb : Nat) (u : Value) (L : List Bool) : Prop := WAt w Wb 0 u (Bts.val L) L.length
theorem WB.ext {w w' : World} {Wb : Nat} {u : Value} {L : List Bool} (h : WB w Wb u L) (hE : Ext w w') : WB w' Wb u L := WAt.ext h hE
theorem WB.drew {w : World} {Wb : Nat} {u : Value} {L : List Bool} (h : WB w Wb u L) : WB w.drew Wb u L := WAt.drew h
theorem putB_any (Wb x k : Nat) (u : Value) (L : List Bool) (w : World) (hW : WB w Wb u L) (hk : k ≤ 32) (hx : x < 2 ^ k) (hn : L.length + 32 < 1099511627776) :
  Calls Tryd.prog 72 #[.pointer (some ⟨Wb, 0, none⟩), .int .u32 (x : Int), .int .i64 (k : Int)] w fun e w' => e = .returned .nilIface ∧ ∃ u', WB w' Wb u' (L ++ Bts.low x k) ∧ WStep w w' Wb 0 u u' :=
 (put_in Wb 0 L.length (Bts.val L) x k u w hW hk hx hn).mono fun e w' ⟨h1, u', h2, h3⟩ => ⟨h1, u', by unfold WB; rw [List.length_append, Bts.low_length, Bts.val_append, Bts.val_low, Nat.mod_eq_of_lt hx]; exact h2, h3⟩
theorem turnedB_any (Wb x k : Nat) (u : Value) (L : List Bool) (w : World) (hW : WB w Wb u L) (hk : k ≤ 32) (hx : x < 2 ^ k) (hn : L.length + 32 < 1099511627776) :
  Calls Tryd.prog 95 #[.pointer (some ⟨Wb, 0, none⟩), .int .u32 (x : Int), .int .i64 (k : Int)] w fun e w' => e = .returned .nilIface ∧ ∃ u', WB w' Wb u' (L ++ Bts.high x k) ∧ WStep w w' Wb 0 u u' :=
 (turned_in Wb 0 L.length (Bts.val L) x k u w hW hk hx hn).mono fun e w' ⟨h1, u', h2, h3⟩ => ⟨h1, u', by unfold WB; rw [List.length_append, Bts.high_length, Bts.val_append]; exact h2, h3⟩
theorem word_fits {f : Nat → Int} {len k m : Nat} (hc : complete f len) (hk : k < len) (hf : f k = (m : Int)) (hm : m ≤ 15) : word f len k < 2 ^ m := by
 rcases Nat.eq_zero_or_pos m with q | q
 ·subst q;unfold word;rw [if_neg (by omega)];exact Nat.one_pos
 ·exact (word_lt2 f len k m hc hk hf q hm).2
theorem symbol_any (D Wb : Nat) (la da ca ea : Addr) (ln lc dn dc cc ec : Nat) (f g : Nat → Int) (k : Nat) (u : Value) (L : List Bool) (w : World) (hD : DF w D Wb la da ca ea ln lc dn dc cc ec f g) (hW : WB w Wb u L) (hc : complete f ln) (hk : k < ln) (hf : 0 ≤ f k ∧ f k ≤ 15) (hn : L.length + 32 < 1099511627776) :
  Calls Tryd.prog 120 #[.pointer (some ⟨D, 0, none⟩), .int .i64 (k : Int)] w fun e w' => e = .returned (.tuple #[]) ∧ ∃ u', WB w' Wb u' (L ++ Dfl.wordB f ln k) ∧ WStep w w' Wb 0 u u' := by
 obtain ⟨m, hm⟩ : ∃ m : Nat, f k = (m : Int) := ⟨(f k).toNat, by omega⟩;have hw := word_fits hc hk hm (by omega);have k0 := hD.c0;have k1 := hD.c1;have k3 := hD.c3;have k5 := (hD.li.2 la rfl k hk).1;have k6 := hD.lw.2 ca rfl k hk;rw [hm] at k5;have HB : Hid (Dfl.wordB f ln k = Bts.high (word f ln k) m) := Lib.hid (by unfold Dfl.wordB; rw [hm]; rfl);obtain ⟨z, hz⟩ : ∃ z, word f ln k = z := ⟨_, rfl⟩;rw [hz] at k6 hw HB;have HT := Lib.hid (turnedB_any Wb z m u L w.drew hW.drew (by omega) hw hn);have kl : (k : Int) < (ln : Int) := by omega
 clear hD hW hc hm hw hz hf;go_enter Tryd.func120, Tryd.ntmps120
 go_wp2_with fail;refine wp_region_still_tail 18 (by kernel_rfl) (by kernel_rfl) ?_;simp only [List.take_succ_cons, List.take_zero, List.drop_succ_cons, List.drop_zero];repeat still_step
 refine wpStill_nil ?_;change wpList _ _ _ _ _ w.drew;go_wp2_with fail;refine HT.out.mono ?_;rintro e w' ⟨rfl, u', h1, h2⟩;go_wp2_with fail;go_end0;exact ⟨rfl, u', by rw [HB.out]; exact h1, h2.undrew⟩
end Go.Proofs.YtnhbjgmfbcedaaaDoor
namespace Go.Proofs.YtnhbjgmfbcedaaaDoor
open Go.RowKit
/-- a still region, step by step (the kernel alone reckons which operations are wanted) -/
@[irreducible] def wpQ (P : Program) (ops : Array Oper) (w : World) (Q : Act → Prop) (l : List Oper) (a : Act) : Prop := wpStill P ops w Q l a
theorem wpQ_eq {P : Program} {ops : Array Oper} {w : World} {Q : Act → Prop} {l : List Oper} {a : Act} : wpQ P ops w Q l a = wpStill P ops w Q l a := by unfold wpQ; rfl
theorem wpQ_nil {P : Program} {ops : Array Oper} {w : World} {Q : Act → Prop} {a : Act} (h : Q a) : wpQ P ops w Q [] a := by rw [wpQ_eq]; exact h
theorem wpQ_no {P : Program} {ops : Array Oper} {w : World} {Q : Act → Prop} {a : Act} {o : Oper} {rest : List Oper} (hw : Region.wanted o (yielded ops a.tmps) = false) (h : wpQ P ops w Q rest (a.put o.dst undef)) : wpQ P ops w Q (o :: rest) a := by
  rw [wpQ_eq] at h ⊢;unfold wpStill; rw [hw]; exact h
theorem wpQ_yes {P : Program} {ops : Array Oper} {w : World} {Q : Act → Prop} {a : Act} {o : Oper} {rest : List Oper} (hw : Region.wanted o (yielded ops a.tmps) = true)
    (h : ∀ K : Act → Prop, (∀ a, wpQ P ops w Q rest a → K a) → o.still P a w K) : wpQ P ops w Q (o :: rest) a := by
  rw [wpQ_eq];unfold wpStill; rw [hw]; exact h _ (fun _ q => by rw [wpQ_eq] at q; exact q)
theorem wp_regionQ {P : Program} {id : Nat} {Q : Exit → Act → World → Prop} {a : Act} {w : World} {l : List Oper} (hm : P.follows .mixedOrders = true) (hB : Region.lexB .any l.toArray = true)
    (h : wpQ P l.toArray w.drew (fun a' => Q .normal a' w.drew) l a) : (Code.region id l.toArray true).wp P Q a w :=
  wp_region_still_lit hm hB (by rw [wpQ_eq] at h; exact h)
theorem wp_region_tailQ {P : Program} {id : Nat} {Q : Exit → Act → World → Prop} {a : Act} {w : World} {l : List Oper} (n : Nat) (hm : P.follows .mixedOrders = true) (hB : Region.lexTailB .any l.toArray n = true)
    (h : wpQ P l.toArray w.drew (fun a' => wpList P l.toArray Q (l.drop n) a' w.drew) (l.take n) a) : (Code.region id l.toArray true).wp P Q a w :=
  wp_region_still_tail n hm hB (by rw [wpQ_eq] at h; exact h)
end Go.Proofs.YtnhbjgmfbcedaaaDoor
namespace Go.Proofs.YtnhbjgmfbcedaaaDoor
open Go.RowKit
theorem anyH_world {P : Program} {md : Region.Mode} {ops : Array Oper} {Q : Exit → Act → World → Prop} {S : World → Prop} {fuel : Nat} {listed : Array Bool} {a : Act} {W : World} (F : World → Prop) (h1 : F W) (h2 : ∀ wz, F wz → wpAnyH P md ops Q S fuel listed a wz) : wpAnyH P md ops Q S fuel listed a W := h2 W h1
end Go.Proofs.YtnhbjgmfbcedaaaDoor
namespace Go.Proofs.YtnhbjgmfbcedaaaDoor
open Go.RowKit
namespace Dfl
def symO (t : Tk) : Nat := if t.l = 0 then t.b.toNat else 257 + plc Inf.lensL t.l.toNat
def cntS (ts : List Tk) (k : Nat) : Nat := (if k = 256 then 1 else 0) + ts.countP (fun t => symO t = k)
def cntD (ts : List Tk) (d : Nat) : Nat := ts.countP (fun t => t.l ≠ 0 ∧ plc Inf.distsL t.d.toNat = d)
def bump (s : Nat → Nat) (k : Nat) : Nat → Nat := fun j => if j = k then s j + 1 else s j
theorem cntS_push (ts : List Tk) (t : Tk) (k : Nat) (hk : symO t = k) : cntS (ts ++ [t]) = bump (cntS ts) k := by
 funext j
 simp only [cntS, bump, List.countP_append, List.countP_singleton, hk];by_cases h : j = k
 ·have q : (if decide (k = j) = true then 1 else 0) = 1 := if_pos (decide_eq_true h.symm);rw [if_pos h, q];omega
 ·have q : (if decide (k = j) = true then 1 else 0) = 0 := if_neg (by simpa using fun e => h (Eq.symm e));rw [if_neg h, q];omega
theorem cntD_lit (ts : List Tk) (t : Tk) (h : t.l = 0) : cntD (ts ++ [t]) = cntD ts := by
 funext j
 simp only [cntD, List.countP_append, List.countP_singleton];rw [if_neg (by simp [h])];omega
theorem cntD_push (ts : List Tk) (t : Tk) (d : Nat) (h : t.l ≠ 0) (hd : plc Inf.distsL t.d.toNat = d) : cntD (ts ++ [t]) = bump (cntD ts) d := by
 funext j
 simp only [cntD, bump, List.countP_append, List.countP_singleton, hd];by_cases e : j = d
 ·rw [if_pos e, if_pos (by simp [h, e])]
 ·rw [if_neg e, if_neg (by simpa [h] using fun q => e (Eq.symm q))];omega
theorem cntS_le (ts : List Tk) (k : Nat) : cntS ts k ≤ 1 + ts.length := by
 unfold cntS;have := List.countP_le_length (p := fun t => decide (symO t = k)) (l := ts);split <;> omega
theorem cntD_le (ts : List Tk) (d : Nat) : cntD ts d ≤ ts.length := List.countP_le_length
end Dfl
/-- two rows of counts, of the call's own -/
structure CG (w wr : World) (g1 g2 : Nat) (s d : Nat → Nat) : Prop where
 ext : Ext w wr
 o1 : w.heap.size ≤ g1
 o2 : w.heap.size ≤ g2
 ne : g1 ≠ g2
 c1 : Cs wr g1 286 .i64 (fun k => ((s k : Nat) : Int))
 c2 : Cs wr g2 30 .i64 (fun k => ((d k : Nat) : Int))
theorem CG.l1 {w wr : World} {g1 g2 : Nat} {s d : Nat → Nat} (h : CG w wr g1 g2 s d) : g1 < wr.heap.size := World.block_lt_of_cell? wr _ (h.c1 0 (by decide)).1
theorem CG.l2 {w wr : World} {g1 g2 : Nat} {s d : Nat → Nat} (h : CG w wr g1 g2 s d) : g2 < wr.heap.size := World.block_lt_of_cell? wr _ (h.c2 0 (by decide)).1
theorem CG.grow {w wr w' : World} {g1 g2 : Nat} {s d : Nat → Nat} (h : CG w wr g1 g2 s d) (hE : Ext wr w') : CG w w' g1 g2 s d := by
 refine ⟨h.ext.trans hE, h.o1, h.o2, h.ne, fun i hi => ?_, fun i hi => ?_⟩
 ·exact ⟨(hE.cell (p := ⟨g1, i, none⟩) h.l1).trans (h.c1 i hi).1, (hE.frozen (p := ⟨g1, i, none⟩) h.l1).trans (h.c1 i hi).2⟩
 ·exact ⟨(hE.cell (p := ⟨g2, i, none⟩) h.l2).trans (h.c2 i hi).1, (hE.frozen (p := ⟨g2, i, none⟩) h.l2).trans (h.c2 i hi).2⟩
theorem CG.drew {w wr : World} {g1 g2 : Nat} {s d : Nat → Nat} (h : CG w wr g1 g2 s d) : CG w wr.drew g1 g2 s d := ⟨Below.drew h.ext, h.o1, h.o2, h.ne, h.c1.drew, h.c2.drew⟩
theorem CG.put1 {w wr : World} {g1 g2 : Nat} {s d : Nat → Nat} (h : CG w wr g1 g2 s d) (k : Nat) (hk : k < 286) (c : Nat) (hc : s k = c) : CG w (wr.setCell ⟨g1, k, none⟩ (.int .i64 ((c + 1 : Nat) : Int))) g1 g2 (Dfl.bump s k) d := by
 refine ⟨Below.setCell h.ext h.o1 _, h.o1, h.o2, h.ne, h.c1.put k _ _ hk (fun j _ => ?_), h.c2.other _ _ h.ne⟩;unfold Dfl.bump;by_cases e : j = k
 ·subst e; rw [if_pos rfl, if_pos rfl, hc]
 ·rw [if_neg e, if_neg e]
theorem CG.put2 {w wr : World} {g1 g2 : Nat} {s d : Nat → Nat} (h : CG w wr g1 g2 s d) (k : Nat) (hk : k < 30) (c : Nat) (hc : d k = c) : CG w (wr.setCell ⟨g2, k, none⟩ (.int .i64 ((c + 1 : Nat) : Int))) g1 g2 s (Dfl.bump d k) := by
 refine ⟨Below.setCell h.ext h.o2 _, h.o1, h.o2, h.ne, h.c1.other _ _ (fun e => h.ne e.symm), h.c2.put k _ _ hk (fun j _ => ?_)⟩;unfold Dfl.bump;by_cases e : j = k
 ·subst e; rw [if_pos rfl, if_pos rfl, hc]
 ·rw [if_neg e, if_neg e]
end Go.Proofs.YtnhbjgmfbcedaaaDoor
namespace Go.Proofs.YtnhbjgmfbcedaaaDoor
open Go.RowKit
def CsZ (w : World) (b n : Nat) : Prop := Cs w b n .i64 (fun _ => 0)
theorem CsZ.ext {w w' : World} {b n : Nat} (h : CsZ w b n) (hE : Ext w w') : CsZ w' b n := fun i hi => by
 have hb := World.block_lt_of_cell? w _ (h i hi).1;exact ⟨(hE.cell (p := ⟨b, i, none⟩) hb).trans (h i hi).1, (hE.frozen (p := ⟨b, i, none⟩) hb).trans (h i hi).2⟩
def CntPost (w : World) (ts : List Tk) (e : Ending) (w' : World) : Prop := ∃ g1 g2, e = .returned (.tuple #[.slice (some ⟨g1, 0, none⟩) 286 286, .slice (some ⟨g2, 0, none⟩) 30 30]) ∧ CG w w' g1 g2 (Dfl.cntS ts) (Dfl.cntD ts)
set_option linter.unusedSimpArgs false in
set_option maxHeartbeats 8000000 in
theorem counts_any (x : Option Addr) (n cap : Nat) (tk : Nat → Tk) (w : World) (hT : Toks w x n tk) (hTb : Tabs w) (hn : n ≤ 310000)
  (hok : ∀ i, i < n → (tk i).l = 0 ∨ (3 ≤ (tk i).l ∧ (tk i).l ≤ 258 ∧ 1 ≤ (tk i).d ∧ (tk i).d ≤ 32768)) :
  Calls Tryd.prog 93 #[.slice x n cap] w fun e w' => CntPost w ((List.range n).map tk) e w' := by
 have HT := Lib.hid hT;have HTb := Lib.hid hTb;have HOK := Lib.hid hok;clear hT hTb hok;have hmk1 := fun w => run_make_row' (P := Tryd.prog) 31 3 (.int .i64 0) 8 Tryd.underlying31 i64info rfl .i64 .i64 286 (by omega) (by omega) w;have hmk2 := fun w => run_make_row' (P := Tryd.prog) 31 3 (.int .i64 0) 8 Tryd.underlying31 i64info rfl .i64 .i64 30 (by omega) (by omega) w;simp only [show ((286 : Nat) : Int) = 286 from rfl, show ((30 : Nat) : Int) = 30 from rfl] at hmk1 hmk2;go_enter Tryd.func93, Tryd.ntmps93
 go_upto_region 1 with fail;go_cut [2, 3] (fun a b wx => ∃ g1 g2, a = .slice (some ⟨g1, 0, none⟩) 286 286 ∧ b = .slice (some ⟨g2, 0, none⟩) 30 30 ∧ Hid (CG w wx g1 g2 (fun _ => 0) (fun _ => 0)))
 case first =>
  have X_0 := Lib.hid (Ext.refl w);refine wp_region_held_drew (S := fun w' => True) (by kernel_rfl) trivial (fun hHeld => ?_);clear hHeld;have hHeld : True := trivial;refine wpAnyH_ready (rs := [0, 1]) (by kernel_rfl) (by simp) ?_;refine AllReadyH.cons rfl (fun KK hK => ?_) (AllReadyH.cons rfl (fun KK hK => ?_) AllReadyH.nil)
  ·clear hHeld;go_simp;refine hK.out _ _ trivial (fun hHeld => ?_);clear hK KK hHeld;(try simp only [Act.put, xa, xb, xc, xd, xe, xf]);refine anyH_world (fun wz => Ext w wz ∧ Cs wz w.heap.size 286 .i64 (fun _ => 0)) (by first | exact ⟨Below.drew ((Ext.refl _).alloc _), by rw [made_eq]; exact (Cs.born _ _ _ _ _).drew⟩ | exact ⟨(Ext.refl _).alloc _, by rw [made_eq]; exact Cs.born _ _ _ _ _⟩) ?_;rintro v1 ⟨hE, hB⟩;obtain ⟨S1b, hb⟩ : ∃ q, w.heap.size = q := ⟨_, rfl⟩;rw [hb] at hB;(try rw [hb]);have LS1 := Lib.hid (show w.heap.size ≤ S1b from hb ▸ X_0.out.size);have HS1 := Lib.hid hb;have X_1 := Lib.hid (X_0.out.trans hE);clear hE hb X_0;have S1_1 := Lib.hid ((show CsZ _ _ _ from hB));clear hB;have hHeld : True := trivial;refine tkH 2 (v := ?_) rfl hHeld ?_ ?_;rotate_left
   ·intro w hSw;(try dsimp only at hSw);go_split_ands;go_simp;(try with_reducible rfl)
   (try simp only [Act.put, xa, xb, xc, xd, xe, xf]);refine wpAnyH_ready (rs := [1]) (by kernel_rfl) (by simp) ?_;refine AllReadyH.cons rfl (fun KK hK => ?_) AllReadyH.nil;clear hHeld;have LO := Lib.hid (World.block_lt_of_cell? v1 _ (S1_1.out 0 (by decide)).1);have LC := Lib.hid (show S1b < v1.heap.size from LO.out);go_simp;refine hK.out _ _ trivial (fun hHeld => ?_);clear hK KK hHeld;(try simp only [Act.put, xa, xb, xc, xd, xe, xf]);refine anyH_world (fun wz => Ext v1 wz ∧ Cs wz v1.heap.size 30 .i64 (fun _ => 0)) (by first | exact ⟨Below.drew ((Ext.refl _).alloc _), by rw [made_eq]; exact (Cs.born _ _ _ _ _).drew⟩ | exact ⟨(Ext.refl _).alloc _, by rw [made_eq]; exact Cs.born _ _ _ _ _⟩) ?_;rintro v2 ⟨hE, hB⟩;obtain ⟨S2b, hb⟩ : ∃ q, v1.heap.size = q := ⟨_, rfl⟩;rw [hb] at hB;(try rw [hb]);have LS2 := Lib.hid (show w.heap.size ≤ S2b from hb ▸ X_1.out.size);have HS2 := Lib.hid hb;have X_2 := Lib.hid (X_1.out.trans hE);have S1_2 := Lib.hid (S1_1.out.ext hE);clear hE hb X_1 S1_1;have S2_2 := Lib.hid ((show CsZ _ _ _ from hB));clear hB;have hHeld : True := trivial;have NE := Lib.hid (show S1b ≠ S2b from fun e => by have h1 := LC.out; have h2 := HS2.out; omega);refine tkH 3 (v := ?_) rfl hHeld ?_ ?_;rotate_left
   ·intro w hSw;(try dsimp only at hSw);go_split_ands;go_simp;(try with_reducible rfl)
   (try simp only [Act.put, xa, xb, xc, xd, xe, xf]);refine wpAnyH_done (by kernel_rfl) ?_ _;clear hHeld;go_wp2_with fail;go_meet
   exact ⟨S1b, S2b, rfl, rfl, Lib.hid ⟨X_2.out, LS1.out, LS2.out, NE.out, S1_2.out, S2_2.out⟩⟩
  ·clear hHeld;go_simp;refine hK.out _ _ trivial (fun hHeld => ?_);clear hK KK hHeld;(try simp only [Act.put, xa, xb, xc, xd, xe, xf]);refine anyH_world (fun wz => Ext w wz ∧ Cs wz w.heap.size 30 .i64 (fun _ => 0)) (by first | exact ⟨Below.drew ((Ext.refl _).alloc _), by rw [made_eq]; exact (Cs.born _ _ _ _ _).drew⟩ | exact ⟨(Ext.refl _).alloc _, by rw [made_eq]; exact Cs.born _ _ _ _ _⟩) ?_;rintro v1 ⟨hE, hB⟩;obtain ⟨S2b, hb⟩ : ∃ q, w.heap.size = q := ⟨_, rfl⟩;rw [hb] at hB;(try rw [hb]);have LS2 := Lib.hid (show w.heap.size ≤ S2b from hb ▸ X_0.out.size);have HS2 := Lib.hid hb;have X_1 := Lib.hid (X_0.out.trans hE);clear hE hb X_0;have S2_1 := Lib.hid ((show CsZ _ _ _ from hB));clear hB;have hHeld : True := trivial;refine wpAnyH_ready (rs := [0]) (by kernel_rfl) (by simp) ?_;refine AllReadyH.cons rfl (fun KK hK => ?_) AllReadyH.nil;clear hHeld;have LO := Lib.hid (World.block_lt_of_cell? v1 _ (S2_1.out 0 (by decide)).1);have LC := Lib.hid (show S2b < v1.heap.size from LO.out);go_simp;refine hK.out _ _ trivial (fun hHeld => ?_);clear hK KK hHeld;(try simp only [Act.put, xa, xb, xc, xd, xe, xf]);refine anyH_world (fun wz => Ext v1 wz ∧ Cs wz v1.heap.size 286 .i64 (fun _ => 0)) (by first | exact ⟨Below.drew ((Ext.refl _).alloc _), by rw [made_eq]; exact (Cs.born _ _ _ _ _).drew⟩ | exact ⟨(Ext.refl _).alloc _, by rw [made_eq]; exact Cs.born _ _ _ _ _⟩) ?_;rintro v2 ⟨hE, hB⟩;obtain ⟨S1b, hb⟩ : ∃ q, v1.heap.size = q := ⟨_, rfl⟩;rw [hb] at hB;(try rw [hb]);have LS1 := Lib.hid (show w.heap.size ≤ S1b from hb ▸ X_1.out.size)
   have HS1 := Lib.hid hb;have X_2 := Lib.hid (X_1.out.trans hE);have S2_2 := Lib.hid (S2_1.out.ext hE);clear hE hb X_1 S2_1;have S1_2 := Lib.hid ((show CsZ _ _ _ from hB));clear hB;have hHeld : True := trivial;have NE := Lib.hid (show S1b ≠ S2b from fun e => by have h1 := LC.out; have h2 := HS1.out; omega);refine tkH 2 (v := ?_) rfl hHeld ?_ ?_;rotate_left
   ·intro w hSw;(try dsimp only at hSw);go_split_ands;go_simp;(try with_reducible rfl)
   (try simp only [Act.put, xa, xb, xc, xd, xe, xf]);refine tkH 3 (v := ?_) rfl hHeld ?_ ?_;rotate_left
   ·intro w hSw;(try dsimp only at hSw);go_split_ands;go_simp;(try with_reducible rfl)
   (try simp only [Act.put, xa, xb, xc, xd, xe, xf]);refine wpAnyH_done (by kernel_rfl) ?_ _;clear hHeld;go_wp2_with fail;go_meet
   exact ⟨S1b, S2b, rfl, rfl, Lib.hid ⟨X_2.out, LS1.out, LS2.out, NE.out, S1_2.out, S2_2.out⟩⟩
 case rest =>
  clear hmk1 hmk2;obtain ⟨g1, g2, rfl, rfl, HC⟩ := hcut;have k0 := (HC.out.c1 256 (by decide)).1;have k1 := (HC.out.c1 256 (by decide)).2;go_wp2_with fail;have HC2 : Hid (CG w (wc.setCell ⟨g1, 256, none⟩ (.int .i64 1)) g1 g2 (Dfl.cntS []) (Dfl.cntD [])) := Lib.hid (by
   have h := HC.out.put1 256 (by decide) 0 rfl;have e1 : Dfl.cntS [] = Dfl.bump (fun _ => 0) 256 := by funext j; simp [Dfl.cntS, Dfl.bump]
   have e2 : Dfl.cntD [] = fun _ => 0 := by funext j; simp [Dfl.cntD]
   rw [e1, e2];exact h)
  clear k0 k1 HC;go_loopw [12] (fun c wr => ∃ i : Nat, c = .int .i64 (i : Int) ∧ i ≤ n ∧ Hid (CG w wr g1 g2 (Dfl.cntS ((List.range i).map tk)) (Dfl.cntD ((List.range i).map tk)))) (fun c _ => n - (intOf c).toNat)
  case atStart => exact ⟨0, rfl, by omega, HC2⟩
  case round =>
   clear HC2;obtain ⟨i, rfl, hi, HC⟩ := hrel;by_cases hlt : i < n
   ·have hbase := HT.out.ext HC.out.ext;obtain ⟨a, rfl⟩ := hbase.isSome hlt;obtain ⟨k0, k1, k2, hok2⟩ := hbase.2 a rfl i hlt;obtain ⟨t, ht⟩ : ∃ t, tk i = t := ⟨_, rfl⟩;rw [ht] at k0 k1 k2;have HTK := Lib.hid ht;have HOK2 := Lib.hid (HOK.out i hlt);rw [ht] at HOK2;clear ht hok2 hbase;obtain ⟨b, hb⟩ : ∃ b, t.b.toNat = b := ⟨_, rfl⟩;have hb256 : b < 256 := by rw [← hb]; exact UInt8.toNat_lt _
    rw [hb] at k0;have HB := Lib.hid hb;clear hb;have wi : IntKind.i64.wrap ((i : Int) + 1) = ((i + 1 : Nat) : Int) := by rw [IntKind.wrap_i64]; omega
    have t0 : decide ((i : Int) < (n : Int)) = true := decide_eq_true (by omega);obtain ⟨vl, hvl⟩ : ∃ n : Nat, t.l = (n : Int) := ⟨t.l.toNat, by have := HOK2.out; omega⟩;obtain ⟨dd, hdd⟩ : ∃ d : Int, t.d = d := ⟨_, rfl⟩;rw [hvl] at k1;rw [hdd] at k2;have HVL := Lib.hid hvl;have HDD := Lib.hid hdd;clear hdd;have HCL := Lib.hid (show ∀ k, Dfl.cntS ((List.range i).map tk) k ≤ 1 + i from fun k => by have := Dfl.cntS_le ((List.range i).map tk) k; simpa using this);have HDL := Lib.hid (show ∀ k, Dfl.cntD ((List.range i).map tk) k ≤ i from fun k => by have := Dfl.cntD_le ((List.range i).map tk) k; simpa using this);have HRS := Lib.hid (show (List.range (i + 1)).map tk = (List.range i).map tk ++ [t] by rw [List.range_succ, List.map_append, ← HTK.out]; rfl);obtain ⟨ts, hts⟩ : ∃ ts, (List.range i).map tk = ts := ⟨_, rfl⟩;rw [hts] at HC HCL HDL HRS;clear hts;by_cases hl0 : vl = 0
    ·subst hl0;go_upto_region 6 with fail;refine wp_world (fun wz => CG w wz g1 g2 (Dfl.cntS ts) (Dfl.cntD ts) ∧ Bk wz wr.heap.size #[.int .u8 (b : Int), .int .i64 ((0 : Nat) : Int), .int .i64 dd]) ⟨HC.out.grow ((Ext.refl _).alloc _), Bk.at rfl⟩ ?_;rintro w3 ⟨h3, h4⟩;obtain ⟨T, hT⟩ : ∃ T, wr.heap.size = T := ⟨_, rfl⟩;rw [hT] at h4;rw [hT];have H3 := Lib.hid h3;have H4 := Lib.hid h4;clear HC k0 k1 k2 h3 h4 hT;obtain ⟨c, hc⟩ : ∃ c, Dfl.cntS ts b = c := ⟨_, rfl⟩;have hcl : c ≤ 1 + i := by rw [← hc]; exact HCL.out b
     have kc : w3.cell? ⟨g1, b, none⟩ = some (.int .i64 (c : Int)) := by rw [← hc]; exact (H3.out.c1 b (by omega)).1
     have kf := (H3.out.c1 b (by omega)).2;have HCe := Lib.hid hc;clear hc;have wc1 : IntKind.i64.wrap ((c : Int) + 1) = ((c + 1 : Nat) : Int) := by rw [IntKind.wrap_i64]; omega
     have hbi : (b : Int) < 286 := by omega
     have hbj : (0 : Int) ≤ (b : Int) := by omega
     have b0 := H4.out.cell 0;have b1 := H4.out.cell 1;simp only [List.getElem?_toArray, List.getElem?_cons_succ, List.getElem?_cons_zero] at b0 b1;have HN := Lib.hid (H3.out.put1 b (by omega) c HCe.out);have HS := Lib.hid (show Dfl.symO t = b by unfold Dfl.symO; rw [if_pos (by rw [HVL.out]; rfl)]; exact HB.out);go_wp2_with fail;refine ⟨⟨i + 1, by simp, by omega, by rw [HRS.out, Dfl.cntS_push ts t b HS.out, Dfl.cntD_lit ts t (by rw [HVL.out]; rfl)]; exact HN⟩, by simp [intOf]; omega⟩
    ·have hm2 : 3 ≤ vl ∧ vl ≤ 258 ∧ 1 ≤ dd ∧ dd ≤ 32768 := by have := HOK2.out; have := HVL.out; have := HDD.out; omega
     obtain ⟨vd, hvd⟩ : ∃ n : Nat, dd = (n : Int) := ⟨dd.toNat, by omega⟩;subst hvd;have HT0 : Hid (t.l ≠ 0) := Lib.hid (by rw [HVL.out]; omega);obtain ⟨p1, _, _⟩ := Dfl.plc_lens (v := vl) (by omega) (by omega);obtain ⟨d1, _, _⟩ := Dfl.plc_dists (v := vd) (by omega) (by omega);have hv0Lens : 3 ≤ vl := by omega
     have hv0Dists : 1 ≤ vd := by omega
     have hvlb : vl ≤ 258 := by omega
     have hvdb : vd ≤ 32768 := by omega
     clear hm2;obtain ⟨k, hk⟩ : ∃ k, Dfl.plc Inf.lensL vl = k := ⟨_, rfl⟩;obtain ⟨d, hd⟩ : ∃ k, Dfl.plc Inf.distsL vd = k := ⟨_, rfl⟩;rw [hk] at p1;rw [hd] at d1;have HK := Lib.hid hk;have HD := Lib.hid hd;clear hk hd;have hd30i : (d : Int) < 30 := by omega
     have hd0i : (0 : Int) ≤ (d : Int) := by omega
     obtain ⟨sk, hsk⟩ : ∃ s, 257 + k = s := ⟨_, rfl⟩;have ek : (257 : Int) + (k : Int) = (sk : Int) := by omega
     have HSK := Lib.hid hsk;have hsk2 : sk < 286 := by omega
     have hski : (sk : Int) < 286 := by omega
     have hskj : (0 : Int) ≤ (sk : Int) := by omega
     have wk : IntKind.i64.wrap (sk : Int) = (sk : Int) := by rw [IntKind.wrap_i64]; omega
     have t1 : ((vl : Int) == 0) = false := beq_eq_false_iff_ne.2 (by omega);clear hsk hl0;have HS := Lib.hid (show Dfl.symO t = sk by unfold Dfl.symO; rw [if_neg HT0.out, HVL.out, Int.toNat_natCast, HK.out, HSK.out]);have HDs := Lib.hid (show Dfl.plc Inf.distsL t.d.toNat = d by rw [HDD.out, Int.toNat_natCast, HD.out]);go_upto_region 6 with fail;refine wp_world (fun wz => CG w wz g1 g2 (Dfl.cntS ts) (Dfl.cntD ts) ∧ Bk wz wr.heap.size #[.int .u8 (b : Int), .int .i64 (vl : Int), .int .i64 (vd : Int)]) ⟨HC.out.grow ((Ext.refl _).alloc _), Bk.at rfl⟩ ?_;rintro w3 ⟨h3, h4⟩;obtain ⟨T, hT⟩ : ∃ T, wr.heap.size = T := ⟨_, rfl⟩;have HTT := Lib.hid hT;rw [hT] at h4;rw [hT];have H3 := Lib.hid h3;have H4 := Lib.hid h4;have HTg := Lib.hid (show g1 < T from by have := HC.out.l1; have := HTT.out; omega);have HTb3 := Lib.hid (HTb.out.ext H3.out.ext);clear HC k0 k1 k2 h3 h4 hT;obtain ⟨c, hc⟩ : ∃ c, Dfl.cntS ts sk = c := ⟨_, rfl⟩;have hcl : c ≤ 1 + i := by rw [← hc]; exact HCL.out sk
     have kc : w3.cell? ⟨g1, sk, none⟩ = some (.int .i64 (c : Int)) := by rw [← hc]; exact (H3.out.c1 sk (by omega)).1
     have kf := (H3.out.c1 sk (by omega)).2;have HCe := Lib.hid hc;clear hc;have wc1 : IntKind.i64.wrap ((c : Int) + 1) = ((c + 1 : Nat) : Int) := by rw [IntKind.wrap_i64]; omega
     have b1 := H4.out.cell 1;simp only [List.getElem?_toArray, List.getElem?_cons_succ, List.getElem?_cons_zero] at b1;go_wp2_with fail;have hp := still_of (place_any ⟨10, 0, none⟩ 29 29 vl Inf.lensL w3.drew rfl (by decide) (by decide) (fun k hk => by rw [add_plain]; exact HTb3.out.lens k hk) (Nat.le_trans (by decide : Inf.lensL.getD 0 0 ≤ 3) hv0Lens) (by omega));rw [HK.out] at hp;have HP := Lib.hid hp;clear hp;refine wp_region_tailQ 9 (by kernel_rfl) (by kernel_rfl) ?_;simp only [List.take_succ_cons, List.take_zero, List.drop_succ_cons, List.drop_zero];refine wpQ_yes (by kernel_rfl) (fun K hK => ?_);go_simp;refine hK _ ?_;clear hK K;refine wpQ_yes (by kernel_rfl) (fun K hK => ?_);go_simp;refine hK _ ?_;clear hK K;refine wpQ_yes (by kernel_rfl) (fun K hK => ?_);go_simp;refine hK _ ?_;clear hK K;refine wpQ_yes (by kernel_rfl) (fun K hK => ?_);go_simp;refine hK _ ?_;clear hK K;refine wpQ_yes (by kernel_rfl) (fun K hK => ?_);go_simp;refine ⟨_, HP.out, hK _ ?_⟩;clear hK K;refine wpQ_yes (by kernel_rfl) (fun K hK => ?_);go_simp;refine hK _ ?_;clear hK K;refine wpQ_yes (by kernel_rfl) (fun K hK => ?_);go_simp;refine hK _ ?_;clear hK K;refine wpQ_yes (by kernel_rfl) (fun K hK => ?_);go_simp;refine hK _ ?_;clear hK K;refine wpQ_yes (by kernel_rfl) (fun K hK => ?_);go_simp;refine hK _ ?_;clear hK K;refine wpQ_nil ?_;clear HP;have HN := Lib.hid (H3.out.drew.put1 sk (by omega) c HCe.out);change wpList _ _ _ _ _ w3.drew;go_wp2_with fail;refine wp_world (fun wz => CG w wz g1 g2 (Dfl.bump (Dfl.cntS ts) sk) (Dfl.cntD ts) ∧ Bk wz T #[.int .u8 (b : Int), .int .i64 (vl : Int), .int .i64 (vd : Int)]) ⟨HN.out, H4.out.drew.far (p := ⟨g1, sk, none⟩) (by have := HTg.out; show T ≠ g1; omega) _⟩ ?_
     rintro w4 ⟨h3, h4⟩;clear H3 H4 HN kc kf b1 HTb3;have H3 := Lib.hid h3;have H4 := Lib.hid h4;have HTb4 := Lib.hid (HTb.out.ext H3.out.ext);clear h3 h4;obtain ⟨c2, hc⟩ : ∃ c, Dfl.cntD ts d = c := ⟨_, rfl⟩;have hcl2 : c2 ≤ i := by rw [← hc]; exact HDL.out d
     have kc : w4.cell? ⟨g2, d, none⟩ = some (.int .i64 (c2 : Int)) := by rw [← hc]; exact (H3.out.c2 d (by omega)).1
     have kf := (H3.out.c2 d (by omega)).2;have HCe2 := Lib.hid hc;clear hc;have wc2 : IntKind.i64.wrap ((c2 : Int) + 1) = ((c2 + 1 : Nat) : Int) := by rw [IntKind.wrap_i64]; omega
     have b2 := H4.out.cell 2;simp only [List.getElem?_toArray, List.getElem?_cons_succ, List.getElem?_cons_zero] at b2;have hp := still_of (place_any ⟨12, 0, none⟩ 30 30 vd Inf.distsL w4.drew rfl (by decide) (by decide) (fun k hk => by rw [add_plain]; exact HTb4.out.dists k hk) (Nat.le_trans (by decide : Inf.distsL.getD 0 0 ≤ 1) hv0Dists) (by omega));rw [HD.out] at hp;have HP := Lib.hid hp;clear hp;refine wp_region_tailQ 8 (by kernel_rfl) (by kernel_rfl) ?_;simp only [List.take_succ_cons, List.take_zero, List.drop_succ_cons, List.drop_zero];refine wpQ_yes (by kernel_rfl) (fun K hK => ?_);go_simp;refine hK _ ?_;clear hK K;refine wpQ_yes (by kernel_rfl) (fun K hK => ?_);go_simp;refine hK _ ?_;clear hK K;refine wpQ_yes (by kernel_rfl) (fun K hK => ?_);go_simp;refine hK _ ?_;clear hK K;refine wpQ_yes (by kernel_rfl) (fun K hK => ?_);go_simp;refine hK _ ?_;clear hK K;refine wpQ_yes (by kernel_rfl) (fun K hK => ?_);go_simp;refine ⟨_, HP.out, hK _ ?_⟩;clear hK K;refine wpQ_yes (by kernel_rfl) (fun K hK => ?_);go_simp;refine hK _ ?_;clear hK K;refine wpQ_yes (by kernel_rfl) (fun K hK => ?_);go_simp;refine hK _ ?_;clear hK K;refine wpQ_yes (by kernel_rfl) (fun K hK => ?_);go_simp;refine hK _ ?_;clear hK K;refine wpQ_nil ?_;clear HP;have HN := Lib.hid (H3.out.drew.put2 d (by omega) c2 HCe2.out);change wpList _ _ _ _ _ w4.drew;go_wp2_with fail;refine ⟨⟨i + 1, by simp, by omega, by rw [HRS.out, Dfl.cntS_push ts t sk HS.out, Dfl.cntD_push ts t d HT0.out HDs.out]; exact HN⟩, by simp [intOf]; omega⟩
   ·obtain rfl : i = n := by omega
    have t0 : decide ((i : Int) < (i : Int)) = false := decide_eq_false (by omega);go_wp2_with fail;go_ret2;exact ⟨g1, g2, rfl, HC.out⟩
end Go.Proofs.YtnhbjgmfbcedaaaDoor
namespace Go.Proofs.YtnhbjgmfbcedaaaDoor
open Go.RowKit
namespace Dfl
structure Rn where
 s : Nat
 m : Nat
 b : Nat
def StepR (l : List Nat) (r : Rn) (l' : List Nat) : Prop :=
 (r.s ≤ 15 ∧ r.m = 0 ∧ r.b = 0 ∧ l' = l ++ [r.s]) ∨
 (r.s = 16 ∧ r.b = 2 ∧ r.m < 4 ∧ l ≠ [] ∧ l' = l ++ List.replicate (3 + r.m) (l.getD (l.length - 1) 0)) ∨
 (r.s = 17 ∧ r.b = 3 ∧ r.m < 8 ∧ l' = l ++ List.replicate (3 + r.m) 0) ∨
 (r.s = 18 ∧ r.b = 7 ∧ r.m < 128 ∧ l' = l ++ List.replicate (11 + r.m) 0)
inductive Says : List Nat → List Rn → List Nat → Prop
 | nil (l : List Nat) : Says l [] l
 | cons {l l1 l2 : List Nat} {r : Rn} {rs : List Rn} (h : StepR l r l1) (k : Says l1 rs l2) : Says l (r :: rs) l2
theorem Says.push {l l1 l2 : List Nat} {r : Rn} {rs : List Rn} (h : Says l rs l1) (k : StepR l1 r l2) : Says l (rs ++ [r]) l2 := by
 induction h with
 | nil l => exact .cons k (.nil _)
 | cons h _ ih => exact .cons h (ih k)
theorem StepR.grow {l l' : List Nat} {r : Rn} (h : StepR l r l') : l.length < l'.length := by
 rcases h with ⟨_, _, _, rfl⟩ | ⟨_, _, _, _, rfl⟩ | ⟨_, _, _, rfl⟩ | ⟨_, _, _, rfl⟩ <;> simp <;> omega
theorem StepR.bd {l l' : List Nat} {r : Rn} (h : StepR l r l') : r.s < 19 ∧ r.m < 2 ^ r.b ∧ r.b ≤ 7 := by
 rcases h with ⟨h1, h2, h3, _⟩ | ⟨h1, h2, h3, _, _⟩ | ⟨h1, h2, h3, _⟩ | ⟨h1, h2, h3, _⟩
 ·rw [h2, h3]; exact ⟨by omega, by decide, by decide⟩
 ·rw [h1, h2]; exact ⟨by decide, by omega, by decide⟩
 ·rw [h1, h2]; exact ⟨by decide, by omega, by decide⟩
 ·rw [h1, h2]; exact ⟨by decide, by omega, by decide⟩
theorem Says.grow {l l' : List Nat} {rs : List Rn} (h : Says l rs l') : l.length + rs.length ≤ l'.length := by
 induction h with
 | nil l => simp
 | cons h _ ih => have := h.grow; simp only [List.length_cons]; omega
theorem Says.bd {l l' : List Nat} {rs : List Rn} (h : Says l rs l') : ∀ r ∈ rs, r.s < 19 ∧ r.m < 2 ^ r.b ∧ r.b ≤ 7 := by
 induction h with
 | nil l => intro r hr; cases hr
 | cons h _ ih =>
  intro r hr;rcases List.mem_cons.1 hr with rfl | q
  ·exact h.bd
  ·exact ih r q
def runB (f : Nat → Int) (r : Rn) : List Bool := wordB f 19 r.s ++ Bts.low r.m r.b
def runsB (f : Nat → Int) (rs : List Rn) : List Bool := (rs.map (runB f)).flatten
theorem runsB_cons (f : Nat → Int) (r : Rn) (rs : List Rn) : runsB f (r :: rs) = runB f r ++ runsB f rs := by simp [runsB]
theorem runs_read {L : List UInt8} {f : Nat → Int} (hc : complete f 19) {l l' : List Nat} {rs : List Rn} (hS : Says l rs l') :
  ∀ (F a : Nat) (C : List Bool), (∀ r ∈ rs, 1 ≤ f r.s ∧ f r.s ≤ 15) → rs.length < F → At L a (runsB f rs ++ C) →
   Inf.lens L f l'.length F a l = .ok (l', a + (runsB f rs).length) := by
 induction hS with
 | nil l =>
  intro F a C _ hF _;obtain ⟨F, rfl⟩ : ∃ F', F = F' + 1 := ⟨F - 1, by simp at hF; omega⟩;unfold Inf.lens;rw [if_pos (Nat.le_refl _)];rfl
 | @cons l l1 l2 r rs h k ih =>
  intro F a C hu hF hA;obtain ⟨F, rfl⟩ : ∃ F', F = F' + 1 := ⟨F - 1, by simp at hF; omega⟩;have hg := h.grow;have hg2 := k.grow;obtain ⟨b1, b2, b3⟩ := h.bd;obtain ⟨u1, u2⟩ := hu r (List.mem_cons_self ..);rw [runsB_cons, runB, List.append_assoc, List.append_assoc] at hA;have n1 := hA.left.nxt hc b1 u1 u2;have A2 := hA.right;have g1 := A2.left.get b2;have A3 := A2.right;rw [Bts.low_length] at A3;have hn := ih F (a + (wordB f 19 r.s).length + r.b) C (fun x hx => hu x (List.mem_cons_of_mem _ hx)) (by simp at hF; omega) A3;have hlen : (runsB f (r :: rs)).length = (wordB f 19 r.s).length + r.b + (runsB f rs).length := by
   rw [runsB_cons, runB]; simp only [List.length_append, Bts.low_length]
  unfold Inf.lens;rw [if_neg (by omega), n1];simp only [];have hr : ∃ t what, Inf.rep L r.s (a + (wordB f 19 r.s).length) l = .ok (t, what, a + (wordB f 19 r.s).length + r.b) ∧ l ++ List.replicate t what = l1 := by
   unfold Inf.rep;rcases h with ⟨h1, h2, h3, h4⟩ | ⟨h1, h2, h3, h5, h4⟩ | ⟨h1, h2, h3, h4⟩ | ⟨h1, h2, h3, h4⟩
   ·rw [if_neg (by omega), if_neg (by omega), if_neg (by omega), h3];exact ⟨1, r.s, rfl, by rw [h4]; rfl⟩
   ·rw [h2] at g1 ⊢;rw [if_pos h1, if_neg h5, g1];exact ⟨_, _, rfl, h4.symm⟩
   ·rw [h2] at g1 ⊢;rw [if_neg (by omega), if_pos h1, g1];exact ⟨_, _, rfl, h4.symm⟩
   ·rw [h2] at g1 ⊢;rw [if_neg (by omega), if_neg (by omega), if_pos h1, g1];exact ⟨_, _, rfl, h4.symm⟩
  obtain ⟨t, what, e1, e2⟩ := hr;rw [e1];simp only [];have ht : l.length + t = l1.length := by rw [← e2]; simp
  rw [if_neg (by omega), e2, hn, hlen];congr 2
  omega
theorem take_rep {l : List Nat} {x : Nat} : ∀ (k a : Nat), (∀ j, a ≤ j → j < a + k → l.getD j 0 = x) → a + k ≤ l.length → l.take a ++ List.replicate k x = l.take (a + k)
 | 0, a, _, _ => by simp
 | k + 1, a, h, hl => by
  have ih := take_rep k a (fun j h1 h2 => h j h1 (by omega)) (by omega);rw [List.replicate_succ', ← List.append_assoc, ih, ← Nat.add_assoc, List.take_add_one];congr 1
  have q := h (a + k) (by omega) (by omega);rw [List.getD, List.getElem?_eq_getElem (by omega)] at q;rw [List.getElem?_eq_getElem (by omega)];simp at q ⊢;exact q.symm
theorem take_last {l : List Nat} {a : Nat} (h : 0 < a) (hl : a ≤ l.length) : (l.take a).getD ((l.take a).length - 1) 0 = l.getD (a - 1) 0 := by
 rw [List.length_take, Nat.min_eq_left hl, List.getD, List.getD, List.getElem?_take_of_lt (by omega)]
end Dfl
end Go.Proofs.YtnhbjgmfbcedaaaDoor
