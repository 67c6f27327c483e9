/-
  Stored blocks: what they are, and what they mean. No function of the program is named.
  One fixed block, read: plain laws. No function of the program is named.
  match.Expand.
  deflate.Fixed.
  The document's tables of lengths and distances.
  The document's placeIn.
  The document's bits: Byte, Low, High.
  The document's High.
  The document's words of lengths.
-/
import Derived.Test.YtnhbjgmfbcedaaaDoorDeflateFixedG5
import Derived.Test.YtnhbjgmfbcedaaaDoorDeflateFixedG6
import Derived.Test.YtnhbjgmfbcedaaaDoorDeflateFixedG8
import Derived.Test.YtnhbjgmfbcedaaaDoorDeflateFixedG4
import Derived.Test.YtnhbjgmfbcedaaaDoorDeflateFixedG2
import Derived.RegionTactic
import Derived.Test.YtnhbjgmfbcedaaaDoorDeflateFixedG9
import Derived.Test.YtnhbjgmfbcedaaaDoorDeflateFixedG7
import Derived.Test.YtnhbjgmfbcedaaaDoorDeflateFixedG1
import Derived.Outline
namespace Go.Proofs.YtnhbjgmfbcedaaaDoor
open Go.RowKit
set_option linter.unusedSimpArgs false
set_option linter.unusedVariables false
theorem numcat (l m : List UInt8) : Crc.num (l ++ m) = Crc.num l + Crc.num m * 2 ^ (8 * l.length) := by
  induction l with
  | nil => simp [Crc.num]
  | cons b l ih =>
    show b.toNat + 256 * Crc.num (l ++ m) = b.toNat + 256 * Crc.num l + _
    rw [ih, List.length_cons, show 8 * (l.length + 1) = 8 * l.length + 8 by omega, Nat.pow_add, Nat.mul_add, ← Nat.add_assoc]
    congr 1
    rw [Nat.mul_comm 256, Nat.mul_assoc]
theorem num_behind (l m : List UInt8) : Crc.num (l ++ m) / 2 ^ (8 * l.length) = Crc.num m := by
  have h := Crc.num_lt l
  rw [numcat, Nat.add_mul_div_right _ _ (Nat.two_pow_pos _), Nat.div_eq_of_lt h, Nat.zero_add]
namespace Sto
/-- a stored block -/
def blk (last : Nat) (p : List UInt8) : List UInt8 := [UInt8.ofNat last, UInt8.ofNat (p.length % 256), UInt8.ofNat (p.length / 256), UInt8.ofNat (255 - p.length % 256), UInt8.ofNat (255 - p.length / 256)] ++ p
theorem blk_length (last : Nat) (p : List UInt8) : (blk last p).length = 5 + p.length := by simp [blk]; omega
/-- a text in stored blocks -/
def all : Nat → List UInt8 → List UInt8
  | 0, _ => []
  | k + 1, t => if t.length ≤ 65535 then blk 1 t else blk 0 (t.take 65535) ++ all k (t.drop 65535)
theorem all_last {k : Nat} {t : List UInt8} (h : t.length ≤ 65535) : all (k + 1) t = blk 1 t := by simp only [all, if_pos h]
theorem all_more {k : Nat} {t : List UInt8} (h : ¬ t.length ≤ 65535) : all (k + 1) t = blk 0 (t.take 65535) ++ all k (t.drop 65535) := by simp only [all, if_neg h]
theorem get_at (pre M : List UInt8) (j k : Nat) (h : 8 * pre.length + j + k ≤ 8 * (pre ++ M).length) : Inf.get (pre ++ M) k (8 * pre.length + j) = .ok (Crc.num M / 2 ^ j % 2 ^ k, 8 * pre.length + j + k) := by
  unfold Inf.get
  rw [if_pos h, Nat.pow_add, ← Nat.div_div_eq_div_mul, num_behind]
theorem ofNat_toNat (n : Nat) (h : n < 256) : (UInt8.ofNat n).toNat = n := by rw [UInt8.toNat_ofNat', Nat.mod_eq_of_lt h]
/-- a stored block is read -/
theorem block_is (pre p post : List UInt8) (last most : Nat) (out : List UInt8) (hl : last < 2) (hp : p.length ≤ 65535) (hm : out.length + p.length ≤ most) :
    Inf.block (pre ++ (blk last p ++ post)) most (8 * pre.length) out = .ok (last, 8 * (pre ++ blk last p).length, out ++ p, ⟨0, [], [], []⟩) := by
  obtain ⟨n, hn⟩ : ∃ n, p.length = n := ⟨_, rfl⟩
  obtain ⟨L, hL⟩ : ∃ L, pre ++ (blk last p ++ post) = L := ⟨_, rfl⟩
  have hLl : L.length = pre.length + (5 + n + post.length) := by rw [← hL, List.length_append, List.length_append, blk_length, hn]
  have hM : Crc.num (blk last p ++ post) = last + 256 * (n % 256 + 256 * (n / 256 + 256 * ((255 - n % 256) + 256 * ((255 - n / 256) + 256 * Crc.num (p ++ post))))) := by
    unfold blk
    rw [hn]
    simp only [List.cons_append, List.nil_append, Crc.num]
    rw [ofNat_toNat _ (by omega), ofNat_toNat _ (by omega), ofNat_toNat _ (by omega), ofNat_toNat _ (by omega), ofNat_toNat _ (by omega)]
  obtain ⟨z, hz⟩ : ∃ z, Crc.num (p ++ post) = z := ⟨_, rfl⟩
  rw [hz] at hM
  have g := fun j k h => get_at pre (blk last p ++ post) j k h
  rw [hL, hLl, hM] at g
  have g1 := g 0 1 (by omega)
  have g2 := g 1 2 (by omega)
  have g3 := g 8 16 (by omega)
  have g4 := g 24 16 (by omega)
  rw [show (last + 256 * (n % 256 + 256 * (n / 256 + 256 * ((255 - n % 256) + 256 * ((255 - n / 256) + 256 * z))))) / 2 ^ 0 % 2 ^ 1 = last by omega] at g1
  rw [show (last + 256 * (n % 256 + 256 * (n / 256 + 256 * ((255 - n % 256) + 256 * ((255 - n / 256) + 256 * z))))) / 2 ^ 1 % 2 ^ 2 = 0 by omega] at g2
  rw [show (last + 256 * (n % 256 + 256 * (n / 256 + 256 * ((255 - n % 256) + 256 * ((255 - n / 256) + 256 * z))))) / 2 ^ 8 % 2 ^ 16 = n by omega] at g3
  have five : ∀ a b c y u z : Nat, a < 256 → b < 256 → c < 256 → y < 256 → u < 256 → (a + 256 * (b + 256 * (c + 256 * (y + 256 * (u + 256 * z))))) / 2 ^ 24 % 2 ^ 16 = y + 256 * u := by intros; omega
  rw [five _ _ _ _ _ _ (by omega) (by omega) (by omega) (by omega) (by omega), show 255 - n % 256 + 256 * (255 - n / 256) = 65535 - n by omega] at g4
  have hs : Inf.stored L most (8 * pre.length + 1 + 2) out = .ok (8 * (pre ++ blk last p).length, out ++ p) := by
    unfold Inf.stored
    rw [show (8 * pre.length + 1 + 2 + 7) / 8 * 8 = 8 * pre.length + 8 by omega, g3]
    simp only []
    rw [show 8 * pre.length + 8 + 16 = 8 * pre.length + 24 by omega, g4]
    simp only []
    rw [if_neg (by omega), if_neg (by omega), if_neg (by omega)]
    have e1 : 8 * pre.length + 24 + 16 + 8 * n = 8 * (pre ++ blk last p).length := by rw [List.length_append, blk_length, hn]; omega
    have e2 : (L.drop ((8 * pre.length + 24 + 16) / 8)).take n = p := by
      rw [show (8 * pre.length + 24 + 16) / 8 = pre.length + 5 by omega, ← hL, ← List.drop_drop, List.drop_left]
      unfold blk
      simp only [List.cons_append, List.nil_append, List.drop_succ_cons, List.drop_zero]
      rw [← hn, List.take_left]
    rw [e1, e2]
  rw [Nat.add_zero] at g1
  rw [hL]
  exact Inf.block_sto g1 g2 hs
theorem blocks_all (most : Nat) : ∀ (k : Nat) (pre t out : List UInt8) (F : Nat) (bl : List Inf.Blk), t.length < k → out.length + t.length ≤ most → 8 * (pre ++ all k t).length - 8 * pre.length < F →
    ∃ bl', Inf.blocks (pre ++ all k t) most F (8 * pre.length) out bl = .ok (8 * (pre ++ all k t).length, out ++ t, bl') := by
  intro k
  induction k with
  | zero => intro pre t out F bl h; omega
  | succ k ih =>
    intro pre t out F bl hk hm hF
    by_cases h : t.length ≤ 65535
    · rw [all_last h] at hF ⊢
      have hb := block_is pre t [] 1 most out (by decide) h hm
      rw [List.append_nil] at hb
      exact ⟨_, Inf.blocks_last (by omega) rfl hb⟩
    · rw [all_more h] at hF ⊢
      have hl : (t.take 65535).length = 65535 := by rw [List.length_take]; omega
      have hd : (t.drop 65535).length = t.length - 65535 := List.length_drop
      have hb := block_is pre (t.take 65535) (all k (t.drop 65535)) 0 most out (by decide) (by omega) (by omega)
      obtain ⟨F', hF', h1⟩ := Inf.blocks_go (L := pre ++ (blk 0 (t.take 65535) ++ all k (t.drop 65535))) (F := F) (by
        have : 0 < (blk 0 (t.take 65535)).length := by rw [blk_length]; omega
        simp only [List.length_append] at hF; omega) rfl hb (by decide)
      rw [← h1]
      have e : pre ++ (blk 0 (t.take 65535) ++ all k (t.drop 65535)) = (pre ++ blk 0 (t.take 65535)) ++ all k (t.drop 65535) := by rw [List.append_assoc]
      rw [e] at hF ⊢
      obtain ⟨bl', h2⟩ := ih (pre ++ blk 0 (t.take 65535)) (t.drop 65535) (out ++ t.take 65535) F' (bl ++ [⟨0, [], [], []⟩]) (by omega) (by rw [List.length_append]; omega) (by
        have : 0 < (blk 0 (t.take 65535)).length := by rw [blk_length]; omega
        simp only [List.length_append] at hF ⊢; omega)
      refine ⟨bl', ?_⟩
      rw [h2, show out ++ t.take 65535 ++ t.drop 65535 = out ++ t by rw [List.append_assoc, List.take_append_drop]]
/-- a text in stored blocks means it -/
theorem inf_all (t : List UInt8) (most : Nat) (hm : t.length ≤ most) : ∃ bl, Inf.inf (all (t.length + 1) t) most = .ok (t, (all (t.length + 1) t).length, bl) := by
  obtain ⟨bl, h⟩ := blocks_all most (t.length + 1) [] t [] (8 * (all (t.length + 1) t).length + 1) [] (by omega) (by simpa using hm) (by simp)
  refine ⟨bl, ?_⟩
  unfold Inf.inf
  simp only [List.nil_append, List.length_nil, Nat.mul_zero] at h
  rw [h]
  simp only []
  rw [show (8 * (all (t.length + 1) t).length + 7) / 8 = (all (t.length + 1) t).length by omega]
theorem all_length : ∀ (k : Nat) (t : List UInt8), (all k t).length ≤ t.length + 5 * (t.length / 65535 + 1) := by
  intro k
  induction k with
  | zero => intro t; simp [all]
  | succ k ih =>
    intro t
    by_cases h : t.length ≤ 65535
    · rw [all_last h, blk_length]; omega
    · rw [all_more h, List.length_append, blk_length, List.length_take]
      have := ih (t.drop 65535)
      rw [List.length_drop] at this
      omega
end Sto
end Go.Proofs.YtnhbjgmfbcedaaaDoor
namespace Go.Proofs.YtnhbjgmfbcedaaaDoor
open Go.RowKit
set_option linter.unusedSimpArgs false
set_option linter.unusedVariables false
namespace Dfl
theorem Means.append {o o1 o2 : List UInt8} {ts us : List Tk} (h : Means o ts o1) (k : Means o1 us o2) : Means o (ts ++ us) o2 := by
  induction h with
  | nil o => exact k
  | lit h1 h2 h ih => exact .lit h1 h2 (ih k)
  | mat h0 h1 h2 h3 h4 h5 h ih => exact .mat h0 h1 h2 h3 h4 h5 (ih k)
theorem Means.ok {o o1 : List UInt8} {ts : List Tk} (h : Means o ts o1) : ∀ t ∈ ts, t.l = 0 ∨ (3 ≤ t.l ∧ t.l ≤ 258 ∧ 1 ≤ t.d ∧ t.d ≤ 32768) := by
  induction h with
  | nil o => intro t ht; cases ht
  | lit h1 h2 h ih =>
    intro t ht
    rcases List.mem_cons.1 ht with rfl | q
    · exact .inl h1
    · exact ih t q
  | mat h0 h1 h2 h3 h4 h5 h ih =>
    intro t ht
    rcases List.mem_cons.1 ht with rfl | q
    · exact .inr ⟨h1, h2, h3, h4⟩
    · exact ih t q
theorem Means.many {o o1 : List UInt8} {ts : List Tk} (h : Means o ts o1) : o.length + ts.length ≤ o1.length := by
  induction h with
  | nil o => simp
  | lit h1 h2 h ih => simp at ih ⊢; omega
  | mat h0 h1 h2 h3 h4 h5 h ih => rw [copyL_length] at ih; simp; omega
theorem means_exp {tk : Nat → Tk} : ∀ (n : Nat) (out : List UInt8), expL tk n = .ok out → Means [] ((List.range n).map tk) out
  | 0, out, h => by injection h with h; subst h; exact .nil _
  | n + 1, out, h => by
    simp only [expL] at h
    split at h
    · rename_i o1 h1
      rw [List.range_succ, List.map_append]
      refine (means_exp n o1 h1).append ?_
      show Means o1 [tk n] out
      obtain ⟨t, ht⟩ : ∃ t, tk n = t := ⟨_, rfl⟩
      rw [ht] at h ⊢
      unfold stepX at h
      split at h
      · rename_i hl
        split at h
        · cases h
        · injection h with h
          subst h
          exact .lit hl.1 hl.2 (.nil _)
      · rename_i hl
        split at h
        · cases h
        · rename_i hb
          split at h
          · cases h
          · injection h with h
            subst h
            unfold badP at hb
            have h0 : t.b = 0 := by
              rcases Classical.em (t.b = 0) with q | q
              · exact q
              · exact absurd (Or.inl q) hb
            have hb2 := fun q => hb (Or.inr q)
            exact .mat h0 (by omega) (by omega) (by omega) (by omega) (by omega) (.nil _)
    · cases h
theorem plc_l {t : Tk} (h1 : 3 ≤ t.l) (h2 : t.l ≤ 258) : plc Inf.lensL t.l.toNat < 29 := (plc_lens (by omega) (by omega)).1
theorem plc_d {t : Tk} (h1 : 1 ≤ t.d) (h2 : t.d ≤ 32768) : plc Inf.distsL t.d.toNat < 30 := (plc_dists (by omega) (by omega)).1
theorem uses_fix {t : Tk} (h : t.l = 0 ∨ (3 ≤ t.l ∧ t.l ≤ 258 ∧ 1 ≤ t.d ∧ t.d ≤ 32768)) : Uses Inf.fixF 288 Inf.fiveF 32 t := by
  have hf : ∀ k, 1 ≤ Inf.fixF k ∧ Inf.fixF k ≤ 15 := by
    intro k
    unfold Inf.fixF
    split
    · omega
    · split
      · omega
      · split <;> omega
  refine ⟨fun h0 => ⟨by have := t.b.toNat_lt; omega, hf _⟩, fun h0 => ?_⟩
  rcases h with h | ⟨h1, h2, h3, h4⟩
  · exact absurd h h0
  · have a1 := plc_l h1 h2
    have a2 := plc_d h3 h4
    exact ⟨⟨by omega, hf _⟩, by omega, by unfold Inf.fiveF; omega, by unfold Inf.fiveF; omega⟩
theorem tokB_pos {f g : Nat → Int} {len gen : Nat} {t : Tk} (h : Uses f len g gen t) : 1 ≤ (tokB f len g gen t).length := by
  have hw : ∀ k, 1 ≤ f k → 1 ≤ (wordB f len k).length := by intro k hk; unfold wordB; rw [Bts.high_length]; omega
  unfold tokB
  split
  · rename_i h0; exact hw _ (h.1 h0).2.1
  · rename_i h0; rw [List.length_append]; have := hw _ (h.2 h0).1.2.1; omega
theorem toksB_len {f g : Nat → Int} {len gen : Nat} : ∀ {ts : List Tk}, (∀ t ∈ ts, Uses f len g gen t) → ts.length ≤ (toksB f len g gen ts).length
  | [], _ => Nat.zero_le _
  | t :: ts, h => by
    have h1 := toksB_len (fun x hx => h x (List.mem_cons_of_mem _ hx))
    have h2 := tokB_pos (h t (List.mem_cons_self ..))
    have e : toksB f len g gen (t :: ts) = tokB f len g gen t ++ toksB f len g gen ts := by simp [toksB]
    rw [e, List.length_append, List.length_cons]
    omega
theorem at_text {l post : List UInt8} {B : List Bool} (h1 : l.length = (B.length + 7) / 8) (h2 : Crc.num l = Bts.val B) : At (l ++ post) 0 B := by
  refine ⟨by rw [List.length_append]; omega, ?_⟩
  rw [Nat.pow_zero, Nat.div_one, numcat, h2]
  have q := Bts.val_lt B
  obtain ⟨d, hd⟩ : ∃ d, 8 * l.length = B.length + d := ⟨8 * l.length - B.length, by omega⟩
  rw [hd, Nat.pow_add, ← Nat.mul_assoc, Nat.mul_right_comm, Nat.add_mul_mod_self_right, Nat.mod_eq_of_lt q]
def fixedB (ts : List Tk) : List Bool := Bts.low 3 3 ++ (toksB Inf.fixF 288 Inf.fiveF 32 ts ++ wordB Inf.fixF 288 256)
theorem fixed_read {ts : List Tk} {o' : List UInt8} (hM : Means [] ts o') {L : List UInt8} {most : Nat} (hA : At L 0 (fixedB ts)) (hm : o'.length ≤ most) : ∃ bl, Inf.inf L most = .ok (o', ((fixedB ts).length + 7) / 8, bl) := by
  have hu : ∀ t ∈ ts, Uses Inf.fixF 288 Inf.fiveF 32 t := fun t ht => uses_fix (hM.ok t ht)
  have hlen := toksB_len hu
  have e3 : Bts.low 3 3 = Bts.low 1 1 ++ Bts.low 1 2 := by decide
  have hA0 := hA
  unfold fixedB at hA
  rw [e3, List.append_assoc] at hA
  have g1 := hA.left.get (by decide)
  have A1 := hA.right
  have g2 := A1.left.get (by decide)
  have A2 := A1.right
  rw [Bts.low_length] at A1 g2 A2
  rw [Bts.low_length] at A2
  have hF : ts.length < 8 * L.length + 1 := by
    have := A2.1
    rw [List.length_append] at this
    omega
  have ht := toks_read Inf.good_fix.2 Inf.good_five.2 ⟨by decide, by decide, by decide⟩ hM (8 * L.length + 1) (0 + 1 + 2) [] hm hu hF A2
  have hb := Inf.block_fxo (out := []) g1 g2 ht
  have hbs : Inf.blocks L most (8 * L.length + 1) 0 [] [] = .ok (0 + 1 + 2 + (toksB Inf.fixF 288 Inf.fiveF 32 ts ++ wordB Inf.fixF 288 256).length, o', [] ++ [⟨1, [], [], [] ++ (ts.map ev ++ [⟨256, 0, 0, 0⟩])⟩]) := by
    simp only [Inf.blocks, hb, if_true]
  refine ⟨[] ++ [⟨1, [], [], [] ++ (ts.map ev ++ [⟨256, 0, 0, 0⟩])⟩], ?_⟩
  unfold Inf.inf
  rw [hbs]
  have el : (fixedB ts).length = 0 + 1 + 2 + (toksB Inf.fixF 288 Inf.fiveF 32 ts ++ wordB Inf.fixF 288 256).length := by
    unfold fixedB
    rw [List.length_append, Bts.low_length]
  rw [el]
theorem fixedB_len {ts : List Tk} (h : ∀ t ∈ ts, t.l = 0 ∨ (3 ≤ t.l ∧ t.l ≤ 258 ∧ 1 ≤ t.d ∧ t.d ≤ 32768)) : (fixedB ts).length ≤ 12 + 50 * ts.length := by
  have hf : ∀ k, (wordB Inf.fixF 288 k).length ≤ 9 := by
    intro k
    unfold wordB Inf.fixF
    rw [Bts.high_length]
    split
    · decide
    · split
      · decide
      · split <;> decide
  have hg : ∀ k, (wordB Inf.fiveF 32 k).length = 5 := by intro k; unfold wordB Inf.fiveF; rw [Bts.high_length]; rfl
  have hbl : ∀ k, k < 29 → Inf.lensB.getD k 0 ≤ 5 := by decide
  have hbd : ∀ k, k < 30 → Inf.distsB.getD k 0 ≤ 13 := by decide
  have ht : ∀ ts : List Tk, (∀ t ∈ ts, t.l = 0 ∨ (3 ≤ t.l ∧ t.l ≤ 258 ∧ 1 ≤ t.d ∧ t.d ≤ 32768)) → (toksB Inf.fixF 288 Inf.fiveF 32 ts).length ≤ 50 * ts.length := by
    intro ts
    induction ts with
    | nil => intro _; exact Nat.le_refl _
    | cons t ts ih =>
      intro h
      have h1 := ih (fun x hx => h x (List.mem_cons_of_mem _ hx))
      have e : toksB Inf.fixF 288 Inf.fiveF 32 (t :: ts) = tokB Inf.fixF 288 Inf.fiveF 32 t ++ toksB Inf.fixF 288 Inf.fiveF 32 ts := by simp [toksB]
      rw [e, List.length_append, List.length_cons]
      have h2 : (tokB Inf.fixF 288 Inf.fiveF 32 t).length ≤ 50 := by
        unfold tokB
        split
        · have := hf t.b.toNat; omega
        · rename_i h0
          rcases h t (List.mem_cons_self ..) with q | ⟨q1, q2, q3, q4⟩
          · exact absurd q h0
          · have a1 := hbl _ (plc_l q1 q2)
            have a2 := hbd _ (plc_d q3 q4)
            have a3 := hf (257 + plc Inf.lensL t.l.toNat)
            have a4 := hg (plc Inf.distsL t.d.toNat)
            simp only [List.length_append, Bts.low_length]
            omega
      omega
  have h1 := ht ts h
  have h2 := hf 256
  unfold fixedB
  rw [List.length_append, List.length_append, Bts.low_length]
  omega
end Dfl
end Go.Proofs.YtnhbjgmfbcedaaaDoor
namespace Go.Proofs.YtnhbjgmfbcedaaaDoor
open Go.RowKit
set_option linter.unusedSimpArgs false
set_option linter.unusedVariables false
set_option maxRecDepth 100000
def ExpPost (w w' : World) (E : Nat → Addr) (r : XRes) (e : Ending) : Prop :=
  Ext w w' ∧ ((∃ out, r = .ok out ∧ e = .returned (.tuple #[.string ⟨out.toArray⟩, .nilIface])) ∨ (∃ c i F : Nat, c < 9 ∧ (i : Int) ≤ 9223372036854775807 ∧ r = .bad c i ∧ e = .returned (.tuple #[.string ⟨#[]⟩, .iface 108 (.pointer (some ⟨F, 0, none⟩))]) ∧ w'.heap[F]? = some (.cells #[.int .i64 (i : Int), sentV (E c)] 112 (0, 0))))
theorem exp_err {w wz : World} {E : Nat → Addr} {k c : Nat} {r : XRes} (hX : Ext w wz) (hc : c < 9) (hk : (k : Int) ≤ 9223372036854775807) (h : r = .bad c k) :
    ExpPost w (wz.drew.alloc (.cells #[.int .i64 (k : Int), .iface 210 (.pointer (some (E c)))] 112)) E r (.returned (.tuple #[.string ⟨#[]⟩, .iface 108 (.pointer (some ⟨wz.heap.size, 0, none⟩))])) :=
  ⟨(show Ext w wz.drew from Below.drew hX).alloc _, .inr ⟨c, k, wz.heap.size, hc, hk, h, rfl, heap_alloc_new wz.drew _⟩⟩
theorem exp_fin {w wz : World} {E : Nat → Addr} {r : XRes} {out : List UInt8} (hX : Ext w wz) (h : r = .ok out) : ExpPost w wz E r (.returned (.tuple #[.string ⟨out.toArray⟩, .nilIface])) := ⟨hX, .inl ⟨out, h, rfl⟩⟩
theorem cells_one1 (b : Int) : ∀ u ∈ [Value.int .u8 b], u.oneCell' = true := by intro u hu; rw [List.mem_singleton.1 hu]; rfl
theorem row_lit {w : World} {base : Nat} {e : TypeId} {size : Nat} {v : Value} {n : Nat} {xs : List Value} (h : w.ownsRow base e size v n xs) : ∃ x c, v = .slice x n c := by
  rcases ownsRow_slice h with ⟨h1, h2⟩ | ⟨g, cap, h1⟩
  · exact ⟨none, 0, by rw [h1, h2]⟩
  · exact ⟨_, cap, h1⟩
theorem own_new {wx : World} {v v' : Value} {T : Nat} (h : v.ownBlock ≠ some T) (hat : v'.ownBlock = v.ownBlock ∨ v'.ownBlock = some wx.heap.size) (hT : T < wx.heap.size) : v'.ownBlock ≠ some T := by
  rcases hat with q | q
  · rw [q]; exact h
  · rw [q]; intro e; injection e with e; omega
set_option linter.unusedSimpArgs false in
set_option maxHeartbeats 4000000 in
theorem expand_any (x : Option Addr) (n cap : Nat) (tk : Nat → Tk) (w : World) (E : Nat → Addr) (hE : Errs w E) (hx : Toks w x n tk) (hn : n ≤ maxLen) :
    Calls Tryd.prog 57 #[.slice x n cap] w fun e w' => ExpPost w w' E (expL tk n) e := by
  have HE := Lib.hid hE
  have HX := Lib.hid hx
  clear hE hx
  unfold maxLen at hn
  obtain ⟨i0, hi0, hz0, hz1, hz2⟩ := info_parts byteinf
  go_enter Tryd.func57, Tryd.ntmps57
  go_wp2_with fail
  go_loopw [4, 10] (fun v c wr => ∃ (k : Nat) (out : List UInt8), k ≤ n ∧ c = .int .i64 k ∧ Hid (expL tk k = .ok out) ∧ Hid (wr.ownsRow w.heap.size 5 1 v (out).length (bytesV (out))) ∧ Hid (Ext w wr)) (fun _ c _ => n - (intOf c).toNat)
  case atStart => exact ⟨0, [], by omega, rfl, Lib.hid rfl, Lib.hid (World.ownsRow_nil _ _ _ _), Lib.hid (Ext.refl _)⟩
  case round =>
    obtain ⟨k, out, hk, rfl, HL, HR, HW⟩ := hrel
    have hlen := expL_len HL.out
    by_cases hlt : k < n
    · obtain ⟨a, rfl⟩ := HX.out.isSome hlt
      obtain ⟨c0, c1, c2, okl, okd⟩ := (HX.out.ext HW.out).2 a rfl k hlt
      have HSt := Lib.hid (expL_succ HL.out)
      have HBad := Lib.hid (fun c (h : stepX (tk k) k out = .bad c k) => expL_bad HL.out h hlt)
      generalize tk k = t at c0 c1 c2 okl okd HSt HBad
      obtain ⟨b, l, d⟩ := t
      simp only at c0 c1 c2 okl okd
      obtain ⟨l1, l2⟩ := okl
      obtain ⟨d1_, d2_⟩ := okd
      obtain ⟨L, hL⟩ : ∃ L, out.length = L := ⟨_, rfl⟩
      rw [hL] at HR hlen
      have HLL := Lib.hid hL
      clear hL
      obtain ⟨xo, co, rfl⟩ := row_lit HR.out
      have hsz : w.heap.size ≤ wr.heap.size := HW.out.size
      by_cases q_l0 : l = 0
      · have t_l0 : (l == 0) = true := beq_iff_eq.2 q_l0
        by_cases q_d0 : d = 0
        · have t_d0 : (d == 0) = true := beq_iff_eq.2 q_d0
          have HLit : Hid (litP ⟨b, l, d⟩) := Lib.hid ⟨q_l0, q_d0⟩
          by_cases qb : 300000 < L + 1
          · have tq : decide ((300000 : Int) < (L : Int) + 1) = true := decide_eq_true (by omega)
            have HB : Hid (expL tk n = .bad 1 k) := Lib.hid (HBad.out 1 (stepX_lit_no HLit.out (by rw [HLL.out]; exact qb)))
            clear HSt HBad HL HR HLL
            clear q_l0 q_d0
            go_wp2_with fail
            refine wp_world (fun wz => Ext wr wz ∧ wz.heap.size = wr.heap.size + 1 ∧ Bk wz (wr.heap.size) #[.int .u8 (b.toNat : Int), .int .i64 l, .int .i64 d]) ⟨by repeat (first | exact Ext.refl _ | refine Ext.alloc ?_ _), by simp, by repeat (first | exact Bk.at (by simp) | refine Bk.old ?_)⟩ ?_
            rintro wz ⟨hX, hZ, hB0⟩
            have XZ := Lib.hid (HW.out.trans hX)
            have hv := (HE.out.ext XZ.out).var 1 (by decide)
            simp only [gk, sentV] at hv
            clear hX hZ hB0 c0 c1 c2
            go_region
            all_goals
              (try go_wp2_with fail)
              go_ret2
              exact exp_err XZ.out (by decide) (by omega) HB.out
          · have tq : decide ((300000 : Int) < (L : Int) + 1) = false := decide_eq_false (by omega)
            have HS2 := Lib.hid (HSt.out.trans (stepX_lit HLit.out (by rw [HLL.out]; omega)))
            clear HSt HBad HL q_l0 q_d0 HLit
            go_wp2_with (at_builtin; refine wpList_append_own_at _ rfl _ _ 61 rfl w.heap.size 5 i0 (.int .u8 0) 1 1 Tryd.underlying61 hi0 hz0 hz1 hz2 rfl (by decide) _ _ _ rfl ((HR.out.alloc _).alloc _) ⟨wr.heap.size + 1, 0, none⟩ 1 1 [.int .u8 (b.toNat : Int)] rfl rfl ?c1 (cells_one1 _) ?c3 ?c4 ?c5 ?_)
            case c3 => unfold maxLen; omega
            case c4 => omega
            case c5 => first | omega | (simp; omega)
            intro v' w1 hown hgrow _ _
            have hRR : ((wr.alloc (.cells #[.int .u8 (b.toNat : Int), .int .i64 l, .int .i64 d] 84)).alloc (.cells #[.int .u8 (b.toNat : Int)] 5)).ownsRow w.heap.size 5 1 (.slice xo L co) out.length (bytesV out) := by rw [HLL.out]; exact (HR.out.alloc _).alloc _
            have P := row_push ((HW.out.alloc _).alloc _) hRR hgrow (by rw [HLL.out]; exact hown)
            have P1 := Lib.hid P.1
            have P2 := Lib.hid P.2
            clear P hown hgrow hRR c0 c1 c2
            go_wp2_with fail
            go_roundw
            case rel => exact ⟨k + 1, out ++ [b], by omega, by go_num, HS2, P1, P2⟩
            case measure => simp [intOf]; omega
        · have t_d0 : (d == 0) = false := beq_eq_false_iff_ne.2 q_d0
          have HNL : Hid (¬ litP ⟨b, l, d⟩) := Lib.hid (fun h => q_d0 h.2)
          by_cases q_b0 : b ≠ 0
          · have t_b0 : ((b.toNat : Int) != 0) = true := by rw [bne_iff_ne]; intro e; exact q_b0 (UInt8.toNat_inj.1 (by simpa using e))
            have HB : Hid (expL tk n = .bad 2 k) := Lib.hid (HBad.out 2 (stepX_bad HNL.out (by rw [HLL.out]; exact .inl q_b0)))
            clear HSt HBad HL HR HLL
            clear q_l0 q_d0 q_b0
            go_wp2_with fail
            refine wp_world (fun wz => Ext wr wz ∧ wz.heap.size = wr.heap.size + 1 ∧ Bk wz (wr.heap.size) #[.int .u8 (b.toNat : Int), .int .i64 l, .int .i64 d]) ⟨by repeat (first | exact Ext.refl _ | refine Ext.alloc ?_ _), by simp, by repeat (first | exact Bk.at (by simp) | refine Bk.old ?_)⟩ ?_
            rintro wz ⟨hX, hZ, hB0⟩
            have XZ := Lib.hid (HW.out.trans hX)
            have hv := (HE.out.ext XZ.out).var 2 (by decide)
            simp only [gk, sentV] at hv
            clear hX hZ hB0 c0 c1 c2
            go_region
            all_goals
              (try go_wp2_with fail)
              go_ret2
              exact exp_err XZ.out (by decide) (by omega) HB.out
          · have t_b0 : ((b.toNat : Int) != 0) = false := by have e : b = 0 := Classical.not_not.1 q_b0; subst e; rfl
            have q_l3 : l < 3 := by omega
            have t_l3 : decide (l < 3) = true := decide_eq_true q_l3
            have HB : Hid (expL tk n = .bad 2 k) := Lib.hid (HBad.out 2 (stepX_bad HNL.out (by rw [HLL.out]; exact .inr (.inl q_l3))))
            clear HSt HBad HL HR HLL
            clear q_l0 q_d0 q_b0 q_l3
            go_wp2_with fail
            refine wp_world (fun wz => Ext wr wz ∧ wz.heap.size = wr.heap.size + 1 ∧ Bk wz (wr.heap.size) #[.int .u8 (b.toNat : Int), .int .i64 l, .int .i64 d]) ⟨by repeat (first | exact Ext.refl _ | refine Ext.alloc ?_ _), by simp, by repeat (first | exact Bk.at (by simp) | refine Bk.old ?_)⟩ ?_
            rintro wz ⟨hX, hZ, hB0⟩
            have XZ := Lib.hid (HW.out.trans hX)
            have hv := (HE.out.ext XZ.out).var 2 (by decide)
            simp only [gk, sentV] at hv
            clear hX hZ hB0 c0 c1 c2
            go_region
            all_goals
              (try go_wp2_with fail)
              go_ret2
              exact exp_err XZ.out (by decide) (by omega) HB.out
      · have t_l0 : (l == 0) = false := beq_eq_false_iff_ne.2 q_l0
        have HNL : Hid (¬ litP ⟨b, l, d⟩) := Lib.hid (fun h => q_l0 h.1)
        by_cases q_b0 : b ≠ 0
        · have t_b0 : ((b.toNat : Int) != 0) = true := by rw [bne_iff_ne]; intro e; exact q_b0 (UInt8.toNat_inj.1 (by simpa using e))
          have HB : Hid (expL tk n = .bad 2 k) := Lib.hid (HBad.out 2 (stepX_bad HNL.out (by rw [HLL.out]; exact .inl q_b0)))
          clear HSt HBad HL HR HLL
          clear q_l0 q_b0
          go_wp2_with fail
          refine wp_world (fun wz => Ext wr wz ∧ wz.heap.size = wr.heap.size + 1 ∧ Bk wz (wr.heap.size) #[.int .u8 (b.toNat : Int), .int .i64 l, .int .i64 d]) ⟨by repeat (first | exact Ext.refl _ | refine Ext.alloc ?_ _), by simp, by repeat (first | exact Bk.at (by simp) | refine Bk.old ?_)⟩ ?_
          rintro wz ⟨hX, hZ, hB0⟩
          have XZ := Lib.hid (HW.out.trans hX)
          have hv := (HE.out.ext XZ.out).var 2 (by decide)
          simp only [gk, sentV] at hv
          clear hX hZ hB0 c0 c1 c2
          go_region
          all_goals
            (try go_wp2_with fail)
            go_ret2
            exact exp_err XZ.out (by decide) (by omega) HB.out
        · have t_b0 : ((b.toNat : Int) != 0) = false := by have e : b = 0 := Classical.not_not.1 q_b0; subst e; rfl
          by_cases q_l3 : l < 3
          · have t_l3 : (decide (l < 3)) = true := decide_eq_true q_l3
            have HB : Hid (expL tk n = .bad 2 k) := Lib.hid (HBad.out 2 (stepX_bad HNL.out (by rw [HLL.out]; exact .inr (.inl q_l3))))
            clear HSt HBad HL HR HLL
            clear q_l0 q_b0 q_l3
            go_wp2_with fail
            refine wp_world (fun wz => Ext wr wz ∧ wz.heap.size = wr.heap.size + 1 ∧ Bk wz (wr.heap.size) #[.int .u8 (b.toNat : Int), .int .i64 l, .int .i64 d]) ⟨by repeat (first | exact Ext.refl _ | refine Ext.alloc ?_ _), by simp, by repeat (first | exact Bk.at (by simp) | refine Bk.old ?_)⟩ ?_
            rintro wz ⟨hX, hZ, hB0⟩
            have XZ := Lib.hid (HW.out.trans hX)
            have hv := (HE.out.ext XZ.out).var 2 (by decide)
            simp only [gk, sentV] at hv
            clear hX hZ hB0 c0 c1 c2
            go_region
            all_goals
              (try go_wp2_with fail)
              go_ret2
              exact exp_err XZ.out (by decide) (by omega) HB.out
          · have t_l3 : (decide (l < 3)) = false := decide_eq_false q_l3
            by_cases q_l258 : 258 < l
            · have t_l258 : (decide (258 < l)) = true := decide_eq_true q_l258
              have HB : Hid (expL tk n = .bad 2 k) := Lib.hid (HBad.out 2 (stepX_bad HNL.out (by rw [HLL.out]; exact .inr (.inr (.inl q_l258)))))
              clear HSt HBad HL HR HLL
              clear q_l0 q_b0 q_l3 q_l258
              go_wp2_with fail
              refine wp_world (fun wz => Ext wr wz ∧ wz.heap.size = wr.heap.size + 1 ∧ Bk wz (wr.heap.size) #[.int .u8 (b.toNat : Int), .int .i64 l, .int .i64 d]) ⟨by repeat (first | exact Ext.refl _ | refine Ext.alloc ?_ _), by simp, by repeat (first | exact Bk.at (by simp) | refine Bk.old ?_)⟩ ?_
              rintro wz ⟨hX, hZ, hB0⟩
              have XZ := Lib.hid (HW.out.trans hX)
              have hv := (HE.out.ext XZ.out).var 2 (by decide)
              simp only [gk, sentV] at hv
              clear hX hZ hB0 c0 c1 c2
              go_region
              all_goals
                (try go_wp2_with fail)
                go_ret2
                exact exp_err XZ.out (by decide) (by omega) HB.out
            · have t_l258 : (decide (258 < l)) = false := decide_eq_false q_l258
              by_cases q_d1 : d < 1
              · have t_d1 : (decide (d < 1)) = true := decide_eq_true q_d1
                have HB : Hid (expL tk n = .bad 2 k) := Lib.hid (HBad.out 2 (stepX_bad HNL.out (by rw [HLL.out]; exact .inr (.inr (.inr (.inl q_d1))))))
                clear HSt HBad HL HR HLL
                clear q_l0 q_b0 q_l3 q_l258 q_d1
                go_wp2_with fail
                refine wp_world (fun wz => Ext wr wz ∧ wz.heap.size = wr.heap.size + 1 ∧ Bk wz (wr.heap.size) #[.int .u8 (b.toNat : Int), .int .i64 l, .int .i64 d]) ⟨by repeat (first | exact Ext.refl _ | refine Ext.alloc ?_ _), by simp, by repeat (first | exact Bk.at (by simp) | refine Bk.old ?_)⟩ ?_
                rintro wz ⟨hX, hZ, hB0⟩
                have XZ := Lib.hid (HW.out.trans hX)
                have hv := (HE.out.ext XZ.out).var 2 (by decide)
                simp only [gk, sentV] at hv
                clear hX hZ hB0 c0 c1 c2
                go_region
                all_goals
                  (try go_wp2_with fail)
                  go_ret2
                  exact exp_err XZ.out (by decide) (by omega) HB.out
              · have t_d1 : (decide (d < 1)) = false := decide_eq_false q_d1
                by_cases q_d32 : 32768 < d
                · have t_d32 : (decide (32768 < d)) = true := decide_eq_true q_d32
                  have HB : Hid (expL tk n = .bad 2 k) := Lib.hid (HBad.out 2 (stepX_bad HNL.out (by rw [HLL.out]; exact .inr (.inr (.inr (.inr (.inl q_d32)))))))
                  clear HSt HBad HL HR HLL
                  clear q_l0 q_b0 q_l3 q_l258 q_d1 q_d32
                  go_wp2_with fail
                  refine wp_world (fun wz => Ext wr wz ∧ wz.heap.size = wr.heap.size + 1 ∧ Bk wz (wr.heap.size) #[.int .u8 (b.toNat : Int), .int .i64 l, .int .i64 d]) ⟨by repeat (first | exact Ext.refl _ | refine Ext.alloc ?_ _), by simp, by repeat (first | exact Bk.at (by simp) | refine Bk.old ?_)⟩ ?_
                  rintro wz ⟨hX, hZ, hB0⟩
                  have XZ := Lib.hid (HW.out.trans hX)
                  have hv := (HE.out.ext XZ.out).var 2 (by decide)
                  simp only [gk, sentV] at hv
                  clear hX hZ hB0 c0 c1 c2
                  go_region
                  all_goals
                    (try go_wp2_with fail)
                    go_ret2
                    exact exp_err XZ.out (by decide) (by omega) HB.out
                · have t_d32 : (decide (32768 < d)) = false := decide_eq_false q_d32
                  by_cases q_dL : (L : Int) < d
                  · have t_dL : (decide ((L : Int) < d)) = true := decide_eq_true q_dL
                    have HB : Hid (expL tk n = .bad 2 k) := Lib.hid (HBad.out 2 (stepX_bad HNL.out (by rw [HLL.out]; exact .inr (.inr (.inr (.inr (.inr (q_dL))))))))
                    clear HSt HBad HL HR HLL
                    clear q_l0 q_b0 q_l3 q_l258 q_d1 q_d32 q_dL
                    go_wp2_with fail
                    refine wp_world (fun wz => Ext wr wz ∧ wz.heap.size = wr.heap.size + 1 ∧ Bk wz (wr.heap.size) #[.int .u8 (b.toNat : Int), .int .i64 l, .int .i64 d]) ⟨by repeat (first | exact Ext.refl _ | refine Ext.alloc ?_ _), by simp, by repeat (first | exact Bk.at (by simp) | refine Bk.old ?_)⟩ ?_
                    rintro wz ⟨hX, hZ, hB0⟩
                    have XZ := Lib.hid (HW.out.trans hX)
                    have hv := (HE.out.ext XZ.out).var 2 (by decide)
                    simp only [gk, sentV] at hv
                    clear hX hZ hB0 c0 c1 c2
                    go_region
                    all_goals
                      (try go_wp2_with fail)
                      go_ret2
                      exact exp_err XZ.out (by decide) (by omega) HB.out
                  · have t_dL : (decide ((L : Int) < d)) = false := decide_eq_false q_dL
                    obtain ⟨l', hl'⟩ : ∃ l' : Nat, l = l' := ⟨l.toNat, by omega⟩
                    obtain ⟨d', hd'⟩ : ∃ d' : Nat, d = d' := ⟨d.toNat, by omega⟩
                    have HNB : Hid (¬ badP ⟨b, l, d⟩ out.length) := Lib.hid (by rw [HLL.out]; unfold badP; simp only [not_or]; exact ⟨q_b0, q_l3, q_l258, q_d1, q_d32, q_dL⟩)
                    have HLI := Lib.hid hl'
                    have HDI := Lib.hid hd'
                    by_cases qb : 300000 < L + l'
                    · have tq : decide ((300000 : Int) < (L : Int) + l) = true := decide_eq_true (by omega)
                      have HB : Hid (expL tk n = .bad 1 k) := Lib.hid (HBad.out 1 (stepX_copy_no HNL.out HNB.out (by exact HLI.out) (by rw [HLL.out]; exact qb)))
                      clear HSt HBad HL HR HLL
                      clear q_l0 q_b0 q_d1 q_d32 q_dL hl' hd'
                      go_wp2_with fail
                      refine wp_world (fun wz => Ext wr wz ∧ wz.heap.size = wr.heap.size + 1 ∧ Bk wz (wr.heap.size) #[.int .u8 (b.toNat : Int), .int .i64 l, .int .i64 d]) ⟨by repeat (first | exact Ext.refl _ | refine Ext.alloc ?_ _), by simp, by repeat (first | exact Bk.at (by simp) | refine Bk.old ?_)⟩ ?_
                      rintro wz ⟨hX, hZ, hB0⟩
                      have XZ := Lib.hid (HW.out.trans hX)
                      have hv := (HE.out.ext XZ.out).var 1 (by decide)
                      simp only [gk, sentV] at hv
                      clear hX hZ hB0 c0 c1 c2
                      go_region
                      all_goals
                        (try go_wp2_with fail)
                        go_ret2
                        exact exp_err XZ.out (by decide) (by omega) HB.out
                    · have tq : decide ((300000 : Int) < (L : Int) + l) = false := decide_eq_false (by omega)
                      have HS2 := Lib.hid (HSt.out.trans (stepX_copy HNL.out HNB.out HLI.out HDI.out (by rw [HLL.out]; omega)))
                      clear HSt HBad HL HNL HNB
                      clear q_l0 q_b0 q_d32
                      have hR : wr.ownsRow w.heap.size 5 1 (.slice xo L co) out.length (bytesV out) := by rw [HLL.out]; exact HR.out
                      have NB0 : Hid ((Value.slice xo L co).ownBlock ≠ some wr.heap.size) := Lib.hid (fun e => by have := (hR.lt _ e).2; omega)
                      have HR0 := Lib.hid (hR.alloc (.cells #[.int .u8 (b.toNat : Int), .int .i64 l, .int .i64 d] 84))
                      have BT0 : Hid (Bk (wr.alloc (.cells #[.int .u8 (b.toNat : Int), .int .i64 l, .int .i64 d] 84)) wr.heap.size #[.int .u8 (b.toNat : Int), .int .i64 l, .int .i64 d]) := Lib.hid (Bk.at rfl)
                      have HW0 := Lib.hid (HW.out.alloc (.cells #[.int .u8 (b.toNat : Int), .int .i64 l, .int .i64 d] 84))
                      clear hR
                      clear hl' hd'
                      go_wp2_with fail
                      clear c0 c1 c2 t_l0 t_b0 t_l3 t_l258 t_d1 t_d32 t_dL tq
                      obtain ⟨T, hT⟩ : ∃ T, wr.heap.size = T := ⟨_, rfl⟩
                      rw [hT] at BT0 NB0 ⊢
                      clear hT
                      go_loopw [4, 81] (fun v c wr => ∃ j : Nat, j ≤ l' ∧ c = .int .i64 j ∧ Hid (wr.ownsRow w.heap.size 5 1 v (copyL out d' j).length (bytesV (copyL out d' j))) ∧ Hid (Ext w wr) ∧ Hid (Bk wr T #[.int .u8 (b.toNat : Int), .int .i64 l, .int .i64 d]) ∧ Hid (v.ownBlock ≠ some T)) (fun _ c _ => l' - (intOf c).toNat)
                      case atStart => exact ⟨0, by omega, rfl, HR0, HW0, BT0, NB0⟩
                      case round =>
                        clear HR0 HW0 BT0 NB0 HR
                        obtain ⟨j, hj, rfl, HR, HW2, BT, NB⟩ := hrel
                        by_cases hlj : j < l'
                        · have hl' := HLI.out
                          have hd' := HDI.out
                          obtain ⟨U, hU⟩ : ∃ U, copyL out d' j = U := ⟨_, rfl⟩
                          have HUS : Hid (copyL out d' (j + 1) = U ++ [U.getD (U.length - d') 0]) := Lib.hid (by simp only [copyL, hU])
                          have hUl : U.length = L + j := by rw [← hU, copyL_length, HLL.out]
                          rw [hU] at HR
                          obtain ⟨M, hM⟩ : ∃ M, U.length = M := ⟨_, rfl⟩
                          rw [hM] at HR HUS hUl
                          have HM := Lib.hid hM
                          obtain ⟨y, hy⟩ : ∃ y, U.getD (M - d') 0 = y := ⟨_, rfl⟩
                          rw [hy] at HUS
                          obtain ⟨gb, cp, rfl, _, _⟩ := ownsRow_some HR.out (by omega)
                          obtain ⟨q, hq⟩ : ∃ q : Nat, M - d' = q := ⟨_, rfl⟩
                          have hc : wr.cell? ⟨gb, q, none⟩ = some (.int .u8 (y.toNat : Int)) := by
                            have hql : q < U.length := by omega
                            rw [HR.out.cellAt q (by omega), bytesV_get U q hql, ← hy, hq]
                            simp [List.getD, hql]
                          have hqI : (M : Int) - d = (q : Int) := by omega
                          have tj : decide ((j : Int) < l) = true := decide_eq_true (by omega)
                          have b2 := BT.out.cell 2
                          have hszx : w.heap.size ≤ wr.heap.size := HW2.out.size
                          have HTl := Lib.hid BT.out.lt
                          have hqM : q < M := by omega
                          have HUU := Lib.hid (And.intro hU hy)
                          have hM2 : M ≤ 300000 := by omega
                          clear hU hy hM hq hUl hl' hd' q_dL q_d1 q_l258 q_l3
                          go_wp2_with (at_builtin; refine wpList_append_own_at _ rfl _ _ 61 rfl w.heap.size 5 i0 (.int .u8 0) 1 1 Tryd.underlying61 hi0 hz0 hz1 hz2 rfl (by decide) _ _ _ rfl (HR.out.alloc _) ⟨wr.heap.size, 0, none⟩ 1 1 [.int .u8 (y.toNat : Int)] rfl rfl ?e1 (cells_one1 _) ?e3 ?e4 ?e5 ?_)
                          case e1 => exact (cell_one_new _ _ _)
                          case e3 => unfold maxLen; omega
                          case e4 => omega
                          case e5 => first | omega | (simp; omega)
                          intro v' w1 hown hgrow _ hat
                          have hRR : (wr.alloc (.cells #[.int .u8 (y.toNat : Int)] 5)).ownsRow w.heap.size 5 1 (.slice (some ⟨gb, 0, none⟩) M cp) U.length (bytesV U) := by rw [HM.out]; exact HR.out.alloc _
                          have Q := row_push (HW2.out.alloc _) hRR hgrow (by rw [HM.out]; exact hown)
                          have P1 := Lib.hid Q.1
                          have P2 := Lib.hid Q.2
                          have P3 := Lib.hid ((BT.out.old (o := .cells #[.int .u8 (y.toNat : Int)] 5)).keeps (Keeps.grown hgrow) NB.out)
                          have P4 : Hid (v'.ownBlock ≠ some T) := Lib.hid (by
                            rcases hat with e | e
                            · rw [e]; exact NB.out
                            · rw [e]; intro e2; injection e2 with e2; have q := HTl.out; first | omega | (rw [World.size_alloc] at e2; omega))
                          rw [← HUS.out] at P1
                          clear Q hown hgrow hRR hat hc b2 hqI tj
                          go_wp2_with fail
                          go_roundw
                          case rel => exact ⟨j + 1, by omega, by go_num, P1, P2, P3, P4⟩
                          case measure => simp [intOf]; omega
                        · obtain rfl : j = l' := by omega
                          have tj : decide ((j : Int) < l) = false := decide_eq_false (by have := HLI.out; omega)
                          go_wp2_with fail
                          go_roundw
                          case rel => exact ⟨k + 1, copyL out d' j, by omega, by go_num, HS2, HR, HW2⟩
                          case measure => simp [intOf]; omega
    · obtain rfl : k = n := by omega
      have hcr := row_conv HR.out
      go_wp2_with fail
      go_ret2
      exact exp_fin HW.out HL.out
end Go.Proofs.YtnhbjgmfbcedaaaDoor
namespace Go.Proofs.YtnhbjgmfbcedaaaDoor
open Go.RowKit
set_option linter.unusedSimpArgs false
set_option linter.unusedVariables false
set_option maxRecDepth 100000
/-- what packing tokens leaves: a text of bits, or an error with a place -/
def PkPost (w w' : World) (E : Nat → Addr) (r : XRes) (B : List Bool) (e : Ending) : Prop :=
  Ext w w' ∧ ((∃ out l, r = .ok out ∧ l.length = (B.length + 7) / 8 ∧ Crc.num l = Bts.val B ∧ e = .returned (.tuple #[.string ⟨l.toArray⟩, .nilIface])) ∨
    (∃ c i F : Nat, c < 9 ∧ (i : Int) ≤ 9223372036854775807 ∧ r = .bad c i ∧ e = .returned (.tuple #[.string ⟨#[]⟩, .iface 108 (.pointer (some ⟨F, 0, none⟩))]) ∧ w'.heap[F]? = some (.cells #[.int .i64 (i : Int), sentV (E c)] 112 (0, 0))))
theorem exp_many {tk : Nat → Tk} {n : Nat} {out : List UInt8} (h : expL tk n = .ok out) : n ≤ 300000 := by
  have h1 := (Dfl.means_exp n out h).many
  have h2 := expL_len h
  simp at h1
  omega
theorem exp_ok {tk : Nat → Tk} {n : Nat} {out : List UInt8} (h : expL tk n = .ok out) : ∀ i, i < n → (tk i).l = 0 ∨ (3 ≤ (tk i).l ∧ (tk i).l ≤ 258 ∧ 1 ≤ (tk i).d ∧ (tk i).d ≤ 32768) :=
  fun i hi => (Dfl.means_exp n out h).ok (tk i) (List.mem_map.2 ⟨i, List.mem_range.2 hi, rfl⟩)
theorem fixedD_any (x : Option Addr) (n cap : Nat) (tk : Nat → Tk) (w : World) (E : Nat → Addr) (hE : Errs w E) (hTb : Tabs w) (hx : Toks w x n tk) (hn : n ≤ maxLen) :
    Calls Tryd.prog 23 #[.slice x n cap] w fun e w' => PkPost w w' E (expL tk n) (Dfl.fixedB ((List.range n).map tk)) e := by
  have HE := Lib.hid hE
  have HX := Lib.hid hx
  have HTb := Lib.hid hTb
  clear hE hx hTb
  go_enter Tryd.func23, Tryd.ntmps23
  go_wp2_with fail
  refine (expand_any x n cap tk _ E HE.out HX.out hn).mono ?_
  rintro e w1 ⟨h1, hr⟩
  have X1 := Lib.hid h1
  clear h1
  rcases hr with ⟨out, ho, rfl⟩ | ⟨c, i, F, hc, hi, ho, rfl, hF⟩
  · have HO := Lib.hid ho
    clear ho
    go_wp2_with fail
    have hE1 := HE.out.ext X1.out
    refine (dfixed_any x n cap tk w1 (HX.out.ext X1.out) (HTb.out.ext X1.out) _ _ (hE1.var 1 (by decide)) (hE1.var 2 (by decide)) (Nat.le_trans (exp_many HO.out) (by decide)) (exp_ok HO.out)).mono ?_
    rintro e w2 ⟨⟨l, h1, h2, rfl⟩, hX⟩
    have HQ := Lib.hid (And.intro h1 h2)
    have X2 := Lib.hid (X1.out.trans hX)
    clear h1 h2 hX hE1
    go_wp2_with fail
    go_ret2
    exact ⟨X2.out, .inl ⟨out, l, HO.out, HQ.out.1, HQ.out.2, rfl⟩⟩
  · have HO := Lib.hid ho
    have HF := Lib.hid hF
    clear ho hF
    go_wp2_with fail
    go_ret2
    exact ⟨X1.out, .inr ⟨c, i, F, hc, hi, HO.out, rfl, HF.out⟩⟩
end Go.Proofs.YtnhbjgmfbcedaaaDoor
namespace Go.Proofs.YtnhbjgmfbcedaaaDoor
open Go.RowKit
set_option linter.unusedSimpArgs false
set_option linter.unusedVariables false
set_option maxRecDepth 100000
def natA (l : List Nat) : Array Value := (l.map fun z => Value.int .i64 ((z : Nat) : Int)).toArray
theorem natA_get (l : List Nat) (i : Nat) (hi : i < l.length) : (natA l)[i]? = some (.int .i64 ((l.getD i 0 : Nat) : Int)) := by
  unfold natA; simp [List.getD, hi]
theorem cs_natA {w : World} {t : TypeId} (l : List Nat) (A : Array Value) (n : Nat) (hA : A = natA l) (hn : l.length = n) : Cs (w.alloc (.cells A t)) w.heap.size n .i64 (fun i => ((l.getD i 0 : Nat) : Int)) := by
  intro i hi
  subst hA
  rw [World.cell?_alloc_at _ _ _ _ rfl, World.frozen?_alloc_at _ _ _ _ rfl]
  exact ⟨natA_get l i (by omega), rfl⟩
theorem qlens_any (w : World) : Calls Tryd.prog 60 #[] w fun e w' => ∃ C, e = .returned (.slice (some ⟨C, 0, none⟩) 29 29) ∧ w.heap.size ≤ C ∧ Cs w' C 29 .i64 (fun i => ((Inf.lensL.getD i 0 : Nat) : Int)) ∧ Ext w w' := by
  go_enter Tryd.func60, Tryd.ntmps60
  go_wp2_with fail
  go_ret
  exact ⟨_, rfl, Nat.le_refl _, cs_natA Inf.lensL _ 29 rfl rfl, (Ext.refl w).alloc _⟩
theorem qdists_any (w : World) : Calls Tryd.prog 61 #[] w fun e w' => ∃ C, e = .returned (.slice (some ⟨C, 0, none⟩) 30 30) ∧ w.heap.size ≤ C ∧ Cs w' C 30 .i64 (fun i => ((Inf.distsL.getD i 0 : Nat) : Int)) ∧ Ext w w' := by
  go_enter Tryd.func61, Tryd.ntmps61
  go_wp2_with fail
  go_ret
  exact ⟨_, rfl, Nat.le_refl _, cs_natA Inf.distsL _ 30 rfl rfl, (Ext.refl w).alloc _⟩
theorem lensB_is : ∀ k, k < 29 → Inf.lensB.getD k 0 = if k < 8 ∨ k = 28 then 0 else k / 4 - 1 := by decide
theorem distsB_is : ∀ k, k < 30 → Inf.distsB.getD k 0 = if k < 4 then 0 else k / 2 - 1 := by decide
theorem qlenBits_any (k : Nat) (hk : k < 29) (w : World) : Calls Tryd.prog 63 #[.int .i64 (k : Int)] w fun e w' => e = .returned (.int .i64 ((Inf.lensB.getD k 0 : Nat) : Int)) ∧ w' = w := by
  have hb := lensB_is k hk
  obtain ⟨z, hz⟩ : ∃ z, Inf.lensB.getD k 0 = z := ⟨_, rfl⟩
  rw [hz] at hb ⊢
  have HB := Lib.hid hb
  clear hb hz
  go_enter Tryd.func63, Tryd.ntmps63
  by_cases h8 : k < 8
  · have t1 : decide ((k : Int) < 8) = true := decide_eq_true (by omega)
    go_wp2_with fail
    go_ret
    exact ⟨by rw [HB.out, if_pos (.inl h8)]; rfl, rfl⟩
  · have t1 : decide ((k : Int) < 8) = false := decide_eq_false (by omega)
    by_cases h28 : k = 28
    · subst h28
      go_wp2_with fail
      go_ret
      exact ⟨by rw [HB.out, if_pos (.inr trivial)]; rfl, rfl⟩
    · have t2 : ((k : Int) == 28) = false := beq_eq_false_iff_ne.2 (by omega)
      have hq : (k : Int).tdiv 4 = ((k / 4 : Nat) : Int) := by rw [Int.tdiv_eq_ediv_of_nonneg (by omega)]; rfl
      have hd : ((k / 4 : Nat) : Int) - 1 = ((k / 4 - 1 : Nat) : Int) := by omega
      obtain ⟨d, hdd⟩ : ∃ d, k / 4 - 1 = d := ⟨_, rfl⟩
      have hdl : d ≤ 10 := by omega
      go_wp2_with fail
      go_ret
      refine ⟨ret_int ?_, rfl⟩
      rw [HB.out, if_neg (by omega), hdd]
      omega
theorem qdistBits_any (k : Nat) (hk : k < 30) (w : World) : Calls Tryd.prog 64 #[.int .i64 (k : Int)] w fun e w' => e = .returned (.int .i64 ((Inf.distsB.getD k 0 : Nat) : Int)) ∧ w' = w := by
  have hb := distsB_is k hk
  obtain ⟨z, hz⟩ : ∃ z, Inf.distsB.getD k 0 = z := ⟨_, rfl⟩
  rw [hz] at hb ⊢
  have HB := Lib.hid hb
  clear hb hz
  go_enter Tryd.func64, Tryd.ntmps64
  by_cases h8 : k < 4
  · have t1 : decide ((k : Int) < 4) = true := decide_eq_true (by omega)
    go_wp2_with fail
    go_ret
    exact ⟨by rw [HB.out, if_pos h8]; rfl, rfl⟩
  · have t1 : decide ((k : Int) < 4) = false := decide_eq_false (by omega)
    go_wp2_with fail
    go_ret
    refine ⟨ret_int ?_, rfl⟩
    rw [HB.out, if_neg h8]
    omega
end Go.Proofs.YtnhbjgmfbcedaaaDoor
namespace Go.Proofs.YtnhbjgmfbcedaaaDoor
open Go.RowKit
set_option linter.unusedSimpArgs false
set_option linter.unusedVariables false
set_option maxRecDepth 100000
theorem Dfl.plc_is {l : List Nat} {v n k : Nat} (hl : l.length = n) (hs : ∀ i j, i < j → j < n → l.getD i 0 < l.getD j 0) (h0 : l.getD 0 0 ≤ v) (hk : k < n) (h1 : l.getD k 0 ≤ v) (h2 : k + 1 < n → v < l.getD (k + 1) 0) : Dfl.plc l v = k := by
  obtain ⟨q1, q2, q3⟩ := Dfl.plcF_is h0 (l.length - 1)
  unfold Dfl.plc
  generalize Dfl.plcF l v (l.length - 1) = K at q1 q2 q3
  rcases Nat.lt_trichotomy k K with h | h | h
  · have := h2 (by omega)
    rcases Nat.lt_or_ge (k + 1) K with q | q
    · have := hs (k + 1) K q (by omega)
      omega
    · have : K = k + 1 := by omega
      subst this
      omega
  · exact h.symm
  · have := q3 k h (by omega)
    omega
theorem placeIn_any (C n v : Nat) (l : List Nat) (w : World) (hl : l.length = n) (hn2 : n ≤ 1000) (hn : 1 ≤ n) (hc : Cs w C n .i64 (fun i => ((l.getD i 0 : Nat) : Int))) (hs : ∀ i j, i < j → j < n → l.getD i 0 < l.getD j 0) (h0 : l.getD 0 0 ≤ v) (hv : v < 1000000000) :
    Calls Tryd.prog 59 #[.slice (some ⟨C, 0, none⟩) n n, .int .i64 (v : Int)] w fun e w' => e = .returned (.int .i64 ((Dfl.plc l v : Nat) : Int)) ∧ w' = w := by
  have HC := Lib.hid hc
  have HS := Lib.hid hs
  have H0 := Lib.hid h0
  have HL := Lib.hid hl
  clear hc hs h0 hl
  go_enter Tryd.func59, Tryd.ntmps59
  go_wp2_with fail
  go_loopw [5] (fun c wr => ∃ k : Nat, c = .int .i64 k ∧ k < n ∧ Hid (l.getD k 0 ≤ v) ∧ wr = w) (fun c _ => n - (intOf c).toNat)
  case atStart => exact ⟨0, rfl, by omega, H0, by first | rfl | trivial⟩
  case round =>
    obtain ⟨k, rfl, hk, HP, hw⟩ := hrel
    have hw2 := hw.symm
    clear hw
    subst hw2
    have wk : IntKind.i64.wrap ((k : Int) + 1) = ((k + 1 : Nat) : Int) := by rw [IntKind.wrap_i64]; omega
    obtain ⟨k1, hk1⟩ : ∃ k1, k + 1 = k1 := ⟨_, rfl⟩
    have e1 : (k : Int) + 1 = (k1 : Int) := by omega
    have w1 : IntKind.i64.wrap (k1 : Int) = (k1 : Int) := by rw [IntKind.wrap_i64]; omega
    have HK1 := Lib.hid hk1
    clear wk hk1
    by_cases hlt : k1 < n
    · have t0 : decide ((k1 : Int) < (n : Int)) = true := decide_eq_true (by omega)
      have c0 : w.cell? ⟨C, k1, none⟩ = some (.int .i64 ((l.getD k1 0 : Nat) : Int)) := (HC.out k1 hlt).1
      obtain ⟨x, hx⟩ : ∃ x, l.getD k1 0 = x := ⟨_, rfl⟩
      rw [hx] at c0
      have HX := Lib.hid hx
      clear hx
      have g0 : (0 : Int) ≤ (k1 : Int) := by omega
      by_cases hle : x ≤ v
      · have t1 : decide ((x : Int) ≤ (v : Int)) = true := decide_eq_true (by omega)
        have HN : Hid (l.getD k1 0 ≤ v) := Lib.hid (by rw [HX.out]; exact hle)
        go_wp2_with fail
        refine ⟨⟨k1, rfl, hlt, HN, by first | rfl | trivial⟩, by have := HK1.out; simp [intOf]; omega⟩
      · have t1 : decide ((x : Int) ≤ (v : Int)) = false := decide_eq_false (by omega)
        have HR : Hid (Dfl.plc l v = k) := Lib.hid (Dfl.plc_is HL.out HS.out H0.out hk HP.out (fun _ => by rw [HK1.out, HX.out]; omega))
        go_wp2_with fail
        go_ret
        exact ⟨by rw [HR.out]; rfl, by first | rfl | trivial⟩
    · have t0 : decide ((k1 : Int) < (n : Int)) = false := decide_eq_false (by omega)
      have HR : Hid (Dfl.plc l v = k) := Lib.hid (Dfl.plc_is HL.out HS.out H0.out hk HP.out (fun q => by have := HK1.out; omega))
      go_wp2_with fail
      go_ret
      exact ⟨by rw [HR.out]; rfl, by first | rfl | trivial⟩
theorem lensL_inc : ∀ i j, i < j → j < 29 → Inf.lensL.getD i 0 < Inf.lensL.getD j 0 := by
  have h : ∀ j, j < 29 → ∀ i, i < j → Inf.lensL.getD i 0 < Inf.lensL.getD j 0 := by decide
  intro i j h1 h2
  exact h j h2 i h1
theorem distsL_inc : ∀ i j, i < j → j < 30 → Inf.distsL.getD i 0 < Inf.distsL.getD j 0 := by
  have h : ∀ j, j < 30 → ∀ i, i < j → Inf.distsL.getD i 0 < Inf.distsL.getD j 0 := by decide
  intro i j h1 h2
  exact h j h2 i h1
end Go.Proofs.YtnhbjgmfbcedaaaDoor
namespace Go.Proofs.YtnhbjgmfbcedaaaDoor
open Go.RowKit
set_option linter.unusedSimpArgs false
set_option linter.unusedVariables false
set_option maxRecDepth 100000
theorem byte_any (k : Nat) (hk : k < 256) (w : World) : Calls Tryd.prog 33 #[.int .i64 (k : Int)] w fun e w' => e = .returned (.string ⟨#[UInt8.ofNat k]⟩) ∧ Ext w w' := by
  have hcr : (convert 61 9 (.slice (some ⟨w.heap.size, 0, none⟩) 1 1)).run Tryd.prog (w.alloc (.cells #[.int .u8 (k : Int)] 5)) = .ok (.string ⟨#[UInt8.ofNat k]⟩) (w.alloc (.cells #[.int .u8 (k : Int)] 5)) := by
    refine run_convert_bytes_back (P := Tryd.prog) (w.alloc (.cells #[.int .u8 (k : Int)] 5)) 61 9 5 ⟨w.heap.size, 0, none⟩ 1 [UInt8.ofNat k] Tryd.underlying61 Tryd.underlying5 Tryd.underlying9 (fun j hj => ?_)
    obtain rfl : j = 0 := by simpa using hj
    rw [add_plain]; simp; omega
  go_enter Tryd.func33, Tryd.ntmps33
  go_wp2_with fail
  go_ret
  exact ⟨rfl, (Ext.refl _).alloc _⟩
/-- bits as a text -/
@[irreducible] def bs (L : List Bool) : ByteArray := ⟨(Bts.str L).toArray⟩
theorem bs_list (L : List Bool) : (bs L).data.toList = Bts.str L := by unfold bs; rfl
theorem bs_size (L : List Bool) : (bs L).size = L.length := by show (bs L).data.size = _; rw [← Array.length_toList, bs_list, Bts.str_length]
theorem bytes_ext {a b : ByteArray} (h : a.data.toList = b.data.toList) : a = b := by
  obtain ⟨⟨a⟩⟩ := a; obtain ⟨⟨b⟩⟩ := b; simp at h; rw [h]
theorem bytes_cat (a b : ByteArray) : (a ++ b).data.toList = a.data.toList ++ b.data.toList := by simp
theorem bs_append (L M : List Bool) : bs L ++ bs M = bs (L ++ M) := bytes_ext (by rw [bytes_cat, bs_list, bs_list, bs_list, Bts.str_append])
theorem bs_one (b : Bool) : (⟨#[Bts.ch b]⟩ : ByteArray) = bs [b] := bytes_ext (by rw [bs_list]; rfl)
theorem bs_nil : ByteArray.empty = bs [] := bytes_ext (by rw [bs_list]; rfl)
theorem ch_of (y : Nat) : UInt8.ofNat (48 + y % 2) = Bts.ch (y % 2 == 1) := by
  rcases Nat.mod_two_eq_zero_or_one y with h | h <;> rw [h] <;> rfl
theorem bit_any (y : Nat) (w : World) : Calls Tryd.prog 33 #[.int .i64 (48 + (y : Int) % 2)] w fun e w' => e = .returned (.string (bs [y % 2 == 1])) ∧ Ext w w' := by
  have h := byte_any (48 + y % 2) (by omega) w
  rw [ch_of, bs_one] at h
  rw [show (48 + (y : Int) % 2) = ((48 + y % 2 : Nat) : Int) by omega]
  exact h
theorem low_any (x k : Nat) (hx : x < 4294967296) (hk : k ≤ 64) (w : World) : Calls Tryd.prog 62 #[.int .u32 (x : Int), .int .i64 (k : Int)] w fun e w' => e = .returned (.string (bs (Bts.low x k))) ∧ Ext w w' := by
  go_enter Tryd.func62, Tryd.ntmps62
  go_wp2_with fail
  rw [show ({ data := #[] } : ByteArray) = bs [] from bs_nil]
  go_loopw [0, 5, 6] (fun p o c wr => ∃ i : Nat, i ≤ k ∧ c = .int .i64 i ∧ p = .int .u32 ((x / 2 ^ i : Nat) : Int) ∧ o = .string (bs (Bts.low x i)) ∧ Hid (Ext w wr)) (fun _ _ c _ => k - (intOf c).toNat)
  case atStart => exact ⟨0, by omega, rfl, by simp, rfl, Lib.hid (Ext.refl w)⟩
  case round =>
    obtain ⟨i, hi, rfl, rfl, rfl, HX⟩ := hrel
    by_cases hlt : i < k
    · obtain ⟨y, hy⟩ : ∃ y, x / 2 ^ i = y := ⟨_, rfl⟩
      have hy2 : x / 2 ^ (i + 1) = y / 2 := by rw [Nat.pow_succ, ← Nat.div_div_eq_div_mul, hy]
      have hyl : y < 4294967296 := by rw [← hy]; exact Nat.lt_of_le_of_lt (Nat.div_le_self _ _) hx
      have HL : Hid (bs (Bts.low x i) ++ bs [y % 2 == 1] = bs (Bts.low x (i + 1))) := Lib.hid (by rw [bs_append, Bts.low, hy])
      have hz1 : (bs (Bts.low x i)).size ≤ 64 := by rw [bs_size, Bts.low_length]; omega
      have hz2 : (bs [y % 2 == 1]).size = 1 := by rw [bs_size]; rfl
      rw [hy]
      have HY2 := Lib.hid hy2
      clear hy hy2
      go_wp2_with fail
      refine (bit_any y _).mono ?_
      rintro e w2 ⟨rfl, hE⟩
      have HX2 := Lib.hid (HX.out.trans hE)
      clear hE
      go_wp2_with fail
      rw [HL.out]
      go_roundw
      case rel => exact ⟨i + 1, by omega, by go_num, by rw [HY2.out]; go_num, rfl, HX2⟩
      case measure => simp [intOf]; omega
    · obtain rfl : i = k := by omega
      go_wp2_with fail
      go_ret
      exact ⟨rfl, HX.out⟩
end Go.Proofs.YtnhbjgmfbcedaaaDoor
namespace Go.Proofs.YtnhbjgmfbcedaaaDoor
open Go.RowKit
set_option linter.unusedSimpArgs false
set_option linter.unusedVariables false
set_option maxRecDepth 100000
theorem high_any (x k : Nat) (hx : x < 4294967296) (hk : k ≤ 64) (w : World) : Calls Tryd.prog 41 #[.int .u32 (x : Int), .int .i64 (k : Int)] w fun e w' => e = .returned (.string (bs (Bts.high x k))) ∧ Ext w w' := by
  go_enter Tryd.func41, Tryd.ntmps41
  go_wp2_with fail
  rw [show ({ data := #[] } : ByteArray) = bs [] from bs_nil]
  go_loopw [0, 5, 6] (fun p o c wr => ∃ i : Nat, i ≤ k ∧ c = .int .i64 i ∧ p = .int .u32 ((x / 2 ^ i : Nat) : Int) ∧ o = .string (bs (Bts.high x i)) ∧ Hid (Ext w wr)) (fun _ _ c _ => k - (intOf c).toNat)
  case atStart => exact ⟨0, by omega, rfl, by simp, rfl, Lib.hid (Ext.refl w)⟩
  case round =>
    obtain ⟨i, hi, rfl, rfl, rfl, HX⟩ := hrel
    by_cases hlt : i < k
    · obtain ⟨y, hy⟩ : ∃ y, x / 2 ^ i = y := ⟨_, rfl⟩
      have hy2 : x / 2 ^ (i + 1) = y / 2 := by rw [Nat.pow_succ, ← Nat.div_div_eq_div_mul, hy]
      have hyl : y < 4294967296 := by rw [← hy]; exact Nat.lt_of_le_of_lt (Nat.div_le_self _ _) hx
      have HL : Hid (bs [y % 2 == 1] ++ bs (Bts.high x i) = bs (Bts.high x (i + 1))) := Lib.hid (by rw [bs_append, Bts.high, hy]; rfl)
      have hz1 : (bs (Bts.high x i)).size ≤ 64 := by rw [bs_size, Bts.high_length]; omega
      have hz2 : (bs [y % 2 == 1]).size = 1 := by rw [bs_size]; rfl
      rw [hy]
      have HY2 := Lib.hid hy2
      clear hy hy2
      go_wp2_with fail
      refine (bit_any y _).mono ?_
      rintro e w2 ⟨rfl, hE⟩
      have HX2 := Lib.hid (HX.out.trans hE)
      clear hE
      go_wp2_with fail
      rw [HL.out]
      go_roundw
      case rel => exact ⟨i + 1, by omega, by go_num, by rw [HY2.out]; go_num, rfl, HX2⟩
      case measure => simp [intOf]; omega
    · obtain rfl : i = k := by omega
      go_wp2_with fail
      go_ret
      exact ⟨rfl, HX.out⟩
end Go.Proofs.YtnhbjgmfbcedaaaDoor
namespace Go.Proofs.YtnhbjgmfbcedaaaDoor
open Go.RowKit
set_option linter.unusedSimpArgs false
set_option linter.unusedVariables false
set_option maxRecDepth 100000
theorem strinfo : (Tryd.prog.info? 9).map (fun i => (i.zero, i.size, i.bytes)) = some (some (.string ⟨#[]⟩), 1, 16) := by kernel_rfl
/-- where the document's count of words stands: at length n, element i, the last word had length l and number c -/
def CodeAt (f : Nat → Int) (len n i l c : Nat) : Prop :=
  l ≤ n ∧ c < 32768 ∧ (l = 0 → c = 0 ∧ first f len n + many f n i = 0) ∧ (0 < l → first f len n + many f n i = (c + 1) * 2 ^ (n - l))
theorem CodeAt.skip {f : Nat → Int} {len n i l c : Nat} (h : CodeAt f len n i l c) (hf : ¬ f i = n) : CodeAt f len n (i + 1) l c := by
  unfold CodeAt at *; rw [many_not f n i hf]; exact h
theorem CodeAt.next {f : Nat → Int} {len n l c : Nat} (h : CodeAt f len n len l c) (hn : 1 ≤ n) : CodeAt f len (n + 1) 0 l c := by
  obtain ⟨h1, h2, h3, h4⟩ := h
  refine ⟨by omega, h2, fun q => ?_, fun q => ?_⟩
  · obtain ⟨q1, q2⟩ := h3 q
    refine ⟨q1, ?_⟩
    rw [first_succ f len n hn, q2]; rfl
  · have q2 := h4 q
    rw [first_succ f len n hn, q2, show many f (n + 1) 0 = 0 from rfl, Nat.add_zero, show n + 1 - l = (n - l) + 1 by omega, Nat.pow_succ, Nat.mul_assoc]
theorem CodeAt.start (f : Nat → Int) (len : Nat) : CodeAt f len 1 0 0 0 := ⟨by omega, by omega, fun _ => ⟨rfl, rfl⟩, fun h => by omega⟩
/-- the word of element i, of length n -/
theorem CodeAt.hit {f : Nat → Int} {len n i l c : Nat} (_h : CodeAt f len n i l c) (hf : f i = n) (hn : 1 ≤ n) (hw : first f len n + many f n i < 32768) :
    CodeAt f len n (i + 1) n (first f len n + many f n i) ∧ word f len i = first f len n + many f n i := by
  refine ⟨⟨by omega, hw, fun q => by omega, fun _ => ?_⟩, ?_⟩
  · rw [many_at f n i hf, Nat.sub_self, Nat.pow_zero]; omega
  · unfold word; rw [if_pos (by omega), hf]; rfl
def outAt (f : Nat → Int) (len n i j : Nat) : Value := if 1 ≤ f j ∧ (f j < n ∨ (f j = n ∧ j < i)) then .string (bs (Bts.high (word f len j) (f j).toNat)) else .string (bs [])
set_option maxHeartbeats 4000000 in
theorem codesOf_any (x : Option Addr) (len cap : Nat) (f : Nat → Int) (w : World) (hx : Ints w x len f) (hb : inBounds f len) (hc : complete f len) :
    Calls Tryd.prog 46 #[.slice x len cap] w fun e w' => (∃ B, w.heap.size ≤ B ∧ e = .returned (.slice (some ⟨B, 0, none⟩) len len) ∧ Cv w' B len (fun i => .string (bs (Bts.high (word f len i) (f i).toNat)))) ∧ Ext w w' := by
  have hl := hb.1
  have HX := Lib.hid hx
  have HB := Lib.hid hb
  have HC := Lib.hid hc
  have hmk := fun w => run_make_row' (P := Tryd.prog) 68 9 (.string ⟨#[]⟩) 16 Tryd.underlying68 strinfo rfl .i64 .i64 len (by omega) (by omega) w
  clear hx hb hc
  go_enter Tryd.func46, Tryd.ntmps46
  go_wp2_with fail
  clear hmk
  have HR0 : Hid (Cv (w.alloc (.cells (madeCells #[.string ⟨#[]⟩] len) 9)) w.heap.size len (outAt f len 1 0)) := Lib.hid ((Cv.made w len _ _).congr (fun j hj => by
    unfold outAt
    rw [if_neg (by omega)]
    exact congrArg Value.string bs_nil.symm))
  have HX0 : Hid (Ext w (w.alloc (.cells (madeCells #[.string ⟨#[]⟩] len) 9))) := Lib.hid ((Ext.refl w).alloc _)
  go_loopw [4, 5, 6] (fun u v q wr => ∃ n l c : Nat, 1 ≤ n ∧ n ≤ 16 ∧ q = .int .i64 n ∧ v = .int .i64 l ∧ u = .int .u32 c ∧ Hid (CodeAt f len n 0 l c) ∧ Hid (Cv wr w.heap.size len (outAt f len n 0)) ∧ Hid (Ext w wr)) (fun _ _ q _ => 16 - (intOf q).toNat)
  case atStart => exact ⟨1, 0, 0, by omega, by omega, rfl, rfl, rfl, Lib.hid (CodeAt.start f len), HR0, HX0⟩
  case round =>
    obtain ⟨n, l, c, hn1, hn2, rfl, rfl, rfl, HCA, HR, HE⟩ := hrel
    by_cases hlt : n < 16
    · have tn : decide ((n : Int) ≤ 15) = true := decide_eq_true (by omega)
      go_wp2_with fail
      go_loopw [4, 5, 7] (fun u v q wr => ∃ i l c : Nat, i ≤ len ∧ q = .int .i64 i ∧ v = .int .i64 l ∧ u = .int .u32 c ∧ Hid (CodeAt f len n i l c) ∧ Hid (Cv wr w.heap.size len (outAt f len n i)) ∧ Hid (Ext w wr)) (fun _ _ q _ => len - (intOf q).toNat)
      case atStart => exact ⟨0, l, c, by omega, rfl, rfl, rfl, HCA, HR, HE⟩
      case round =>
        clear HCA HR HE
        obtain ⟨i, l, c, hi, rfl, rfl, rfl, HCA, HR, HE⟩ := hrel
        by_cases hil : i < len
        · obtain ⟨a, rfl⟩ : ∃ a, x = some a := by
            cases x with
            | none => have := HX.out.1 rfl; omega
            | some a => exact ⟨a, rfl⟩
          obtain ⟨hcell, f1, f2⟩ := (HX.out.ext HE.out).2 a rfl i hil
          by_cases hfn : f i = n
          · have hwl := word_lt f len HC.out i n hil hfn hn1 (by omega)
            obtain ⟨W, hW⟩ : ∃ W, first f len n + many f n i = W := ⟨_, rfl⟩
            have hW15 : W < 32768 := by omega
            have hhit := CodeAt.hit HCA.out hfn hn1 (by omega)
            rw [hW] at hhit
            have HCA2 := Lib.hid hhit.1
            have HW := Lib.hid hhit.2
            have hln := HCA.out.1
            have hc15 := HCA.out.2.1
            have HR2 : Hid (∀ wz, Cv wz w.heap.size len (outAt f len n i) → Cv (wz.setCell ⟨w.heap.size, i, none⟩ (.string (bs (Bts.high W n)))) w.heap.size len (outAt f len n (i + 1))) := Lib.hid (fun wz hz => hz.put i _ _ hil (fun j _ => by
              unfold outAt
              by_cases hj : j = i
              · subst hj; rw [if_pos (by omega), if_pos rfl, HW.out, hfn]; rfl
              · rw [if_neg hj]
                by_cases h2 : 1 ≤ f j ∧ (f j < n ∨ (f j = n ∧ j < i))
                · rw [if_pos h2, if_pos (by omega)]
                · rw [if_neg h2, if_neg (by omega)]))
            have t1 : ((f i) != (n : Int)) = false := by rw [hfn]; simp
            rw [hfn] at hcell t1
            by_cases hl0 : l = 0
            · have hW0 : W = 0 := by rw [← hW]; exact (HCA.out.2.2.1 hl0).2
              have hc0 : c = 0 := (HCA.out.2.2.1 hl0).1
              obtain rfl : W = c := by omega
              have t2 : decide ((0 : Int) < (l : Int)) = false := decide_eq_false (by omega)
              have hlz : l ≤ 0 := by omega
              clear hwl hW hfn hhit f1 f2 hl0 hc0 hW0
              go_wp2_with fail
              refine (high_any W n (by omega) (by omega) _).mono ?_
              rintro e w5 ⟨rfl, h5⟩
              have HE5 := Lib.hid (HE.out.trans h5)
              have HR5 := Lib.hid (HR.out.ext h5)
              obtain ⟨c5, z5⟩ := HR5.out i hil
              clear h5 hcell
              go_wp2_with fail
              go_roundw
              case rel => exact ⟨i + 1, n, W, by omega, by go_num, rfl, rfl, HCA2, Lib.hid (HR2.out _ HR5.out), Lib.hid (Below.setCell HE5.out (by simp) _)⟩
              case measure => first | (simp [intOf]; done) | (simp [intOf]; omega)
            · have hWe : W = (c + 1) * 2 ^ (n - l) := by rw [← hW]; exact HCA.out.2.2.2 (by omega)
              obtain ⟨d, hd⟩ : ∃ d, n - l = d := ⟨_, rfl⟩
              have hd2 : (n : Int) - (l : Int) = (d : Int) := by omega
              rw [hd] at hWe
              have hm : ((c : Int) + 1) * 2 ^ d = (W : Int) := by rw [hWe]; simp
              have hlp : 0 < l := by omega
              clear hwl hW hfn hhit f1 f2 hd hWe hl0
              go_wp2_with fail
              refine (high_any W n (by omega) (by omega) _).mono ?_
              rintro e w5 ⟨rfl, h5⟩
              have HE5 := Lib.hid (HE.out.trans h5)
              have HR5 := Lib.hid (HR.out.ext h5)
              obtain ⟨c5, z5⟩ := HR5.out i hil
              clear h5 hcell
              go_wp2_with fail
              go_roundw
              case rel => exact ⟨i + 1, n, W, by omega, by go_num, rfl, rfl, HCA2, Lib.hid (HR2.out _ HR5.out), Lib.hid (Below.setCell HE5.out (by simp) _)⟩
              case measure => first | (simp [intOf]; done) | (simp [intOf]; omega)
          · have t1 : ((f i) != (n : Int)) = true := by rw [bne_iff_ne]; exact hfn
            have HCA2 := Lib.hid (HCA.out.skip hfn)
            have HR2 : Hid (Cv wr w.heap.size len (outAt f len n (i + 1))) := Lib.hid (HR.out.congr (fun j _ => by
              unfold outAt
              by_cases h2 : 1 ≤ f j ∧ (f j < n ∨ (f j = n ∧ j < i))
              · rw [if_pos h2, if_pos (by omega)]
              · rw [if_neg h2, if_neg (by intro h3; apply h2; refine ⟨h3.1, ?_⟩; rcases h3.2 with q | ⟨q1, q2⟩; exact .inl q; right; refine ⟨q1, ?_⟩; rcases Nat.lt_succ_iff_lt_or_eq.1 q2 with q3 | q3; exact q3; subst q3; exact absurd q1 hfn)]))
            clear hfn
            go_wp2_with fail
            go_roundw
            case rel => exact ⟨i + 1, l, c, by omega, by go_num, rfl, rfl, HCA2, HR2, HE⟩
            case measure => simp [intOf]; omega
        · obtain rfl : i = len := by omega
          have HCA2 := Lib.hid (HCA.out.next hn1)
          have HR2 : Hid (Cv wr w.heap.size i (outAt f i (n + 1) 0)) := Lib.hid (HR.out.congr (fun j hj => by
            unfold outAt
            by_cases h2 : 1 ≤ f j ∧ (f j < n ∨ (f j = n ∧ j < i))
            · rw [if_pos h2, if_pos (by omega)]
            · rw [if_neg h2, if_neg (by omega)]))
          go_wp2_with fail
          go_roundw
          case rel => exact ⟨n + 1, l, c, by omega, by omega, by go_num, rfl, rfl, HCA2, HR2, HE⟩
          case measure => simp [intOf]; omega
    · obtain rfl : n = 16 := by omega
      go_wp2_with fail
      go_ret
      refine ⟨⟨w.heap.size, Nat.le_refl _, rfl, HR.out.congr (fun j hj => ?_)⟩, HE.out⟩
      have q := HB.out.2 j hj
      unfold outAt
      by_cases h2 : 1 ≤ f j
      · rw [if_pos (by omega)]
      · have h0 : f j = 0 := by omega
        rw [if_neg (by omega), h0]; rfl
end Go.Proofs.YtnhbjgmfbcedaaaDoor
