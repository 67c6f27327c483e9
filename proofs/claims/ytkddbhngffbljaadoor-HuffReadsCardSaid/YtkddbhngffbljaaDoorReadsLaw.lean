/- Symbols written by their words and read again: plain laws. -/
import Derived.Test.YtkddbhngffbljaaDoorNext
namespace Go.Proofs.YtkddbhngffbljaaDoor
open Go.RowKit
/-- how many bits symbols take, and what number they make -/
def posW (f : Nat → Int) : List Nat → Nat
  | [] => 0
  | k :: l => (f k).toNat + posW f l
def vsW (f : Nat → Int) (len : Nat) : List Nat → Nat
  | [] => 0
  | k :: l => Bts.val (Bts.high (word f len k) (f k).toNat) + 2 ^ (f k).toNat * vsW f len l
theorem posW_append (f : Nat → Int) (l m : List Nat) : posW f (l ++ m) = posW f l + posW f m := by
  induction l with
  | nil => simp [posW]
  | cons k l ih => simp only [List.cons_append, posW, ih]; omega
theorem vsW_append (f : Nat → Int) (len : Nat) (l m : List Nat) : vsW f len (l ++ m) = vsW f len l + 2 ^ posW f l * vsW f len m := by
  induction l with
  | nil => simp [posW, vsW]
  | cons k l ih => simp only [List.cons_append, posW, vsW, ih, Nat.mul_add, Nat.pow_add, Nat.mul_assoc]; omega
theorem vsW_lt (f : Nat → Int) (len : Nat) (l : List Nat) : vsW f len l < 2 ^ posW f l := by
  induction l with
  | nil => exact (by decide : 0 < 1)
  | cons k l ih =>
    simp only [posW, vsW, Nat.pow_add]
    have h := Bts.val_lt (Bts.high (word f len k) (f k).toNat)
    rw [Bts.high_length] at h
    have h2 : 2 ^ (f k).toNat * vsW f len l + 2 ^ (f k).toNat ≤ 2 ^ (f k).toNat * 2 ^ posW f l := by rw [← Nat.mul_succ]; exact Nat.mul_le_mul_left _ ih
    omega
theorem vsW_snoc (f : Nat → Int) (len : Nat) (l : List Nat) (k m : Nat) (hk : f k = m) : vsW f len (l ++ [k]) = vsW f len l + Bts.val (Bts.high (word f len k) m) * 2 ^ posW f l ∧ posW f (l ++ [k]) = posW f l + m := by
  rw [vsW_append, posW_append]
  simp only [vsW, posW, hk, Int.toNat_natCast]
  rw [Nat.mul_zero, Nat.add_zero, Nat.mul_comm]
  exact ⟨rfl, by omega⟩
theorem posW_le (f : Nat → Int) (l : List Nat) (h : ∀ k, k ∈ l → f k ≤ 15) : posW f l ≤ 15 * l.length := by
  induction l with
  | nil => exact Nat.le_refl _
  | cons k l ih =>
    have h1 := ih fun j hj => h j (List.mem_cons_of_mem _ hj)
    have h2 := h k (List.mem_cons_self)
    simp only [posW, List.length_cons]; omega
theorem word_lt2 (f : Nat → Int) (len k m : Nat) (hc : complete f len) (hk : k < len) (hf : f k = m) (h1 : 1 ≤ m) (h2 : m ≤ 15) : word f len k < first f len m + many f m len ∧ word f len k < 2 ^ m := by
  have hw : word f len k = first f len m + many f m k := by unfold word; rw [if_pos (by omega), hf]; rfl
  have := word_lt f len hc k m hk hf h1 h2
  omega
/-- what comes next where a symbol's word stands -/
theorem next_word {w' : World} {e : Ending} {B o a len k m : Nat} {s : ByteArray} {E : Nat → Addr} {f : Nat → Int} (h : NextIs w' e B o s a f len E) (hc : complete f len) (hk : k < len) (hf : f k = m) (h1 : 1 ≤ m) (h2 : m ≤ 15)
    (hs : a + m ≤ 8 * s.size) (hv : codeAt (Crc.num s.data.toList) a m = word f len k) : e = .returned (.tuple #[.int .i64 (k : Int), .nilIface]) ∧ RAt w' B o s (a + m) := by
  have hN := nohit_word hf h1 hv
  have hlt := (word_lt2 f len k m hc hk hf h1 h2).1
  rcases h with ⟨n, k', q1, q2, _, qN, q5, q6, q7, he, hR⟩ | ⟨hA, _, _⟩
  · have hlt' := (word_lt2 f len k' n hc q5 q6 q1 q2).1
    have hnm : n = m := by
      rcases Nat.lt_trichotomy n m with q | q | q
      · have := hN n q1 (by omega); omega
      · exact q
      · have := qN m h1 (by omega); omega
    subst hnm
    have hkk : k' = k := by
      rcases Nat.decEq k' k with q | q
      · have := apart f len k k' hk (fun e => q e.symm) (by omega) (by omega)
        rw [q6, hf, Int.sub_self, Int.toNat_zero, Nat.pow_zero, Nat.div_one, q7, hv] at this
        exact absurd rfl this
      · exact q
    subst hkk
    exact ⟨he, hR⟩
  · have := hA m h2 hs m h1 (Nat.le_refl _)
    omega
/-- the word that stands at a place of what was written -/
theorem code_there (f : Nat → Int) (len : Nat) (l r : List Nat) (k m : Nat) (hc : complete f len) (hk : k < len) (hf : f k = m) (h1 : 1 ≤ m) (h2 : m ≤ 15) : codeAt (vsW f len (l ++ k :: r)) (posW f l) m = word f len k := by
  have hw := (word_lt2 f len k m hc hk hf h1 h2).2
  rw [codeAt_high (word f len k) m, Nat.mod_eq_of_lt hw]
  rw [vsW_append, Nat.add_mul_div_left _ _ (Nat.two_pow_pos _), Nat.div_eq_of_lt (vsW_lt f len l), Nat.zero_add]
  simp only [vsW, hf, Int.toNat_natCast]
  rw [Nat.add_mul_mod_self_left]
  have h := Bts.val_lt (Bts.high (word f len k) m)
  rw [Bts.high_length] at h
  exact Nat.mod_eq_of_lt h
/-- which of numbers are symbols of a code -/
def toldL (f g : Nat → Int) (len : Nat) : Nat → List Nat
  | 0 => []
  | i + 1 => toldL f g len i ++ (if 0 ≤ g i ∧ g i < len ∧ f (g i).toNat ≠ 0 then [(g i).toNat] else [])
theorem toldL_no (f g : Nat → Int) (len i : Nat) (h : ¬ (0 ≤ g i ∧ g i < len ∧ f (g i).toNat ≠ 0)) : toldL f g len (i + 1) = toldL f g len i := by simp only [toldL]; rw [if_neg h, List.append_nil]
theorem toldL_yes (f g : Nat → Int) (len i k : Nat) (h : g i = k) (hk : k < len) (hf : f k ≠ 0) : toldL f g len (i + 1) = toldL f g len i ++ [k] := by
  simp only [toldL]; rw [if_pos ⟨by omega, by omega, by rw [h]; exact hf⟩, h]; rfl
theorem toldL_len (f g : Nat → Int) (len : Nat) : ∀ i, (toldL f g len i).length ≤ i := by
  intro i
  induction i with
  | zero => exact Nat.le_refl _
  | succ i ih => simp only [toldL, List.length_append]; split <;> simp <;> omega
theorem toldL_mem (f g : Nat → Int) (len : Nat) : ∀ i k, k ∈ toldL f g len i → k < len ∧ f k ≠ 0 := by
  intro i
  induction i with
  | zero => intro k h; cases h
  | succ i ih =>
    intro k h
    simp only [toldL, List.mem_append] at h
    rcases h with h | h
    · exact ih k h
    · split at h
      · rw [List.mem_singleton.1 h]; rename_i q; exact ⟨by omega, q.2.2⟩
      · cases h
theorem ownsRow_ne {w : World} {b b' e e' s s' n n' : Nat} {v v' : Value} {xs xs' : List Value} (h : w.ownsRow b e s v n xs) (h' : w.ownsRow b' e' s' v' n' xs') (hne : e ≠ e') : ∀ k, v.ownBlock = some k → v'.ownBlock ≠ some k := by
  intro k hk hk'
  rcases h.2 with ⟨rfl, _⟩ | ⟨g, cap, cur, rfl, _, hh, _⟩
  · cases hk
  · rcases h'.2 with ⟨rfl, _⟩ | ⟨g', cap', cur', rfl, _, hh', _⟩
    · cases hk'
    · have e1 : g = k := by simpa [Value.ownBlock] using hk
      have e2 : g' = k := by simpa [Value.ownBlock] using hk'
      subst e1; subst e2
      rw [hh] at hh'
      injection hh' with q; injection q with _ q2
      exact hne q2
theorem wat_kept {S : Nat → Prop} {w w' : World} {B o V n : Nat} {v : Value} (h : WAt w B o v V n) (hk : Keeps S w w') (hB : ¬ S B) (hv : ∀ k, v.ownBlock = some k → ¬ S k) : WAt w' B o v V n := by
  have hlt : B < w.heap.size := World.block_lt_of_cell? w _ h.c0
  obtain ⟨l, h1, h2, h3⟩ := h.row
  exact ⟨(hk.cell hlt hB).trans h.c0, (hk.cell hlt hB).trans h.c1, (hk.frozen hlt hB).trans h.f0, (hk.frozen hlt hB).trans h.f1, ⟨l, h1, h2, ownsRow_kept h3 hk hv⟩, h.apart, h.lt⟩
/-- a writer and a row of numbers beside it, both newer than H -/
structure WR (w0 w : World) (W0 : Nat) (u : Value) (V n : Nat) (t : Value) (l : List Nat) : Prop where
  ext : Ext w0 w
  wat : WAt w W0 0 u V n
  row : w.ownsRow 0 3 1 t l.length (symV l)
  wn : w0.heap.size ≤ W0
  un : ∀ k, u.ownBlock = some k → w0.heap.size ≤ k
  tn : ∀ k, t.ownBlock = some k → w0.heap.size ≤ k ∧ k ≠ W0
theorem WR.apart {w0 w : World} {W0 : Nat} {u : Value} {V n : Nat} {t : Value} {l : List Nat} (h : WR w0 w W0 u V n t l) : ∀ k, u.ownBlock = some k → t.ownBlock ≠ some k := by
  obtain ⟨b, _, _, hb⟩ := h.wat.row
  exact ownsRow_ne hb h.row (by decide)
theorem WR.written {w0 w w' : World} {W0 : Nat} {u u' : Value} {V n V' n' : Nat} {t : Value} {l : List Nat} (h : WR w0 w W0 u V n t l) (hA : WAt w' W0 0 u' V' n') (hS : WStep w w' W0 0 u u') : WR w0 w' W0 u' V' n' t l :=
  ⟨Below.trans h.ext (hS.below h.wn h.un h.ext.size), hA, ownsRow_kept h.row hS.keeps (fun k hk q => by
    rcases q with q | q
    · exact (h.tn k hk).2 q
    · exact h.apart k q hk), h.wn, hS.own h.un h.ext.size, h.tn⟩
theorem WR.drew {w0 w : World} {W0 : Nat} {u : Value} {V n : Nat} {t : Value} {l : List Nat} (h : WR w0 w W0 u V n t l) : WR w0 w.drew W0 u V n t l :=
  ⟨h.ext.drew, ⟨h.wat.c0, h.wat.c1, h.wat.f0, h.wat.f1, h.wat.row, h.wat.apart, h.wat.lt⟩, h.row, h.wn, h.un, h.tn⟩
theorem WR.pushed {w0 w w' : World} {W0 : Nat} {u : Value} {V n : Nat} {t t' : Value} {l : List Nat} {o : Obj} {k : Nat} (h : WR w0 w W0 u V n t l) (hgrow : (w.alloc o).grownBy w' t.ownBlock)
    (hown : w'.ownsRow 0 3 1 t' (l.length + 1) (symV l ++ [.int .i64 (k : Int)])) (hat : t'.ownBlock = t.ownBlock ∨ t'.ownBlock = some (w.heap.size + 1)) : WR w0 w' W0 u V n t' (l ++ [k]) := by
  have hk : Keeps (fun k => t.ownBlock = some k) w w' := Keeps.trans (Keeps.alloc (Keeps.refl (fun k => t.ownBlock = some k) w) o) (Keeps.grown hgrow) (fun _ _ q => q)
  have hW : W0 < w.heap.size := World.block_lt_of_cell? w _ h.wat.c0
  refine ⟨?_, wat_kept h.wat hk (fun q => (h.tn _ q).2 rfl) (fun k hk q => h.apart k hk q), ?_, h.wn, h.un, ?_⟩
  · exact Below.trans h.ext (hk.below h.ext.size (fun k hk q => by have := (h.tn k q).1; omega))
  · have e : symV (l ++ [k]) = symV l ++ [.int .i64 (k : Int)] := by simp [symV]
    rw [e, List.length_append]; exact hown
  · intro j hj
    rcases hat with q | q
    · rw [q] at hj; exact h.tn j hj
    · rw [q] at hj; injection hj with hj; have := h.ext.size; omega
theorem symV_ints (l : List Nat) : symV l = intsV l.length (fun i => ((l.getD i 0 : Nat) : Int)) := by
  apply List.ext_getElem?
  intro i
  rcases Nat.lt_or_ge i l.length with h | h
  · rw [intsV_get _ _ _ h]; simp [symV, h]
  · rw [List.getElem?_eq_none (by simpa [symV] using h), List.getElem?_eq_none (by simpa [intsV] using h)]
theorem told_ints {w : World} {b : Nat} {t : Value} {l : List Nat} (h : w.ownsRow b 3 1 t l.length (symV l)) (hl : ∀ k, k ∈ l → k ≤ 1000) : ∃ x c, t = .slice x l.length c ∧ Ints w x l.length (fun i => ((l.getD i 0 : Nat) : Int)) := by
  rw [symV_ints] at h
  exact Ints.of_own h (fun i hi => by
    have hm : l.getD i 0 ∈ l := by simp [List.getD, hi]
    have := hl _ hm; omega)
theorem take_split (l : List Nat) (j k : Nat) (h : l[j]? = some k) : l = l.take j ++ k :: l.drop (j + 1) ∧ l.take (j + 1) = l.take j ++ [k] := by
  have hj : j < l.length := by
    rcases Nat.lt_or_ge j l.length with q | q
    · exact q
    · rw [List.getElem?_eq_none q] at h; cases h
  rw [List.getElem?_eq_getElem hj] at h
  injection h with h
  refine ⟨?_, by rw [List.take_succ_eq_append_getElem hj, h]⟩
  rw [← h, List.getElem_cons_drop hj, List.take_append_drop]
end Go.Proofs.YtkddbhngffbljaaDoor
