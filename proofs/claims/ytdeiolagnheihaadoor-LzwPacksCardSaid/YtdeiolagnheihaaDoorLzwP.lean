/- LZW's packing: the plain machine; of its words the longest is the one that greed finds. No function of the program is named. -/
import Derived.Test.YtdeiolagnheihaaDoorLzwS
import Derived.Test.YtdeiolagnheihaaDoorBitS
namespace Go.Proofs.YtdeiolagnheihaaDoor.Lz
open Go.RowKit
set_option maxRecDepth 100000
/-- the longest word of the list that stands at a place, the first i looked at: its length and its code -/
def bst (c : Nat) (L : List ByteArray) (s : ByteArray) (a : Nat) : Nat → Nat × Nat
  | 0 => (1, (s.data.toList.getD a 0).toNat)
  | i + 1 => if (bst c L s a i).1 < (L.getD i ByteArray.empty).size ∧ a + (L.getD i ByteArray.empty).size ≤ s.size ∧ s.extract a (a + (L.getD i ByteArray.empty).size) = L.getD i ByteArray.empty
      then ((L.getD i ByteArray.empty).size, c + 2 + i) else bst c L s a i
def best (c : Nat) (L : List ByteArray) (s : ByteArray) (a : Nat) : Nat × Nat := bst c L s a L.length
def grow (c : Nat) (L : List ByteArray) (size : Nat) : Nat := if c + 2 + L.length = 2 ^ size ∧ size < 12 then size + 1 else size
theorem bst_pos (c : Nat) (L : List ByteArray) (s : ByteArray) (a i : Nat) : 1 ≤ (bst c L s a i).1 := by
  induction i with
  | zero => exact Nat.le_refl _
  | succ i ih => simp only [bst]; split <;> omega
def pk (c wd : Nat) (s : ByteArray) (L : List ByteArray) (size a : Nat) (B : List Bool) : List Bool :=
  if _h : a < s.size then
    if s.size ≤ a + (best c L s a).1 then B ++ Bts.low (best c L s a).2 size ++ Bts.low (c + 1) (grow c L size)
    else if c + 2 + L.length + 1 = 4096 then pk c wd s [] (wd + 1) (a + (best c L s a).1) (B ++ Bts.low (best c L s a).2 size ++ Bts.low c (grow c L size))
    else pk c wd s (L ++ [s.extract a (a + (best c L s a).1 + 1)]) (grow c L size) (a + (best c L s a).1) (B ++ Bts.low (best c L s a).2 size)
  else B ++ Bts.low (c + 1) size
termination_by s.size - a
decreasing_by all_goals (have := bst_pos c L s a L.length; unfold best; omega)
theorem pk_none {c wd : Nat} {s : ByteArray} {L : List ByteArray} {size a : Nat} {B : List Bool} (h : s.size ≤ a) : pk c wd s L size a B = B ++ Bts.low (c + 1) size := by
  rw [pk, dif_neg (by omega)]
theorem pk_last {c wd m k : Nat} {s : ByteArray} {L : List ByteArray} {size a : Nat} {B : List Bool} (h : a < s.size) (hb : best c L s a = (m, k)) (hm : s.size ≤ a + m) :
    pk c wd s L size a B = B ++ Bts.low k size ++ Bts.low (c + 1) (grow c L size) := by
  rw [pk, dif_pos h, hb, if_pos hm]
theorem pk_full {c wd m k : Nat} {s : ByteArray} {L : List ByteArray} {size a : Nat} {B : List Bool} (h : a < s.size) (hb : best c L s a = (m, k)) (hm : a + m < s.size) (hf : c + 2 + L.length + 1 = 4096) :
    pk c wd s L size a B = pk c wd s [] (wd + 1) (a + m) (B ++ Bts.low k size ++ Bts.low c (grow c L size)) := by
  rw [pk, dif_pos h, hb, if_neg (by show ¬ s.size ≤ a + m; omega), if_pos hf]
theorem pk_more {c wd m k : Nat} {s : ByteArray} {L : List ByteArray} {size a : Nat} {B : List Bool} (h : a < s.size) (hb : best c L s a = (m, k)) (hm : a + m < s.size) (hf : c + 2 + L.length + 1 ≠ 4096) :
    pk c wd s L size a B = pk c wd s (L ++ [s.extract a (a + m + 1)]) (grow c L size) (a + m) (B ++ Bts.low k size) := by
  rw [pk, dif_pos h, hb, if_neg (by show ¬ s.size ≤ a + m; omega), if_neg hf]
/-- what holds of the list of words -/
structure Wl (c : Nat) (s : ByteArray) (L : List ByteArray) : Prop where
  two : ∀ x ∈ L, 2 ≤ x.size
  apart : L.Nodup
  ahead : ∀ x ∈ L, 3 ≤ x.size → x.extract 0 (x.size - 1) ∈ L
  len : c + 2 + L.length < 4096
theorem Wl.nil {c : Nat} {s : ByteArray} (hc : c + 2 < 4096) : Wl c s [] := ⟨by simp, by simp, by simp, by simpa using hc⟩
/-- greed has come so far: all beginnings of the text at a, up to m bytes, are words; k is the code of the longest -/
structure Gr (c : Nat) (L : List ByteArray) (s : ByteArray) (a m k : Nat) : Prop where
  pos : 1 ≤ m
  le : a + m ≤ s.size
  code : (m = 1 ∧ k = (s.data.toList.getD a 0).toNat) ∨ (2 ≤ m ∧ ∃ i, L[i]? = some (s.extract a (a + m)) ∧ k = c + 2 + i)
theorem Gr.one {c : Nat} {L : List ByteArray} {s : ByteArray} {a : Nat} (h : a < s.size) : Gr c L s a 1 ((s.data.toList.getD a 0).toNat) := ⟨Nat.le_refl _, by omega, .inl ⟨rfl, rfl⟩⟩
theorem Gr.more {c : Nat} {L : List ByteArray} {s : ByteArray} {a m k i : Nat} (h : Gr c L s a m k) (hm : a + m < s.size) (hi : L[i]? = some (s.extract a (a + m + 1))) : Gr c L s a (m + 1) (c + 2 + i) :=
  ⟨by omega, by omega, .inr ⟨by have := h.pos; omega, i, hi, rfl⟩⟩
theorem ext_pre (s : ByteArray) (a m : Nat) : (s.extract a (a + m + 1)).extract 0 m = s.extract a (a + m) := by
  rw [ByteArray.extract_extract]; congr 1 <;> omega
/-- all beginnings of a word that stands at a are words -/
theorem Wl.down {c : Nat} {s : ByteArray} {L : List ByteArray} (h : Wl c s L) {a : Nat} : ∀ (d m : Nat), 2 ≤ m → a + m + d ≤ s.size → s.extract a (a + m + d) ∈ L → s.extract a (a + m) ∈ L := by
  intro d
  induction d with
  | zero => intro m _ _ hx; exact hx
  | succ d ih =>
    intro m hm hs hx
    refine ih m hm (by omega) ?_
    have hsz : (s.extract a (a + m + (d + 1))).size = m + (d + 1) := by rw [ByteArray.size_extract]; omega
    have := h.ahead _ hx (by rw [hsz]; omega)
    rw [hsz] at this
    have e := ext_pre s a (m + d)
    rw [show a + (m + d) + 1 = a + m + (d + 1) by omega, show a + (m + d) = a + m + d by omega] at e
    rw [show m + (d + 1) - 1 = m + d by omega, e] at this
    exact this
theorem getD_of {L : List ByteArray} {i : Nat} {x : ByteArray} (h : L[i]? = some x) : L.getD i ByteArray.empty = x := by rw [List.getD, h]; rfl
theorem lt_of {L : List ByteArray} {i : Nat} {x : ByteArray} (h : L[i]? = some x) : i < L.length := by
  rcases Nat.lt_or_ge i L.length with q | q
  · exact q
  · rw [List.getElem?_eq_none q] at h; cases h
theorem idx_inj {L : List ByteArray} (hd : L.Nodup) {i j : Nat} {x : ByteArray} (hi : L[i]? = some x) (hj : L[j]? = some x) : i = j := by
  have h1 := lt_of hi
  have h2 := lt_of hj
  exact (List.getElem?_inj h1 hd).1 (hi.trans hj.symm)
/-- where greed stops it has found the longest -/
theorem best_of {c : Nat} {s : ByteArray} {L : List ByteArray} (h : Wl c s L) {a m k : Nat} (g : Gr c L s a m k) (hstop : a + m = s.size ∨ s.extract a (a + m + 1) ∉ L) : best c L s a = (m, k) := by
  have hno : ∀ (i : Nat) (x : ByteArray), L[i]? = some x → a + x.size ≤ s.size → s.extract a (a + x.size) = x → x.size ≤ m := by
    intro i x hi hle he
    rcases Nat.lt_or_ge m x.size with q | q
    · exfalso
      have hx : s.extract a (a + x.size) ∈ L := by rw [he]; exact List.mem_of_getElem? hi
      have hm := g.pos
      rcases hstop with hs | hs
      · omega
      · refine hs (h.down (a := a) (x.size - (m + 1)) (m + 1) (by omega) (by omega) ?_)
        rw [show a + (m + 1) + (x.size - (m + 1)) = a + x.size by omega]; exact hx
    · exact q
  have hb : ∀ i, i ≤ L.length → (bst c L s a i).1 ≤ m ∧ (((bst c L s a i) = (m, k)) ∨ ((bst c L s a i).1 < m ∧ ∀ j, j < i → ∀ x : ByteArray, L[j]? = some x → x ≠ s.extract a (a + m))) := by
    intro i
    induction i with
    | zero =>
      intro _
      have hp := g.pos
      refine ⟨hp, ?_⟩
      rcases g.code with ⟨h1, h2⟩ | ⟨h1, _⟩
      · exact .inl (by simp only [bst, h1, h2])
      · exact .inr ⟨h1, fun j hj => by omega⟩
    | succ i ih =>
      intro hi
      obtain ⟨h1, h2⟩ := ih (by omega)
      have hL : L[i]? = some (L.getD i ByteArray.empty) := by rw [List.getD, List.getElem?_eq_getElem (by omega)]; rfl
      generalize hX : L.getD i ByteArray.empty = X at hL
      simp only [bst, hX]
      by_cases ht : (bst c L s a i).1 < X.size ∧ a + X.size ≤ s.size ∧ s.extract a (a + X.size) = X
      · rw [if_pos ht]
        have hle := hno i X hL ht.2.1 ht.2.2
        refine ⟨hle, ?_⟩
        rcases h2 with h2 | ⟨h2, h3⟩
        · exfalso; rw [h2] at ht; have := ht.1; simp only at this; omega
        · by_cases e : X.size = m
          · refine .inl ?_
            rcases g.code with ⟨q1, _⟩ | ⟨_, j, q2, q3⟩
            · exfalso; have := h.two X (List.mem_of_getElem? hL); omega
            · have hx : s.extract a (a + m) = X := by rw [← e]; exact ht.2.2
              rw [hx] at q2
              rw [e, q3, idx_inj h.apart q2 hL]
          · refine .inr ⟨by show X.size < m; omega, fun j hj x hx hxe => ?_⟩
            by_cases hji : j = i
            · subst hji
              rw [hL] at hx; cases hx
              have : X.size = m := by rw [hxe, ByteArray.size_extract]; have := g.le; omega
              exact e this
            · exact h3 j (by omega) x hx hxe
      · rw [if_neg ht]
        refine ⟨h1, ?_⟩
        rcases h2 with h2 | ⟨h2, h3⟩
        · exact .inl h2
        · refine .inr ⟨h2, fun j hj x hx hxe => ?_⟩
          by_cases hji : j = i
          · subst hji
            rw [hL] at hx; cases hx
            have hsz : X.size = m := by rw [hxe, ByteArray.size_extract]; have := g.le; omega
            exact ht ⟨by omega, by rw [hsz]; exact g.le, by rw [hsz]; exact hxe.symm⟩
          · exact h3 j (by omega) x hx hxe
  obtain ⟨h1, h2⟩ := hb L.length (Nat.le_refl _)
  rcases h2 with h2 | ⟨h2, h3⟩
  · exact h2
  · exfalso
    rcases g.code with ⟨q1, _⟩ | ⟨_, j, q2, _⟩
    · have := bst_pos c L s a L.length; omega
    · exact h3 j (lt_of q2) _ q2 rfl
theorem Wl.add {c : Nat} {s : ByteArray} {L : List ByteArray} (h : Wl c s L) {a m k : Nat} (g : Gr c L s a m k) (hm : a + m < s.size) (hn : s.extract a (a + m + 1) ∉ L) (hf : c + 2 + L.length + 1 < 4096) :
    Wl c s (L ++ [s.extract a (a + m + 1)]) := by
  have hsz : (s.extract a (a + m + 1)).size = m + 1 := by rw [ByteArray.size_extract]; omega
  have hp := g.pos
  refine ⟨fun x hx => ?_, ?_, fun x hx h3 => ?_, ?_⟩
  · rcases List.mem_append.1 hx with hx | hx
    · exact h.two x hx
    · rw [List.mem_singleton.1 hx, hsz]; omega
  · rw [List.nodup_append]
    refine ⟨h.apart, by simp, fun x hx y hy e => ?_⟩
    rw [List.mem_singleton.1 hy] at e
    exact hn (e ▸ hx)
  · rcases List.mem_append.1 hx with hx | hx
    · exact List.mem_append_left _ (h.ahead x hx h3)
    · have e := List.mem_singleton.1 hx
      subst e
      rw [hsz] at h3 ⊢
      rw [Nat.add_sub_cancel, ext_pre]
      rcases g.code with ⟨q, _⟩ | ⟨_, i, q, _⟩
      · omega
      · exact List.mem_append_left _ (List.mem_of_getElem? q)
  · rw [List.length_append, List.length_singleton]; omega
theorem Gr.lt {c : Nat} {L : List ByteArray} {s : ByteArray} {a m k : Nat} (g : Gr c L s a m k) (hc : (s.data.toList.getD a 0).toNat < c) : k < c + 2 + L.length ∧ k ≠ c ∧ k ≠ c + 1 := by
  rcases g.code with ⟨_, q⟩ | ⟨_, i, q, e⟩
  · omega
  · have := lt_of q; omega
end Go.Proofs.YtdeiolagnheihaaDoor.Lz
