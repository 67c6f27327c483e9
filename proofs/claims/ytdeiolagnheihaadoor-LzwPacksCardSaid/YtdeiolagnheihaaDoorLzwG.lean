/- LZW's packing: a map from a word's code and a byte to the code of the longer word. No function of the program is named. -/
import Derived.Test.YtdeiolagnheihaaDoorLzwP
import Derived.Test.YtdeiolagnheihaaDoorMapK
namespace Go.Proofs.YtdeiolagnheihaaDoor.Lz
open Go.RowKit
set_option maxRecDepth 100000
/-- a code and its word -/
def Tx (c : Nat) (L : List ByteArray) (k : Nat) (x : ByteArray) : Prop := (k < c ∧ x = one k) ∨ ∃ j : Nat, k = c + 2 + j ∧ L[j]? = some x
structure Gok (c : Nat) (L : List ByteArray) (g : Nat → Nat → Option Nat) : Prop where
  iff : ∀ k b x n, b < 256 → Tx c L k x → (g k b = some n ↔ ∃ i : Nat, n = c + 2 + i ∧ L[i]? = some (x ++ one b))
  dom : ∀ k b n, g k b = some n → k < c + 2 + L.length
theorem Gok.nil (c : Nat) : Gok c [] (fun _ _ => none) := ⟨fun k b x n _ _ => ⟨(fun h => by cases h), (fun ⟨i, _, h⟩ => by simp at h)⟩, (fun _ _ _ h => by cases h)⟩
theorem one_inj {b d : Nat} (hb : b < 256) (hd : d < 256) (h : one b = one d) : b = d := by
  unfold one at h
  have h1 : (UInt8.ofNat b).toNat = (UInt8.ofNat d).toNat := by
    have : (#[UInt8.ofNat b] : Array UInt8) = #[UInt8.ofNat d] := congrArg ByteArray.data h
    simp at this
    rw [this]
  rw [UInt8.toNat_ofNat', UInt8.toNat_ofNat'] at h1
  omega
theorem cat_inj {x y : ByteArray} {b d : Nat} (h : x ++ one b = y ++ one d) : x = y ∧ one b = one d := by
  have h1 : x.data.toList ++ (one b).data.toList = y.data.toList ++ (one d).data.toList := by rw [← bts_cat, ← bts_cat, h]
  have h2 := List.append_inj' h1 rfl
  exact ⟨bts_ext h2.1, bts_ext h2.2⟩
theorem cat_size (x : ByteArray) (b : Nat) : (x ++ one b).size = x.size + 1 := by rw [ByteArray.size_append, one_size]
theorem cat_pre (x : ByteArray) (b : Nat) : (x ++ one b).extract 0 ((x ++ one b).size - 1) = x := by
  rw [cat_size]
  apply bts_ext
  rw [ex_list, bts_cat, List.drop_zero, show x.size + 1 - 1 - 0 = x.data.toList.length by rw [list_size]; omega, List.take_left]
theorem Tx.mono {c k : Nat} {L : List ByteArray} {x y : ByteArray} (h : Tx c L k x) : Tx c (L ++ [y]) k x := by
  rcases h with h | ⟨j, hj, hx⟩
  · exact .inl h
  · exact .inr ⟨j, hj, by rw [List.getElem?_append_left (lt_of hx)]; exact hx⟩
theorem Tx.lt {c k : Nat} {L : List ByteArray} {x : ByteArray} (h : Tx c L k x) : k < c + 2 + L.length := by
  rcases h with h | ⟨j, hj, hx⟩
  · omega
  · have := lt_of hx; omega
theorem Tx.fn {c k : Nat} {L : List ByteArray} {x y : ByteArray} (h : Tx c L k x) (h' : Tx c L k y) : x = y := by
  rcases h with ⟨h, rfl⟩ | ⟨j, hj, hx⟩ <;> rcases h' with ⟨h', rfl⟩ | ⟨j', hj', hx'⟩
  · rfl
  · omega
  · omega
  · obtain rfl : j = j' := by omega
    exact Option.some.inj (hx.symm.trans hx')
theorem Tx.inj {c k k' : Nat} {s : ByteArray} {L : List ByteArray} {x : ByteArray} (hc : c ≤ 256) (hw : Wl c s L) (h : Tx c L k x) (h' : Tx c L k' x) : k = k' := by
  rcases h with ⟨h, rfl⟩ | ⟨j, hj, hx⟩ <;> rcases h' with ⟨h', hx2⟩ | ⟨j', hj', hx'⟩
  · exact one_inj (by omega) (by omega) hx2
  · have := hw.two _ (List.mem_of_getElem? hx'); rw [one_size] at this; omega
  · subst hx2; have := hw.two _ (List.mem_of_getElem? hx); rw [one_size] at this; omega
  · have := idx_inj hw.apart hx hx'; omega
theorem Gok.upd {c k0 b0 : Nat} {s : ByteArray} {L : List ByteArray} {g : Nat → Nat → Option Nat} {x0 y : ByteArray} (hc : c ≤ 256) (h : Gok c L g) (hw : Wl c s L) (h0 : Tx c L k0 x0) (hb0 : b0 < 256) (hy : y = x0 ++ one b0) (hyL : y ∉ L) :
    Gok c (L ++ [y]) (updK g k0 b0 (c + 2 + L.length)) := by
  have hlast : (L ++ [y])[L.length]? = some y := by simp
  refine ⟨fun k b x n hb hx => ?_, fun k b n hk => ?_⟩
  · unfold updK
    by_cases hnew : k = c + 2 + L.length
    · have hxy : x = y := by
        rcases hx with ⟨h1, _⟩ | ⟨j, h1, h2⟩
        · omega
        · obtain rfl : j = L.length := by omega
          rw [hlast] at h2; exact (Option.some.inj h2).symm
      have := h0.lt
      rw [if_neg (by omega)]
      constructor
      · intro hg; have := h.dom k b n hg; omega
      · rintro ⟨i, rfl, hi⟩
        exfalso
        rw [hxy] at hi
        rcases Nat.lt_or_ge i L.length with q | q
        · rw [List.getElem?_append_left q] at hi
          have hm := List.mem_of_getElem? hi
          have h2 : 2 ≤ y.size := by
            rw [hy, cat_size]
            rcases h0 with ⟨_, e⟩ | ⟨j, _, e⟩
            · rw [e, one_size]; omega
            · have := hw.two _ (List.mem_of_getElem? e); omega
          have h3 := hw.ahead _ hm (by rw [cat_size]; omega)
          rw [cat_pre] at h3
          exact hyL h3
        · have hil := lt_of hi
          rw [List.length_append, List.length_singleton] at hil
          obtain rfl : i = L.length := by omega
          rw [hlast] at hi
          have := congrArg ByteArray.size (Option.some.inj hi)
          rw [cat_size] at this; omega
    · have hxL : Tx c L k x := by
        rcases hx with h1 | ⟨j, h1, h2⟩
        · exact .inl h1
        · refine .inr ⟨j, h1, ?_⟩
          rwa [List.getElem?_append_left (by have := lt_of h2; rw [List.length_append, List.length_singleton] at this; omega)] at h2
      by_cases hkb : k = k0 ∧ b = b0
      · obtain ⟨rfl, rfl⟩ := hkb
        rw [if_pos ⟨rfl, rfl⟩]
        have hxx := hxL.fn h0
        subst hxx
        constructor
        · intro hn; exact ⟨L.length, (Option.some.inj hn).symm, by rw [hlast, hy]⟩
        · rintro ⟨i, rfl, hi⟩
          rw [← hy] at hi
          rcases Nat.lt_or_ge i L.length with q | q
          · rw [List.getElem?_append_left q] at hi; exact absurd (List.mem_of_getElem? hi) hyL
          · have hil := lt_of hi
            rw [List.length_append, List.length_singleton] at hil
            obtain rfl : i = L.length := by omega
            rfl
      · rw [if_neg hkb, h.iff k b x n hb hxL]
        constructor
        · rintro ⟨i, hn, hi⟩; exact ⟨i, hn, by rw [List.getElem?_append_left (lt_of hi)]; exact hi⟩
        · rintro ⟨i, hn, hi⟩
          rcases Nat.lt_or_ge i L.length with q | q
          · exact ⟨i, hn, by rwa [List.getElem?_append_left q] at hi⟩
          · exfalso
            have hil := lt_of hi
            rw [List.length_append, List.length_singleton] at hil
            obtain rfl : i = L.length := by omega
            rw [hlast, hy] at hi
            obtain ⟨e1, e2⟩ := cat_inj (Option.some.inj hi)
            subst e1
            exact hkb ⟨hxL.inj hc hw h0, (one_inj hb0 hb e2).symm⟩
  · unfold updK at hk
    rw [List.length_append, List.length_singleton]
    split at hk
    · rename_i q; have := h0.lt; omega
    · have := h.dom k b n hk; omega
/-- greed, by the map -/
theorem Gr.tx {c : Nat} {L : List ByteArray} {s : ByteArray} {a m k : Nat} (h : Gr c L s a m k) (hc : (s.data.toList.getD a 0).toNat < c) : Tx c L k (s.extract a (a + m)) := by
  have hle := h.le
  have hp := h.pos
  rcases h.code with ⟨rfl, rfl⟩ | ⟨_, i, hi, rfl⟩
  · refine .inl ⟨hc, ?_⟩
    apply bts_ext
    have hl : a < s.data.toList.length := by rw [list_size]; omega
    rw [ex_list, Nat.add_sub_cancel_left, List.getD, List.getElem?_eq_getElem hl, List.drop_eq_getElem_cons hl]
    unfold Lz.one
    simp
  · exact .inr ⟨i, rfl, hi⟩
theorem ext_snoc (s : ByteArray) (a m : Nat) (h : a + m < s.size) : s.extract a (a + m + 1) = s.extract a (a + m) ++ one (s.data.toList.getD (a + m) 0).toNat := by
  apply bts_ext
  have hl : a + m < s.data.toList.length := by rw [list_size]; omega
  rw [bts_cat, ex_list, ex_list, show a + m + 1 - a = m + 1 by omega, Nat.add_sub_cancel_left, List.take_add_one, List.getElem?_drop, List.getElem?_eq_getElem hl, List.getD, List.getElem?_eq_getElem hl]
  unfold Lz.one
  simp
theorem Gok.yes {c : Nat} {L : List ByteArray} {g : Nat → Nat → Option Nat} {s : ByteArray} {a m k n : Nat} (h : Gok c L g) (hr : Gr c L s a m k) (hc : (s.data.toList.getD a 0).toNat < c) (hm : a + m < s.size) (hg : g k (s.data.toList.getD (a + m) 0).toNat = some n) : Gr c L s a (m + 1) n := by
  obtain ⟨i, rfl, hi⟩ := (h.iff _ _ _ _ (UInt8.toNat_lt _) (hr.tx hc)).1 hg
  rw [← ext_snoc s a m hm] at hi
  exact hr.more hm hi
theorem Gok.no {c : Nat} {L : List ByteArray} {g : Nat → Nat → Option Nat} {s : ByteArray} {a m k : Nat} (h : Gok c L g) (hr : Gr c L s a m k) (hc : (s.data.toList.getD a 0).toNat < c) (hm : a + m < s.size) (hg : g k (s.data.toList.getD (a + m) 0).toNat = none) : s.extract a (a + m + 1) ∉ L := by
  intro hx
  obtain ⟨i, hi⟩ := List.getElem?_of_mem hx
  rw [ext_snoc s a m hm] at hi
  have := (h.iff _ _ _ (c + 2 + i) (UInt8.toNat_lt _) (hr.tx hc)).2 ⟨i, rfl, hi⟩
  rw [hg] at this; cases this
end Go.Proofs.YtdeiolagnheihaaDoor.Lz
