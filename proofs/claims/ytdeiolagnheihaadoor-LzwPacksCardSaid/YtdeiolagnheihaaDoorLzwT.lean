/- WELCH: what is packed is unpacked. The plain law. No function of the program is named. -/
import Derived.Test.YtdeiolagnheihaaDoorLzwG
namespace Go.Proofs.YtdeiolagnheihaaDoor.Lz
open Go.RowKit
set_option maxRecDepth 100000
theorem val_tail {Bits R : List Bool} : Bts.val (Bits ++ R) / 2 ^ Bits.length = Bts.val R := by
  have h := Bts.val_lt Bits
  rw [Bts.val_append, Nat.mul_comm, Nat.add_mul_div_left _ _ (Nat.two_pow_pos _), Nat.div_eq_of_lt h, Nat.zero_add]
/-- reading a code where it lies -/
theorem read_code {P Bits R : List Bool} {x k V q Z : Nat} (hP : P = Bits ++ (Bts.low x k ++ R)) (hx : x < 2 ^ k) (hV : V = Bts.val P + Z * 2 ^ q) (hq : Bits.length + k ≤ q) : V / 2 ^ Bits.length % 2 ^ k = x := by
  have e1 : V = Bts.val Bits + 2 ^ Bits.length * (Bts.val (Bts.low x k ++ R) + Z * 2 ^ (q - Bits.length)) := by
    rw [hV, hP, Bts.val_append, show Z * 2 ^ q = 2 ^ Bits.length * (Z * 2 ^ (q - Bits.length)) by rw [← Nat.mul_assoc, Nat.mul_comm (2 ^ Bits.length), Nat.mul_assoc, ← Nat.pow_add]; congr 2; omega, Nat.mul_add, Nat.mul_comm (Bts.val (Bts.low x k ++ R))]
    omega
  rw [e1, Nat.add_mul_div_left _ _ (Nat.two_pow_pos _), Nat.div_eq_of_lt (Bts.val_lt Bits), Nat.zero_add]
  rw [Bts.val_append, Bts.val_low, Bts.low_length, Nat.mod_eq_of_lt hx]
  have e2 : Z * 2 ^ (q - Bits.length) = 2 ^ k * (Z * 2 ^ (q - Bits.length - k)) := by
    rw [← Nat.mul_assoc, Nat.mul_comm (2 ^ k), Nat.mul_assoc, ← Nat.pow_add]; congr 2; omega
  rw [e2, Nat.mul_comm (Bts.val R), Nat.add_assoc, ← Nat.mul_add, Nat.add_mul_mod_self_left, Nat.mod_eq_of_lt hx]
theorem pk_pre (c wd : Nat) (s : ByteArray) : ∀ (n a : Nat) (L : List ByteArray) (size : Nat) (B : List Bool), s.size - a ≤ n → ∃ R, pk c wd s L size a B = B ++ R := by
  intro n
  induction n with
  | zero => intro a L size B h; exact ⟨_, pk_none (by omega)⟩
  | succ n ih =>
    intro a L size B h
    by_cases ha : a < s.size
    · obtain ⟨m, k, hb⟩ : ∃ m k, best c L s a = (m, k) := ⟨_, _, rfl⟩
      have hm : 1 ≤ m := by have := bst_pos c L s a L.length; unfold best at hb; rw [hb] at this; exact this
      by_cases h1 : s.size ≤ a + m
      · exact ⟨_, by rw [pk_last ha hb h1, List.append_assoc]⟩
      · by_cases h2 : c + 2 + L.length + 1 = 4096
        · obtain ⟨R, hR⟩ := ih (a + m) [] (wd + 1) (B ++ Bts.low k size ++ Bts.low c (grow c L size)) (by omega)
          exact ⟨_, by rw [pk_full ha hb (by omega) h2, hR, List.append_assoc, List.append_assoc]⟩
        · obtain ⟨R, hR⟩ := ih (a + m) (L ++ [s.extract a (a + m + 1)]) (grow c L size) (B ++ Bts.low k size) (by omega)
          exact ⟨_, by rw [pk_more ha hb (by omega) h2, hR, List.append_assoc]⟩
    · exact ⟨_, pk_none (by omega)⟩
/-- greed comes to an end -/
theorem greed (c : Nat) (L : List ByteArray) (s : ByteArray) (a : Nat) : ∀ (n m k : Nat), s.size - (a + m) ≤ n → Gr c L s a m k → ∃ m' k', Gr c L s a m' k' ∧ (a + m' = s.size ∨ s.extract a (a + m' + 1) ∉ L) := by
  intro n
  induction n with
  | zero => intro m k h g; exact ⟨m, k, g, .inl (by have := g.le; omega)⟩
  | succ n ih =>
    intro m k h g
    by_cases hm : a + m = s.size
    · exact ⟨m, k, g, .inl hm⟩
    · by_cases hx : s.extract a (a + m + 1) ∈ L
      · obtain ⟨i, hi⟩ := List.getElem?_of_mem hx
        exact ih (m + 1) _ (by omega) (g.more (by have := g.le; omega) hi)
      · exact ⟨m, k, g, .inr hx⟩
theorem first_one (s : ByteArray) (a b : Nat) (h : a < b) (hb : b ≤ s.size) : (s.extract a b).extract 0 1 = one (s.data.toList.getD a 0).toNat := by
  rw [ByteArray.extract_extract, Nat.add_zero, show min (a + 1) b = a + 1 by omega]
  have := ext_snoc s a 0 (by omega)
  simp only [Nat.add_zero] at this
  rw [this]
  apply bts_ext
  rw [bts_cat, ex_list, Nat.sub_self, List.take_zero, List.nil_append]
/-- how the unpacker's list lags behind -/
def Lag (s : ByteArray) (L Ld : List ByteArray) (last : ByteArray) (a : Nat) : Prop :=
  (L = [] ∧ Ld = [] ∧ last.size = 0) ∨ ∃ a0, a0 < a ∧ a < s.size ∧ L = Ld ++ [s.extract a0 (a + 1)] ∧ last = s.extract a0 a
theorem lag_word {c a m k : Nat} {s : ByteArray} {L Ld : List ByteArray} {last : ByteArray} (hb : (s.data.toList.getD a 0).toNat < c) (h : Lag s L Ld last a) (g : Gr c L s a m k) : wordOf c Ld last k = some (s.extract a (a + m)) := by
  have hp := g.pos
  have hle := g.le
  unfold wordOf
  rcases g.tx hb with ⟨h1, h2⟩ | ⟨i, rfl, hi⟩
  · rw [if_pos h1, h2]
  · rw [if_neg (by omega)]
    rcases h with ⟨rfl, _, _⟩ | ⟨a0, h0, ha, rfl, rfl⟩
    · simp at hi
    · rcases Nat.lt_or_ge i Ld.length with q | q
      · rw [List.getElem?_append_left q] at hi
        rw [if_pos (by omega), show c + 2 + i - (c + 2) = i by omega, hi]
      · have hil := lt_of hi
        rw [List.length_append, List.length_singleton] at hil
        obtain rfl : i = Ld.length := by omega
        rw [List.getElem?_append_right (Nat.le_refl _), Nat.sub_self] at hi
        have he : s.extract a0 (a + 1) = s.extract a (a + m) := Option.some.inj hi
        have hsz : (s.extract a0 a).size = a - a0 := by rw [ByteArray.size_extract]; omega
        rw [if_neg (by omega), if_pos ⟨rfl, by rw [hsz]; omega⟩]
        have e1 : (s.extract a0 a).extract 0 1 = one (s.data.toList.getD a0 0).toNat := first_one s a0 a h0 (by omega)
        have e2 : one (s.data.toList.getD a0 0).toNat = one (s.data.toList.getD a 0).toNat := by
          rw [← first_one s a0 (a + 1) (by omega) (by omega), he, first_one s a (a + m) (by omega) hle]
        rw [e1, e2, ← he]
        have := ext_snoc s a0 (a - a0) (by omega)
        rw [show a0 + (a - a0) = a by omega] at this
        rw [this]
theorem lag_add {c a m : Nat} {s : ByteArray} {L Ld : List ByteArray} {last : ByteArray} (hm : 1 ≤ m) (hle : a + m ≤ s.size) (h : Lag s L Ld last a) (hl : c + 2 + L.length < 4096) : addW c Ld last (s.extract a (a + m)) = L := by
  unfold addW
  rcases h with ⟨rfl, rfl, h0⟩ | ⟨a0, h0, ha, rfl, rfl⟩
  · rw [if_neg (by omega)]
  · rw [List.length_append, List.length_singleton] at hl
    have hsz : (s.extract a0 a).size = a - a0 := by rw [ByteArray.size_extract]; omega
    rw [if_pos ⟨by rw [hsz]; omega, by omega⟩, first_one s a (a + m) (by omega) hle]
    have := ext_snoc s a0 (a - a0) (by omega)
    rw [show a0 + (a - a0) = a by omega] at this
    rw [this]
theorem take_ext (s : ByteArray) (a m : Nat) : s.data.toList.take a ++ (s.extract a (a + m)).data.toList = s.data.toList.take (a + m) := by
  rw [ex_list, Nat.add_sub_cancel_left, List.take_add]
theorem grow_bds {c size : Nat} {L : List ByteArray} (hs : c + 2 + L.length ≤ 2 ^ size) (h12 : size ≤ 12) (hl : c + 2 + L.length < 4096) : c + 2 + L.length + 1 ≤ 2 ^ grow c L size ∧ grow c L size ≤ 12 ∧ size ≤ grow c L size := by
  unfold grow
  split
  · rename_i q; refine ⟨?_, by omega, by omega⟩; rw [Nat.pow_succ]; omega
  · rename_i q
    refine ⟨?_, h12, Nat.le_refl _⟩
    rcases Nat.lt_or_ge size 12 with q2 | q2
    · have : c + 2 + L.length ≠ 2 ^ size := fun e => q ⟨e, q2⟩
      omega
    · obtain rfl : size = 12 := by omega
      show _ ≤ 4096
      omega
theorem trip (c wd most : Nat) (s : ByteArray) (P : List Bool) (V Z q len : Nat) (hc : 2 ^ wd = c) (h2 : 2 ≤ wd) (h8 : wd ≤ 8) (hgood : ∀ j, j < s.size → (s.data.toList.getD j 0).toNat < c) (hmost : s.size ≤ most) (hV : V = Bts.val P + Z * 2 ^ q) (hq : P.length ≤ q) (hlen : P.length ≤ len) (hc4 : c ≤ 256) (hc0 : 4 ≤ c) :
    ∀ (n a : Nat) (L Ld : List ByteArray) (size : Nat) (last : ByteArray) (B : List Bool), s.size - a ≤ n → a ≤ s.size → Wl c s L → Lag s L Ld last a → c + 2 + L.length ≤ 2 ^ size → size ≤ 12 → size ≠ 0 → pk c wd s L size a B = P →
      (a = s.size → L = []) → unl V len c wd most Ld size last (s.data.toList.take a) B.length = .ok s.data.toList ((P.length + 7) / 8) := by
  intro n
  induction n with
  | zero =>
    intro a L Ld size last B h ha hw hlag hsz h12 h0 hp hL
    obtain rfl : a = s.size := by omega
    rw [pk_none (Nat.le_refl _)] at hp
    have hpl : P.length = B.length + size := by rw [← hp, List.length_append, Bts.low_length]
    have hr := read_code (R := []) (x := c + 1) (k := size) (by rw [List.append_nil]; exact hp.symm) (by have := hL rfl; subst this; simp at hsz; omega) hV (by omega)
    rw [unl_end (by omega) h0 hr rfl, hpl, List.take_of_length_le (by rw [list_size]; exact Nat.le_refl _)]
  | succ n ih =>
    intro a L Ld size last B h ha hw hlag hsz h12 h0 hp hL
    by_cases has : a = s.size
    · exact (by
        subst has
        rw [pk_none (Nat.le_refl _)] at hp
        have hpl : P.length = B.length + size := by rw [← hp, List.length_append, Bts.low_length]
        have hr := read_code (R := []) (x := c + 1) (k := size) (by rw [List.append_nil]; exact hp.symm) (by have := hL rfl; subst this; simp at hsz; omega) hV (by omega)
        rw [unl_end (by omega) h0 hr rfl, hpl, List.take_of_length_le (by rw [list_size]; exact Nat.le_refl _)])
    · have hlt : a < s.size := by omega
      have hb := hgood a hlt
      obtain ⟨m, k, g, hstop⟩ := greed c L s a _ 1 _ (Nat.le_refl _) (Gr.one hlt)
      have hbest := best_of hw g hstop
      have hkl := g.lt hb
      have hm1 := g.pos
      have hle := g.le
      have hl := hw.len
      obtain ⟨g1, g2, g3⟩ := grow_bds hsz h12 hl
      have hword := lag_word hb hlag g
      have hadd := lag_add (c := c) hm1 hle hlag hl
      have hwsz : (s.extract a (a + m)).size = m := by rw [ByteArray.size_extract]; omega
      have htl : (s.data.toList.take a).length = a := by rw [List.length_take, list_size]; omega
      have hnb : ¬ most < (s.data.toList.take a).length + (s.extract a (a + m)).size := by rw [htl, hwsz]; omega
      have hsw : sizeW c L size = grow c L size := rfl
      by_cases h1 : s.size ≤ a + m
      · have e : a + m = s.size := by omega
        rw [pk_last hlt hbest h1] at hp
        have hpl : P.length = B.length + size + grow c L size := by rw [← hp, List.length_append, List.length_append, Bts.low_length, Bts.low_length]
        have hr := read_code (R := Bts.low (c + 1) (grow c L size)) (x := k) (k := size) (by rw [← List.append_assoc]; exact hp.symm) (by omega) hV (by omega)
        have hr2 := read_code (Bits := B ++ Bts.low k size) (R := []) (x := c + 1) (k := grow c L size) (by rw [List.append_nil]; exact hp.symm) (by omega) hV (by rw [List.length_append, Bts.low_length]; omega)
        rw [List.length_append, Bts.low_length] at hr2
        rw [unl_word (by omega) h0 hr hkl.2.1 hkl.2.2 hword hnb, hadd, hsw, take_ext, e, unl_end (by omega) (by omega) hr2 rfl, hpl, List.take_of_length_le (by rw [list_size]; exact Nat.le_refl _)]
      · by_cases hf : c + 2 + L.length + 1 = 4096
        · rw [pk_full hlt hbest (by omega) hf] at hp
          obtain ⟨R, hR⟩ := pk_pre c wd s _ (a + m) [] (wd + 1) (B ++ Bts.low k size ++ Bts.low c (grow c L size)) (Nat.le_refl _)
          have hp2 := hp
          rw [hR] at hp2
          have hpl : B.length + size + grow c L size ≤ P.length := by rw [← hp2, List.length_append, List.length_append, List.length_append, Bts.low_length, Bts.low_length]; omega
          have hr := read_code (Bits := B) (R := Bts.low c (grow c L size) ++ R) (x := k) (k := size) (by rw [← hp2]; simp) (by omega) hV (by omega)
          have hr2 := read_code (Bits := B ++ Bts.low k size) (R := R) (x := c) (k := grow c L size) (by rw [← hp2]; simp) (by omega) hV (by rw [List.length_append, Bts.low_length]; omega)
          rw [List.length_append, Bts.low_length] at hr2
          have hnext := ih (a + m) [] [] (wd + 1) ByteArray.empty (B ++ Bts.low k size ++ Bts.low c (grow c L size)) (by omega) (by omega) (Wl.nil (by omega)) (.inl ⟨rfl, rfl, rfl⟩) (by rw [Nat.pow_succ, hc]; simp; omega) (by omega) (by omega) hp (fun _ => rfl)
          rw [List.length_append, List.length_append, Bts.low_length, Bts.low_length] at hnext
          rw [unl_word (by omega) h0 hr hkl.2.1 hkl.2.2 hword hnb, hadd, hsw, take_ext, unl_clear (by omega) (by omega) hr2 rfl]
          exact hnext
        · rw [pk_more hlt hbest (by omega) hf] at hp
          obtain ⟨R, hR⟩ := pk_pre c wd s _ (a + m) (L ++ [s.extract a (a + m + 1)]) (grow c L size) (B ++ Bts.low k size) (Nat.le_refl _)
          have hp2 := hp
          rw [hR] at hp2
          have hpl : B.length + size ≤ P.length := by rw [← hp2, List.length_append, List.length_append, Bts.low_length]; omega
          have hr := read_code (Bits := B) (R := R) (x := k) (k := size) (by rw [← hp2]; simp) (by omega) hV (by omega)
          have hno : s.extract a (a + m + 1) ∉ L := hstop.elim (fun e => by omega) id
          have hnext := ih (a + m) (L ++ [s.extract a (a + m + 1)]) L (grow c L size) (s.extract a (a + m)) (B ++ Bts.low k size) (by omega) (by omega) (hw.add g (by omega) hno (by omega)) (.inr ⟨a, by omega, by omega, rfl, rfl⟩) (by rw [List.length_append, List.length_singleton]; omega) g2 (by omega) hp (fun e => by omega)
          rw [List.length_append, Bts.low_length] at hnext
          rw [unl_word (by omega) h0 hr hkl.2.1 hkl.2.2 hword hnb, hadd, hsw, take_ext]
          exact hnext
/-- what is packed is unpacked, whatever stands behind it -/
theorem welch (wd most : Nat) (s : ByteArray) (V Z q len : Nat) (h2 : 2 ≤ wd) (h8 : wd ≤ 8) (hgood : ∀ j, j < s.size → (s.data.toList.getD j 0).toNat < 2 ^ wd) (hmost : s.size ≤ most)
    (hV : V = Bts.val (pk (2 ^ wd) wd s [] (wd + 1) 0 (Bts.low (2 ^ wd) (wd + 1))) + Z * 2 ^ q) (hq : (pk (2 ^ wd) wd s [] (wd + 1) 0 (Bts.low (2 ^ wd) (wd + 1))).length ≤ q) (hlen : (pk (2 ^ wd) wd s [] (wd + 1) 0 (Bts.low (2 ^ wd) (wd + 1))).length ≤ len) :
    unl V len (2 ^ wd) wd most [] (wd + 1) ByteArray.empty [] 0 = .ok s.data.toList (((pk (2 ^ wd) wd s [] (wd + 1) 0 (Bts.low (2 ^ wd) (wd + 1))).length + 7) / 8) := by
  obtain ⟨c, hc⟩ : ∃ c : Nat, 2 ^ wd = c := ⟨_, rfl⟩
  have hcb : 4 ≤ c ∧ c ≤ 256 := by
    rcases (show wd = 2 ∨ wd = 3 ∨ wd = 4 ∨ wd = 5 ∨ wd = 6 ∨ wd = 7 ∨ wd = 8 by omega) with h | h | h | h | h | h | h <;> subst h <;> omega
  rw [hc] at hgood hV hq hlen ⊢
  obtain ⟨P, hP⟩ : ∃ P, pk c wd s [] (wd + 1) 0 (Bts.low c (wd + 1)) = P := ⟨_, rfl⟩
  rw [hP] at hV hq hlen ⊢
  obtain ⟨R, hR⟩ := pk_pre c wd s _ 0 [] (wd + 1) (Bts.low c (wd + 1)) (Nat.le_refl _)
  have hp2 := hP
  rw [hR] at hp2
  have hpow : c < 2 ^ (wd + 1) := by rw [Nat.pow_succ, hc]; omega
  have hpl : wd + 1 ≤ P.length := by rw [← hp2, List.length_append, Bts.low_length]; omega
  have hr := read_code (Bits := []) (R := R) (x := c) (k := wd + 1) (by rw [← hp2]; rfl) hpow hV (by simp; omega)
  have ht := trip c wd most s P V Z q len hc h2 h8 hgood hmost hV hq hlen hcb.2 hcb.1 _ 0 [] [] (wd + 1) ByteArray.empty (Bts.low c (wd + 1)) (Nat.le_refl _) (by omega) (Wl.nil (by omega)) (.inl ⟨rfl, rfl, rfl⟩) (by rw [Nat.pow_succ, hc]; simp; omega) (by omega) (by omega) hP (fun _ => rfl)
  simp only [List.length_nil] at hr
  rw [unl_clear (n := c) (by omega) (by omega) hr rfl]
  rw [Bts.low_length, List.take_zero] at ht
  rw [Nat.zero_add]
  exact ht
end Go.Proofs.YtdeiolagnheihaaDoor.Lz
