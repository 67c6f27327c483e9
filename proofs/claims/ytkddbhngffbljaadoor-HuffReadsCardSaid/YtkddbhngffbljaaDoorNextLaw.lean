/- The symbol that comes next: plain laws. No function of the program is named. -/
import Derived.Test.YtkddbhngffbljaaDoorSyms
import Derived.Test.YtkddbhngffbljaaDoorApart
import Derived.Test.YtkddbhngffbljaaDoorBitS
namespace Go.Proofs.YtkddbhngffbljaaDoor
open Go.RowKit
/-- the number of n bits of a text's number from a place on, the first one the highest -/
def codeAt (N a : Nat) : Nat → Nat
  | 0 => 0
  | n + 1 => 2 * codeAt N a n + N / 2 ^ (a + n) % 2
def NoHit (f : Nat → Int) (len N a n : Nat) : Prop := ∀ j, 1 ≤ j → j ≤ n → first f len j + many f j len ≤ codeAt N a j
theorem codeAt_lt (N a : Nat) : ∀ n, codeAt N a n < 2 ^ n := by
  intro n
  induction n with
  | zero => exact (by decide : 0 < 1)
  | succ n ih => simp only [codeAt, Nat.pow_succ]; have := Nat.mod_lt (N / 2 ^ (a + n)) (show 0 < 2 by decide); omega
theorem codeAt_div (N a n : Nat) : ∀ d, codeAt N a (n + d) / 2 ^ d = codeAt N a n := by
  intro d
  induction d with
  | zero => simp
  | succ d ih =>
    rw [show n + (d + 1) = n + d + 1 by omega, Nat.pow_succ, Nat.mul_comm, ← Nat.div_div_eq_div_mul]
    simp only [codeAt]
    rw [show (2 * codeAt N a (n + d) + N / 2 ^ (a + (n + d)) % 2) / 2 = codeAt N a (n + d) by have := Nat.mod_lt (N / 2 ^ (a + (n + d))) (show 0 < 2 by decide); omega, ih]
theorem codeAt_first (N a : Nat) : ∀ k, codeAt N a (k + 1) = N / 2 ^ a % 2 * 2 ^ k + codeAt N (a + 1) k := by
  intro k
  induction k with
  | zero => simp [codeAt]
  | succ k ih =>
    have e : codeAt N a (k + 1 + 1) = 2 * codeAt N a (k + 1) + N / 2 ^ (a + (k + 1)) % 2 := rfl
    rw [e, ih]
    simp only [codeAt]
    rw [show a + 1 + k = a + (k + 1) by omega, Nat.pow_succ, Nat.mul_add, ← Nat.mul_assoc, Nat.mul_comm 2 (N / 2 ^ a % 2), Nat.mul_assoc (N / 2 ^ a % 2), Nat.mul_comm 2 (2 ^ k)]; omega
/-- what was laid with the highest bit first is read so -/
theorem codeAt_high (x : Nat) : ∀ k N a, N / 2 ^ a % 2 ^ k = Bts.val (Bts.high x k) → codeAt N a k = x % 2 ^ k := by
  intro k
  induction k with
  | zero => intro N a _; simp [codeAt, Nat.mod_one]
  | succ k ih =>
    intro N a h
    rw [Bts.val_high_succ, Nat.pow_succ, Nat.mul_comm (2 ^ k) 2] at h
    have h1 : N / 2 ^ a % 2 = x / 2 ^ k % 2 := by
      have := congrArg (· % 2) h
      rw [Nat.mod_mul_right_mod] at this
      omega
    have h2 : N / 2 ^ (a + 1) % 2 ^ k = Bts.val (Bts.high x k) := by
      have := congrArg (· / 2) h
      rw [Nat.mod_mul_right_div_self] at this
      rw [Nat.pow_succ, ← Nat.div_div_eq_div_mul, this]
      have := Nat.mod_lt (x / 2 ^ k) (show 0 < 2 by decide); omega
    rw [codeAt_first, ih N (a + 1) h2, h1, Nat.pow_succ, Nat.mod_mul, Nat.mul_comm (2 ^ k)]; omega
theorem NoHit.next {f : Nat → Int} {len N a n : Nat} (h : NoHit f len N a n) : first f len (n + 1) ≤ 2 * codeAt N a n := by
  cases n with
  | zero => exact Nat.zero_le _
  | succ n =>
    have := h (n + 1) (by omega) (Nat.le_refl _)
    rw [first_succ f len (n + 1) (by omega)]; omega
theorem NoHit.zero (f : Nat → Int) (len N a : Nat) : NoHit f len N a 0 := fun j h1 h2 => by omega
theorem NoHit.succ {f : Nat → Int} {len N a n : Nat} (h : NoHit f len N a n) (h1 : first f len (n + 1) + many f (n + 1) len ≤ codeAt N a (n + 1)) : NoHit f len N a (n + 1) := by
  intro j h2 h3
  rcases Nat.lt_or_ge j (n + 1) with q | q
  · exact h j h2 (by omega)
  · have : j = n + 1 := by omega
    subst this; exact h1
theorem NoHit.all {f : Nat → Int} {len N a n : Nat} (h : NoHit f len N a n) (hu : upTo f len 15 ≤ upTo f len n) (hn : n ≤ 15) : NoHit f len N a 15 := by
  have key : ∀ d, n + d ≤ 15 → NoHit f len N a (n + d) := by
    intro d
    induction d with
    | zero => intro _; exact h
    | succ d ih =>
      intro hd
      have h1 := ih (by omega)
      have u1 := upTo_le f len n (n + d) (by omega)
      have u2 := upTo_le f len (n + d + 1) 15 (by omega)
      have u3 : upTo f len (n + d + 1) = upTo f len (n + d) + many f (n + d + 1) len := rfl
      have u4 : many f (n + d + 1) len = 0 := by omega
      refine h1.succ ?_
      have := h1.next
      show first f len (n + d + 1) + many f (n + d + 1) len ≤ 2 * codeAt N a (n + d) + _
      omega
  have := key (15 - n) (by omega)
  rwa [show n + (15 - n) = 15 by omega] at this
theorem nohit_word {f : Nat → Int} {len N a k m : Nat} (hk : f k = m) (h1 : 1 ≤ m) (hc : codeAt N a m = word f len k) : NoHit f len N a (m - 1) := by
  intro j hj1 hj2
  obtain ⟨d, rfl⟩ : ∃ d, m = j + d + 1 := ⟨m - j - 1, by omega⟩
  have e := codeAt_div N a j (d + 1)
  rw [show j + (d + 1) = j + d + 1 by omega, hc] at e
  have hw : word f len k = first f len (j + d + 1) + many f (j + d + 1) k := by unfold word; rw [if_pos (by omega), hk]; rfl
  have hg := first_ge f len j hj1 d
  rw [← e, Nat.le_div_iff_mul_le (Nat.two_pow_pos _), Nat.mul_comm, hw]; omega
theorem symL_inv (f : Nat → Int) (n : Nat) : ∀ i j x, (symL f n i)[j]? = some x → x < i ∧ f x = n ∧ many f n x = j := by
  intro i
  induction i with
  | zero => intro j x h; simp [symL] at h
  | succ i ih =>
    intro j x h
    simp only [symL] at h
    rcases Nat.lt_or_ge j (symL f n i).length with q | q
    · rw [List.getElem?_append_left q] at h
      have := ih j x h
      exact ⟨by omega, this.2⟩
    · rw [List.getElem?_append_right q] at h
      split at h
      · have hj : j - (symL f n i).length = 0 := by
          rcases Nat.eq_zero_or_pos (j - (symL f n i).length) with r | r
          · exact r
          · rw [List.getElem?_eq_none (show [i].length ≤ _ from r)] at h; cases h
        rw [hj] at h
        simp at h; subst h
        refine ⟨by omega, by assumption, ?_⟩
        rw [← symL_length]; omega
      · simp at h
/-- the symbol of a word that is met -/
theorem hit_sym (f : Nat → Int) (len c n : Nat) (hn1 : 1 ≤ n) (hn : n ≤ 15) (h1 : first f len n ≤ c) (h2 : c < first f len n + many f n len) :
    ∃ k, (symA f len 15)[upTo f len (n - 1) + (c - first f len n)]? = some k ∧ k < len ∧ f k = n ∧ word f len k = c := by
  have hlt : c - first f len n < (symL f n len).length := by rw [symL_length]; omega
  refine ⟨(symL f n len)[c - first f len n], ?_, ?_⟩
  · obtain ⟨m, rfl⟩ : ∃ m, n = m + 1 := ⟨n - 1, by omega⟩
    exact symA_get f len 15 m _ _ (by omega) (List.getElem?_eq_getElem hlt)
  · obtain ⟨q1, q2, q3⟩ := symL_inv f n len _ _ (List.getElem?_eq_getElem hlt)
    refine ⟨q1, q2, ?_⟩
    unfold word; rw [if_pos (by omega), q2]
    simp only [Int.toNat_natCast]
    rw [q3]; omega
end Go.Proofs.YtkddbhngffbljaaDoor
