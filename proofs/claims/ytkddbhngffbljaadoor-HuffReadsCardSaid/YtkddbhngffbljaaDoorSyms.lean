/- Symbols of a code in the order of their words. No program's function is named. -/
import Derived.Test.YtkddbhngffbljaaDoorCodes
namespace Go.Proofs.YtkddbhngffbljaaDoor
open Go.RowKit
/-- elements of length n among the first i -/
def symL (f : Nat → Int) (n : Nat) : Nat → List Nat
  | 0 => []
  | i + 1 => symL f n i ++ (if f i = n then [i] else [])
/-- symbols of lengths 1 to n -/
def symA (f : Nat → Int) (len : Nat) : Nat → List Nat
  | 0 => []
  | n + 1 => symA f len n ++ symL f (n + 1) len
theorem symL_length (f : Nat → Int) (n : Nat) : ∀ i, (symL f n i).length = many f n i := by
  intro i
  induction i with
  | zero => rfl
  | succ i ih => simp only [symL, List.length_append, ih, many]; split <;> simp
theorem symL_yes (f : Nat → Int) (n i : Nat) (h : f i = n) : symL f n (i + 1) = symL f n i ++ [i] := by simp [symL, h]
theorem symL_no (f : Nat → Int) (n i : Nat) (h : ¬ f i = n) : symL f n (i + 1) = symL f n i := by simp [symL, h]
theorem symL_get (f : Nat → Int) (n i : Nat) (h : f i = n) : ∀ len, i < len → (symL f n len)[many f n i]? = some i := by
  intro len
  induction len with
  | zero => intro h; omega
  | succ len ih =>
    intro hl
    rcases Nat.lt_succ_iff_lt_or_eq.1 hl with q | q
    · have h1 := ih q
      have hlt : many f n i < (symL f n len).length := by
        rcases Nat.lt_or_ge (many f n i) (symL f n len).length with r | r
        · exact r
        · rw [List.getElem?_eq_none r] at h1; cases h1
      simp only [symL]
      rw [List.getElem?_append_left hlt, h1]
    · subst q
      rw [symL_yes f n i h, ← symL_length f n i, List.getElem?_append_right (Nat.le_refl _), Nat.sub_self]; rfl
/-- how many symbols have lengths 1 to n -/
def upTo (f : Nat → Int) (len : Nat) : Nat → Nat
  | 0 => 0
  | n + 1 => upTo f len n + many f (n + 1) len
theorem symA_length (f : Nat → Int) (len : Nat) : ∀ n, (symA f len n).length = upTo f len n := by
  intro n
  induction n with
  | zero => rfl
  | succ n ih => simp only [symA, List.length_append, ih, symL_length, upTo]
theorem symA_get (f : Nat → Int) (len : Nat) : ∀ N n j x, n < N → (symL f (n + 1) len)[j]? = some x → (symA f len N)[upTo f len n + j]? = some x := by
  intro N
  induction N with
  | zero => intro n j x h; omega
  | succ N ih =>
    intro n j x h hx
    simp only [symA]
    rcases Nat.lt_succ_iff_lt_or_eq.1 h with q | q
    · have h1 := ih n j x q hx
      have hlt : upTo f len n + j < (symA f len N).length := by
        rcases Nat.lt_or_ge (upTo f len n + j) (symA f len N).length with r | r
        · exact r
        · rw [List.getElem?_eq_none r] at h1; cases h1
      rw [List.getElem?_append_left hlt, h1]
    · subst q
      rw [List.getElem?_append_right (by rw [symA_length]; omega), symA_length, Nat.add_sub_cancel_left, hx]
theorem upTo_le (f : Nat → Int) (len : Nat) : ∀ n m, n ≤ m → upTo f len n ≤ upTo f len m := by
  intro n m h
  induction m with
  | zero => have : n = 0 := by omega
            subst this; exact Nat.le_refl _
  | succ m ih =>
    rcases Nat.lt_or_ge n (m + 1) with q | q
    · have := ih (by omega); simp only [upTo]; omega
    · have : n = m + 1 := by omega
      subst this; exact Nat.le_refl _
end Go.Proofs.YtkddbhngffbljaaDoor
