/- Plain law of bursts: bits turned within 32 in a row change the CRC. No program in sight. -/
import Derived.Test.YtdeiolagnheihaaDoorCrc
namespace Crc
/-- the number whose digits to base 256 are the bytes, the lowest first -/
def num : List UInt8 → Nat
  | [] => 0
  | b :: l => b.toNat + 256 * num l
theorem num_cons (b : UInt8) (l : List UInt8) : num (b :: l) = b.toNat ^^^ (256 * num l) := by
  have h := split8 (num (b :: l))
  have hb : b.toNat < 256 := b.toNat_lt
  have e1 : num (b :: l) / 256 = num l := by show (b.toNat + 256 * num l) / 256 = _; omega
  have e2 : num (b :: l) % 256 = b.toNat := by show (b.toNat + 256 * num l) % 256 = _; omega
  rw [e1, e2, Nat.xor_comm] at h
  exact h
theorem run_num (l : List UInt8) : ∀ c : Nat, run c l = Tn (8 * l.length) (c ^^^ num l) := by
  induction l with
  | nil => intro c; simp [run, num, Tn]
  | cons b l ih =>
    intro c
    show run (byte c b.toNat) l = _
    rw [ih, List.length_cons, show 8 * (l.length + 1) = 8 + 8 * l.length by omega, Tn_add, num_cons, ← Nat.xor_assoc, Tn_xor 8 (c ^^^ b.toNat), T8_high]
    rfl
theorem num_lt (l : List UInt8) : num l < 2 ^ (8 * l.length) := by
  induction l with
  | nil => simp [num]
  | cons b l ih =>
    have hb : b.toNat < 256 := b.toNat_lt
    rw [List.length_cons, show 8 * (l.length + 1) = 8 * l.length + 8 by omega, Nat.pow_add]
    show b.toNat + 256 * num l < _
    omega
theorem num_inj : ∀ (l m : List UInt8), l.length = m.length → num l = num m → l = m
  | [], [], _, _ => rfl
  | [], _ :: _, h, _ => by simp at h
  | _ :: _, [], h, _ => by simp at h
  | a :: l, b :: m, h, e => by
    have ha : a.toNat < 256 := a.toNat_lt
    have hb : b.toNat < 256 := b.toNat_lt
    have e' : a.toNat + 256 * num l = b.toNat + 256 * num m := e
    have h1 : a.toNat = b.toNat := by omega
    have h2 : num l = num m := by omega
    rw [UInt8.toNat_inj.1 h1, num_inj l m (by simpa using h) h2]
theorem num_set (l : List UInt8) : ∀ (j : Nat) (c : UInt8), (hj : j < l.length) → num (l.set j c) = num l ^^^ ((l[j].toNat ^^^ c.toNat) * 256 ^ j) := by
  induction l with
  | nil => intro j c hj; simp at hj
  | cons b l ih =>
    intro j c hj
    cases j with
    | zero =>
      simp only [List.set_cons_zero, List.getElem_cons_zero, Nat.pow_zero, Nat.mul_one]
      rw [num_cons, num_cons, show b.toNat ^^^ 256 * num l ^^^ (b.toNat ^^^ c.toNat) = (b.toNat ^^^ b.toNat) ^^^ (c.toNat ^^^ 256 * num l) by ac_rfl, Nat.xor_self, Nat.zero_xor]
    | succ j =>
      simp only [List.set_cons_succ, List.getElem_cons_succ]
      rw [num_cons, num_cons, ih j c (by simpa using hj), Nat.xor_assoc]
      congr 1
      rw [show (256 : Nat) = 2 ^ 8 from rfl, Nat.mul_comm, Nat.mul_comm (2 ^ 8) (num l), ← Nat.shiftLeft_eq, ← Nat.shiftLeft_eq, Nat.shiftLeft_xor_distrib, Nat.shiftLeft_eq, Nat.shiftLeft_eq]
      congr 1
      rw [Nat.mul_assoc, ← Nat.pow_succ]
theorem num_flip (l : List UInt8) (j t : Nat) (c : UInt8) (hj : j < l.length) (hc : c.toNat = l[j].toNat ^^^ 2 ^ t) : num (l.set j c) = num l ^^^ 2 ^ (8 * j + t) := by
  rw [num_set l j c hj, hc, ← Nat.xor_assoc, Nat.xor_self, Nat.zero_xor, show (256 : Nat) = 2 ^ 8 from rfl, ← Nat.pow_mul, ← Nat.pow_add, Nat.add_comm]
/-- what has been turned after i rounds -/
def turned (turn at_ len i : Nat) : Nat := (turn % 2 ^ i) * 2 ^ at_ % 2 ^ len
theorem turned_bit (turn a len i j : Nat) : (turned turn a len i).testBit j = (decide (j < len) && (decide (a ≤ j) && (decide (j - a < i) && turn.testBit (j - a)))) := by
  unfold turned
  rw [Nat.testBit_mod_two_pow, Nat.mul_comm, Nat.testBit_two_pow_mul, Nat.testBit_mod_two_pow]
theorem turned_zero (turn a len : Nat) : turned turn a len 0 = 0 := by
  unfold turned; simp [Nat.mod_one]
theorem turned_yes (turn a len i : Nat) (hb : turn.testBit i = true) (hk : a + i < len) : turned turn a len (i + 1) = turned turn a len i ^^^ 2 ^ (a + i) := by
  apply Nat.eq_of_testBit_eq; intro j
  rw [Nat.testBit_xor, turned_bit, turned_bit, Nat.testBit_two_pow]
  by_cases h : a + i = j
  · subst h; simp [hk, hb]
  · have e : decide (j - a < i + 1) = decide (j - a < i) ∨ ¬ a ≤ j := by
      by_cases ha : a ≤ j
      · left; simp only [decide_eq_decide]; omega
      · right; exact ha
    rcases e with e | e
    · simp [e, h]
    · simp [e, h]
theorem turned_no (turn a len i : Nat) (h : ¬ (turn.testBit i = true ∧ a + i < len)) : turned turn a len (i + 1) = turned turn a len i := by
  apply Nat.eq_of_testBit_eq; intro j
  rw [turned_bit, turned_bit]
  by_cases e : a + i = j
  · subst e
    by_cases hb : turn.testBit i = true
    · have : ¬ a + i < len := fun hk => h ⟨hb, hk⟩
      simp [this]
    · simp at hb; simp [hb]
  · by_cases ha : a ≤ j
    · have : decide (j - a < i + 1) = decide (j - a < i) := by simp only [decide_eq_decide]; omega
      rw [this]
    · simp [ha]
theorem T_ne {x : Nat} (h : x < 2 ^ 32) (hx : x ≠ 0) : T x ≠ 0 := by
  unfold T
  rcases Nat.mod_two_eq_zero_or_one x with h0 | h1
  · rw [h0]; simp; omega
  · rw [h1, if_pos rfl]
    intro hz
    have hb := congrArg (fun n => n.testBit 31) hz
    simp only [Nat.testBit_xor, Nat.zero_testBit] at hb
    have h31 : (x / 2).testBit 31 = false := Nat.testBit_lt_two_pow (by omega)
    rw [h31] at hb
    exact absurd hb (by decide)
theorem Tn_ne {n x : Nat} (h : x < 2 ^ 32) (hx : x ≠ 0) : Tn n x ≠ 0 := by
  induction n generalizing x with
  | zero => exact hx
  | succ n ih => exact ih (T_lt h) (T_ne h hx)
theorem Tn_shift (a x : Nat) : Tn a (x * 2 ^ a) = x := by
  induction a generalizing x with
  | zero => simp [Tn]
  | succ a ih =>
    simp only [Tn]
    rw [show x * 2 ^ (a + 1) = 2 * (x * 2 ^ a) by rw [Nat.pow_succ]; ac_rfl, T_even, ih]
theorem turned_all (turn a len : Nat) (ht : turn < 2 ^ 32) (ha : a < len) : turned turn a len 32 = (turn % 2 ^ (len - a)) * 2 ^ a := by
  unfold turned
  rw [Nat.mod_eq_of_lt ht]
  conv => lhs; rw [show len = (len - a) + a by omega, Nat.pow_add]
  rw [Nat.mul_mod_mul_right]
/-- the law: what was turned shows in the sum, unless nothing was -/
theorem burst (l m : List UInt8) (turn a : Nat) (hl : l.length = m.length) (ht : turn < 2 ^ 32) (ha : a < 8 * l.length)
    (hm : num m = num l ^^^ turned turn a (8 * l.length) 32) : m = l ∨ crc m ≠ crc l := by
  by_cases hx : turn % 2 ^ (8 * l.length - a) = 0
  · left
    rw [turned_all turn a _ ht ha, hx, Nat.zero_mul, Nat.xor_zero] at hm
    exact num_inj _ _ hl.symm hm
  · right
    intro he
    unfold crc more at he
    have h1 : run (flip 0) m = run (flip 0) l := by
      have := congrArg flip he; rwa [flip_flip, flip_flip] at this
    rw [run_num, run_num, ← hl, hm, ← Nat.xor_assoc, Tn_xor _ (flip 0 ^^^ num l)] at h1
    have h2 : Tn (8 * l.length) (turned turn a (8 * l.length) 32) = 0 := by
      have := congrArg (fun z => Tn (8 * l.length) (flip 0 ^^^ num l) ^^^ z) h1
      simp only [← Nat.xor_assoc, Nat.xor_self, Nat.zero_xor] at this
      exact this
    rw [turned_all turn a _ ht ha, show 8 * l.length = a + (8 * l.length - a) by omega, Tn_add, Tn_shift] at h2
    refine Tn_ne ?_ hx ?_ (n := 8 * l.length - a)
    · exact Nat.lt_of_le_of_lt (Nat.mod_le _ _) ht
    · have e : a + (8 * l.length - a) - a = 8 * l.length - a := by omega
      rw [e] at h2
      exact h2
end Crc
