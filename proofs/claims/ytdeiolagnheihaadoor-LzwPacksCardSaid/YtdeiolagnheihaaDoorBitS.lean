/- Bits as texts of '0' and '1'. No program in sight. -/
namespace Bts
def ch (b : Bool) : UInt8 := if b then 49 else 48
def str (L : List Bool) : List UInt8 := L.map ch
def val : List Bool → Nat
  | [] => 0
  | b :: L => (if b then 1 else 0) + 2 * val L
theorem str_length (L : List Bool) : (str L).length = L.length := by simp [str]
theorem str_append (L M : List Bool) : str (L ++ M) = str L ++ str M := by simp [str]
theorem val_append (L M : List Bool) : val (L ++ M) = val L + val M * 2 ^ L.length := by
  induction L with
  | nil => simp [val]
  | cons b L ih =>
    simp only [List.cons_append, val, ih, List.length_cons, Nat.pow_succ]
    rw [Nat.mul_add, Nat.mul_comm 2 (val M * 2 ^ L.length), Nat.mul_assoc]; omega
theorem val_lt (L : List Bool) : val L < 2 ^ L.length := by
  induction L with
  | nil => decide
  | cons b L ih => simp only [val, List.length_cons, Nat.pow_succ]; split <;> omega
theorem val_snoc (L : List Bool) (b : Bool) : val (L ++ [b]) = val L + (if b then 1 else 0) * 2 ^ L.length := by
  rw [val_append]; simp [val]
def low (x : Nat) : Nat → List Bool
  | 0 => []
  | k + 1 => low x k ++ [x / 2 ^ k % 2 == 1]
def high (x : Nat) : Nat → List Bool
  | 0 => []
  | k + 1 => (x / 2 ^ k % 2 == 1) :: high x k
theorem low_length (x k : Nat) : (low x k).length = k := by induction k with | zero => rfl | succ k ih => simp [low, ih]
theorem high_length (x k : Nat) : (high x k).length = k := by induction k with | zero => rfl | succ k ih => simp [high, ih]
theorem bit_val (y : Nat) : (if (y % 2 == 1) = true then 1 else 0) = y % 2 := by
  rcases Nat.mod_two_eq_zero_or_one y with h | h <;> simp [h]
theorem val_low (x k : Nat) : val (low x k) = x % 2 ^ k := by
  induction k with
  | zero => simp [low, val, Nat.mod_one]
  | succ k ih => rw [low, val_snoc, ih, low_length, bit_val, Nat.pow_succ, Nat.mod_mul, Nat.mul_comm (2 ^ k)]
theorem val_high_succ (x k : Nat) : val (high x (k + 1)) = x / 2 ^ k % 2 + 2 * val (high x k) := by
  simp only [high, val]; rw [bit_val]
theorem ch_toNat (b : Bool) : (ch b).toNat = 48 + (if b then 1 else 0) := by cases b <;> rfl
theorem str_inj {L M : List Bool} (h : str L = str M) : L = M := by
  induction L generalizing M with
  | nil => cases M with | nil => rfl | cons _ _ => simp [str] at h
  | cons b L ih => cases M with
    | nil => simp [str] at h
    | cons c M =>
      simp only [str, List.map_cons, List.cons.injEq] at h
      have e : b = c := by cases b <;> cases c <;> first | rfl | (have := h.1; revert this; decide)
      rw [e, ih h.2]
theorem val_inj : ∀ {L M : List Bool}, L.length = M.length → val L = val M → L = M
  | [], [], _, _ => rfl
  | [], _ :: _, h, _ => by simp at h
  | _ :: _, [], h, _ => by simp at h
  | b :: L, c :: M, h, e => by
    simp only [val] at e
    have e2 : b = c := by cases b <;> cases c <;> simp at e ⊢ <;> omega
    subst e2
    have e3 : L = M := val_inj (by simpa using h) (by omega)
    rw [e3]
theorem val_take (L : List Bool) (k : Nat) : val (L.take k) = val L % 2 ^ k := by
  rcases Nat.lt_or_ge L.length k with h | h
  · have q : val L < 2 ^ k := Nat.lt_of_lt_of_le (val_lt L) (Nat.pow_le_pow_right (by decide) (by omega))
    rw [List.take_of_length_le (by omega), Nat.mod_eq_of_lt q]
  · have e := val_append (L.take k) (L.drop k)
    have q := val_lt (L.take k)
    rw [List.length_take, Nat.min_eq_left h] at q
    rw [List.take_append_drop, List.length_take, Nat.min_eq_left h] at e
    rw [e, Nat.add_mul_mod_self_right, Nat.mod_eq_of_lt q]
theorem val_drop (L : List Bool) (k : Nat) : val (L.drop k) = val L / 2 ^ k := by
  rcases Nat.lt_or_ge L.length k with h | h
  · have q : val L < 2 ^ k := Nat.lt_of_lt_of_le (val_lt L) (Nat.pow_le_pow_right (by decide) (by omega))
    rw [List.drop_of_length_le (by omega), Nat.div_eq_of_lt q]; rfl
  · have e := val_append (L.take k) (L.drop k)
    have q := val_lt (L.take k)
    rw [List.length_take, Nat.min_eq_left h] at q
    rw [List.take_append_drop, List.length_take, Nat.min_eq_left h] at e
    rw [e, Nat.add_mul_div_right _ _ (Nat.two_pow_pos _), Nat.div_eq_of_lt q, Nat.zero_add]
theorem val_get (L : List Bool) (k : Nat) (h : k < L.length) : (if L[k] = true then 1 else 0) = val L / 2 ^ k % 2 := by
  rw [← val_drop, List.drop_eq_getElem_cons h]
  simp only [val]; split <;> omega
theorem byte_add (v i j : Nat) (hv : v < 2 ^ i) : (v + 2 ^ i) / 256 ^ j % 256 = if j = i / 8 then v / 256 ^ j % 256 + 2 ^ (i % 8) else v / 256 ^ j % 256 := by
  have e256 : ∀ k : Nat, 256 ^ k = 2 ^ (8 * k) := fun k => by rw [Nat.pow_mul]
  rw [e256]
  by_cases h : j = i / 8
  · rw [if_pos h]
    have hi : i = i % 8 + 8 * j := by omega
    have e : 2 ^ i = 2 ^ (i % 8) * 2 ^ (8 * j) := by rw [← Nat.pow_add, ← hi]
    have q : v / 2 ^ (8 * j) < 2 ^ (i % 8) := (Nat.div_lt_iff_lt_mul (Nat.two_pow_pos _)).2 (by rw [← e]; exact hv)
    have q2 : 2 ^ (i % 8) ≤ 128 := Nat.pow_le_pow_right (n := 2) (by decide) (show i % 8 ≤ 7 by omega)
    rw [e, Nat.add_mul_div_right _ _ (Nat.two_pow_pos _)]
    generalize v / 2 ^ (8 * j) = y at *
    omega
  · rw [if_neg h]
    rcases Nat.lt_or_ge j (i / 8) with h1 | h1
    · have hi : i = (i - 8 * j - 8) + 8 + 8 * j := by omega
      have e : 2 ^ i = 2 ^ (i - 8 * j - 8) * 256 * 2 ^ (8 * j) := by
        rw [show (256 : Nat) = 2 ^ 8 from rfl, ← Nat.pow_add, ← Nat.pow_add, ← hi]
      rw [e, Nat.add_mul_div_right _ _ (Nat.two_pow_pos _), Nat.add_mul_mod_self_right]
    · have h2 : 2 ^ (i + 1) ≤ 2 ^ (8 * j) := Nat.pow_le_pow_right (by decide) (by omega)
      rw [Nat.pow_succ] at h2
      rw [Nat.div_eq_of_lt (by omega), Nat.div_eq_of_lt (by omega)]
theorem byte_small (v i : Nat) (hv : v < 2 ^ i) : v / 256 ^ (i / 8) % 256 + 2 ^ (i % 8) < 256 := by
  have hi : i = i % 8 + 8 * (i / 8) := by omega
  have e : 2 ^ i = 2 ^ (i % 8) * 2 ^ (8 * (i / 8)) := by rw [← Nat.pow_add, ← hi]
  have q : v / 2 ^ (8 * (i / 8)) < 2 ^ (i % 8) := (Nat.div_lt_iff_lt_mul (Nat.two_pow_pos _)).2 (by rw [← e]; exact hv)
  have q2 : 2 ^ (i % 8) ≤ 128 := Nat.pow_le_pow_right (n := 2) (by decide) (show i % 8 ≤ 7 by omega)
  rw [show (256 : Nat) ^ (i / 8) = 2 ^ (8 * (i / 8)) by rw [Nat.pow_mul]]
  generalize v / 2 ^ (8 * (i / 8)) = y at *
  omega
theorem take_succ (L : List Bool) (i : Nat) (h : i < L.length) : val (L.take (i + 1)) = val (L.take i) + (if L[i] = true then 1 else 0) * 2 ^ i := by
  rw [List.take_succ_eq_append_getElem h, val_snoc, List.length_take, Nat.min_eq_left (by omega)]
theorem take_lt (L : List Bool) (i : Nat) (h : i ≤ L.length) : val (L.take i) < 2 ^ i := by
  have q := val_lt (L.take i)
  rwa [List.length_take, Nat.min_eq_left h] at q
/-- all bits of bytes -/
def allB : List UInt8 → List Bool
  | [] => []
  | b :: l => low b.toNat 8 ++ allB l
theorem allB_length (l : List UInt8) : (allB l).length = 8 * l.length := by
  induction l with
  | nil => rfl
  | cons b l ih => simp only [allB, List.length_append, low_length, ih, List.length_cons]; omega
theorem allB_append (l m : List UInt8) : allB (l ++ m) = allB l ++ allB m := by
  induction l with
  | nil => rfl
  | cons b l ih => simp only [List.cons_append, allB, ih, List.append_assoc]
end Bts
