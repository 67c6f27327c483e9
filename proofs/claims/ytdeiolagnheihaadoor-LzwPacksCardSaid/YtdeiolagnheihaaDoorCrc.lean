/- Plain law of the CRC: a step, eight of them, a byte by the table. No program in sight. -/
namespace Crc
def T (c : Nat) : Nat := (c / 2) ^^^ (if c % 2 = 1 then 3988292384 else 0)
def Tn : Nat → Nat → Nat
  | 0, c => c
  | n + 1, c => Tn n (T c)
theorem xor_half (a b : Nat) : (a ^^^ b) / 2 = a / 2 ^^^ b / 2 := by
  apply Nat.eq_of_testBit_eq; intro i; simp [Nat.testBit_xor, Nat.testBit_div_two]
theorem xor_low (a b : Nat) : (a ^^^ b) % 2 = (a % 2 + b % 2) % 2 := by
  have h := Nat.xor_mod_two_pow (a := a) (b := b) (n := 1)
  rw [show 2 ^ 1 = 2 from rfl] at h
  rw [h]
  rcases Nat.mod_two_eq_zero_or_one a with h | h <;> rcases Nat.mod_two_eq_zero_or_one b with k | k <;> rw [h, k] <;> rfl
theorem T_xor (a b : Nat) : T (a ^^^ b) = T a ^^^ T b := by
  unfold T
  rw [xor_half, xor_low]
  rcases Nat.mod_two_eq_zero_or_one a with h | h <;> rcases Nat.mod_two_eq_zero_or_one b with k | k <;> simp [h, k]
  · rw [Nat.xor_assoc]
  · rw [Nat.xor_assoc, Nat.xor_assoc, Nat.xor_comm _ (b/2)]
  · rw [show a / 2 ^^^ 3988292384 ^^^ (b / 2 ^^^ 3988292384) = (a / 2 ^^^ b / 2) ^^^ (3988292384 ^^^ 3988292384) by ac_rfl, Nat.xor_self, Nat.xor_zero]
theorem Tn_xor (n a b : Nat) : Tn n (a ^^^ b) = Tn n a ^^^ Tn n b := by
  induction n generalizing a b with
  | zero => rfl
  | succ n ih => simp only [Tn]; rw [T_xor, ih]
theorem T_zero : T 0 = 0 := rfl
theorem Tn_zero (n : Nat) : Tn n 0 = 0 := by induction n with | zero => rfl | succ n ih => simpa [Tn, T_zero] using ih
theorem Tn_succ (n c : Nat) : Tn (n + 1) c = T (Tn n c) := by
  induction n generalizing c with
  | zero => rfl
  | succ n ih => show Tn (n+1) (T c) = _; rw [ih]; rfl
theorem Tn_add (m n c : Nat) : Tn (m + n) c = Tn n (Tn m c) := by
  induction m generalizing c with
  | zero => simp [Tn]
  | succ m ih => rw [Nat.succ_add]; exact ih (T c)
theorem T_lt {c : Nat} (h : c < 2 ^ 32) : T c < 2 ^ 32 := by
  unfold T
  exact Nat.xor_lt_two_pow (by omega) (by split <;> omega)
theorem Tn_lt {n c : Nat} (h : c < 2 ^ 32) : Tn n c < 2 ^ 32 := by
  induction n generalizing c with
  | zero => exact h
  | succ n ih => exact ih (T_lt h)
theorem T_even (c : Nat) : T (2 * c) = c := by unfold T; simp
theorem T8_high (h : Nat) : Tn 8 (256 * h) = h := by
  simp only [Tn]
  rw [show 256 * h = 2 * (2 * (2 * (2 * (2 * (2 * (2 * (2 * h))))))) by omega]
  simp only [T_even]
theorem split8 (c : Nat) : c = (256 * (c / 256)) ^^^ (c % 256) := by
  have h := Nat.two_pow_add_eq_or_of_lt (i := 8) (b := c % 256) (Nat.mod_lt _ (by decide)) (c / 256)
  apply Nat.eq_of_testBit_eq; intro i
  rw [Nat.testBit_xor]
  have e1 : (256 * (c / 256)).testBit i = (decide (8 ≤ i) && c.testBit i) := by
    rw [show (256 : Nat) = 2 ^ 8 from rfl, Nat.testBit_two_pow_mul, Nat.testBit_div_two_pow]
    by_cases hi : 8 ≤ i
    · simp [hi]
    · simp [hi]
  have e2 : (c % 256).testBit i = (decide (i < 8) && c.testBit i) := by
    rw [show (256 : Nat) = 2 ^ 8 from rfl, Nat.testBit_mod_two_pow]
  rw [e1, e2]
  by_cases hi : 8 ≤ i
  · simp [hi, show ¬ i < 8 by omega]
  · simp [hi, show i < 8 by omega]
theorem T8_split (c : Nat) : Tn 8 c = Tn 8 (c % 256) ^^^ (c / 256) := by
  conv => lhs; rw [split8 c]
  rw [Tn_xor, T8_high, Nat.xor_comm]
theorem xor_byte_mod (c b : Nat) (hb : b < 256) : (c ^^^ b) % 256 = (c % 256) ^^^ b := by
  rw [show (256 : Nat) = 2 ^ 8 from rfl, Nat.xor_mod_two_pow, Nat.mod_eq_of_lt (a := b) hb]
theorem xor_byte_div (c b : Nat) (hb : b < 256) : (c ^^^ b) / 256 = c / 256 := by
  rw [show (256 : Nat) = 2 ^ 8 from rfl, Nat.xor_div_two_pow, Nat.div_eq_of_lt (a := b) hb, Nat.xor_zero]
/-- one byte -/
def byte (c b : Nat) : Nat := Tn 8 (c ^^^ b)
theorem byte_tab (c b : Nat) (hb : b < 256) : byte c b = Tn 8 (c % 256 ^^^ b) ^^^ (c / 256) := by
  unfold byte; rw [T8_split, xor_byte_mod c b hb, xor_byte_div c b hb]
theorem byte_lt {c b : Nat} (hc : c < 2 ^ 32) (hb : b < 256) : byte c b < 2 ^ 32 := Tn_lt (Nat.xor_lt_two_pow hc (by omega))
def run (c : Nat) (l : List UInt8) : Nat := l.foldl (fun c b => byte c b.toNat) c
theorem run_lt {c : Nat} (hc : c < 2 ^ 32) (l : List UInt8) : run c l < 2 ^ 32 := by
  induction l generalizing c with
  | nil => exact hc
  | cons b l ih => exact ih (byte_lt hc b.toNat_lt)
def flip (c : Nat) : Nat := c ^^^ 4294967295
theorem flip_lt {c : Nat} (hc : c < 2 ^ 32) : flip c < 2 ^ 32 := Nat.xor_lt_two_pow hc (by omega)
theorem flip_flip (c : Nat) : flip (flip c) = c := by unfold flip; rw [Nat.xor_assoc, Nat.xor_self, Nat.xor_zero]
def more (c : Nat) (l : List UInt8) : Nat := flip (run (flip c) l)
def crc (l : List UInt8) : Nat := more 0 l
theorem more_more (c : Nat) (a b : List UInt8) : more (more c a) b = more c (a ++ b) := by
  unfold more; rw [flip_flip]; unfold run; rw [List.foldl_append]
end Crc
