/- Plain laws of joined sums. No program in sight. -/
import Derived.Test.YteacjlalekbhpaaDoorBurst
namespace Crc
/-- the sum of two texts joined, the second one n bytes long -/
def join (a b n : Nat) : Nat := Tn (8 * n) a ^^^ b
theorem join_lt {a b n : Nat} (ha : a < 2 ^ 32) (hb : b < 2 ^ 32) : join a b n < 2 ^ 32 := Nat.xor_lt_two_pow (Tn_lt ha) hb
theorem join_join (x y z a b : Nat) : join (join x y a) z b = join x (join y z b) (a + b) := by
  unfold join
  rw [Tn_xor, ← Tn_add, show 8 * a + 8 * b = 8 * (a + b) by omega, Nat.xor_assoc]
theorem run_flip (c : Nat) (l : List UInt8) : run (flip c) l = Tn (8 * l.length) c ^^^ run (flip 0) l := by
  rw [run_num, run_num, ← Tn_xor]
  congr 1
  unfold flip
  rw [Nat.zero_xor, Nat.xor_assoc]
theorem crc_join (a b : List UInt8) : crc (a ++ b) = join (crc a) (crc b) b.length := by
  show more 0 (a ++ b) = _
  rw [← more_more]
  show flip (run (flip (crc a)) b) = Tn _ (crc a) ^^^ flip (run (flip 0) b)
  rw [run_flip]; unfold flip; rw [Nat.xor_assoc]
/-- a linear map's value at a number, bit by bit -/
theorem bit_step (F : Nat → Nat) (hF : ∀ a b, F (a ^^^ b) = F a ^^^ F b) (hF0 : F 0 = 0) (v i : Nat) :
    F (v % 2 ^ (i + 1)) = if v / 2 ^ i % 2 = 1 then F (v % 2 ^ i) ^^^ F (2 ^ i) else F (v % 2 ^ i) := by
  have e : v % 2 ^ (i + 1) = (v % 2 ^ i) ^^^ (v / 2 ^ i % 2 * 2 ^ i) := by
    apply Nat.eq_of_testBit_eq; intro j
    rw [Nat.testBit_xor, Nat.testBit_mod_two_pow, Nat.testBit_mod_two_pow, Nat.mul_comm, Nat.testBit_two_pow_mul]
    have hb : (v / 2 ^ i % 2).testBit (j - i) = (decide (j - i = 0) && v.testBit (i + (j - i))) := by
      rw [show (2 : Nat) = 2 ^ 1 from rfl, Nat.testBit_mod_two_pow, show (2 ^ 1) ^ i = 2 ^ i by simp, Nat.testBit_div_two_pow, Nat.add_comm]
      congr 1
      simp only [decide_eq_decide]; omega
    rw [hb]
    by_cases h1 : i ≤ j
    · by_cases h2 : j = i
      · subst h2; simp
      · have h3 : ¬ j < i := by omega
        have h4 : ¬ j < i + 1 := by omega
        have h5 : ¬ j - i = 0 := by omega
        simp [h3, h4, h5]
    · have h3 : j < i := by omega
      have h4 : j < i + 1 := by omega
      simp [h1, h3, h4]
  rw [e, hF]
  rcases Nat.mod_two_eq_zero_or_one (v / 2 ^ i) with h | h
  · rw [h, if_neg (by decide), Nat.zero_mul, hF0, Nat.xor_zero]
  · rw [h, if_pos rfl, Nat.one_mul]
theorem T_pow (i : Nat) : T (2 ^ (i + 1)) = 2 ^ i := by rw [Nat.pow_succ, Nat.mul_comm]; exact T_even _
end Crc
