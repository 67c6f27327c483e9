/- Plain laws of joined sums of Adler's kind. No program in sight. -/
import Derived.Test.YteacjlalekbhpaaDoorAdler
namespace Adl
def S : List UInt8 → Nat
  | [] => 0
  | b :: l => b.toNat + S l
/-- what the second number gains besides n times the first -/
def V : List UInt8 → Nat
  | [] => 0
  | b :: l => b.toNat * (l.length + 1) + V l
theorem run_sum (l : List UInt8) : ∀ p : Nat × Nat, Ok p → run p l = ((p.1 + S l) % 65521, (p.2 + l.length * p.1 + V l) % 65521) := by
  induction l with
  | nil =>
    intro p h
    obtain ⟨h1, h2⟩ := h
    show p = _
    refine Prod.ext ?_ ?_ <;> simp only [S, V, List.length_nil] <;> omega
  | cons b l ih =>
    intro p h
    show run (step p b.toNat) l = _
    rw [ih _ (step_ok p b.toNat)]
    unfold step
    simp only [S, V, List.length_cons]
    refine Prod.ext ?_ ?_
    · simp only; omega
    · simp only
      have e1 : (l.length * ((p.1 + b.toNat) % 65521)) % 65521 = (l.length * (p.1 + b.toNat)) % 65521 := Nat.mul_mod_mod _ _ _
      have e2 : l.length * (p.1 + b.toNat) = l.length * p.1 + b.toNat * l.length := by rw [Nat.mul_add, Nat.mul_comm l.length b.toNat]
      have e3 : (l.length + 1) * p.1 = l.length * p.1 + p.1 := by rw [Nat.add_mul, Nat.one_mul]
      have e4 : b.toNat * (l.length + 1) = b.toNat * l.length + b.toNat := by rw [Nat.mul_add, Nat.mul_one]
      rw [e3, e4]
      rw [e2] at e1
      generalize l.length * ((p.1 + b.toNat) % 65521) = z at *
      generalize l.length * p.1 = y at *
      generalize b.toNat * l.length = t at *
      omega
/-- two sums joined, the second one of n bytes: the numbers -/
def join (a b n : Nat) : Nat :=
  (((start a).2 + (start b).2 + n % 65521 * ((start a).1 + 65520)) % 65521) * 65536 + ((start a).1 + (start b).1 + 65520) % 65521
theorem join_eq (a b n z : Nat) (hz : z = n % 65521 * (a % 65536 % 65521 + 65520)) : join a b n = ((a / 65536 % 65521 + b / 65536 % 65521 + z) % 65521) * 65536 + (a % 65536 % 65521 + b % 65536 % 65521 + 65520) % 65521 := by subst hz; rfl
theorem join_eq' (a b n y : Nat) (hy : y = n % 65521 * ((a % 65536 + 65520) % 65521)) : join a b n = ((a / 65536 % 65521 + b / 65536 % 65521 + y) % 65521) * 65536 + (a % 65536 % 65521 + b % 65536 % 65521 + 65520) % 65521 := by
  obtain ⟨z, hz⟩ : ∃ z, z = n % 65521 * (a % 65536 % 65521 + 65520) := ⟨_, rfl⟩
  have e : y % 65521 = z % 65521 := by
    rw [hy, hz, Nat.mul_mod, Nat.mul_mod (n % 65521) (a % 65536 % 65521 + 65520)]
    have : (a % 65536 + 65520) % 65521 % 65521 = (a % 65536 % 65521 + 65520) % 65521 := by omega
    rw [this]
  rw [join_eq a b n z hz]
  omega
theorem adler_join (a b : List UInt8) : adler (a ++ b) = join (adler a) (adler b) b.length := by
  have h : adler (a ++ b) = more (adler a) b := (more_more 1 a b).symm
  have ok1 := run_ok (start_ok 1) a
  have ok2 := run_ok (start_ok 1) b
  rw [h]
  unfold more join
  have e1 : start (adler a) = run (start 1) a := start_tell ok1
  have e2 : start (adler b) = run (start 1) b := start_tell ok2
  rw [e1, e2]
  generalize run (start 1) a = p at *
  obtain ⟨hp1, hp2⟩ := ok1
  have s1 : start 1 = (1, 0) := rfl
  rw [run_sum b p ⟨hp1, hp2⟩, run_sum b (start 1) (start_ok 1), s1]
  unfold tell
  simp only
  generalize b.length = n
  generalize S b = s
  generalize V b = v
  have f1 : n % 65521 * (p.1 + 65520) % 65521 = n * (p.1 + 65520) % 65521 := Nat.mod_mul_mod _ _ _
  have f2 : n * (p.1 + 65520) = n * p.1 + n * 65520 := Nat.mul_add _ _ _
  rw [f2] at f1
  have g1 : ∀ z y, z % 65521 = (y + n * 65520) % 65521 → (p.2 + y + v) % 65521 = (p.2 + (0 + n * 1 + v) % 65521 + z) % 65521 := by intro z y h; omega
  have g2 : (p.1 + s) % 65521 = (p.1 + (1 + s) % 65521 + 65520) % 65521 := by omega
  rw [g1 _ _ f1, g2]
end Adl
