/- Plain law of the Adler sum. No program in sight. -/
namespace Adl
def step (p : Nat × Nat) (b : Nat) : Nat × Nat := ((p.1 + b) % 65521, (p.2 + (p.1 + b) % 65521) % 65521)
def run (p : Nat × Nat) (l : List UInt8) : Nat × Nat := l.foldl (fun p b => step p b.toNat) p
def tell (p : Nat × Nat) : Nat := p.2 * 65536 + p.1
def start (a : Nat) : Nat × Nat := (a % 65536 % 65521, a / 65536 % 65521)
def more (a : Nat) (l : List UInt8) : Nat := tell (run (start a) l)
def adler (l : List UInt8) : Nat := more 1 l
def Ok (p : Nat × Nat) : Prop := p.1 < 65521 ∧ p.2 < 65521
theorem start_ok (a : Nat) : Ok (start a) := ⟨Nat.mod_lt _ (by decide), Nat.mod_lt _ (by decide)⟩
theorem step_ok (p : Nat × Nat) (b : Nat) : Ok (step p b) := ⟨Nat.mod_lt _ (by decide), Nat.mod_lt _ (by decide)⟩
theorem run_ok {p : Nat × Nat} (h : Ok p) (l : List UInt8) : Ok (run p l) := by
  induction l generalizing p with
  | nil => exact h
  | cons b l ih => exact ih (step_ok p b.toNat)
theorem tell_lt {p : Nat × Nat} (h : Ok p) : tell p < 4294967296 := by obtain ⟨h1, h2⟩ := h; unfold tell; omega
theorem more_lt (a : Nat) (l : List UInt8) : more a l < 4294967296 := tell_lt (run_ok (start_ok a) l)
theorem start_tell {p : Nat × Nat} (h : Ok p) : start (tell p) = p := by
  obtain ⟨x, y⟩ := p; obtain ⟨h1, h2⟩ := h; unfold start tell; simp only at *; congr 1 <;> omega
theorem more_more (a : Nat) (l m : List UInt8) : more (more a l) m = more a (l ++ m) := by
  unfold more; rw [start_tell (run_ok (start_ok a) l)]; unfold run; rw [List.foldl_append]
end Adl
