/- An argument that is a slice of whole numbers, opened. -/
import Derived.Test.YtkddbhngffbljaaDoorHuff
namespace Go.Proofs.YtkddbhngffbljaaDoor
open Go.RowKit Go.ChangeShapes Go.WideShapes
theorem open_intRow {H : Type} {enc : TypeId × Value → H} {w : World} {base : Nat} {spare : Nat → Bool} {held : Bool} {v : Value} {d : DataW H} {pl : List MemPlace}
    (h : DataW.Trod enc Tryd.prog w base spare held 45 v d pl) (hv : ∃ x len cap, v = .slice x len cap) :
    ∃ (x : Option Addr) (len cap : Nat) (f : Nat → Int), v = .slice x len cap ∧ len ≤ maxLen ∧ (x = none → cap = 0) ∧ Ints w x len f := by
  obtain ⟨x, len, cap, rfl⟩ := hv
  obtain ⟨fuel, hf⟩ := h
  rcases Go.Deep.open_slice1 Tryd.underlying45 (show Tryd.prog.cellsOf 3 = 1 by kernel_rfl) hf with ⟨h0, _⟩ | ⟨a, len', cap', m, n, V, D, Pl, hc, _, hl, hm, hmm, _, hx⟩
  · simp [Value.cells] at h0
    obtain ⟨rfl, rfl, rfl⟩ := h0
    exact ⟨none, 0, 0, fun _ => 0, rfl, Nat.zero_le _, fun _ => rfl, fun _ => rfl, fun a h => by cases h⟩
  · simp [Value.cells] at hc
    obtain ⟨rfl, rfl, rfl⟩ := hc
    have key : ∀ i, i < len → ∃ y : Int, w.cell? (a.add i) = some (.int .i64 y) ∧ -9223372036854775808 ≤ y ∧ y ≤ 9223372036854775807 := by
      intro i hi
      have him : i < m := by rw [hmm]; split <;> omega
      obtain ⟨c0, t0⟩ := hx i him
      obtain ⟨y, e0, _, w0⟩ := DataW.trod_int Tryd.underlying3 t0
      have b0 := bounds_i64 w0
      simp only [List.cons.injEq, and_true] at e0
      rw [e0] at c0
      exact ⟨y, c0, b0.1, b0.2⟩
    obtain ⟨f, hf'⟩ := Go.Deep.choose_lt key
    refine ⟨some a, len, cap, f, rfl, by omega, (fun h => by cases h), (fun h => by cases h), fun a' h i hi => ?_⟩
    injection h with h; subst h
    exact hf' i hi
end Go.Proofs.YtkddbhngffbljaaDoor
