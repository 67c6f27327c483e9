/- A row of bytes in memory: what its cells hold, behind a store, a draw, a new block. -/
import Derived.Test.YtkfjcgcgfdibaaaDoorTable
namespace Go.Proofs.YtkfjcgcgfdibaaaDoor
open Go.RowKit
def Row8 (w : World) (B : Nat) (l : List UInt8) : Prop := ∀ j (h : j < l.length), w.cell? ⟨B, j, none⟩ = some (.int .u8 (l[j].toNat : Int)) ∧ w.frozen? ⟨B, j, none⟩ = false
theorem Row8.drewN {w : World} {B : Nat} {l : List UInt8} (h : Row8 w B l) (n : Nat) : Row8 (w.drewN n) B l := h
theorem Row8.below {w w' : World} {B : Nat} {l : List UInt8} (h : Row8 w B l) {m : Nat} (hb : Below m w w') (hm : B < m) : Row8 w' B l := fun j hj =>
  ⟨(hb.cell (p := ⟨B, j, none⟩) hm).trans (h j hj).1, (hb.frozen (p := ⟨B, j, none⟩) hm).trans (h j hj).2⟩
theorem Row8.put {w : World} {B : Nat} {l : List UInt8} (h : Row8 w B l) (j : Nat) (hj : j < l.length) (c : UInt8) : Row8 (w.setCell ⟨B, j, none⟩ (.int .u8 (c.toNat : Int))) B (l.set j c) := by
  intro i hi
  have hi' : i < l.length := by simpa using hi
  by_cases e : j = i
  · subst e
    refine ⟨?_, ?_⟩
    · rw [World.cell?_setCell_same _ _ _ (h j hj).1]; simp
    · rw [World.frozen?_setCell]; exact (h j hj).2
  · refine ⟨?_, ?_⟩
    · rw [World.cell?_setCell_other _ _ _ _ (by intro q; injection q with _ q2; exact e q2)]
      rw [(h i hi').1]; simp [e]
    · rw [World.frozen?_setCell]; exact (h i hi').2
end Go.Proofs.YtkfjcgcgfdibaaaDoor
