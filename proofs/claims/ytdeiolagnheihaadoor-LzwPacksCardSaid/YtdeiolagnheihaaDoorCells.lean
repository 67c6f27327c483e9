/- Rows of cells of whole numbers of one kind: arrays and slices that a call made. No function of the program is named. -/
import Derived.Test.YtdeiolagnheihaaDoorMem
import Derived.Deep.WholeRow
import Derived.Deep.OwnRows
namespace Go.Proofs.YtdeiolagnheihaaDoor
open Go.RowKit
@[irreducible] def cellsI (k : IntKind) (n : Nat) (f : Nat → Int) : Array Value := (List.map (fun i : Nat => Value.int k (f i)) (List.range n)).toArray
theorem cellsI_get (k : IntKind) (n : Nat) (f : Nat → Int) (i : Nat) (h : i < n) : (cellsI k n f)[i]? = some (.int k (f i)) := by
  unfold cellsI; simp [h]
@[go_sem] theorem cellsI_size (k : IntKind) (n : Nat) (f : Nat → Int) : (cellsI k n f).size = n := by unfold cellsI; simp
@[go_sem] theorem cellsI_getElem (k : IntKind) (n : Nat) (f : Nat → Int) (i : Nat) (h : i < (cellsI k n f).size) : (cellsI k n f)[i] = .int k (f i) := by
  have e1 := cellsI_get k n f i (by rw [← cellsI_size k n f]; exact h)
  rw [Array.getElem?_eq_getElem h] at e1
  exact Option.some.inj e1
theorem cellsI_set (k : IntKind) (n : Nat) (f : Nat → Int) (j : Nat) (x : Int) (g : Nat → Int) (hg : ∀ i, i < n → g i = if i = j then x else f i) : (cellsI k n f).setIfInBounds j (.int k x) = cellsI k n g := by
  apply Array.ext
  · simp [cellsI_size]
  · intro i h1 h2
    have h3 : i < n := by simpa [cellsI_size] using h2
    have e2 := cellsI_get k n g i h3
    have e1 := cellsI_get k n f i h3
    rw [Array.getElem?_eq_getElem h2] at e2
    rw [Array.getElem?_eq_getElem (by rw [cellsI_size]; exact h3)] at e1
    rw [Option.some_inj] at e1 e2
    rw [Array.getElem_setIfInBounds (by rw [cellsI_size]; exact h3), e2, e1, hg i h3]
    by_cases hij : j = i
    · subst hij; simp
    · rw [if_neg hij, if_neg (fun e => hij e.symm)]
theorem cellsI_zero (k : IntKind) (n : Nat) : Array.replicate n (Value.int k 0) = cellsI k n (fun _ => 0) := by
  unfold cellsI; apply Array.ext
  · simp
  · intro i h1 h2; simp
theorem cells16_eq (k : IntKind) (F : Nat → Int) : cellsI k 16 F = #[.int k (F 0), .int k (F 1), .int k (F 2), .int k (F 3), .int k (F 4), .int k (F 5), .int k (F 6), .int k (F 7), .int k (F 8), .int k (F 9), .int k (F 10), .int k (F 11), .int k (F 12), .int k (F 13), .int k (F 14), .int k (F 15)] := by unfold cellsI; rfl
theorem cellsI_same (k : IntKind) (n : Nat) (F : Nat → Int) (j : Nat) (v : Value) (hv : v = .int k (F j)) : (cellsI k n F).setIfInBounds j v = cellsI k n F := by
  rw [hv]; exact cellsI_set k n F j (F j) F (fun i _ => by by_cases h : i = j <;> simp [h])
/-- a row of cells of one kind, none frozen -/
def Cs (w : World) (B n : Nat) (k : IntKind) (g : Nat → Int) : Prop := ∀ i, i < n → w.cell? ⟨B, i, none⟩ = some (.int k (g i)) ∧ w.frozen? ⟨B, i, none⟩ = false
theorem Cs.congr {w : World} {B n : Nat} {k : IntKind} {g g' : Nat → Int} (h : Cs w B n k g) (hg : ∀ i, i < n → g' i = g i) : Cs w B n k g' := by
  intro i hi; rw [hg i hi]; exact h i hi
theorem Cs.put {w : World} {B n : Nat} {k : IntKind} {g : Nat → Int} (h : Cs w B n k g) (j : Nat) (x : Int) (g' : Nat → Int) (hj : j < n) (hg : ∀ i, i < n → g' i = if i = j then x else g i) : Cs (w.setCell ⟨B, j, none⟩ (.int k x)) B n k g' := by
  intro i hi
  obtain ⟨h1, h2⟩ := h i hi
  rw [hg i hi, World.frozen?_setCell]
  refine ⟨?_, h2⟩
  by_cases e : i = j
  · subst e; rw [if_pos rfl]; exact World.cell?_setCell_same _ _ _ h1
  · rw [if_neg e]; exact (World.cell?_setCell_other _ _ _ _ (by intro q; injection q with _ q2; exact e q2.symm)).trans h1
theorem Cs.other {w : World} {B n : Nat} {k : IntKind} {g : Nat → Int} (h : Cs w B n k g) (p : Addr) (v : Value) (hp : p.block ≠ B) : Cs (w.setCell p v) B n k g := by
  intro i hi
  obtain ⟨h1, h2⟩ := h i hi
  rw [World.frozen?_setCell]
  exact ⟨(World.cell?_setCell_other _ _ _ _ (by intro q; rw [q] at hp; exact hp rfl)).trans h1, h2⟩
theorem Cs.drew {w : World} {B n : Nat} {k : IntKind} {g : Nat → Int} (h : Cs w B n k g) : Cs w.drew B n k g := h
theorem Cs.alloc {w : World} {B n : Nat} {k : IntKind} {g : Nat → Int} (h : Cs w B n k g) (hB : B < w.heap.size) (o : Obj) : Cs (w.alloc o) B n k g := by
  intro i hi
  rw [World.cell?_alloc_past _ _ _ hB, World.frozen?_alloc_past _ _ _ hB]; exact h i hi
theorem Cs.born (w : World) (k : IntKind) (n : Nat) (g : Nat → Int) (t : TypeId) : Cs (w.alloc (.cells (cellsI k n g) t)) w.heap.size n k g := by
  intro i hi
  rw [World.cell?_alloc_at _ _ _ _ rfl, World.frozen?_alloc_at _ _ _ _ rfl]; exact ⟨cellsI_get k n g i hi, rfl⟩
theorem made_eq (k : IntKind) (n : Nat) : madeCells #[Value.int k 0] n = cellsI k n (fun _ => 0) := by
  apply Array.ext
  · rw [size_madeCells, cellsI_size]
  · intro i h1 h2
    rw [cellsI_getElem]; simp [madeCells, Nat.mod_one]
theorem still_of {P : Program} {f : Nat} {args : Array Value} {w : World} {v : Value} (h : Calls P f args w fun e w' => e = .returned v ∧ w = w') : Calls P f args w fun e w' => e = .returned v ∧ w' = w :=
  h.mono fun _ _ ⟨a, b⟩ => ⟨a, b.symm⟩
end Go.Proofs.YtdeiolagnheihaaDoor
