/- Blocks that are known whole: variables that a call made. No function of the program is named. -/
import Derived.Test.YtdeiolagnheihaaDoorMem
namespace Go.Proofs.YtdeiolagnheihaaDoor
open Go.RowKit
def Bk (w : World) (b : Nat) (cs : Array Value) : Prop := ∃ t, w.heap[b]? = some (.cells cs t (0, 0))
theorem Bk.lt {w : World} {b : Nat} {cs : Array Value} (h : Bk w b cs) : b < w.heap.size := by obtain ⟨t, h⟩ := h; exact lt_of_block h
theorem Bk.at {w : World} {k : Nat} {cs : Array Value} {t : TypeId} (h : w.heap.size = k) : Bk (w.alloc (.cells cs t)) k cs := ⟨t, by rw [← h]; exact heap_alloc_new w _⟩
theorem Bk.old {w : World} {b : Nat} {cs : Array Value} {o : Obj} (h : Bk w b cs) : Bk (w.alloc o) b cs := by
  have hl := h.lt
  obtain ⟨t, h⟩ := h
  exact ⟨t, (Below.heap_alloc w o b hl).trans h⟩
theorem Bk.keeps {S : Nat → Prop} {w w' : World} {b : Nat} {cs : Array Value} (h : Bk w b cs) (hk : Keeps S w w') (hS : ¬ S b) : Bk w' b cs := by
  have hl := h.lt
  obtain ⟨t, h⟩ := h
  exact ⟨t, (hk.block b hl hS).trans h⟩
theorem Bk.ext {w w' : World} {b : Nat} {cs : Array Value} (h : Bk w b cs) (hE : Ext w w') : Bk w' b cs := h.keeps (S := fun _ => False) hE.keeps id
theorem Bk.cell {w : World} {b : Nat} {cs : Array Value} (h : Bk w b cs) (i : Nat) : w.cell? ⟨b, i, none⟩ = cs[i]? := by
  obtain ⟨t, h⟩ := h
  exact cell_of_row w b i cs t (0, 0) h
theorem Bk.frozen {w : World} {b : Nat} {cs : Array Value} (h : Bk w b cs) (i : Nat) : w.frozen? ⟨b, i, none⟩ = false := by
  obtain ⟨t, h⟩ := h
  simp [World.frozen?, h]
theorem Bk.set_ {w : World} {b : Nat} {cs : Array Value} (h : Bk w b cs) (i : Nat) (u : Value) : Bk (w.setCell ⟨b, i, none⟩ u) b (cs.setIfInBounds i u) := by
  obtain ⟨t, h⟩ := h
  exact ⟨t, by simp [World.setCell, Array.getElem?_modify, h]⟩
theorem Bk.far {w : World} {b : Nat} {cs : Array Value} (h : Bk w b cs) {p : Addr} (hp : b ≠ p.block) (u : Value) : Bk (w.setCell p u) b cs := by
  obtain ⟨t, h⟩ := h
  exact ⟨t, (Below.heap_setCell w p u b hp).trans h⟩
theorem Bk.drewN {w : World} {b : Nat} {cs : Array Value} (h : Bk w b cs) (n : Nat) : Bk (w.drewN n) b cs := h
theorem Bk.drew {w : World} {b : Nat} {cs : Array Value} (h : Bk w b cs) : Bk w.drew b cs := h
end Go.Proofs.YtdeiolagnheihaaDoor
