/- A writer that is new; 'three', the closed fact. -/
import Derived.Test.YtkddbhngffbljaaDoorGet
namespace Go.Proofs.YtkddbhngffbljaaDoor
open Go.RowKit
set_option maxRecDepth 100000
theorem WAt.fresh (w : World) (t : TypeId) : WAt (w.alloc (.cells #[.slice none 0 0, .int .i64 0] t)) w.heap.size 0 (.slice none 0 0) 0 0 := by
  refine ⟨?_, ?_, ?_, ?_, ⟨[], rfl, rfl, World.ownsRow_nil _ _ _ _⟩, ?_, by decide⟩
  · rw [World.cell?_alloc_at _ _ _ _ rfl]; rfl
  · rw [World.cell?_alloc_at _ _ _ _ rfl]; rfl
  · rw [World.frozen?_alloc_at _ _ _ _ rfl]
  · rw [World.frozen?_alloc_at _ _ _ _ rfl]
  · intro e; cases e
/-- what a writer did touched only new blocks, if it and its row are new -/
theorem WStep.below {w w' : World} {B o H : Nat} {v v' : Value} (h : WStep w w' B o v v') (hB : H ≤ B) (hv : ∀ k, v.ownBlock = some k → H ≤ k) (hH : H ≤ w.heap.size) : Below H w w' :=
  h.keeps.below hH fun k hk q => by
    rcases q with q | q
    · omega
    · have := hv k q; omega
theorem WStep.own {w w' : World} {B o H : Nat} {v v' : Value} (h : WStep w w' B o v v') (hv : ∀ k, v.ownBlock = some k → H ≤ k) (hH : H ≤ w.heap.size) : ∀ k, v'.ownBlock = some k → H ≤ k := by
  intro k hk
  rcases h.new k hk with q | q
  · exact hv k q
  · omega
theorem RStep.below {w w' : World} {B o H : Nat} (h : RStep w w' B o) (hB : H ≤ B) (hH : H ≤ w.heap.size) : Below H w w' :=
  h.keeps.below hH fun k hk q => by subst q; omega
theorem num_five (l : List UInt8) (hl : l.length = 1) (h : Crc.num l = 5) : l = [5] := by
  match l, hl with
  | [b], _ =>
    have : b.toNat + 256 * 0 = 5 := h
    have h2 : b.toNat = (5 : UInt8).toNat := by simpa using this
    rw [UInt8.toNat_inj.1 h2]
theorem three_any (w : World) : Calls Tryd.prog 15 #[] w fun e w' => e = .returned (.bool true) ∧ Ext w w' := by
  go_enter Tryd.func15, Tryd.ntmps15
  go_wp2_with fail
  refine (put_in w.heap.size 0 0 0 5 3 _ _ (WAt.fresh w 27) (by omega) (by decide) (by omega)).mono ?_
  rintro e w2 ⟨rfl, v2, hA, hS⟩
  have hB : Below w.heap.size w w2 := ((Below.refl _ _).alloc (Nat.le_refl _) _).trans (hS.below (Nat.le_refl _) (fun k hk => by cases hk) (by simp))
  clear hS
  go_wp2_with fail
  refine (len_calls _ _ _ _ _ _ hA).mono ?_
  rintro e w3 ⟨rfl, rfl⟩
  go_wp2_with fail
  refine (text_calls _ _ _ _ _ _ hA).mono ?_
  rintro e w4 ⟨⟨l, hl, hV, rfl⟩, rfl⟩
  obtain rfl := num_five l hl (by simpa using hV)
  go_wp2_with fail
  go_ret
  exact ⟨rfl, hB⟩
end Go.Proofs.YtkddbhngffbljaaDoor
