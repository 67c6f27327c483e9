/- A packer of LZW in memory. No function of the program is named. -/
import Derived.Test.YtdeiolagnheihaaDoorLzwG
import Derived.Test.YtdeiolagnheihaaDoorPutT
import Derived.Test.YtdeiolagnheihaaDoorAnyH
namespace Go.Proofs.YtdeiolagnheihaaDoor
open Go.RowKit
set_option maxRecDepth 100000
structure PB (w : World) (B : Nat) (v : Value) (V n : Nat) (wd size next mv : Value) : Prop where
  wat : WAt w B 0 v V n
  c2 : w.cell? ⟨B, 2, none⟩ = some wd
  c3 : w.cell? ⟨B, 3, none⟩ = some size
  c4 : w.cell? ⟨B, 4, none⟩ = some next
  c5 : w.cell? ⟨B, 5, none⟩ = some mv
  f3 : w.frozen? ⟨B, 3, none⟩ = false
  f4 : w.frozen? ⟨B, 4, none⟩ = false
  f5 : w.frozen? ⟨B, 5, none⟩ = false
theorem WAt.keeps {S : Nat → Prop} {w w' : World} {B o V n : Nat} {v : Value} (h : WAt w B o v V n) (hk : Keeps S w w') (hB : ¬ S B) (hv : ∀ k, v.ownBlock = some k → ¬ S k) : WAt w' B o v V n := by
  have hl : B < w.heap.size := World.block_lt_of_cell? w _ h.c0
  obtain ⟨l, h1, h2, h3⟩ := h.row
  exact ⟨(hk.cell (p := ⟨B, o, none⟩) hl hB).trans h.c0, (hk.cell (p := ⟨B, o + 1, none⟩) hl hB).trans h.c1, (hk.frozen (p := ⟨B, o, none⟩) hl hB).trans h.f0, (hk.frozen (p := ⟨B, o + 1, none⟩) hl hB).trans h.f1, ⟨l, h1, h2, ownsRow_kept h3 hk hv⟩, h.apart, h.lt⟩
theorem PB.lt {w : World} {B V n : Nat} {v wd size next mv : Value} (h : PB w B v V n wd size next mv) : B < w.heap.size := World.block_lt_of_cell? w _ h.c2
theorem PB.keeps {S : Nat → Prop} {w w' : World} {B V n : Nat} {v wd size next mv : Value} (h : PB w B v V n wd size next mv) (hk : Keeps S w w') (hB : ¬ S B) (hv : ∀ k, v.ownBlock = some k → ¬ S k) : PB w' B v V n wd size next mv := by
  have hl := h.lt
  have cc : ∀ j, w'.cell? ⟨B, j, none⟩ = w.cell? ⟨B, j, none⟩ := fun j => hk.cell (p := ⟨B, j, none⟩) hl hB
  have ff : ∀ j, w'.frozen? ⟨B, j, none⟩ = w.frozen? ⟨B, j, none⟩ := fun j => hk.frozen (p := ⟨B, j, none⟩) hl hB
  exact ⟨h.wat.keeps hk hB hv, (cc 2).trans h.c2, (cc 3).trans h.c3, (cc 4).trans h.c4, (cc 5).trans h.c5, (ff 3).trans h.f3, (ff 4).trans h.f4, (ff 5).trans h.f5⟩
theorem PB.ext {w w' : World} {B V n : Nat} {v wd size next mv : Value} (h : PB w B v V n wd size next mv) (hE : Ext w w') : PB w' B v V n wd size next mv := h.keeps (S := fun _ => False) hE.keeps id (fun _ _ => id)
/-- a store into one of the fields behind the writer -/
theorem WAt.set {w : World} {B V n j : Nat} {v x : Value} (h : WAt w B 0 v V n) (hj : 2 ≤ j) : WAt (w.setCell ⟨B, j, none⟩ x) B 0 v V n := by
  obtain ⟨l, h1, h2, h3⟩ := h.row
  refine ⟨(World.cell?_setCell_other _ _ _ _ (by intro e; injection e with _ e; omega)).trans h.c0, (World.cell?_setCell_other _ _ _ _ (by intro e; injection e with _ e; omega)).trans h.c1, ?_, ?_, ⟨l, h1, h2, ownsRow_setCell_other h3 h.apart _⟩, h.apart, h.lt⟩
  · rw [World.frozen?_setCell]; exact h.f0
  · rw [World.frozen?_setCell]; exact h.f1
theorem oth {w : World} {B i j : Nat} {x : Value} (h : i ≠ j) : (w.setCell ⟨B, i, none⟩ x).cell? ⟨B, j, none⟩ = w.cell? ⟨B, j, none⟩ := World.cell?_setCell_other _ _ _ _ (by intro e; injection e with _ e; exact h e)
theorem PB.set3 {w : World} {B V n : Nat} {v wd size next mv x : Value} (h : PB w B v V n wd size next mv) : PB (w.setCell ⟨B, 3, none⟩ x) B v V n wd x next mv :=
  ⟨h.wat.set (by decide), (oth (by decide)).trans h.c2, World.cell?_setCell_same _ _ _ h.c3, (oth (by decide)).trans h.c4, (oth (by decide)).trans h.c5, by rw [World.frozen?_setCell]; exact h.f3, by rw [World.frozen?_setCell]; exact h.f4, by rw [World.frozen?_setCell]; exact h.f5⟩
theorem PB.set4 {w : World} {B V n : Nat} {v wd size next mv x : Value} (h : PB w B v V n wd size next mv) : PB (w.setCell ⟨B, 4, none⟩ x) B v V n wd size x mv :=
  ⟨h.wat.set (by decide), (oth (by decide)).trans h.c2, (oth (by decide)).trans h.c3, World.cell?_setCell_same _ _ _ h.c4, (oth (by decide)).trans h.c5, by rw [World.frozen?_setCell]; exact h.f3, by rw [World.frozen?_setCell]; exact h.f4, by rw [World.frozen?_setCell]; exact h.f5⟩
theorem PB.set5 {w : World} {B V n : Nat} {v wd size next mv x : Value} (h : PB w B v V n wd size next mv) : PB (w.setCell ⟨B, 5, none⟩ x) B v V n wd size next x :=
  ⟨h.wat.set (by decide), (oth (by decide)).trans h.c2, (oth (by decide)).trans h.c3, (oth (by decide)).trans h.c4, World.cell?_setCell_same _ _ _ h.c5, by rw [World.frozen?_setCell]; exact h.f3, by rw [World.frozen?_setCell]; exact h.f4, by rw [World.frozen?_setCell]; exact h.f5⟩
theorem PB.drew {w : World} {B V n : Nat} {v wd size next mv : Value} (h : PB w B v V n wd size next mv) (m : Nat) : PB (w.drewN m) B v V n wd size next mv := h.ext ((Ext.refl _).drewN m)
/-- of the blocks that were there only the packer's, its text's and its map's have turned -/
structure PStep (w w' : World) (B : Nat) (v v' : Value) (M : Nat → Prop) : Prop where
  keeps : Keeps (fun k => k = B ∨ v.ownBlock = some k ∨ M k) w w'
  new : ∀ k, v'.ownBlock = some k → v.ownBlock = some k ∨ w.heap.size ≤ k
theorem PStep.refl (w : World) (B : Nat) (v : Value) (M : Nat → Prop) : PStep w w B v v M := ⟨Keeps.refl _ _, fun _ h => .inl h⟩
theorem PStep.trans {a b c : World} {B : Nat} {u v x : Value} {M N : Nat → Prop} (h : PStep a b B u v M) (k : PStep b c B v x N) (hN : ∀ i, i < a.heap.size → N i → M i) : PStep a c B u x M := by
  refine ⟨h.keeps.trans k.keeps ?_, ?_⟩
  · intro i hi q
    rcases q with q | q | q
    · exact .inl q
    · rcases h.new i q with r | r
      · exact .inr (.inl r)
      · omega
    · exact .inr (.inr (hN i hi q))
  · intro i q
    rcases k.new i q with r | r
    · exact h.new i r
    · have := h.keeps.size; exact .inr (by omega)
theorem PStep.ext {w w' : World} {B : Nat} {v : Value} {M : Nat → Prop} (hE : Ext w w') : PStep w w' B v v M := ⟨hE.keeps, fun _ h => .inl h⟩
theorem PStep.set {w : World} {B j : Nat} {v x : Value} {M : Nat → Prop} : PStep w (w.setCell ⟨B, j, none⟩ x) B v v M := ⟨(Keeps.refl (fun k => k = B ∨ v.ownBlock = some k ∨ M k) w).setCell (.inl (.inl rfl)) _, fun _ q => .inl q⟩
theorem PB.put {w w' : World} {B V n V' n' : Nat} {v v' wd size next mv : Value} (h : PB w B v V n wd size next mv) (hw : WAt w' B 0 v' V' n') (hs : WStep w w' B 0 v v') : PB w' B v' V' n' wd size next mv ∧ PStep w w' B v v' (fun _ => False) :=
  ⟨⟨hw, (hs.cells 2 (by decide) (by decide)).trans h.c2, (hs.cells 3 (by decide) (by decide)).trans h.c3, (hs.cells 4 (by decide) (by decide)).trans h.c4, (hs.cells 5 (by decide) (by decide)).trans h.c5, (hs.marks 3).trans h.f3, (hs.marks 4).trans h.f4, (hs.marks 5).trans h.f5⟩,
    ⟨hs.keeps.mono (fun _ _ q => q.elim .inl (fun q => .inr (.inl q))), hs.new⟩⟩
theorem PB.same {w : World} {B V n m : Nat} {v wd size next mv : Value} (h : PB w B v V n wd size next mv) : PB (w.drewN m) B v V n wd size next mv := h.drew m
theorem PStep.same {w w' : World} {B m : Nat} {v v' : Value} {M : Nat → Prop} (h : PStep w w' B v v' M) : PStep w (w'.drewN m) B v v' M := ⟨h.keeps.drewN m, h.new⟩
theorem MK.same {w : World} {b m k : Nat} {g : Nat → Nat → Option Nat} (h : MK w b m g) : MK (w.drewN k) b m g := h.ext ((Ext.refl _).drewN k)
end Go.Proofs.YtdeiolagnheihaaDoor
