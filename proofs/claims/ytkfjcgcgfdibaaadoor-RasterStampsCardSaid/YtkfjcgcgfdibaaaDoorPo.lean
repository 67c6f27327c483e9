/- Rows of pixels that are written. No function of the program is named. -/
import Derived.Test.YtkfjcgcgfdibaaaDoorPic2
namespace Go.Proofs.YtkfjcgcgfdibaaaDoor
open Go.RowKit
set_option maxRecDepth 100000
/-- a row of pixels in a block of its own, from its head on, none frozen -/
def Po (w : World) (g n : Nat) (px : Nat → P4) : Prop := ∀ j, j < n * 4 → w.cell? ⟨g, j, none⟩ = some (cellP px j) ∧ w.frozen? ⟨g, j, none⟩ = false
theorem Po.of_own {w : World} {base g n cap : Nat} {px : Nat → P4} (h : w.ownsRow base 36 4 (.slice (some ⟨g, 0, none⟩) n cap) n (pxV n px)) : Po w g n px := by
  intro j hj
  exact ⟨by rw [h.cellAt j hj, pxV_get _ _ _ hj], h.frozenAt j⟩
theorem Po.pxs {w : World} {g n : Nat} {px : Nat → P4} (h : Po w g n px) (hok : ∀ i, i < n → (px i).Ok) : Pxs w (some ⟨g, 0, none⟩) n px := by
  refine ⟨(fun h => by cases h), fun a ha i hi => ?_⟩
  injection ha with ha; subst ha
  rw [add_plain]
  refine ⟨?_, ?_, ?_, ?_, hok i hi⟩
  · rw [(h (i * 4) (by omega)).1, cellP_0]
  · show w.cell? ⟨g, i * 4 + 1, none⟩ = _; rw [(h (i * 4 + 1) (by omega)).1, cellP_1]
  · show w.cell? ⟨g, i * 4 + 2, none⟩ = _; rw [(h (i * 4 + 2) (by omega)).1, cellP_2]
  · show w.cell? ⟨g, i * 4 + 3, none⟩ = _; rw [(h (i * 4 + 3) (by omega)).1, cellP_3]
theorem Po.keeps {S : Nat → Prop} {w w' : World} {g n : Nat} {px : Nat → P4} (h : Po w g n px) (hk : Keeps S w w') (hS : ¬ S g) : Po w' g n px := by
  intro j hj
  obtain ⟨h1, h2⟩ := h j hj
  have hl : g < w.heap.size := World.block_lt_of_cell? w _ h1
  exact ⟨(hk.cell (p := ⟨g, j, none⟩) hl hS).trans h1, (hk.frozen (p := ⟨g, j, none⟩) hl hS).trans h2⟩
theorem Po.ext {w w' : World} {g n : Nat} {px : Nat → P4} (h : Po w g n px) (hE : Ext w w') : Po w' g n px := h.keeps (S := fun _ => False) hE.keeps id
theorem Po.congr {w : World} {g n : Nat} {px qx : Nat → P4} (h : Po w g n px) (hq : ∀ i, i < n → qx i = px i) : Po w g n qx := by
  intro j hj
  have e : cellP qx j = cellP px j := by unfold cellP; rw [hq (j / 4) (by omega)]
  rw [e]; exact h j hj
theorem Po.drewN {w : World} {g n : Nat} {px : Nat → P4} (h : Po w g n px) (m : Nat) : Po (w.drewN m) g n px := h
theorem Po.drew {w : World} {g n : Nat} {px : Nat → P4} (h : Po w g n px) : Po w.drew g n px := h
theorem Po.far {w : World} {g n : Nat} {px : Nat → P4} (h : Po w g n px) {p : Addr} (hp : p.block ≠ g) (u : Value) : Po (w.setCell p u) g n px := by
  intro j hj
  obtain ⟨h1, h2⟩ := h j hj
  rw [World.frozen?_setCell]
  exact ⟨(World.cell?_setCell_other _ _ _ _ (by intro q; rw [q] at hp; exact hp rfl)).trans h1, h2⟩
/-- the world with another pixel at a place -/
def set4 (w : World) (g k : Nat) (p : P4) : World := (((w.setCell ⟨g, k * 4, none⟩ (.int .u8 p.r)).setCell ⟨g, k * 4 + 1, none⟩ (.int .u8 p.g)).setCell ⟨g, k * 4 + 2, none⟩ (.int .u8 p.b)).setCell ⟨g, k * 4 + 3, none⟩ (.int .u8 p.a)
def upd (px : Nat → P4) (k : Nat) (p : P4) : Nat → P4 := fun i => if i = k then p else px i
theorem set4_frozen (w : World) (g k : Nat) (p : P4) (a : Addr) : (set4 w g k p).frozen? a = w.frozen? a := by
  unfold set4; rw [World.frozen?_setCell, World.frozen?_setCell, World.frozen?_setCell, World.frozen?_setCell]
theorem set4_keeps (w : World) (g k : Nat) (p : P4) : Keeps (fun b => b = g) w (set4 w g k p) :=
  ((((Keeps.refl (fun b => b = g) w).setCell (.inl rfl) _).setCell (.inl rfl) _).setCell (.inl rfl) _).setCell (.inl rfl) _
theorem set4_ext {w0 w : World} (h : Ext w0 w) {g : Nat} (hg : w0.heap.size ≤ g) (k : Nat) (p : P4) : Ext w0 (set4 w g k p) :=
  (((Below.setCell h hg _).setCell hg _).setCell hg _).setCell hg _
theorem Po.put {w : World} {g n : Nat} {px : Nat → P4} (h : Po w g n px) (k : Nat) (p : P4) : Po (set4 w g k p) g n (upd px k p) := by
  intro j hj
  obtain ⟨h1, h2⟩ := h j hj
  have ne : ∀ i, j ≠ i → (⟨g, i, none⟩ : Addr) ≠ ⟨g, j, none⟩ := fun i hi e => by injection e with _ e; exact hi e.symm
  refine ⟨?_, by rw [set4_frozen]; exact h2⟩
  unfold set4
  by_cases e3 : j = k * 4 + 3
  · subst e3
    rw [cellP_3]; unfold upd; rw [if_pos rfl]
    refine World.cell?_setCell_same (u := cellP px (k * 4 + 3)) _ _ _ ?_
    rw [World.cell?_setCell_other _ _ _ _ (ne _ (by omega)), World.cell?_setCell_other _ _ _ _ (ne _ (by omega)), World.cell?_setCell_other _ _ _ _ (ne _ (by omega))]; exact h1
  · rw [World.cell?_setCell_other _ _ _ _ (ne _ e3)]
    by_cases e2 : j = k * 4 + 2
    · subst e2
      rw [cellP_2]; unfold upd; rw [if_pos rfl]
      refine World.cell?_setCell_same (u := cellP px (k * 4 + 2)) _ _ _ ?_
      rw [World.cell?_setCell_other _ _ _ _ (ne _ (by omega)), World.cell?_setCell_other _ _ _ _ (ne _ (by omega))]; exact h1
    · rw [World.cell?_setCell_other _ _ _ _ (ne _ e2)]
      by_cases e1 : j = k * 4 + 1
      · subst e1
        rw [cellP_1]; unfold upd; rw [if_pos rfl]
        refine World.cell?_setCell_same (u := cellP px (k * 4 + 1)) _ _ _ ?_
        rw [World.cell?_setCell_other _ _ _ _ (ne _ (by omega))]; exact h1
      · rw [World.cell?_setCell_other _ _ _ _ (ne _ e1)]
        by_cases e0 : j = k * 4
        · subst e0
          rw [cellP_0]; unfold upd; rw [if_pos rfl]
          exact World.cell?_setCell_same (u := cellP px (k * 4)) _ _ _ h1
        · rw [World.cell?_setCell_other _ _ _ _ (ne _ e0), h1]
          unfold cellP upd
          rw [if_neg (show j / 4 ≠ k by omega)]
theorem upd_ok {px : Nat → P4} {n k : Nat} {p : P4} (h : ∀ i, i < n → (px i).Ok) (hp : p.Ok) : ∀ i, i < n → (upd px k p i).Ok := by
  intro i hi; unfold upd; split
  · exact hp
  · exact h i hi
/-- a new row of pixels, all nothing -/
theorem made_pix (n : Nat) : madeCells #[Value.int .u8 0, .int .u8 0, .int .u8 0, .int .u8 0] (n * 4) = (pxV n (fun _ => P4.zero)).toArray := by
  apply Array.ext
  · rw [size_madeCells, List.size_toArray, pxV_length]
  · intro i h1 h2
    have hi : i < n * 4 := by rw [size_madeCells] at h1; exact h1
    have e := pxV_get n (fun _ => P4.zero) i hi
    have e2 : (pxV n (fun _ => P4.zero)).toArray[i] = cellP (fun _ => P4.zero) i := by
      rw [List.getElem?_eq_some_iff] at e
      obtain ⟨_, e⟩ := e
      simpa using e
    rw [e2]
    have h4 : i % 4 < 4 := Nat.mod_lt _ (by decide)
    simp only [madeCells]
    unfold cellP P4.zero
    rcases (show i % 4 = 0 ∨ i % 4 = 1 ∨ i % 4 = 2 ∨ i % 4 = 3 by omega) with q | q | q | q <;> simp [q]
theorem Po.of_bk {w : World} {g n : Nat} (h : Bk w g (madeCells #[Value.int .u8 0, .int .u8 0, .int .u8 0, .int .u8 0] (n * 4))) : Po w g n (fun _ => P4.zero) := by
  intro j hj
  rw [h.cell j, made_pix]
  exact ⟨by simpa using pxV_get n (fun _ => P4.zero) j hj, h.frozen j⟩
end Go.Proofs.YtkfjcgcgfdibaaaDoor
