/- Rows of pixels as they lie in memory. No function of the program is named. -/
import Derived.Test.YtkfjcgcgfdibaaaDoorP4
import Derived.Test.YtkfjcgcgfdibaaaDoorCells
import Derived.Test.YtkfjcgcgfdibaaaDoorBox
import Derived.Deep.AppendLies
import Derived.Deep.RegionHeld3
import Derived.Deep.DrawnRows
import Derived.IntWalk
import Derived.Outline
namespace Go.Proofs.YtkfjcgcgfdibaaaDoor
open Go.RowKit
/-- a row of pixels, wherever it lies -/
def Pxs (w : World) (x : Option Addr) (n : Nat) (px : Nat → P4) : Prop :=
  (x = none → n = 0) ∧ ∀ a, x = some a → ∀ i, i < n →
    w.cell? (a.add (i * 4)) = some (.int .u8 (px i).r) ∧ w.cell? ⟨(a.add (i * 4)).block, (a.add (i * 4)).off + 1, none⟩ = some (.int .u8 (px i).g) ∧
    w.cell? ⟨(a.add (i * 4)).block, (a.add (i * 4)).off + 2, none⟩ = some (.int .u8 (px i).b) ∧ w.cell? ⟨(a.add (i * 4)).block, (a.add (i * 4)).off + 3, none⟩ = some (.int .u8 (px i).a) ∧ (px i).Ok
theorem add_block (a : Addr) (k : Nat) : (a.add k).block = a.block := by unfold Addr.add; split <;> rfl
theorem Pxs.keeps {S : Nat → Prop} {w w' : World} {x : Option Addr} {n : Nat} {px : Nat → P4} (h : Pxs w x n px) (hk : Keeps S w w') (hS : ∀ a, x = some a → ¬ S a.block) : Pxs w' x n px := by
  refine ⟨h.1, fun a ha i hi => ?_⟩
  obtain ⟨c0, c1, c2, c3, ok⟩ := h.2 a ha i hi
  have hs : ¬ S (a.add (i * 4)).block := by rw [add_block]; exact hS a ha
  have hl : (a.add (i * 4)).block < w.heap.size := World.block_lt_of_cell? w _ c0
  exact ⟨(hk.cell hl hs).trans c0, (hk.cell (p := ⟨_, _, none⟩) hl hs).trans c1, (hk.cell (p := ⟨_, _, none⟩) hl hs).trans c2, (hk.cell (p := ⟨_, _, none⟩) hl hs).trans c3, ok⟩
theorem Pxs.ext {w w' : World} {x : Option Addr} {n : Nat} {px : Nat → P4} (h : Pxs w x n px) (hE : Ext w w') : Pxs w' x n px := h.keeps (S := fun _ => False) hE.keeps (fun _ _ => id)
theorem Pxs.congr {w : World} {x : Option Addr} {n : Nat} {px qx : Nat → P4} (h : Pxs w x n px) (hq : ∀ i, i < n → qx i = px i) : Pxs w x n qx :=
  ⟨h.1, fun a ha i hi => by rw [hq i hi]; exact h.2 a ha i hi⟩
theorem Pxs.isSome {w : World} {x : Option Addr} {n : Nat} {px : Nat → P4} (h : Pxs w x n px) {i : Nat} (hi : i < n) : ∃ a, x = some a := by
  cases x with
  | none => have := h.1 rfl; omega
  | some a => exact ⟨a, rfl⟩
/-- the cells of pixels, one behind the other -/
def cellP (px : Nat → P4) (j : Nat) : Value := if j % 4 = 0 then .int .u8 (px (j / 4)).r else if j % 4 = 1 then .int .u8 (px (j / 4)).g else if j % 4 = 2 then .int .u8 (px (j / 4)).b else .int .u8 (px (j / 4)).a
def pxV (n : Nat) (px : Nat → P4) : List Value := (List.range (n * 4)).map (cellP px)
theorem pxV_length (n : Nat) (px : Nat → P4) : (pxV n px).length = n * 4 := by simp [pxV]
theorem pxV_get (n : Nat) (px : Nat → P4) (j : Nat) (h : j < n * 4) : (pxV n px)[j]? = some (cellP px j) := by simp [pxV, h]
theorem cellP_0 (px : Nat → P4) (i : Nat) : cellP px (i * 4) = .int .u8 (px i).r := by
  unfold cellP; rw [if_pos (by omega), show i * 4 / 4 = i by omega]
theorem cellP_1 (px : Nat → P4) (i : Nat) : cellP px (i * 4 + 1) = .int .u8 (px i).g := by
  unfold cellP; rw [if_neg (by omega), if_pos (by omega), show (i * 4 + 1) / 4 = i by omega]
theorem cellP_2 (px : Nat → P4) (i : Nat) : cellP px (i * 4 + 2) = .int .u8 (px i).b := by
  unfold cellP; rw [if_neg (by omega), if_neg (by omega), if_pos (by omega), show (i * 4 + 2) / 4 = i by omega]
theorem cellP_3 (px : Nat → P4) (i : Nat) : cellP px (i * 4 + 3) = .int .u8 (px i).a := by
  unfold cellP; rw [if_neg (by omega), if_neg (by omega), if_neg (by omega), show (i * 4 + 3) / 4 = i by omega]
theorem cellP_one (px : Nat → P4) (j : Nat) : (cellP px j).oneCell' = true := by
  unfold cellP; split
  · rfl
  · split
    · rfl
    · split <;> rfl
theorem pxV_ext (n : Nat) (px qx : Nat → P4) (h : ∀ i, i < n → px i = qx i) : pxV n px = pxV n qx := by
  unfold pxV
  apply List.map_congr_left
  intro j hj
  have hj' : j / 4 < n := by have := List.mem_range.1 hj; omega
  unfold cellP; rw [h _ hj']
theorem pxV_succ (n : Nat) (px : Nat → P4) : pxV (n + 1) px = pxV n px ++ [.int .u8 (px n).r, .int .u8 (px n).g, .int .u8 (px n).b, .int .u8 (px n).a] := by
  unfold pxV
  rw [show (n + 1) * 4 = n * 4 + 1 + 1 + 1 + 1 by omega, List.range_succ, List.range_succ, List.range_succ, List.range_succ]
  simp only [List.map_append, List.map_cons, List.map_nil, cellP_0, cellP_1, cellP_2, cellP_3, List.append_assoc, List.cons_append, List.nil_append]
theorem pixinfo : (Tryd.prog.info? 36).map (fun i => (i.zero, i.size, i.bytes)) = some (some (pixv 0 0 0 0), 4, 4) := by kernel_rfl
theorem Pxs.of_own {w : World} {base : Nat} {v : Value} {n : Nat} {px : Nat → P4} (h : w.ownsRow base 36 4 v n (pxV n px)) (hb : ∀ i, i < n → (px i).Ok) :
    ∃ x c, v = .slice x n c ∧ Pxs w x n px ∧ ∀ a, x = some a → base ≤ a.block := by
  rcases ownsRow_slice h with ⟨rfl, h0⟩ | ⟨g, cap, rfl⟩
  · subst h0; exact ⟨none, 0, rfl, ⟨fun _ => rfl, fun a h => by cases h⟩, fun a h => by cases h⟩
  · refine ⟨some ⟨g, 0, none⟩, cap, rfl, ⟨(fun h => by cases h), fun a ha i hi => ?_⟩, fun a ha => ?_⟩
    · injection ha with ha; subst ha
      have e : ∀ k, (⟨g, 0, none⟩ : Addr).add k = ⟨g, k, none⟩ := add_plain g
      rw [e]
      refine ⟨?_, ?_, ?_, ?_, hb i hi⟩
      · rw [h.cellAt _ (by omega), pxV_get _ _ _ (by omega), cellP_0]
      · show w.cell? ⟨g, i * 4 + 1, none⟩ = _; rw [h.cellAt _ (by omega), pxV_get _ _ _ (by omega), cellP_1]
      · show w.cell? ⟨g, i * 4 + 2, none⟩ = _; rw [h.cellAt _ (by omega), pxV_get _ _ _ (by omega), cellP_2]
      · show w.cell? ⟨g, i * 4 + 3, none⟩ = _; rw [h.cellAt _ (by omega), pxV_get _ _ _ (by omega), cellP_3]
    · injection ha with ha; subst ha
      exact (h.lt g rfl).1
/-- a variable that holds a picture -/
structure PicAt (w : World) (b : Nat) (W H : Int) (v : Value) : Prop where
  c0 : w.cell? ⟨b, 0, none⟩ = some (.int .i64 W)
  c1 : w.cell? ⟨b, 1, none⟩ = some (.int .i64 H)
  c2 : w.cell? ⟨b, 2, none⟩ = some v
theorem PicAt.ext {w w' : World} {b : Nat} {W H : Int} {v : Value} (h : PicAt w b W H v) (hE : Ext w w') : PicAt w' b W H v := by
  have hl := World.block_lt_of_cell? w _ h.c0
  exact ⟨(hE.cell (p := ⟨b, 0, none⟩) hl).trans h.c0, (hE.cell (p := ⟨b, 1, none⟩) hl).trans h.c1, (hE.cell (p := ⟨b, 2, none⟩) hl).trans h.c2⟩
theorem PicAt.new (w : World) (W H : Int) (v : Value) (t : TypeId) : PicAt (w.alloc (.cells #[.int .i64 W, .int .i64 H, v] t)) w.heap.size W H v := by
  refine ⟨?_, ?_, ?_⟩ <;> (rw [World.cell?_alloc_at _ _ _ _ rfl]; rfl)
theorem PicAt.set {w : World} {b : Nat} {W H W' H' : Int} {v v' : Value} (h : PicAt w b W H v) : PicAt (((w.setCell ⟨b, 0, none⟩ (.int .i64 W')).setCell ⟨b, 1, none⟩ (.int .i64 H')).setCell ⟨b, 2, none⟩ v') b W' H' v' := by
  have e : ∀ i j, i ≠ j → (⟨b, i, none⟩ : Addr) ≠ ⟨b, j, none⟩ := fun i j hij q => by injection q with _ q; exact hij q
  refine ⟨?_, ?_, ?_⟩
  · rw [World.cell?_setCell_other _ _ _ _ (e 2 0 (by decide)), World.cell?_setCell_other _ _ _ _ (e 1 0 (by decide))]
    exact World.cell?_setCell_same _ _ _ h.c0
  · rw [World.cell?_setCell_other _ _ _ _ (e 2 1 (by decide))]
    exact World.cell?_setCell_same _ _ _ ((World.cell?_setCell_other _ _ _ _ (e 0 1 (by decide))).trans h.c1)
  · exact World.cell?_setCell_same _ _ _ ((World.cell?_setCell_other _ _ _ _ (e 1 2 (by decide))).trans ((World.cell?_setCell_other _ _ _ _ (e 0 2 (by decide))).trans h.c2))
theorem PicAt.frozen_set {w : World} {b : Nat} {W' H' : Int} {v' : Value} (p : Addr) : (((w.setCell ⟨b, 0, none⟩ (.int .i64 W')).setCell ⟨b, 1, none⟩ (.int .i64 H')).setCell ⟨b, 2, none⟩ v').frozen? p = w.frozen? p := by
  rw [World.frozen?_setCell, World.frozen?_setCell, World.frozen?_setCell]
theorem Ext.set3 {w0 w : World} {b : Nat} (h : Ext w0 w) (hb : w0.heap.size ≤ b) (x y z : Value) : Ext w0 (((w.setCell ⟨b, 0, none⟩ x).setCell ⟨b, 1, none⟩ y).setCell ⟨b, 2, none⟩ z) := ((Below.setCell h hb _).setCell hb _).setCell hb _
theorem ownsRow_set3 {w : World} {base : Nat} {e : TypeId} {size : Nat} {v : Value} {n : Nat} {xs : List Value} (h : w.ownsRow base e size v n xs) {b : Nat} (hb : v.ownBlock ≠ some b) (x y z : Value) : (((w.setCell ⟨b, 0, none⟩ x).setCell ⟨b, 1, none⟩ y).setCell ⟨b, 2, none⟩ z).ownsRow base e size v n xs :=
  ownsRow_setCell_other (ownsRow_setCell_other (ownsRow_setCell_other h hb _) hb _) hb _
theorem Bk.pic {w : World} {b : Nat} {W H : Int} {v : Value} (h : Bk w b #[.int .i64 W, .int .i64 H, v]) : PicAt w b W H v := ⟨h.cell 0, h.cell 1, h.cell 2⟩
/-- a result's variable, filled: what it holds, the row, the world -/
theorem fill_res {w wz : World} {b base n : Nat} {W0 H0 W H : Int} {v0 v : Value} {xs : List Value} (hX : Ext w wz) (hb : w.heap.size ≤ b) (P : PicAt wz b W0 H0 v0) (own : wz.ownsRow base 36 4 v n xs) (hlt : b < base) :
    PicAt (((wz.setCell ⟨b, 0, none⟩ (.int .i64 W)).setCell ⟨b, 1, none⟩ (.int .i64 H)).setCell ⟨b, 2, none⟩ v) b W H v ∧
    (((wz.setCell ⟨b, 0, none⟩ (.int .i64 W)).setCell ⟨b, 1, none⟩ (.int .i64 H)).setCell ⟨b, 2, none⟩ v).ownsRow base 36 4 v n xs ∧
    Ext w (((wz.setCell ⟨b, 0, none⟩ (.int .i64 W)).setCell ⟨b, 1, none⟩ (.int .i64 H)).setCell ⟨b, 2, none⟩ v) :=
  ⟨P.set, ownsRow_set3 own (fun e => by have := (own.lt _ e).1; omega) _ _ _, hX.set3 hb _ _ _⟩
end Go.Proofs.YtkfjcgcgfdibaaaDoor
