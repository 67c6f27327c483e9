/- Pictures flipped and turned: plain laws, and the contracts in their terms; the closed fact. -/
import Derived.Test.YtkfjcgcgfdibaaaDoorTurn
namespace Go.Proofs.YtkfjcgcgfdibaaaDoor
open Go.RowKit
set_option maxRecDepth 100000
def Pc3.flip (p : Pc3) (down : Bool) : Pc3 := ⟨p.W, p.H, flipP p.W p.H down p.px⟩
/-- the same picture -/
structure Pc3.Same (p q : Pc3) : Prop where
  w : p.W = q.W
  h : p.H = q.H
  px : ∀ i, i < p.W * p.H → p.px i = q.px i
theorem Pc3.Same.refl (p : Pc3) : p.Same p := ⟨rfl, rfl, fun _ _ => rfl⟩
theorem Pc3.Same.of_at {p q : Pc3} (hw : p.W = q.W) (hh : p.H = q.H) (h : ∀ x y, x < p.W → y < p.H → p.px (y * p.W + x) = q.px (y * p.W + x)) : p.Same q := by
  refine ⟨hw, hh, fun i hi => ?_⟩
  obtain ⟨q1, q2⟩ := lin_idx hi
  have := h (i % p.W) (i / p.W) q1 q2
  rwa [Nat.mul_comm, Nat.div_add_mod] at this
theorem Pc3.flip_ok {p : Pc3} (h : p.Ok) (down : Bool) : (p.flip down).Ok := by
  refine ⟨h.w1, h.w2, h.h1, h.h2, fun i hi => ?_⟩
  obtain ⟨q1, q2⟩ := lin_idx hi
  have q1' : i % p.W < p.W := q1
  have q2' : i / p.W < p.H := q2
  show (p.px (if down then (p.H - 1 - i / p.W) * p.W + i % p.W else i / p.W * p.W + (p.W - 1 - i % p.W))).Ok
  split
  · exact h.ok _ (mul_lt_of (show p.H - 1 - i / p.W < p.H by have := h.h1; generalize i / p.W = t; omega) q1')
  · exact h.ok _ (mul_lt_of q2' (by omega))
theorem Pc3.flip_at (p : Pc3) (down : Bool) (x y : Nat) (hx : x < p.W) : (p.flip down).px (y * p.W + x) = p.px (if down then (p.H - 1 - y) * p.W + x else y * p.W + (p.W - 1 - x)) := lin_at p.W (fun x y => p.px (if down then (p.H - 1 - y) * p.W + x else y * p.W + (p.W - 1 - x))) x y hx
theorem Pc3.turn_at (p : Pc3) (x y : Nat) (hx : x < p.H) : p.turn.px (y * p.H + x) = p.px ((p.H - 1 - x) * p.W + y) := lin_at p.H (fun x y => p.px ((p.H - 1 - x) * p.W + y)) x y hx
theorem Pc3.turn2_at (p : Pc3) (x y : Nat) (hx : x < p.W) (hy : y < p.H) : p.turn.turn.px (y * p.W + x) = p.px ((p.H - 1 - y) * p.W + (p.W - 1 - x)) := by
  have h := Pc3.turn_at p.turn x y hx
  show p.turn.turn.px (y * p.turn.H + x) = _
  rw [h]
  exact Pc3.turn_at p y (p.W - 1 - x) hy
theorem Pc3.flip_twice (p : Pc3) : ((p.flip true).flip true).Same p := by
  refine Pc3.Same.of_at rfl rfl fun x y hx hy => ?_
  have hx' : x < p.W := hx
  have hy' : y < p.H := hy
  have h := Pc3.flip_at (p.flip true) true x y hx
  show ((p.flip true).flip true).px (y * (p.flip true).W + x) = p.px (y * p.W + x)
  rw [h, if_pos rfl]
  have h2 := Pc3.flip_at p true x (p.H - 1 - y) hx'
  rw [if_pos rfl, show p.H - 1 - (p.H - 1 - y) = y by omega] at h2
  exact h2
theorem Pc3.flip_both (p : Pc3) : ((p.flip true).flip false).Same (p.turns 2) := by
  refine Pc3.Same.of_at rfl rfl fun x y hx hy => ?_
  have hx' : x < p.W := hx
  have hy' : y < p.H := hy
  have h := Pc3.flip_at (p.flip true) false x y hx
  have h3 := Pc3.turn2_at p x y hx' hy'
  show ((p.flip true).flip false).px (y * (p.flip true).W + x) = p.turn.turn.px (y * p.W + x)
  rw [h, if_neg (by decide), h3]
  have h2 := Pc3.flip_at p true (p.W - 1 - x) y (by omega)
  rw [if_pos rfl] at h2
  exact h2
theorem Pc3.turn_same {p q : Pc3} (h : p.Same q) : p.turn.Same q.turn := by
  refine Pc3.Same.of_at h.h h.w fun x y hx hy => ?_
  have hx' : x < p.H := hx
  have hy' : y < p.W := hy
  have h1 := Pc3.turn_at p x y hx'
  have h2 := Pc3.turn_at q x y (by rw [← h.h]; exact hx')
  show p.turn.px (y * p.H + x) = q.turn.px (y * p.H + x)
  rw [h1]
  rw [← h.h, ← h.w] at h2
  rw [h2]
  exact h.px _ (mul_lt_of (by omega) hy')
theorem Pc3.turns_same {p q : Pc3} (h : p.Same q) : ∀ k, (p.turns k).Same (q.turns k) := by
  intro k
  induction k with
  | zero => exact h
  | succ k ih => exact Pc3.turn_same ih
theorem Pc3.turns_add (p : Pc3) (m : Nat) : ∀ k, (p.turns m).turns k = p.turns (m + k) := by
  intro k
  induction k with
  | zero => rfl
  | succ k ih => show ((p.turns m).turns k).turn = (p.turns (m + k)).turn; rw [ih]
theorem Pc3.turns_four (p : Pc3) : (p.turns 4).Same p := by
  refine Pc3.Same.of_at rfl rfl fun x y hx hy => ?_
  have hx' : x < p.W := hx
  have hy' : y < p.H := hy
  have h := Pc3.turn2_at p.turn.turn x y hx' hy'
  show p.turn.turn.turn.turn.px (y * p.W + x) = p.px (y * p.W + x)
  have e : p.turn.turn.W = p.W := rfl
  have e2 : p.turn.turn.H = p.H := rfl
  rw [e, e2] at h
  rw [h, Pc3.turn2_at p (p.W - 1 - x) (p.H - 1 - y) (by omega) (by omega)]
  rw [show p.H - 1 - (p.H - 1 - y) = y by omega, show p.W - 1 - (p.W - 1 - x) = x by omega]
theorem quar_neg (q : Int) : quar q + quar (-q) = 0 ∨ quar q + quar (-q) = 4 := by unfold quar; omega
theorem quar_four (q : Int) : quar (q + 4) = quar q := by unfold quar; omega
theorem Pc3.turns_back (p : Pc3) (q : Int) : ((p.turns (quar q)).turns (quar (-q))).Same p := by
  rw [Pc3.turns_add]
  rcases quar_neg q with h | h
  · rw [h]; exact Pc3.Same.refl p
  · rw [h]; exact Pc3.turns_four p
/-- a picture as a value -/
def PcV (w0 w : World) (v : Value) (p : Pc3) : Prop := ∃ a c, v = .agg #[.int .i64 (p.W : Int), .int .i64 (p.H : Int), .slice (some a) (p.W * p.H) c] ∧ Pxs w (some a) (p.W * p.H) p.px ∧ w0.heap.size ≤ a.block
theorem Pc3.right {p : Pc3} (h : p.Ok) : rightB (p.W : Int) (p.H : Int) (p.W * p.H) = true := by
  obtain ⟨h1, h2, h3, h4, _⟩ := h
  unfold rightB sideB
  simp only [Bool.and_eq_true, decide_eq_true_eq]
  exact ⟨⟨⟨by omega, by omega⟩, ⟨by omega, by omega⟩⟩, by simp⟩
theorem PcV.of_own {w0 w : World} {v : Value} {p : Pc3} (h : w.ownsRow w0.heap.size 36 4 v (p.W * p.H) (pxV (p.W * p.H) p.px)) (hp : p.Ok) : ∃ a c, v = .slice (some a) (p.W * p.H) c ∧ Pxs w (some a) (p.W * p.H) p.px ∧ w0.heap.size ≤ a.block := by
  obtain ⟨x, c, rfl, hx, hb⟩ := Pxs.of_own h hp.ok
  obtain ⟨a, rfl⟩ := hx.isSome (Nat.mul_pos hp.w1 hp.h1)
  exact ⟨a, c, rfl, hx, hb a rfl⟩
theorem own_pc (p : Pc3) (a : Addr) (c : Nat) (w : World) (hp : p.Ok) (hx : Pxs w (some a) (p.W * p.H) p.px) :
    Calls Tryd.prog 17 #[.agg #[.int .i64 (p.W : Int), .int .i64 (p.H : Int), .slice (some a) (p.W * p.H) c]] w fun e w' => (∃ a' c', e = .returned (.agg #[.int .i64 (p.W : Int), .int .i64 (p.H : Int), .slice (some a') (p.W * p.H) c']) ∧ Pxs w' (some a') (p.W * p.H) p.px ∧ w.heap.size ≤ a'.block) ∧ Ext w w' := by
  refine (own_any _ _ _ _ _ p.px w hx (fun h => by cases h) (Nat.le_trans (Nat.mul_le_mul hp.w2 hp.h2) (by decide))).mono ?_
  rintro e w2 ⟨⟨v, rfl, ho⟩, h2⟩
  obtain ⟨a', c', rfl, q1, q2⟩ := PcV.of_own ho hp
  exact ⟨⟨a', c', rfl, q1, q2⟩, h2⟩
theorem flip_pc (p : Pc3) (down : Bool) (a : Addr) (c : Nat) (w : World) (hp : p.Ok) (hx : Pxs w (some a) (p.W * p.H) p.px) :
    Calls Tryd.prog 16 #[.agg #[.int .i64 (p.W : Int), .int .i64 (p.H : Int), .slice (some a) (p.W * p.H) c], .bool down] w fun e w' => (∃ a' c', e = .returned (.tuple #[.agg #[.int .i64 (p.W : Int), .int .i64 (p.H : Int), .slice (some a') (p.W * p.H) c'], .nilIface]) ∧ Pxs w' (some a') (p.W * p.H) (p.flip down).px ∧ w.heap.size ≤ a'.block) ∧ Ext w w' := by
  refine (flip_good p.W p.H a c down p.px w (Pc3.right hp) hx).mono ?_
  rintro e w2 ⟨⟨v, rfl, ho⟩, h2⟩
  obtain ⟨a', c', rfl, q1, q2⟩ := PcV.of_own (p := p.flip down) ho (Pc3.flip_ok hp down)
  exact ⟨⟨a', c', rfl, q1, q2⟩, h2⟩
theorem turn_pc (p : Pc3) (q : Int) (a : Addr) (c : Nat) (w : World) (hp : p.Ok) (hx : Pxs w (some a) (p.W * p.H) p.px) (hq : -9223372036854775808 ≤ q ∧ q ≤ 9223372036854775807) :
    Calls Tryd.prog 18 #[.agg #[.int .i64 (p.W : Int), .int .i64 (p.H : Int), .slice (some a) (p.W * p.H) c], .int .i64 q] w fun e w' => (∃ a' c', e = .returned (.tuple #[.agg #[.int .i64 ((p.turns (quar q)).W : Int), .int .i64 ((p.turns (quar q)).H : Int), .slice (some a') ((p.turns (quar q)).W * (p.turns (quar q)).H) c'], .nilIface]) ∧ Pxs w' (some a') ((p.turns (quar q)).W * (p.turns (quar q)).H) (p.turns (quar q)).px ∧ w.heap.size ≤ a'.block) ∧ Ext w w' := by
  refine (turn_good p.W p.H a c q p.px w (Pc3.right hp) hx hq).mono ?_
  rintro e w2 ⟨⟨v, rfl, ho⟩, h2⟩
  rw [← Pc3.turns_size p (quar q)] at ho
  obtain ⟨a', c', rfl, q1, q2⟩ := PcV.of_own (p := p.turns (quar q)) ho (Pc3.turns_ok hp _)
  exact ⟨⟨a', c', rfl, q1, q2⟩, h2⟩
theorem same_pc (p q : Pc3) (a b : Addr) (c d : Nat) (w : World) (hp : p.Ok) (hs : p.Same q) (hx : Pxs w (some a) (p.W * p.H) p.px) (hy : Pxs w (some b) (q.W * q.H) q.px) :
    Calls Tryd.prog 19 #[.agg #[.int .i64 (p.W : Int), .int .i64 (p.H : Int), .slice (some a) (p.W * p.H) c], .agg #[.int .i64 (q.W : Int), .int .i64 (q.H : Int), .slice (some b) (q.W * q.H) d]] w fun e w' => e = .returned (.bool true) ∧ Ext w w' := by
  rw [← hs.w, ← hs.h] at hy ⊢
  exact same_yes _ _ _ _ _ c d p.px w hx (hy.congr hs.px) (Nat.le_trans (Nat.mul_le_mul hp.w2 hp.h2) (by decide))
end Go.Proofs.YtkfjcgcgfdibaaaDoor
