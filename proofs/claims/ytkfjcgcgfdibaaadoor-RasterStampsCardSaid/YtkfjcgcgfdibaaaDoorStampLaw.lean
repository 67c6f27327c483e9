/- A picture on another one: its pixels. No function of the program is named. -/
import Derived.Test.YtkfjcgcgfdibaaaDoorLineLaw
import Derived.Test.YtkfjcgcgfdibaaaDoorPixOverAll
namespace Go.Proofs.YtkfjcgcgfdibaaaDoor
open Go.RowKit
set_option maxRecDepth 100000
/-- the pixel that the stamp gives at i, where it lies on it -/
def stI (QW W : Nat) (x y : Int) (i : Nat) : Nat := ((((i / W : Nat) : Int) - y).toNat) * QW + ((((i % W : Nat) : Int) - x).toNat)
def stB (QW QH W : Nat) (x y : Int) (i : Nat) : Bool := inB (QW : Int) (QH : Int) (((i % W : Nat) : Int) - x) (((i / W : Nat) : Int) - y)
/-- behind k of the picture's pixels -/
def stP (W QW QH : Nat) (x y m : Int) (px qx : Nat → P4) (k i : Nat) : P4 := if i < k ∧ stB QW QH W x y i = true then P4.over m (qx (stI QW W x y i)) (px i) else px i
/-- behind k of the stamp's pixels -/
def stQ (W QW QH : Nat) (x y m : Int) (px qx : Nat → P4) (k i : Nat) : P4 := if stB QW QH W x y i = true ∧ stI QW W x y i < k then P4.over m (qx (stI QW W x y i)) (px i) else px i
theorem stP_no {W QW QH u v : Nat} {x y m : Int} {px qx : Nat → P4} (hu : u < W) (h : inB (QW : Int) (QH : Int) ((u : Int) - x) ((v : Int) - y) = false) (i : Nat) : stP W QW QH x y m px qx (v * W + u + 1) i = stP W QW QH x y m px qx (v * W + u) i := by
  unfold stP
  by_cases e : i = v * W + u
  · subst e
    obtain ⟨e1, e2⟩ := at_mod (y := v) hu
    unfold stB
    rw [e1, e2, h]; simp
  · have : (i < v * W + u + 1) ↔ (i < v * W + u) := by omega
    simp only [this]
theorem stP_yes {W QW QH u v a b : Nat} {x y m : Int} {px qx : Nat → P4} (hu : u < W) (ha : (u : Int) - x = a) (hb : (v : Int) - y = b) (h : inB (QW : Int) (QH : Int) (a : Int) (b : Int) = true) (i : Nat) : stP W QW QH x y m px qx (v * W + u + 1) i = upd (stP W QW QH x y m px qx (v * W + u)) (v * W + u) (P4.over m (qx (b * QW + a)) (px (v * W + u))) i := by
  unfold stP upd
  by_cases e : i = v * W + u
  · subst e
    obtain ⟨e1, e2⟩ := at_mod (y := v) hu
    unfold stB stI
    rw [e1, e2, ha, hb, h]; simp
  · have : (i < v * W + u + 1) ↔ (i < v * W + u) := by omega
    simp only [this, if_neg e]
theorem base_eq {Q a b u v : Nat} (ha : a < Q) (hu : u < Q) (h : b * Q + a = v * Q + u) : a = u ∧ b = v := by
  obtain ⟨e1, e2⟩ := at_mod (y := b) ha
  obtain ⟨e3, e4⟩ := at_mod (y := v) hu
  rw [h] at e1 e2
  exact ⟨e1.symm.trans e3, e2.symm.trans e4⟩
/-- where the stamp's pixel (u, v) lies -/
theorem st_at {W QW QH u v : Nat} {x y : Int} {i : Nat} (hu : u < QW) (hB : stB QW QH W x y i = true) (hI : stI QW W x y i = v * QW + u) : ((i % W : Nat) : Int) = u + x ∧ ((i / W : Nat) : Int) = v + y := by
  obtain ⟨h1, h2, h3, h4⟩ := of_decide_eq_true hB
  unfold stI at hI
  obtain ⟨q1, q2⟩ := base_eq (by omega) hu hI
  omega
theorem stQ_no {W H QW QH u v : Nat} {x y m : Int} {px qx : Nat → P4} (hu : u < QW) (h : inB (W : Int) (H : Int) ((u : Int) + x) ((v : Int) + y) = false) (i : Nat) (hi : i < W * H) : stQ W QW QH x y m px qx (v * QW + u + 1) i = stQ W QW QH x y m px qx (v * QW + u) i := by
  unfold stQ
  obtain ⟨g1, g2⟩ := lin_idx hi
  by_cases hB : stB QW QH W x y i = true
  · by_cases e : stI QW W x y i = v * QW + u
    · obtain ⟨q1, q2⟩ := st_at hu hB e
      generalize i % W = A at *
      generalize i / W = B at *
      exact absurd (show 0 ≤ (u : Int) + x ∧ 0 ≤ (v : Int) + y ∧ (u : Int) + x < W ∧ (v : Int) + y < H by omega) (of_decide_eq_false h)
    · have : (stI QW W x y i < v * QW + u + 1) ↔ (stI QW W x y i < v * QW + u) := by omega
      simp only [this]
  · rw [if_neg (fun q => hB q.1), if_neg (fun q => hB q.1)]
theorem stQ_yes {W H QW QH u v a b : Nat} {x y m : Int} {px qx : Nat → P4} (hu : u < QW) (hv : v < QH) (ha : (u : Int) + x = a) (hb : (v : Int) + y = b) (haW : a < W) (i : Nat) (hi : i < W * H) : stQ W QW QH x y m px qx (v * QW + u + 1) i = upd (stQ W QW QH x y m px qx (v * QW + u)) (b * W + a) (P4.over m (qx (v * QW + u)) (px (b * W + a))) i := by
  unfold stQ upd
  dsimp only
  by_cases e : i = b * W + a
  · subst e
    obtain ⟨e1, e2⟩ := at_mod (y := b) haW
    have hB : stB QW QH W x y (b * W + a) = true := by
      unfold stB; rw [e1, e2]
      exact decide_eq_true ⟨by omega, by omega, by omega, by omega⟩
    have hI : stI QW W x y (b * W + a) = v * QW + u := by
      unfold stI; rw [e1, e2, show ((a : Int) - x).toNat = u by omega, show ((b : Int) - y).toNat = v by omega]
    rw [if_pos ⟨hB, by omega⟩, if_pos rfl, hI]
  · rw [if_neg e]
    by_cases hB : stB QW QH W x y i = true
    · by_cases e2 : stI QW W x y i = v * QW + u
      · obtain ⟨q1, q2⟩ := st_at hu hB e2
        have : i = b * W + a := by
          have := Nat.div_add_mod i W
          rw [Nat.mul_comm] at this
          rw [← this, show i / W = b by omega, show i % W = a by omega]
        exact absurd this e
      · have : (stI QW W x y i < v * QW + u + 1) ↔ (stI QW W x y i < v * QW + u) := by omega
        simp only [this]
    · rw [if_neg (fun q => hB q.1), if_neg (fun q => hB q.1)]
/-- both ways to the same -/
theorem st_same {W H QW QH : Nat} {x y m : Int} {px qx : Nat → P4} (i : Nat) (hi : i < W * H) : stQ W QW QH x y m px qx (QH * QW) i = stP W QW QH x y m px qx (H * W) i := by
  unfold stQ stP
  have h : i < H * W := by rw [Nat.mul_comm]; exact hi
  by_cases hB : stB QW QH W x y i = true
  · obtain ⟨h1, h2, h3, h4⟩ := of_decide_eq_true hB
    have hI : stI QW W x y i < QH * QW := by
      rw [Nat.mul_comm]; unfold stI
      exact mul_lt_of (by omega) (by omega)
    rw [if_pos ⟨hB, hI⟩, if_pos ⟨h, hB⟩]
  · rw [if_neg (fun q => hB q.1), if_neg (fun q => hB q.2)]
end Go.Proofs.YtkfjcgcgfdibaaaDoor
