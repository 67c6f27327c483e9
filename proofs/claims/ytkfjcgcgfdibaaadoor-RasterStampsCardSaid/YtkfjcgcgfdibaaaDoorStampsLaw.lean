/- Stamps: contracts with pixels. -/
import Derived.Test.YtkfjcgcgfdibaaaDoorStampW
import Derived.Test.YtkfjcgcgfdibaaaDoorStampOf
import Derived.Test.YtkfjcgcgfdibaaaDoorPlainly
import Derived.Test.YtkfjcgcgfdibaaaDoorTold2
namespace Go.Proofs.YtkfjcgcgfdibaaaDoor
open Go.RowKit
set_option maxRecDepth 100000
def goodB (X Y m : Int) : Bool := nearB X && nearB Y && decide (0 ≤ m ∧ m < 6)
theorem goodB_yes {X Y m : Int} (h : goodB X Y m = true) : ((-10000 ≤ X ∧ X ≤ 10000) ∧ -10000 ≤ Y ∧ Y ≤ 10000) ∧ 0 ≤ m ∧ m < 6 := by
  unfold goodB at h
  simp only [Bool.and_eq_true] at h
  exact ⟨⟨nearB_yes h.1.1, nearB_yes h.1.2⟩, of_decide_eq_true h.2⟩
theorem Pxs.lt_block {w : World} {x : Option Addr} {n : Nat} {px : Nat → P4} (h : Pxs w x n px) (hn : 0 < n) (q : Addr) (hq : x = some q) : q.block < w.heap.size := by
  have := World.block_lt_of_cell? w _ (h.2 q hq 0 hn).1
  exact this
theorem stamp_bound (W H QW QH X Y m : Int) (xa xb : Option Addr) (n c k d : Nat) (E : Nat → Addr) (w : World) (hE : Errs w E) (hr : rightB W H n = true) (hs : rightB QW QH k = true) (hB : goodB X Y m = false) :
    Calls Tryd.prog 37 #[.agg #[(.int .i64 W), (.int .i64 H), (.slice xa n c)], .agg #[(.int .i64 QW), (.int .i64 QH), (.slice xb k d)], .int .i64 X, .int .i64 Y, .int .i64 m] w fun e w' => e = .returned (.tuple #[.agg #[.int .i64 0, .int .i64 0, .slice none 0 0], .iface 171 (.pointer (some (E 1)))]) ∧ Ext w w' := by
  cases hN : nearAll (rn X Y) 2
  · exact stamp_bound_near W H QW QH X Y m xa xb n c k d E w hE hr hs hN
  · refine stamp_bound_mode W H QW QH X Y m xa xb n c k d E w hE hr hs hN ?_
    have q := (nearAll_iff _ 2).1 hN
    have q0 : nearB X = true := q 0 (by decide)
    have q1 : nearB Y = true := q 1 (by decide)
    unfold goodB at hB
    rw [q0, q1] at hB
    simp only [Bool.true_and, decide_eq_false_iff_not] at hB
    rw [Bool.eq_false_iff]
    intro h
    simp only [Bool.and_eq_true, decide_eq_true_eq] at h
    exact hB h
theorem stP_ok {W QW QH : Nat} {X Y m : Int} {px qx : Nat → P4} {k n : Nat} (hx : ∀ i, i < n → (px i).Ok) : ∀ i, i < n → (stP W QW QH X Y m px qx k i).Ok := by
  intro i hi
  unfold stP
  split
  · exact P4.over_ok _ _ _
  · exact hx i hi
theorem stamp_px (W H QW QH : Nat) (X Y m : Int) (ad bd : Addr) (c d : Nat) (px qx : Nat → P4) (w : World) (hWH : 1 ≤ W ∧ W ≤ 256 ∧ 1 ≤ H ∧ H ≤ 256) (hQH : 1 ≤ QW ∧ QW ≤ 256 ∧ 1 ≤ QH ∧ QH ≤ 256) (hB : goodB X Y m = true) (hx : Pxs w (some ad) (W * H) px) (hy : Pxs w (some bd) (QW * QH) qx) :
    Calls Tryd.prog 37 #[.agg #[.int .i64 (W : Int), .int .i64 (H : Int), .slice (some ad) (W * H) c], .agg #[.int .i64 (QW : Int), .int .i64 (QH : Int), .slice (some bd) (QW * QH) d], .int .i64 X, .int .i64 Y, .int .i64 m] w fun e w' => (∃ fx fc, e = .returned (.tuple #[.agg #[.int .i64 (W : Int), .int .i64 (H : Int), .slice fx (W * H) fc], .nilIface]) ∧ Pxs w' fx (W * H) (stP W QW QH X Y m px qx (H * W)) ∧ ∀ q, fx = some q → w.heap.size ≤ q.block) ∧ Ext w w' := by
  obtain ⟨h1, h2⟩ := goodB_yes hB
  refine (stamp_ok W H QW QH X Y m ad bd c d px qx w hWH hQH h1 h2 hx hy).mono ?_
  rintro e w' ⟨⟨g, c', rfl, hP, hg⟩, hX⟩
  exact ⟨⟨_, c', rfl, hP.pxs (stP_ok hx.oks), fun q hq => by injection hq with hq; subst hq; exact hg⟩, hX⟩
theorem stampOf_px (W H QW QH : Nat) (X Y m : Int) (ad bd : Addr) (c d : Nat) (px qx : Nat → P4) (w : World) (hWH : 1 ≤ W ∧ W ≤ 256 ∧ 1 ≤ H ∧ H ≤ 256) (hQH : 1 ≤ QW ∧ QW ≤ 256 ∧ 1 ≤ QH ∧ QH ≤ 256) (hB : goodB X Y m = true) (hx : Pxs w (some ad) (W * H) px) (hy : Pxs w (some bd) (QW * QH) qx) :
    Calls Tryd.prog 39 #[.agg #[.int .i64 (W : Int), .int .i64 (H : Int), .slice (some ad) (W * H) c], .agg #[.int .i64 (QW : Int), .int .i64 (QH : Int), .slice (some bd) (QW * QH) d], .int .i64 X, .int .i64 Y, .int .i64 m] w fun e w' => (∃ fx fc, e = .returned (.agg #[.int .i64 (W : Int), .int .i64 (H : Int), .slice fx (W * H) fc]) ∧ Pxs w' fx (W * H) (stP W QW QH X Y m px qx (H * W))) ∧ Ext w w' := by
  obtain ⟨h1, h2⟩ := goodB_yes hB
  refine (stampOf_any W H QW QH X Y m ad bd c d px qx w hWH hQH h1 h2 hx hy).mono ?_
  rintro e w' ⟨⟨g, c', rfl, hP, hg⟩, hX⟩
  exact ⟨⟨_, c', rfl, hP.pxs (stP_ok hx.oks)⟩, hX⟩
end Go.Proofs.YtkfjcgcgfdibaaaDoor
