/- BRESENHAM: the floor of a part, in the program and in the document; the places of a line. -/
import Derived.Test.YtkfjcgcgfdibaaaDoorPartsLaw
namespace Go.Proofs.YtkfjcgcgfdibaaaDoor
open Go.RowKit
set_option maxRecDepth 100000
theorem floor_law (n f : Int) (hf : 0 < f) : n / f = n.tdiv f - (if n.tmod f < 0 then 1 else 0) ∧ (n.tmod f < 0 ↔ n < n.tdiv f * f) := by
  have h1 := Int.mul_tdiv_add_tmod n f
  have h2 : n.tmod f < f := Int.tmod_lt_of_pos n hf
  have h3 : -f < n.tmod f := by
    have := Int.lt_tmod_of_pos n hf
    omega
  have hc : f * n.tdiv f = n.tdiv f * f := Int.mul_comm _ _
  generalize n.tdiv f = q at *
  generalize n.tmod f = r at *
  generalize hm : f * q = m at *
  refine ⟨?_, by omega⟩
  split
  · rename_i hr
    rw [Int.ediv_eq_iff_of_pos hf]
    rw [Int.sub_mul]
    omega
  · rename_i hr
    rw [Int.sub_zero, Int.ediv_eq_iff_of_pos hf]
    omega
theorem tdiv_small {n f : Int} (hn : -1000000000000 ≤ n ∧ n ≤ 1000000000000) : n.tdiv f ≤ 1000000000000 ∧ -1000000000000 ≤ n.tdiv f := by
  have h : (n.tdiv f).natAbs ≤ n.natAbs := by
    rw [Int.natAbs_tdiv]
    exact Nat.div_le_self _ _
  omega
theorem floor_any (n f : Int) (w : World) (hf : 0 < f) (hf2 : f ≤ 1000000) (hn : -1000000000000 ≤ n ∧ n ≤ 1000000000000) :
    Calls Tryd.prog 68 #[.int .i64 n, .int .i64 f] w fun e w' => e = .returned (.int .i64 (n / f)) ∧ w = w' := by
  have hl := (floor_law n f hf).1
  have hb : n.tdiv f ≤ 1000000000000 ∧ -1000000000000 ≤ n.tdiv f := tdiv_small hn
  have hz : ¬ f = 0 := by omega
  by_cases hr : n.tmod f < 0
  · have t1 : decide (n.tmod f < 0) = true := decide_eq_true hr
    rw [if_pos hr] at hl
    obtain ⟨q, hq⟩ : ∃ q, n.tdiv f = q := ⟨_, rfl⟩
    rw [hq] at hl hb
    rw [hl]
    go_enter Tryd.func68, Tryd.ntmps68
    go_wp2_with fail
    go_ret
    simp
  · have t1 : decide (n.tmod f < 0) = false := decide_eq_false hr
    rw [if_neg hr, Int.sub_zero] at hl
    obtain ⟨q, hq⟩ : ∃ q, n.tdiv f = q := ⟨_, rfl⟩
    rw [hq] at hl hb
    rw [hl]
    go_enter Tryd.func68, Tryd.ntmps68
    go_wp2_with fail
    go_ret
    simp
theorem downPart_any (n f : Int) (w : World) (hf : 0 < f) (hf2 : f ≤ 1000000) (hn : -1000000000000 ≤ n ∧ n ≤ 1000000000000) :
    Calls Tryd.prog 69 #[.int .i64 n, .int .i64 f] w fun e w' => e = .returned (.int .i64 (n / f)) ∧ w = w' := by
  obtain ⟨hl, hi⟩ := floor_law n f hf
  have hb : n.tdiv f ≤ 1000000000000 ∧ -1000000000000 ≤ n.tdiv f := tdiv_small hn
  have hm := Int.mul_tdiv_add_tmod n f
  have h2 : n.tmod f < f := Int.tmod_lt_of_pos n hf
  have h3 : -f < n.tmod f := Int.lt_tmod_of_pos n hf
  have hz : ¬ f = 0 := by omega
  rw [Int.mul_comm] at hm
  obtain ⟨q, hq⟩ : ∃ q, n.tdiv f = q := ⟨_, rfl⟩
  rw [hq] at hl hb hi hm
  obtain ⟨m, hqm⟩ : ∃ m, q * f = m := ⟨_, rfl⟩
  rw [hqm] at hi hm
  by_cases hr : n.tmod f < 0
  · have t1 : decide (n < m) = true := decide_eq_true (hi.1 hr)
    rw [if_pos hr] at hl
    rw [hl]
    clear hl hi
    go_enter Tryd.func69, Tryd.ntmps69
    go_wp2_with fail
    go_ret
    simp
  · have t1 : decide (n < m) = false := decide_eq_false (fun h => hr (hi.2 h))
    rw [if_neg hr, Int.sub_zero] at hl
    rw [hl]
    clear hl hi
    go_enter Tryd.func69, Tryd.ntmps69
    go_wp2_with fail
    go_ret
    simp
theorem run_max_int4 {P : Program} (w : World) (ts : Array TypeId) (t : TypeId) (k k' k'' k3 : IntKind) (x y z u : Int) : (Builtin.max_ ts t #[.int k x, .int k' y, .int k'' z, .int k3 u]).run P w = .ok (.int k (if u > (if z > (if y > x then y else x) then z else (if y > x then y else x)) then u else (if z > (if y > x then y else x) then z else (if y > x then y else x)))) w := by
  simp [Builtin.max_, Builtin.max2]
/-- how many steps a line has -/
def lnN (X0 Y0 X1 Y1 : Int) : Nat := max (X1 - X0).natAbs (Y1 - Y0).natAbs
/-- one number of its place behind k steps of n -/
def lnC (A B n k : Int) : Int := if 0 < n then A + (2 * k * (B - A) + n) / (2 * n) else A
/-- its pixels behind k steps -/
def lnP (W H : Nat) (X0 Y0 X1 Y1 : Int) (p : P4) (px : Nat → P4) : Nat → Nat → P4
  | 0 => px
  | k + 1 => if inB (W : Int) (H : Int) (lnC X0 X1 (lnN X0 Y0 X1 Y1) k) (lnC Y0 Y1 (lnN X0 Y0 X1 Y1) k) = true then upd (lnP W H X0 Y0 X1 Y1 p px k) ((lnC Y0 Y1 (lnN X0 Y0 X1 Y1) k).toNat * W + (lnC X0 X1 (lnN X0 Y0 X1 Y1) k).toNat) p else lnP W H X0 Y0 X1 Y1 p px k
theorem lnP_no {W H : Nat} {X0 Y0 X1 Y1 x y : Int} {p : P4} {px : Nat → P4} {n k : Nat} (hn : lnN X0 Y0 X1 Y1 = n) (hx : lnC X0 X1 n k = x) (hy : lnC Y0 Y1 n k = y) (h : inB (W : Int) (H : Int) x y = false) (i : Nat) : lnP W H X0 Y0 X1 Y1 p px (k + 1) i = lnP W H X0 Y0 X1 Y1 p px k i := by
  simp only [lnP]; rw [hn, hx, hy, h]; rfl
theorem lnP_yes {W H : Nat} {X0 Y0 X1 Y1 : Int} {x y : Nat} {p : P4} {px : Nat → P4} {n k : Nat} (hn : lnN X0 Y0 X1 Y1 = n) (hx : lnC X0 X1 n k = x) (hy : lnC Y0 Y1 n k = y) (h : inB (W : Int) (H : Int) x y = true) (i : Nat) : lnP W H X0 Y0 X1 Y1 p px (k + 1) i = upd (lnP W H X0 Y0 X1 Y1 p px k) (y * W + x) p i := by
  simp only [lnP]; rw [hn, hx, hy, h]; rfl
theorem lnN_max (X0 Y0 X1 Y1 : Int) : (if Y0 - Y1 > (if Y1 - Y0 > (if X0 - X1 > X1 - X0 then X0 - X1 else X1 - X0) then Y1 - Y0 else (if X0 - X1 > X1 - X0 then X0 - X1 else X1 - X0)) then Y0 - Y1 else (if Y1 - Y0 > (if X0 - X1 > X1 - X0 then X0 - X1 else X1 - X0) then Y1 - Y0 else (if X0 - X1 > X1 - X0 then X0 - X1 else X1 - X0))) = (lnN X0 Y0 X1 Y1 : Int) := by
  unfold lnN; omega
theorem prod_bound {a b A B : Int} (ha : 0 ≤ a ∧ a ≤ A) (hb : -B ≤ b ∧ b ≤ B) : -(A * B) ≤ a * b ∧ a * b ≤ A * B := by
  have hB : 0 ≤ B := by omega
  have h1 : a * b ≤ a * B := Int.mul_le_mul_of_nonneg_left hb.2 ha.1
  have h2 : a * (-B) ≤ a * b := Int.mul_le_mul_of_nonneg_left hb.1 ha.1
  have h3 : a * B ≤ A * B := Int.mul_le_mul_of_nonneg_right ha.2 hB
  rw [Int.mul_neg] at h2
  omega
theorem ediv_small {n f C : Int} (hf : 0 < f) (hn : -C ≤ n ∧ n ≤ C) : -C - 1 ≤ n / f ∧ n / f ≤ C := by
  have h : (n.tdiv f).natAbs ≤ n.natAbs := by
    rw [Int.natAbs_tdiv]
    exact Nat.div_le_self _ _
  have hl := (floor_law n f hf).1
  split at hl <;> omega
end Go.Proofs.YtkfjcgcgfdibaaaDoor
