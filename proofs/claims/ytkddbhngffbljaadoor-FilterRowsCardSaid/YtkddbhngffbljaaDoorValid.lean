/- Valid: what it says of lengths. -/
import Derived.Test.YtkddbhngffbljaaDoorHuff
namespace Go.Proofs.YtkddbhngffbljaaDoor
open Go.RowKit
set_option maxRecDepth 100000
/-- the sum of Kraft, in parts of 2^15: lengths 1 to n -/
def kraft (f : Nat → Int) (len : Nat) : Nat → Nat
  | 0 => 0
  | n + 1 => kraft f len n + many f (n + 1) len * 2 ^ (14 - n)
def inBounds (f : Nat → Int) (len : Nat) : Prop := len ≤ 300 ∧ ∀ j, j < len → 0 ≤ f j ∧ f j ≤ 15
def complete (f : Nat → Int) (len : Nat) : Prop := len = many f 0 len ∨ (len = many f 0 len + 1 ∧ many f 1 len = 1) ∨ kraft f len 15 = 32768
theorem kraft_le (f : Nat → Int) (len : Nat) : ∀ n, n ≤ 15 → kraft f len n ≤ n * (len * 16384) := by
  intro n
  induction n with
  | zero => intro _; exact Nat.zero_le _
  | succ n ih =>
    intro h
    have h1 := ih (by omega)
    have h2 : many f (n + 1) len * 2 ^ (14 - n) ≤ len * 16384 := Nat.mul_le_mul (many_le _ _ _) (Nat.pow_le_pow_right (n := 2) (by decide) (show 14 - n ≤ 14 by omega))
    unfold kraft; rw [Nat.add_mul, Nat.one_mul]; omega
theorem kraft_bound (f : Nat → Int) (len n : Nat) (h : len ≤ 300) (hn : n ≤ 15) : kraft f len n ≤ 73728000 := by
  have h1 := kraft_le f len n hn
  have h2 : n * (len * 16384) ≤ 15 * (300 * 16384) := Nat.mul_le_mul hn (Nat.mul_le_mul_right _ h)
  omega
theorem term_bound (f : Nat → Int) (len n : Nat) (h : len ≤ 300) : many f (n + 1) len * 2 ^ (14 - n) ≤ 4915200 := by
  have h2 : many f (n + 1) len * 2 ^ (14 - n) ≤ 300 * 16384 := Nat.mul_le_mul (Nat.le_trans (many_le _ _ _) h) (Nat.pow_le_pow_right (n := 2) (by decide) (show 14 - n ≤ 14 by omega))
  omega
theorem containsV_calls (x : Option Addr) (len cap : Nat) (f : Nat → Int) (w : World) (hx : Ints w x len f) (hl : len ≤ maxLen) :
    Calls Tryd.prog 60 #[.slice x len cap, .func (.func 61) #[] #[]] w fun e w' => (∃ b : Bool, e = .returned (.bool b) ∧ (b = false ↔ ∀ j, j < len → 0 ≤ f j ∧ f j ≤ 15)) ∧ w = w' := by
  have HX := Lib.hid hx
  clear hx
  go_enter Tryd.func60, Tryd.ntmps60
  go_wp2_with fail
  refine (indexV_calls _ _ _ _ _ HX.out hl).mono ?_
  rintro e w1 ⟨⟨i, rfl, hi⟩, rfl⟩
  have HI := Lib.hid hi
  clear hi
  go_wp2_with fail
  go_ret
  refine ⟨⟨_, rfl, ?_⟩, rfl⟩
  rcases HI.out with ⟨rfl, h⟩ | ⟨h, j, hj, hb⟩
  · simp; exact h
  · constructor
    · intro q; simp at q; omega
    · intro q; have := q j hj; omega
theorem valid_calls (x : Option Addr) (len cap : Nat) (f : Nat → Int) (w : World) (hx : Ints w x len f) (hl : len ≤ maxLen)
    (EB ES : Value) (hB : w.cell? ⟨1, 0, none⟩ = some EB) (hS : w.cell? ⟨2, 0, none⟩ = some ES) :
    Calls Tryd.prog 36 #[.slice x len cap] w fun e w' => Ext w w' ∧
      ((e = .returned .nilIface ∧ inBounds f len ∧ complete f len) ∨ (e = .returned EB ∧ ¬ inBounds f len) ∨ (e = .returned ES ∧ inBounds f len ∧ ¬ complete f len)) := by
  have HX := Lib.hid hx
  have hl2 := hl
  unfold maxLen at hl2
  clear hx
  by_cases h300 : 300 < len
  · go_enter Tryd.func36, Tryd.ntmps36
    go_wp2
    go_ret
    exact ⟨Below.refl _ _, .inr (.inl ⟨rfl, fun h => by have := h.1; omega⟩)⟩
  go_enter Tryd.func36, Tryd.ntmps36
  go_wp2_with fail
  refine (containsV_calls _ _ _ _ _ HX.out hl).mono ?_
  rintro e w1 ⟨⟨b, rfl, hb⟩, rfl⟩
  cases b with
  | true =>
    have HB := Lib.hid hb
    clear hb
    go_wp2_with fail
    go_ret
    refine ⟨Below.refl _ _, .inr (.inl ⟨rfl, fun h => ?_⟩)⟩
    have := HB.out.2 h.2; cases this
  | false =>
    have hbd : inBounds f len := ⟨by omega, hb.1 rfl⟩
    have HB := Lib.hid hbd
    clear hb hbd
    go_wp2_with fail
    refine (words_calls _ _ _ _ _ HX.out hl HB.out.2).mono ?_
    rintro e w1 ⟨rfl, rfl⟩
    have hst := run_storeCells_new (P := Tryd.prog) (w.alloc (.cells (cellsI .i64 16 fun n => (many f n len : Int)) 91)) 91 (Array.replicate 16 (.int .i64 0)) (cellsI .i64 16 fun n => (many f n len : Int)) (by rw [cellsI_size]; kernel_rfl) (by rw [cellsI_size]; rfl) (by simp [cellsI, Value.oneCell'])
    rw [show (w.alloc (.cells (cellsI .i64 16 fun n => (many f n len : Int)) 91)).heap.size = w.heap.size + 1 by simp] at hst
    have hz := zero16
    have hg0 := cellsI_get .i64 16 (fun n => (many f n len : Int)) 0 (by decide)
    have hm0 := many_le f 0 len
    go_wp2_with fail
    clear hst hz
    go_loop [5, 6] (fun s c => ∃ n : Nat, n ≤ 15 ∧ c = .int .i64 (n + 1) ∧ s = .int .i64 (kraft f len n : Int)) (fun _ c => 16 - (intOf c).toNat)
    case atStart => exact ⟨0, by omega, rfl, rfl⟩
    case round =>
      obtain ⟨n, hn, rfl, rfl⟩ := hrel
      by_cases hlt : n < 15
      · have hg := cellsI_get .i64 16 (fun n => (many f n len : Int)) (n + 1) (by omega)
        have k1 := kraft_bound f len n (by omega) (by omega)
        have k2 : (0 : Int) ≤ (many f (n + 1) len : Int) * 2 ^ (14 - n) ∧ (many f (n + 1) len : Int) * 2 ^ (14 - n) ≤ 4915200 := by
          have := term_bound f len n (by omega)
          rw [show (many f (n + 1) len : Int) * 2 ^ (14 - n) = ((many f (n + 1) len * 2 ^ (14 - n) : Nat) : Int) by simp]
          omega
        obtain ⟨k3, k4⟩ := k2
        go_wp2_with fail
        refine ⟨⟨n + 1, by omega, by go_num, val_int ?_⟩, by simp [intOf]; omega⟩
        show wrap64 ((kraft f len n : Int) + wrap64 ((many f (n + 1) len : Int) * 2 ^ (14 - n))) = ((kraft f len n + many f (n + 1) len * 2 ^ (14 - n) : Nat) : Int)
        rw [show ((kraft f len n + many f (n + 1) len * 2 ^ (14 - n) : Nat) : Int) = (kraft f len n : Int) + (many f (n + 1) len : Int) * 2 ^ (14 - n) by simp]
        generalize (many f (n + 1) len : Int) * 2 ^ (14 - n) = t at *
        unfold wrap64; omega
      · obtain rfl : n = 15 := by omega
        have hx1 : Ext w ((w.alloc (.cells (cellsI .i64 16 fun n => (many f n len : Int)) 91)).alloc (.cells (cellsI .i64 16 fun n => (many f n len : Int)) 91)) := ((Ext.refl w).alloc _).alloc _
        have hS2 := (hx1.cell (p := ⟨2, 0, none⟩) (World.block_lt_of_cell? w _ hS)).trans hS
        have hg1 := cellsI_get .i64 16 (fun n => (many f n len : Int)) 1 (by omega)
        have hm1 := many_le f 1 len
        have k1 := kraft_bound f len 15 (by omega) (by omega)
        have HX1 := Lib.hid hx1
        clear hx1 hg0
        go_wp2_with fail
        all_goals (go_ret; refine ⟨HX1.out, ?_⟩)
        all_goals (first | exact .inl ⟨rfl, HB.out, by unfold complete; (try simp only [beq_iff_eq, beq_eq_false_iff_ne, ne_eq] at *); omega⟩ | exact .inr (.inr ⟨rfl, HB.out, by unfold complete; (try simp only [beq_eq_false_iff_ne, ne_eq] at *); omega⟩))
end Go.Proofs.YtkddbhngffbljaaDoor
