/-
  RasterTurns: contracts in terms of pictures.
-/
import Derived.Test.YtkfjcgcgfdibaaaDoorRasterFloodsG8
import Derived.Test.YtkfjcgcgfdibaaaDoorRasterFloodsG13
import Derived.Test.YtkfjcgcgfdibaaaDoorRasterFloodsG14
import Derived.Test.YtkfjcgcgfdibaaaDoorRasterFloodsG3
namespace Go.Proofs.YtkfjcgcgfdibaaaDoor
open Go.RowKit
set_option maxRecDepth 100000
theorem mixP_ok (px : Nat → P4) (n : Nat) : (mixP px n).Ok := by
  unfold mixP
  split
  · exact P4.zero_ok
  · exact ⟨Pix.rnd_byte _ _, Pix.rnd_byte _ _, Pix.rnd_byte _ _, Pix.rnd_byte _ _⟩
def Pc3.half (p : Pc3) : Pc3 := ⟨(p.W + 1) / 2, (p.H + 1) / 2, halfQ p.W p.H p.px⟩
def Pc3.scale (p : Pc3) (ww hh : Nat) : Pc3 := ⟨ww, hh, scaleP p.W p.H ww hh p.px⟩
theorem Pc3.half_ok {p : Pc3} (h : p.Ok) : p.half.Ok := by
  obtain ⟨h1, h2, h3, h4, _⟩ := h
  exact ⟨by show 1 ≤ (p.W + 1) / 2; omega, by show (p.W + 1) / 2 ≤ 256; omega, by show 1 ≤ (p.H + 1) / 2; omega, by show (p.H + 1) / 2 ≤ 256; omega, fun i _ => mixP_ok _ _⟩
theorem Pc3.scale_ok {p : Pc3} {ww hh : Nat} (h : p.Ok) (h2 : 1 ≤ ww ∧ ww ≤ 256) (h3 : 1 ≤ hh ∧ hh ≤ 256) : (p.scale ww hh).Ok := by
  refine ⟨h2.1, h2.2, h3.1, h3.2, fun i hi => ?_⟩
  obtain ⟨q1, q2⟩ := lin_idx hi
  have q1' : i % ww < ww := q1
  have q2' : i / ww < hh := q2
  have e1 : i % ww * p.W / ww < p.W := by rcases scale_in (W := p.W) q1' with h' | h' <;> have := h.w1 <;> omega
  have e2 : i / ww * p.H / hh < p.H := by rcases scale_in (W := p.H) q2' with h' | h' <;> have := h.h1 <;> omega
  exact h.ok _ (mul_lt_of e2 e1)
theorem scale_shape (ww hh W H : Int) (x : Option Addr) (n c : Nat) (E : Nat → Addr) (w : World) (hE : Errs w E) (hr : rightB W H n = false) :
    Calls Tryd.prog 41 #[.agg #[.int .i64 W, .int .i64 H, .slice x n c], .int .i64 ww, .int .i64 hh] w fun e w' => e = .returned (.tuple #[.agg #[.int .i64 0, .int .i64 0, .slice none 0 0], .iface 171 (.pointer (some (E 2)))]) ∧ Ext w w' := by
  cases h : sideB ww
  · exact scale_shape_N ww hh W H x n c E w hE hr h
  · exact scale_shape_Y ww hh W H x n c E w hE hr h
theorem scale_bound (ww hh W H : Int) (x : Option Addr) (n c : Nat) (E : Nat → Addr) (w : World) (hE : Errs w E) (hr : rightB W H n = true) (hs : (sideB ww && sideB hh) = false) :
    Calls Tryd.prog 41 #[.agg #[.int .i64 W, .int .i64 H, .slice x n c], .int .i64 ww, .int .i64 hh] w fun e w' => e = .returned (.tuple #[.agg #[.int .i64 0, .int .i64 0, .slice none 0 0], .iface 171 (.pointer (some (E 1)))]) ∧ Ext w w' := by
  cases h : sideB ww
  · exact scale_bound_N ww hh W H x n c E w hE hr h hs
  · exact scale_bound_Y ww hh W H x n c E w hE hr h hs
theorem half_pc (p : Pc3) (a : Addr) (c : Nat) (w : World) (hp : p.Ok) (hx : Pxs w (some a) (p.W * p.H) p.px) :
    Calls Tryd.prog 40 #[.agg #[.int .i64 (p.W : Int), .int .i64 (p.H : Int), .slice (some a) (p.W * p.H) c]] w fun e w' => (∃ a' c', e = .returned (.tuple #[.agg #[.int .i64 (p.half.W : Int), .int .i64 (p.half.H : Int), .slice (some a') (p.half.W * p.half.H) c'], .nilIface]) ∧ Pxs w' (some a') (p.half.W * p.half.H) p.half.px) ∧ Ext w w' := by
  refine (half_good p.W p.H a c p.px w ⟨hp.w1, hp.w2⟩ ⟨hp.h1, hp.h2⟩ hx).mono ?_
  rintro e w2 ⟨⟨v, rfl, ho⟩, h2⟩
  obtain ⟨a', c', rfl, q1, q2⟩ := PcV.of_own (p := p.half) ho (Pc3.half_ok hp)
  exact ⟨⟨a', c', rfl, q1⟩, h2⟩
theorem scale_pc (p : Pc3) (ww hh : Nat) (a : Addr) (c : Nat) (w : World) (hp : p.Ok) (h2 : 1 ≤ ww ∧ ww ≤ 256) (h3 : 1 ≤ hh ∧ hh ≤ 256) (hx : Pxs w (some a) (p.W * p.H) p.px) :
    Calls Tryd.prog 41 #[.agg #[.int .i64 (p.W : Int), .int .i64 (p.H : Int), .slice (some a) (p.W * p.H) c], .int .i64 (ww : Int), .int .i64 (hh : Int)] w fun e w' => (∃ a' c', e = .returned (.tuple #[.agg #[.int .i64 ((p.scale ww hh).W : Int), .int .i64 ((p.scale ww hh).H : Int), .slice (some a') ((p.scale ww hh).W * (p.scale ww hh).H) c'], .nilIface]) ∧ Pxs w' (some a') ((p.scale ww hh).W * (p.scale ww hh).H) (p.scale ww hh).px) ∧ Ext w w' := by
  refine (scale_good p.W p.H ww hh a c p.px w ⟨hp.w1, hp.w2⟩ ⟨hp.h1, hp.h2⟩ h2 h3 hx).mono ?_
  rintro e w2 ⟨⟨v, rfl, ho⟩, hX⟩
  obtain ⟨a', c', rfl, q1, q2⟩ := PcV.of_own (p := p.scale ww hh) ho (Pc3.scale_ok hp h2 h3)
  exact ⟨⟨a', c', rfl, q1⟩, hX⟩
theorem flipOf_pc (p : Pc3) (down : Bool) (a : Addr) (c : Nat) (w : World) (hp : p.Ok) (hx : Pxs w (some a) (p.W * p.H) p.px) :
    Calls Tryd.prog 43 #[.agg #[.int .i64 (p.W : Int), .int .i64 (p.H : Int), .slice (some a) (p.W * p.H) c], .bool down] w fun e w' => (∃ a' c', e = .returned (.agg #[.int .i64 (p.W : Int), .int .i64 (p.H : Int), .slice (some a') (p.W * p.H) c']) ∧ Pxs w' (some a') (p.W * p.H) (p.flip down).px) ∧ Ext w w' := by
  have hok := (Pc3.flip_ok hp down).ok
  cases down
  · refine (flipOf_F p.W p.H a c p.px w hx ⟨hp.w1, hp.w2⟩ ⟨hp.h1, hp.h2⟩).mono ?_
    rintro e w2 ⟨⟨g, c', ⟨_, rfl⟩, hP, _⟩, h2⟩
    exact ⟨⟨_, _, rfl, hP.pxs hok⟩, h2⟩
  · refine (flipOf_T p.W p.H a c p.px w hx ⟨hp.w1, hp.w2⟩ ⟨hp.h1, hp.h2⟩).mono ?_
    rintro e w2 ⟨⟨g, c', ⟨_, rfl⟩, hP, _⟩, h2⟩
    exact ⟨⟨_, _, rfl, hP.pxs hok⟩, h2⟩
theorem turnOf_pc (p : Pc3) (a : Addr) (c : Nat) (w : World) (hp : p.Ok) (hx : Pxs w (some a) (p.W * p.H) p.px) :
    Calls Tryd.prog 42 #[.agg #[.int .i64 (p.W : Int), .int .i64 (p.H : Int), .slice (some a) (p.W * p.H) c]] w fun e w' => (∃ a' c', e = .returned (.agg #[.int .i64 (p.turn.W : Int), .int .i64 (p.turn.H : Int), .slice (some a') (p.turn.W * p.turn.H) c']) ∧ Pxs w' (some a') (p.turn.W * p.turn.H) p.turn.px ∧ w.heap.size ≤ a'.block) ∧ Ext w w' := by
  refine (turnOf_any p.W p.H a c p.px w hx ⟨hp.w1, hp.w2⟩ ⟨hp.h1, hp.h2⟩).mono ?_
  rintro e w2 ⟨⟨g, c', ⟨_, rfl⟩, hP, hg⟩, h2⟩
  exact ⟨⟨_, _, rfl, hP.pxs (Pc3.turn_ok hp).ok, hg⟩, h2⟩
theorem halfOf_pc (p : Pc3) (a : Addr) (c : Nat) (w : World) (hp : p.Ok) (hx : Pxs w (some a) (p.W * p.H) p.px) :
    Calls Tryd.prog 44 #[.agg #[.int .i64 (p.W : Int), .int .i64 (p.H : Int), .slice (some a) (p.W * p.H) c]] w fun e w' => (∃ a' c', e = .returned (.agg #[.int .i64 (p.half.W : Int), .int .i64 (p.half.H : Int), .slice (some a') (p.half.W * p.half.H) c']) ∧ Pxs w' (some a') (p.half.W * p.half.H) p.half.px) ∧ Ext w w' := by
  refine (halfOf_any p.W p.H a c p.px w hx ⟨hp.w1, hp.w2⟩ ⟨hp.h1, hp.h2⟩).mono ?_
  rintro e w2 ⟨⟨g, c', ⟨_, rfl⟩, hP, hg⟩, h2⟩
  exact ⟨⟨_, _, rfl, hP.pxs (Pc3.half_ok hp).ok⟩, h2⟩
theorem scaleOf_pc (p : Pc3) (ww hh : Nat) (a : Addr) (c : Nat) (w : World) (hp : p.Ok) (h2 : 1 ≤ ww ∧ ww ≤ 256) (h3 : 1 ≤ hh ∧ hh ≤ 256) (hx : Pxs w (some a) (p.W * p.H) p.px) :
    Calls Tryd.prog 45 #[.agg #[.int .i64 (p.W : Int), .int .i64 (p.H : Int), .slice (some a) (p.W * p.H) c], .int .i64 (ww : Int), .int .i64 (hh : Int)] w fun e w' => (∃ a' c', e = .returned (.agg #[.int .i64 ((p.scale ww hh).W : Int), .int .i64 ((p.scale ww hh).H : Int), .slice (some a') ((p.scale ww hh).W * (p.scale ww hh).H) c']) ∧ Pxs w' (some a') ((p.scale ww hh).W * (p.scale ww hh).H) (p.scale ww hh).px) ∧ Ext w w' := by
  refine (scaleOf_any p.W p.H ww hh a c p.px w hx ⟨hp.w1, hp.w2⟩ ⟨hp.h1, hp.h2⟩ h2 h3).mono ?_
  rintro e w2 ⟨⟨g, c', ⟨_, rfl⟩, hP, hg⟩, hX⟩
  exact ⟨⟨_, _, rfl, hP.pxs (Pc3.scale_ok hp h2 h3).ok⟩, hX⟩
/-- two pictures that are the same -/
theorem told_pc (p q : Pc3) (x y : Addr) (c d : Nat) (w : World) (hp : p.Ok) (hs : p.Same q) (hx : Pxs w (some x) (p.W * p.H) p.px) (hy : Pxs w (some y) (q.W * q.H) q.px) :
    Calls Tryd.prog 22 #[.agg #[.int .i64 (p.W : Int), .int .i64 (p.H : Int), .slice (some x) (p.W * p.H) c], .nilIface, .agg #[.int .i64 (q.W : Int), .int .i64 (q.H : Int), .slice (some y) (q.W * q.H) d], .int .i64 0] w fun e w' => e = .returned (.bool true) ∧ Ext w w' := by
  rw [← hs.w, ← hs.h] at hy ⊢
  exact told_ok _ _ _ _ _ c d p.px w hx (hy.congr hs.px) (Nat.le_trans (Nat.mul_le_mul hp.w2 hp.h2) (by decide))
/-- three quarters more, a number less -/
def turnI (q K : Int) (m : Nat) : Prop := (K + 3 * (m : Int) - (quar q : Int)) % 4 = 0 ∧ -3 ≤ K ∧ K ≤ 3
theorem turnI.start (q : Int) : turnI q (q.tmod 4) 0 := by
  unfold turnI quar
  rw [Int.tmod_eq_emod]
  split <;> omega
theorem turnI.next {q K : Int} {m : Nat} (h : turnI q K m) (_hK : K ≠ 0) : turnI q ((if 0 < K then K - 4 else K) + 1) (m + 1) := by
  unfold turnI at h ⊢
  split <;> omega
theorem Pc3.turns_mod (p : Pc3) (k m : Nat) (hk : (m : Int) % 4 = (k : Int) % 4) : (p.turns k).Same (p.turns m) := by
  have four : ∀ j n, (p.turns (j + 4 * n)).Same (p.turns j) := by
    intro j n
    induction n with
    | zero => exact Pc3.Same.refl _
    | succ n ih =>
      have e : p.turns (j + 4 * (n + 1)) = (p.turns (j + 4 * n)).turns 4 := by rw [Pc3.turns_add]; congr 1
      rw [e]
      have h4 := Pc3.turns_four (p.turns (j + 4 * n))
      exact ⟨h4.w.trans ih.w, h4.h.trans ih.h, fun i hi => (h4.px i hi).trans (ih.px i (by rw [← h4.w, ← h4.h]; exact hi))⟩
  have hs : ∀ {a b : Pc3}, a.Same b → b.Same a := fun h => ⟨h.w.symm, h.h.symm, fun i hi => (h.px i (by rw [h.w, h.h]; exact hi)).symm⟩
  rcases Nat.le_total k m with q | q
  · have := four k ((m - k) / 4)
    rw [show k + 4 * ((m - k) / 4) = m by omega] at this
    exact hs this
  · have := four m ((k - m) / 4)
    rw [show m + 4 * ((k - m) / 4) = k by omega] at this
    exact this
theorem turnI.fin {q : Int} {m : Nat} (h : turnI q 0 m) (p : Pc3) : (p.turns (quar q)).Same (p.turns (3 * m)) := by
  refine p.turns_mod _ _ ?_
  unfold turnI at h
  omega
end Go.Proofs.YtkfjcgcgfdibaaaDoor
