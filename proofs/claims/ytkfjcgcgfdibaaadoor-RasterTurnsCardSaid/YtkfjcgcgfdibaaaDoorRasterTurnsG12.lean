/-
  RasterTurns: contracts in terms of pictures.
  RasterBack's walk.
-/
import Derived.Test.YtkfjcgcgfdibaaaDoorRasterTurnsG5
import Derived.Test.YtkfjcgcgfdibaaaDoorRasterTurnsG10
import Derived.Test.YtkfjcgcgfdibaaaDoorRasterTurnsG11
import Derived.Test.YtkfjcgcgfdibaaaDoorRasterTurnsG3
namespace Go.Proofs.YtkfjcgcgfdibaaaDoor
open Go.RowKit
set_option maxRecDepth 100000
theorem mixP_ok (px : Nat → P4) (n : Nat) : (mixP px n).Ok := by
  unfold mixP
  split
  · exact P4.zero_ok
  · exact ⟨Pix.rnd_byte _ _, Pix.rnd_byte _ _, Pix.rnd_byte _ _, Pix.rnd_byte _ _⟩
def Pc3.half (p : Pc3) : Pc3 := ⟨(p.W + 1) / 2, (p.H + 1) / 2, halfQ p.W p.H p.px⟩
def Pc3.scale (p : Pc3) (ww hh : Nat) : Pc3 := ⟨ww, hh, scaleP p.W p.H ww hh p.px⟩
theorem Pc3.half_ok {p : Pc3} (h : p.Ok) : p.half.Ok := by
  obtain ⟨h1, h2, h3, h4, _⟩ := h
  exact ⟨by show 1 ≤ (p.W + 1) / 2; omega, by show (p.W + 1) / 2 ≤ 256; omega, by show 1 ≤ (p.H + 1) / 2; omega, by show (p.H + 1) / 2 ≤ 256; omega, fun i _ => mixP_ok _ _⟩
theorem Pc3.scale_ok {p : Pc3} {ww hh : Nat} (h : p.Ok) (h2 : 1 ≤ ww ∧ ww ≤ 256) (h3 : 1 ≤ hh ∧ hh ≤ 256) : (p.scale ww hh).Ok := by
  refine ⟨h2.1, h2.2, h3.1, h3.2, fun i hi => ?_⟩
  obtain ⟨q1, q2⟩ := lin_idx hi
  have q1' : i % ww < ww := q1
  have q2' : i / ww < hh := q2
  have e1 : i % ww * p.W / ww < p.W := by rcases scale_in (W := p.W) q1' with h' | h' <;> have := h.w1 <;> omega
  have e2 : i / ww * p.H / hh < p.H := by rcases scale_in (W := p.H) q2' with h' | h' <;> have := h.h1 <;> omega
  exact h.ok _ (mul_lt_of e2 e1)
theorem scale_shape (ww hh W H : Int) (x : Option Addr) (n c : Nat) (E : Nat → Addr) (w : World) (hE : Errs w E) (hr : rightB W H n = false) :
    Calls Tryd.prog 41 #[.agg #[.int .i64 W, .int .i64 H, .slice x n c], .int .i64 ww, .int .i64 hh] w fun e w' => e = .returned (.tuple #[.agg #[.int .i64 0, .int .i64 0, .slice none 0 0], .iface 171 (.pointer (some (E 2)))]) ∧ Ext w w' := by
  cases h : sideB ww
  · exact scale_shape_N ww hh W H x n c E w hE hr h
  · exact scale_shape_Y ww hh W H x n c E w hE hr h
theorem scale_bound (ww hh W H : Int) (x : Option Addr) (n c : Nat) (E : Nat → Addr) (w : World) (hE : Errs w E) (hr : rightB W H n = true) (hs : (sideB ww && sideB hh) = false) :
    Calls Tryd.prog 41 #[.agg #[.int .i64 W, .int .i64 H, .slice x n c], .int .i64 ww, .int .i64 hh] w fun e w' => e = .returned (.tuple #[.agg #[.int .i64 0, .int .i64 0, .slice none 0 0], .iface 171 (.pointer (some (E 1)))]) ∧ Ext w w' := by
  cases h : sideB ww
  · exact scale_bound_N ww hh W H x n c E w hE hr h hs
  · exact scale_bound_Y ww hh W H x n c E w hE hr h hs
theorem half_pc (p : Pc3) (a : Addr) (c : Nat) (w : World) (hp : p.Ok) (hx : Pxs w (some a) (p.W * p.H) p.px) :
    Calls Tryd.prog 40 #[.agg #[.int .i64 (p.W : Int), .int .i64 (p.H : Int), .slice (some a) (p.W * p.H) c]] w fun e w' => (∃ a' c', e = .returned (.tuple #[.agg #[.int .i64 (p.half.W : Int), .int .i64 (p.half.H : Int), .slice (some a') (p.half.W * p.half.H) c'], .nilIface]) ∧ Pxs w' (some a') (p.half.W * p.half.H) p.half.px) ∧ Ext w w' := by
  refine (half_good p.W p.H a c p.px w ⟨hp.w1, hp.w2⟩ ⟨hp.h1, hp.h2⟩ hx).mono ?_
  rintro e w2 ⟨⟨v, rfl, ho⟩, h2⟩
  obtain ⟨a', c', rfl, q1, q2⟩ := PcV.of_own (p := p.half) ho (Pc3.half_ok hp)
  exact ⟨⟨a', c', rfl, q1⟩, h2⟩
theorem scale_pc (p : Pc3) (ww hh : Nat) (a : Addr) (c : Nat) (w : World) (hp : p.Ok) (h2 : 1 ≤ ww ∧ ww ≤ 256) (h3 : 1 ≤ hh ∧ hh ≤ 256) (hx : Pxs w (some a) (p.W * p.H) p.px) :
    Calls Tryd.prog 41 #[.agg #[.int .i64 (p.W : Int), .int .i64 (p.H : Int), .slice (some a) (p.W * p.H) c], .int .i64 (ww : Int), .int .i64 (hh : Int)] w fun e w' => (∃ a' c', e = .returned (.tuple #[.agg #[.int .i64 ((p.scale ww hh).W : Int), .int .i64 ((p.scale ww hh).H : Int), .slice (some a') ((p.scale ww hh).W * (p.scale ww hh).H) c'], .nilIface]) ∧ Pxs w' (some a') ((p.scale ww hh).W * (p.scale ww hh).H) (p.scale ww hh).px) ∧ Ext w w' := by
  refine (scale_good p.W p.H ww hh a c p.px w ⟨hp.w1, hp.w2⟩ ⟨hp.h1, hp.h2⟩ h2 h3 hx).mono ?_
  rintro e w2 ⟨⟨v, rfl, ho⟩, hX⟩
  obtain ⟨a', c', rfl, q1, q2⟩ := PcV.of_own (p := p.scale ww hh) ho (Pc3.scale_ok hp h2 h3)
  exact ⟨⟨a', c', rfl, q1⟩, hX⟩
theorem flipOf_pc (p : Pc3) (down : Bool) (a : Addr) (c : Nat) (w : World) (hp : p.Ok) (hx : Pxs w (some a) (p.W * p.H) p.px) :
    Calls Tryd.prog 43 #[.agg #[.int .i64 (p.W : Int), .int .i64 (p.H : Int), .slice (some a) (p.W * p.H) c], .bool down] w fun e w' => (∃ a' c', e = .returned (.agg #[.int .i64 (p.W : Int), .int .i64 (p.H : Int), .slice (some a') (p.W * p.H) c']) ∧ Pxs w' (some a') (p.W * p.H) (p.flip down).px) ∧ Ext w w' := by
  have hok := (Pc3.flip_ok hp down).ok
  cases down
  · refine (flipOf_F p.W p.H a c p.px w hx ⟨hp.w1, hp.w2⟩ ⟨hp.h1, hp.h2⟩).mono ?_
    rintro e w2 ⟨⟨g, c', ⟨_, rfl⟩, hP, _⟩, h2⟩
    exact ⟨⟨_, _, rfl, hP.pxs hok⟩, h2⟩
  · refine (flipOf_T p.W p.H a c p.px w hx ⟨hp.w1, hp.w2⟩ ⟨hp.h1, hp.h2⟩).mono ?_
    rintro e w2 ⟨⟨g, c', ⟨_, rfl⟩, hP, _⟩, h2⟩
    exact ⟨⟨_, _, rfl, hP.pxs hok⟩, h2⟩
theorem turnOf_pc (p : Pc3) (a : Addr) (c : Nat) (w : World) (hp : p.Ok) (hx : Pxs w (some a) (p.W * p.H) p.px) :
    Calls Tryd.prog 42 #[.agg #[.int .i64 (p.W : Int), .int .i64 (p.H : Int), .slice (some a) (p.W * p.H) c]] w fun e w' => (∃ a' c', e = .returned (.agg #[.int .i64 (p.turn.W : Int), .int .i64 (p.turn.H : Int), .slice (some a') (p.turn.W * p.turn.H) c']) ∧ Pxs w' (some a') (p.turn.W * p.turn.H) p.turn.px ∧ w.heap.size ≤ a'.block) ∧ Ext w w' := by
  refine (turnOf_any p.W p.H a c p.px w hx ⟨hp.w1, hp.w2⟩ ⟨hp.h1, hp.h2⟩).mono ?_
  rintro e w2 ⟨⟨g, c', ⟨_, rfl⟩, hP, hg⟩, h2⟩
  exact ⟨⟨_, _, rfl, hP.pxs (Pc3.turn_ok hp).ok, hg⟩, h2⟩
theorem halfOf_pc (p : Pc3) (a : Addr) (c : Nat) (w : World) (hp : p.Ok) (hx : Pxs w (some a) (p.W * p.H) p.px) :
    Calls Tryd.prog 44 #[.agg #[.int .i64 (p.W : Int), .int .i64 (p.H : Int), .slice (some a) (p.W * p.H) c]] w fun e w' => (∃ a' c', e = .returned (.agg #[.int .i64 (p.half.W : Int), .int .i64 (p.half.H : Int), .slice (some a') (p.half.W * p.half.H) c']) ∧ Pxs w' (some a') (p.half.W * p.half.H) p.half.px) ∧ Ext w w' := by
  refine (halfOf_any p.W p.H a c p.px w hx ⟨hp.w1, hp.w2⟩ ⟨hp.h1, hp.h2⟩).mono ?_
  rintro e w2 ⟨⟨g, c', ⟨_, rfl⟩, hP, hg⟩, h2⟩
  exact ⟨⟨_, _, rfl, hP.pxs (Pc3.half_ok hp).ok⟩, h2⟩
theorem scaleOf_pc (p : Pc3) (ww hh : Nat) (a : Addr) (c : Nat) (w : World) (hp : p.Ok) (h2 : 1 ≤ ww ∧ ww ≤ 256) (h3 : 1 ≤ hh ∧ hh ≤ 256) (hx : Pxs w (some a) (p.W * p.H) p.px) :
    Calls Tryd.prog 45 #[.agg #[.int .i64 (p.W : Int), .int .i64 (p.H : Int), .slice (some a) (p.W * p.H) c], .int .i64 (ww : Int), .int .i64 (hh : Int)] w fun e w' => (∃ a' c', e = .returned (.agg #[.int .i64 ((p.scale ww hh).W : Int), .int .i64 ((p.scale ww hh).H : Int), .slice (some a') ((p.scale ww hh).W * (p.scale ww hh).H) c']) ∧ Pxs w' (some a') ((p.scale ww hh).W * (p.scale ww hh).H) (p.scale ww hh).px) ∧ Ext w w' := by
  refine (scaleOf_any p.W p.H ww hh a c p.px w hx ⟨hp.w1, hp.w2⟩ ⟨hp.h1, hp.h2⟩ h2 h3).mono ?_
  rintro e w2 ⟨⟨g, c', ⟨_, rfl⟩, hP, hg⟩, hX⟩
  exact ⟨⟨_, _, rfl, hP.pxs (Pc3.scale_ok hp h2 h3).ok⟩, hX⟩
/-- two pictures that are the same -/
theorem told_pc (p q : Pc3) (x y : Addr) (c d : Nat) (w : World) (hp : p.Ok) (hs : p.Same q) (hx : Pxs w (some x) (p.W * p.H) p.px) (hy : Pxs w (some y) (q.W * q.H) q.px) :
    Calls Tryd.prog 22 #[.agg #[.int .i64 (p.W : Int), .int .i64 (p.H : Int), .slice (some x) (p.W * p.H) c], .nilIface, .agg #[.int .i64 (q.W : Int), .int .i64 (q.H : Int), .slice (some y) (q.W * q.H) d], .int .i64 0] w fun e w' => e = .returned (.bool true) ∧ Ext w w' := by
  rw [← hs.w, ← hs.h] at hy ⊢
  exact told_ok _ _ _ _ _ c d p.px w hx (hy.congr hs.px) (Nat.le_trans (Nat.mul_le_mul hp.w2 hp.h2) (by decide))
/-- three quarters more, a number less -/
def turnI (q K : Int) (m : Nat) : Prop := (K + 3 * (m : Int) - (quar q : Int)) % 4 = 0 ∧ -3 ≤ K ∧ K ≤ 3
theorem turnI.start (q : Int) : turnI q (q.tmod 4) 0 := by
  unfold turnI quar
  rw [Int.tmod_eq_emod]
  split <;> omega
theorem turnI.next {q K : Int} {m : Nat} (h : turnI q K m) (_hK : K ≠ 0) : turnI q ((if 0 < K then K - 4 else K) + 1) (m + 1) := by
  unfold turnI at h ⊢
  split <;> omega
theorem Pc3.turns_mod (p : Pc3) (k m : Nat) (hk : (m : Int) % 4 = (k : Int) % 4) : (p.turns k).Same (p.turns m) := by
  have four : ∀ j n, (p.turns (j + 4 * n)).Same (p.turns j) := by
    intro j n
    induction n with
    | zero => exact Pc3.Same.refl _
    | succ n ih =>
      have e : p.turns (j + 4 * (n + 1)) = (p.turns (j + 4 * n)).turns 4 := by rw [Pc3.turns_add]; congr 1
      rw [e]
      have h4 := Pc3.turns_four (p.turns (j + 4 * n))
      exact ⟨h4.w.trans ih.w, h4.h.trans ih.h, fun i hi => (h4.px i hi).trans (ih.px i (by rw [← h4.w, ← h4.h]; exact hi))⟩
  have hs : ∀ {a b : Pc3}, a.Same b → b.Same a := fun h => ⟨h.w.symm, h.h.symm, fun i hi => (h.px i (by rw [h.w, h.h]; exact hi)).symm⟩
  rcases Nat.le_total k m with q | q
  · have := four k ((m - k) / 4)
    rw [show k + 4 * ((m - k) / 4) = m by omega] at this
    exact hs this
  · have := four m ((k - m) / 4)
    rw [show m + 4 * ((k - m) / 4) = k by omega] at this
    exact this
theorem turnI.fin {q : Int} {m : Nat} (h : turnI q 0 m) (p : Pc3) : (p.turns (quar q)).Same (p.turns (3 * m)) := by
  refine p.turns_mod _ _ ?_
  unfold turnI at h
  omega
end Go.Proofs.YtkfjcgcgfdibaaaDoor
namespace Go.Proofs.YtkfjcgcgfdibaaaDoor
open Go.RowKit
set_option maxRecDepth 100000
/-- a variable that is given another picture -/
theorem set3_facts {w0 w : World} {b : Nat} {x y z x' y' z' : Value} (hX : Ext w0 w) (hb : w0.heap.size ≤ b) (hB : Bk w b #[x, y, z]) :
    Ext w0 (((w.setCell ⟨b, 0, none⟩ x').setCell ⟨b, 1, none⟩ y').setCell ⟨b, 2, none⟩ z') ∧ Bk (((w.setCell ⟨b, 0, none⟩ x').setCell ⟨b, 1, none⟩ y').setCell ⟨b, 2, none⟩ z') b #[x', y', z'] ∧ Keeps (fun k => k = b) w (((w.setCell ⟨b, 0, none⟩ x').setCell ⟨b, 1, none⟩ y').setCell ⟨b, 2, none⟩ z') :=
  ⟨hX.set3 hb _ _ _, ((hB.set_ 0 x').set_ 1 y').set_ 2 z', (((Keeps.refl (fun k => k = b) w).setCell (.inl rfl) _).setCell (.inl rfl) _).setCell (.inl rfl) _⟩
theorem back_small (W H q : Int) (x : Option Addr) (n cap : Nat) (w : World) (hn : n ≤ maxLen) (h : 3000 < n) :
    Calls Tryd.prog 3 #[.agg #[.int .i64 W, .int .i64 H, .slice x n cap], .int .i64 q] w fun e w' => e = .returned (.bool true) ∧ Ext w w' := by
  have hd := Lib.hid (decide_eq_false (show ¬ n ≤ 3000 by omega))
  go_enter Tryd.func3, Tryd.ntmps3
  go_wp2_with fail
  refine calls_world (fun wz => Ext w wz ∧ wz.heap.size = w.heap.size + 1 ∧ Bk wz (w.heap.size) #[.int .i64 W, .int .i64 H, .slice x n cap]) ⟨by repeat (first | exact Ext.refl _ | refine Ext.alloc ?_ _), by simp, by repeat (first | exact Bk.at (by simp) | refine Bk.old ?_)⟩ ?_
  rintro wa ⟨hX, hZ, hB0⟩
  refine (plainly_any _).mono ?_
  rintro e w2 ⟨rfl, h2⟩
  have X2 := Lib.hid (hX.trans h2)
  have B2 := Lib.hid (hB0.ext h2)
  clear h2
  have c0 := B2.out.cell 0
  have c1 := B2.out.cell 1
  have c2 := B2.out.cell 2
  go_wp2_with fail
  refine (small_any W H x n cap _ hn).mono ?_
  rintro e w3 ⟨rfl, h3⟩
  have X3 := Lib.hid (X2.out.trans h3)
  clear h3
  rw [hd.out]
  go_wp2_with fail
  go_ret
  exact ⟨rfl, X3.out⟩
theorem back_not (W H q : Int) (x : Option Addr) (n cap : Nat) (w : World) (hn : n ≤ 3000) (h : rightB W H n = false ∨ q < -1000 ∨ 1000 < q) :
    Calls Tryd.prog 3 #[.agg #[.int .i64 W, .int .i64 H, .slice x n cap], .int .i64 q] w fun e w' => e = .returned (.bool true) ∧ Ext w w' := by
  have hd := Lib.hid (decide_eq_true (show n ≤ 3000 by omega))
  have HR : Hid (rightB W H n = false ∨ (rightB W H n = true ∧ (q < -1000 ∨ 1000 < q))) := Lib.hid (by
    rcases h with h | h
    · exact .inl h
    · cases hr : rightB W H n
      · exact .inl rfl
      · exact .inr ⟨rfl, h⟩)
  clear h
  go_enter Tryd.func3, Tryd.ntmps3
  go_wp2_with fail
  refine calls_world (fun wz => Ext w wz ∧ wz.heap.size = w.heap.size + 1 ∧ Bk wz (w.heap.size) #[.int .i64 W, .int .i64 H, .slice x n cap]) ⟨by repeat (first | exact Ext.refl _ | refine Ext.alloc ?_ _), by simp, by repeat (first | exact Bk.at (by simp) | refine Bk.old ?_)⟩ ?_
  rintro wa ⟨hX, hZ, hB0⟩
  refine (plainly_any _).mono ?_
  rintro e w2 ⟨rfl, h2⟩
  have X2 := Lib.hid (hX.trans h2)
  have B2 := Lib.hid (hB0.ext h2)
  clear h2
  have c0 := B2.out.cell 0
  have c1 := B2.out.cell 1
  have c2 := B2.out.cell 2
  go_wp2_with fail
  refine (small_any W H x n cap _ (by unfold maxLen; omega)).mono ?_
  rintro e w3 ⟨rfl, h3⟩
  have X3 := Lib.hid (X2.out.trans h3)
  have B3 := Lib.hid (B2.out.ext h3)
  clear h3
  rw [hd.out]
  clear c0 c1 c2
  have c0 := B3.out.cell 0
  have c1 := B3.out.cell 1
  have c2 := B3.out.cell 2
  go_wp2_with fail
  refine (refRight_any W H x n cap _).mono ?_
  rintro e w4 ⟨rfl, h4⟩
  have X4 := Lib.hid (X3.out.trans h4)
  clear h4
  rcases HR.out with h | ⟨h, h'⟩
  · rw [h]
    clear h c0 c1 c2
    go_wp2_with fail
    go_ret
    exact ⟨rfl, X4.out⟩
  · rw [h]
    clear h c0 c1 c2
    by_cases h5 : q < -1000
    · go_wp2_with fail
      go_ret
      exact ⟨rfl, X4.out⟩
    · have h6 : 1000 < q := by omega
      go_wp2_with fail
      go_ret
      exact ⟨rfl, X4.out⟩
set_option maxHeartbeats 2000000 in
theorem back_good (p : Pc3) (q : Int) (a : Addr) (c : Nat) (w : World) (hp : p.Ok) (hx : Pxs w (some a) (p.W * p.H) p.px) (hn : p.W * p.H ≤ 3000) (hq : -1000 ≤ q ∧ q ≤ 1000) :
    Calls Tryd.prog 3 #[.agg #[.int .i64 (p.W : Int), .int .i64 (p.H : Int), .slice (some a) (p.W * p.H) c], .int .i64 q] w fun e w' => e = .returned (.bool true) ∧ Ext w w' := by
  have hd := Lib.hid (decide_eq_true hn)
  have HR := Lib.hid (Pc3.right hp)
  have HP := Lib.hid hp
  have HX := Lib.hid hx
  obtain ⟨hq1, hq2⟩ := hq
  clear hp hx
  go_enter Tryd.func3, Tryd.ntmps3
  go_wp2_with fail
  refine calls_world (fun wz => Ext w wz ∧ wz.heap.size = w.heap.size + 1 ∧ Bk wz (w.heap.size) #[.int .i64 (p.W : Int), .int .i64 (p.H : Int), .slice (some a) (p.W * p.H) c]) ⟨by repeat (first | exact Ext.refl _ | refine Ext.alloc ?_ _), by simp, by repeat (first | exact Bk.at (by simp) | refine Bk.old ?_)⟩ ?_
  rintro wa ⟨hX, hZ, hB0⟩
  refine (plainly_any _).mono ?_
  rintro e w2 ⟨rfl, h2⟩
  have X2 := Lib.hid (hX.trans h2)
  have B2 := Lib.hid (hB0.ext h2)
  clear h2
  have c0 := B2.out.cell 0
  have c1 := B2.out.cell 1
  have c2 := B2.out.cell 2
  go_wp2_with fail
  refine (small_any _ _ _ _ _ _ (by unfold maxLen; omega)).mono ?_
  rintro e w3 ⟨rfl, h3⟩
  have X3 := Lib.hid (X2.out.trans h3)
  have B3 := Lib.hid (B2.out.ext h3)
  clear h3
  rw [hd.out]
  clear c0 c1 c2 B2
  have c0 := B3.out.cell 0
  have c1 := B3.out.cell 1
  have c2 := B3.out.cell 2
  go_wp2_with fail
  refine (refRight_any _ _ _ _ _ _).mono ?_
  rintro e w4 ⟨rfl, h4⟩
  have X_4 := Lib.hid (X3.out.trans h4)
  have B_4 := Lib.hid (B3.out.ext h4)
  clear h4
  rw [HR.out]
  clear c0 c1 c2 B3
  have k0 := B_4.out.cell 0
  have k1 := B_4.out.cell 1
  have k2 := B_4.out.cell 2
  go_wp2_with fail
  refine (own_pc p a c _ HP.out (HX.out.ext X_4.out)).mono ?_
  rintro e w5 ⟨⟨a5, c5, rfl, hx, _⟩, h⟩
  have X_5 := Lib.hid (X_4.out.trans h)
  have B_5 := Lib.hid (B_4.out.ext h)
  have O_5 := Lib.hid (hx)
  clear h hx
  clear X_4 B_4
  clear k0 k1 k2
  go_wp2_with fail
  refine (flip_pc p true a5 c5 _ HP.out O_5.out).mono ?_
  rintro e w6 ⟨⟨a6, c6, rfl, hx, _⟩, h⟩
  have X_6 := Lib.hid (X_5.out.trans h)
  have B_6 := Lib.hid (B_5.out.ext h)
  have O_6 := Lib.hid (O_5.out.ext h)
  have A_6 := Lib.hid (hx)
  clear h hx
  clear X_5 B_5 O_5
  clear O_6
  have E_ := (Ext.refl w6).alloc (.cells #[.int .i64 ((p.flip true).W : Int), .int .i64 ((p.flip true).H : Int), .slice (some a6) ((p.flip true).W * (p.flip true).H) c6] 24)
  have EE := Lib.hid E_
  clear E_
  go_wp2_with fail
  refine calls_world (fun wz => Ext w6 wz ∧ Bk wz w6.heap.size #[.int .i64 ((p.flip true).W : Int), .int .i64 ((p.flip true).H : Int), .slice (some a6) ((p.flip true).W * (p.flip true).H) c6]) ⟨EE.out, Bk.at rfl⟩ ?_
  clear EE
  have NE_B_TA := Lib.hid (Nat.ne_of_lt (show w.heap.size < w6.heap.size from B_6.out.lt))
  have GE_TA := Lib.hid (X_6.out.size)
  rintro w7 ⟨hX, hB0⟩
  have X_7 := Lib.hid (X_6.out.trans hX)
  have B_7 := Lib.hid (B_6.out.ext hX)
  have A_7 := Lib.hid (A_6.out.ext hX)
  have TA_7 := Lib.hid (hB0)
  clear hX hB0 X_6 B_6 A_6
  have OKF := Lib.hid (Pc3.flip_ok HP.out true)
  refine (flip_pc (p.flip true) true a6 c6 _ OKF.out A_7.out).mono ?_
  rintro e w8 ⟨⟨a8, c8, rfl, hx, _⟩, h⟩
  have X_8 := Lib.hid (X_7.out.trans h)
  have B_8 := Lib.hid (B_7.out.ext h)
  have A_8 := Lib.hid (A_7.out.ext h)
  have TA_8 := Lib.hid (TA_7.out.ext h)
  have BB_8 := Lib.hid (hx)
  clear h hx
  clear X_7 B_7 A_7 TA_7
  have E_ := (Ext.refl w8).alloc (.cells #[.int .i64 ((p.flip true).W : Int), .int .i64 ((p.flip true).H : Int), .slice (some a8) ((p.flip true).W * (p.flip true).H) c8] 24)
  have k0 := (TA_8.out.ext E_).cell 0
  have k1 := (TA_8.out.ext E_).cell 1
  have k2 := (TA_8.out.ext E_).cell 2
  have EE := Lib.hid E_
  clear E_
  go_wp2_with fail
  clear k0 k1 k2
  refine calls_world (fun wz => Ext w8 wz ∧ Bk wz w8.heap.size #[.int .i64 ((p.flip true).W : Int), .int .i64 ((p.flip true).H : Int), .slice (some a8) ((p.flip true).W * (p.flip true).H) c8]) ⟨EE.out, Bk.at rfl⟩ ?_
  clear EE
  have NE_B_TB := Lib.hid (Nat.ne_of_lt (show w.heap.size < w8.heap.size from B_8.out.lt))
  have NE_TA_TB := Lib.hid (Nat.ne_of_lt (show w6.heap.size < w8.heap.size from TA_8.out.lt))
  have GE_TB := Lib.hid (X_8.out.size)
  rintro w9 ⟨hX, hB0⟩
  have X_9 := Lib.hid (X_8.out.trans hX)
  have B_9 := Lib.hid (B_8.out.ext hX)
  have A_9 := Lib.hid (A_8.out.ext hX)
  have TA_9 := Lib.hid (TA_8.out.ext hX)
  have BB_9 := Lib.hid (BB_8.out.ext hX)
  have TB_9 := Lib.hid (hB0)
  clear hX hB0 X_8 B_8 A_8 TA_8 BB_8
  refine (flip_pc (p.flip true) false a6 c6 _ OKF.out A_9.out).mono ?_
  rintro e w10 ⟨⟨a10, c10, rfl, hx, _⟩, h⟩
  have X_10 := Lib.hid (X_9.out.trans h)
  have B_10 := Lib.hid (B_9.out.ext h)
  have A_10 := Lib.hid (A_9.out.ext h)
  have TA_10 := Lib.hid (TA_9.out.ext h)
  have BB_10 := Lib.hid (BB_9.out.ext h)
  have TB_10 := Lib.hid (TB_9.out.ext h)
  have CC_10 := Lib.hid (hx)
  clear h hx
  clear X_9 B_9 A_9 TA_9 BB_9 TB_9
  clear A_10
  have E_ := (Ext.refl w10).alloc (.cells #[.int .i64 ((p.flip true).W : Int), .int .i64 ((p.flip true).H : Int), .slice (some a10) ((p.flip true).W * (p.flip true).H) c10] 24)
  have k0 := (B_10.out.ext E_).cell 0
  have k1 := (B_10.out.ext E_).cell 1
  have k2 := (B_10.out.ext E_).cell 2
  have EE := Lib.hid E_
  clear E_
  go_wp2_with fail
  clear k0 k1 k2
  refine calls_world (fun wz => Ext w10 wz ∧ Bk wz w10.heap.size #[.int .i64 ((p.flip true).W : Int), .int .i64 ((p.flip true).H : Int), .slice (some a10) ((p.flip true).W * (p.flip true).H) c10]) ⟨EE.out, Bk.at rfl⟩ ?_
  clear EE
  have NE_B_TC := Lib.hid (Nat.ne_of_lt (show w.heap.size < w10.heap.size from B_10.out.lt))
  have NE_TA_TC := Lib.hid (Nat.ne_of_lt (show w6.heap.size < w10.heap.size from TA_10.out.lt))
  have NE_TB_TC := Lib.hid (Nat.ne_of_lt (show w8.heap.size < w10.heap.size from TB_10.out.lt))
  have GE_TC := Lib.hid (X_10.out.size)
  rintro w11 ⟨hX, hB0⟩
  have X_11 := Lib.hid (X_10.out.trans hX)
  have B_11 := Lib.hid (B_10.out.ext hX)
  have TA_11 := Lib.hid (TA_10.out.ext hX)
  have BB_11 := Lib.hid (BB_10.out.ext hX)
  have TB_11 := Lib.hid (TB_10.out.ext hX)
  have CC_11 := Lib.hid (CC_10.out.ext hX)
  have TC_11 := Lib.hid (hB0)
  clear hX hB0 X_10 B_10 TA_10 BB_10 TB_10 CC_10
  refine (own_pc p a c _ HP.out (HX.out.ext X_11.out)).mono ?_
  rintro e w12 ⟨⟨a12, c12, rfl, hx, _⟩, h⟩
  have X_12 := Lib.hid (X_11.out.trans h)
  have B_12 := Lib.hid (B_11.out.ext h)
  have TA_12 := Lib.hid (TA_11.out.ext h)
  have BB_12 := Lib.hid (BB_11.out.ext h)
  have TB_12 := Lib.hid (TB_11.out.ext h)
  have CC_12 := Lib.hid (CC_11.out.ext h)
  have TC_12 := Lib.hid (TC_11.out.ext h)
  have O_12 := Lib.hid (hx)
  clear h hx
  clear X_11 B_11 TA_11 BB_11 TB_11 CC_11 TC_11
  go_wp2_with fail
  refine (turn_pc p 2 a12 c12 _ HP.out O_12.out (by decide)).mono ?_
  rintro e w13 ⟨⟨a13, c13, rfl, hx, _⟩, h⟩
  have X_13 := Lib.hid (X_12.out.trans h)
  have B_13 := Lib.hid (B_12.out.ext h)
  have TA_13 := Lib.hid (TA_12.out.ext h)
  have BB_13 := Lib.hid (BB_12.out.ext h)
  have TB_13 := Lib.hid (TB_12.out.ext h)
  have CC_13 := Lib.hid (CC_12.out.ext h)
  have TC_13 := Lib.hid (TC_12.out.ext h)
  have O_13 := Lib.hid (O_12.out.ext h)
  have DD_13 := Lib.hid (hx)
  clear h hx
  clear X_12 B_12 TA_12 BB_12 TB_12 CC_12 TC_12 O_12
  clear O_13
  have E_ := (Ext.refl w13).alloc (.cells #[.int .i64 ((p.turns (quar 2)).W : Int), .int .i64 ((p.turns (quar 2)).H : Int), .slice (some a13) ((p.turns (quar 2)).W * (p.turns (quar 2)).H) c13] 24)
  have k0 := (TB_13.out.ext E_).cell 0
  have k1 := (TB_13.out.ext E_).cell 1
  have k2 := (TB_13.out.ext E_).cell 2
  have k3 := (B_13.out.ext E_).cell 0
  have k4 := (B_13.out.ext E_).cell 1
  have k5 := (B_13.out.ext E_).cell 2
  have EE := Lib.hid E_
  clear E_
  go_wp2_with fail
  clear k0 k1 k2 k3 k4 k5
  refine calls_world (fun wz => Ext w13 wz ∧ Bk wz w13.heap.size #[.int .i64 ((p.turns (quar 2)).W : Int), .int .i64 ((p.turns (quar 2)).H : Int), .slice (some a13) ((p.turns (quar 2)).W * (p.turns (quar 2)).H) c13]) ⟨EE.out, Bk.at rfl⟩ ?_
  clear EE
  have NE_B_TD := Lib.hid (Nat.ne_of_lt (show w.heap.size < w13.heap.size from B_13.out.lt))
  have NE_TA_TD := Lib.hid (Nat.ne_of_lt (show w6.heap.size < w13.heap.size from TA_13.out.lt))
  have NE_TB_TD := Lib.hid (Nat.ne_of_lt (show w8.heap.size < w13.heap.size from TB_13.out.lt))
  have NE_TC_TD := Lib.hid (Nat.ne_of_lt (show w10.heap.size < w13.heap.size from TC_13.out.lt))
  have GE_TD := Lib.hid (X_13.out.size)
  rintro w14 ⟨hX, hB0⟩
  have X_14 := Lib.hid (X_13.out.trans hX)
  have B_14 := Lib.hid (B_13.out.ext hX)
  have TA_14 := Lib.hid (TA_13.out.ext hX)
  have BB_14 := Lib.hid (BB_13.out.ext hX)
  have TB_14 := Lib.hid (TB_13.out.ext hX)
  have CC_14 := Lib.hid (CC_13.out.ext hX)
  have TC_14 := Lib.hid (TC_13.out.ext hX)
  have DD_14 := Lib.hid (DD_13.out.ext hX)
  have TD_14 := Lib.hid (hB0)
  clear hX hB0 X_13 B_13 TA_13 BB_13 TB_13 CC_13 TC_13 DD_13
  refine (same_pc ((p.flip true).flip true) p a8 a c8 c _ (Pc3.flip_ok OKF.out true) (Pc3.flip_twice p) BB_14.out (HX.out.ext X_14.out)).mono ?_
  rintro e w15 ⟨rfl, h⟩
  have X_15 := Lib.hid (X_14.out.trans h)
  have B_15 := Lib.hid (B_14.out.ext h)
  have TA_15 := Lib.hid (TA_14.out.ext h)
  have BB_15 := Lib.hid (BB_14.out.ext h)
  have TB_15 := Lib.hid (TB_14.out.ext h)
  have CC_15 := Lib.hid (CC_14.out.ext h)
  have TC_15 := Lib.hid (TC_14.out.ext h)
  have DD_15 := Lib.hid (DD_14.out.ext h)
  have TD_15 := Lib.hid (TD_14.out.ext h)
  clear h
  clear X_14 B_14 TA_14 BB_14 TB_14 CC_14 TC_14 DD_14 TD_14
  clear BB_15
  have k0 := TC_15.out.cell 0
  have k1 := TC_15.out.cell 1
  have k2 := TC_15.out.cell 2
  have k3 := TD_15.out.cell 0
  have k4 := TD_15.out.cell 1
  have k5 := TD_15.out.cell 2
  go_wp2_with fail
  refine (same_pc ((p.flip true).flip false) (p.turns (quar 2)) a10 a13 c10 c13 _ (Pc3.flip_ok OKF.out false) (Pc3.flip_both p) CC_15.out DD_15.out).mono ?_
  rintro e w16 ⟨rfl, h⟩
  have X_16 := Lib.hid (X_15.out.trans h)
  have B_16 := Lib.hid (B_15.out.ext h)
  have TA_16 := Lib.hid (TA_15.out.ext h)
  have TB_16 := Lib.hid (TB_15.out.ext h)
  have CC_16 := Lib.hid (CC_15.out.ext h)
  have TC_16 := Lib.hid (TC_15.out.ext h)
  have DD_16 := Lib.hid (DD_15.out.ext h)
  have TD_16 := Lib.hid (TD_15.out.ext h)
  clear h
  clear X_15 B_15 TA_15 TB_15 CC_15 TC_15 DD_15 TD_15
  clear k0 k1 k2 k3 k4 k5
  clear CC_16
  clear DD_16
  have k0 := B_16.out.cell 0
  have k1 := B_16.out.cell 1
  have k2 := B_16.out.cell 2
  go_wp2_with fail
  refine (own_pc p a c _ HP.out (HX.out.ext X_16.out)).mono ?_
  rintro e w17 ⟨⟨a17, c17, rfl, hx, _⟩, h⟩
  have X_17 := Lib.hid (X_16.out.trans h)
  have B_17 := Lib.hid (B_16.out.ext h)
  have TA_17 := Lib.hid (TA_16.out.ext h)
  have TB_17 := Lib.hid (TB_16.out.ext h)
  have TC_17 := Lib.hid (TC_16.out.ext h)
  have TD_17 := Lib.hid (TD_16.out.ext h)
  have O_17 := Lib.hid (hx)
  clear h hx
  clear X_16 B_16 TA_16 TB_16 TC_16 TD_16
  clear k0 k1 k2
  have LTA := Lib.hid (TA_17.out.lt)
  have LTB := Lib.hid (TB_17.out.lt)
  have LTC := Lib.hid (TC_17.out.lt)
  go_wp2_with fail
  refine (turn_pc p q a17 c17 _ HP.out O_17.out ⟨by omega, by omega⟩).mono ?_
  rintro e w18 ⟨⟨a18, c18, rfl, hx, hf⟩, h⟩
  have X_18 := Lib.hid (X_17.out.trans h)
  have B_18 := Lib.hid (B_17.out.ext h)
  have TA_18 := Lib.hid (TA_17.out.ext h)
  have TB_18 := Lib.hid (TB_17.out.ext h)
  have TC_18 := Lib.hid (TC_17.out.ext h)
  have TD_18 := Lib.hid (TD_17.out.ext h)
  have O_18 := Lib.hid (O_17.out.ext h)
  have AA_18 := Lib.hid (hx)
  have FA_18 := Lib.hid (hf)
  clear h hf hx
  clear X_17 B_17 TA_17 TB_17 TC_17 TD_17 O_17
  clear O_18
  have LT_A := Lib.hid (show w6.heap.size ≠ a18.block from fun e => by have h1 := TA_18.out.lt; have h2 := FA_18.out; have h3 := LTA.out; omega)
  have LT_B := Lib.hid (show w8.heap.size ≠ a18.block from fun e => by have h2 := FA_18.out; have h3 := LTB.out; omega)
  have LT_C := Lib.hid (show w10.heap.size ≠ a18.block from fun e => by have h2 := FA_18.out; have h3 := LTC.out; omega)
  have k0 := TA_18.out.cell 0
  have z0 := TA_18.out.frozen 0
  have k1 := TA_18.out.cell 1
  have z1 := TA_18.out.frozen 1
  have k2 := TA_18.out.cell 2
  have z2 := TA_18.out.frozen 2
  go_wp2_with fail
  clear k0 k1 k2 z0 z1 z2
  refine calls_world (fun wz => Ext w wz ∧ Bk wz w6.heap.size #[.int .i64 ((p.turns (quar q)).W : Int), .int .i64 ((p.turns (quar q)).H : Int), .slice (some a18) ((p.turns (quar q)).W * (p.turns (quar q)).H) c18] ∧ Keeps (fun k => k = w6.heap.size) w18 wz) (set3_facts X_18.out GE_TA.out TA_18.out) ?_
  rintro w19 ⟨hX, hB0, hK⟩
  have X_19 := Lib.hid (hX)
  have B_19 := Lib.hid (B_18.out.keeps hK NE_B_TA.out)
  have TA_19 := Lib.hid (hB0)
  have TB_19 := Lib.hid (TB_18.out.keeps hK (fun e => NE_TA_TB.out e.symm))
  have TC_19 := Lib.hid (TC_18.out.keeps hK (fun e => NE_TA_TC.out e.symm))
  have TD_19 := Lib.hid (TD_18.out.keeps hK (fun e => NE_TA_TD.out e.symm))
  have AA_19 := Lib.hid (AA_18.out.keeps hK (fun a e q => LT_A.out (by injection e with e; rw [e]; exact q.symm)))
  have FA_19 := Lib.hid (FA_18.out)
  clear hX hB0 hK X_18 B_18 TA_18 TB_18 TC_18 TD_18 AA_18 FA_18
  have OKQ := Lib.hid (Pc3.turns_ok HP.out (quar q))
  have LTB2 := Lib.hid (TB_19.out.lt)
  have LTC2 := Lib.hid (TC_19.out.lt)
  refine (turn_pc (p.turns (quar q)) (-q) a18 c18 _ OKQ.out AA_19.out ⟨by omega, by omega⟩).mono ?_
  rintro e w20 ⟨⟨a20, c20, rfl, hx, hf⟩, h⟩
  have X_20 := Lib.hid (X_19.out.trans h)
  have B_20 := Lib.hid (B_19.out.ext h)
  have TA_20 := Lib.hid (TA_19.out.ext h)
  have TB_20 := Lib.hid (TB_19.out.ext h)
  have TC_20 := Lib.hid (TC_19.out.ext h)
  have TD_20 := Lib.hid (TD_19.out.ext h)
  have AA_20 := Lib.hid (AA_19.out.ext h)
  have FA_20 := Lib.hid (FA_19.out)
  have BB_20 := Lib.hid (hx)
  have FB_20 := Lib.hid (hf)
  clear h hf hx
  clear X_19 B_19 TA_19 TB_19 TC_19 TD_19 AA_19 FA_19
  have LT_B2 := Lib.hid (show w8.heap.size ≠ a20.block from fun e => by have h2 := FB_20.out; have h3 := TB_20.out.lt; have h4 := LTB2.out; omega)
  have LT_C2 := Lib.hid (show w10.heap.size ≠ a20.block from fun e => by have h2 := FB_20.out; have h4 := LTC2.out; omega)
  have k0 := TB_20.out.cell 0
  have z0 := TB_20.out.frozen 0
  have k1 := TB_20.out.cell 1
  have z1 := TB_20.out.frozen 1
  have k2 := TB_20.out.cell 2
  have z2 := TB_20.out.frozen 2
  have k3 := B_20.out.cell 0
  have k4 := B_20.out.cell 1
  have k5 := B_20.out.cell 2
  have n_B : w.heap.size ≠ w8.heap.size := NE_B_TB.out
  have m_B := n_B.symm
  go_wp2_with fail
  clear k0 k1 k2 k3 k4 k5 n_B m_B z0 z1 z2
  refine calls_world (fun wz => Ext w wz ∧ Bk wz w8.heap.size #[.int .i64 (((p.turns (quar q)).turns (quar (-q))).W : Int), .int .i64 (((p.turns (quar q)).turns (quar (-q))).H : Int), .slice (some a20) (((p.turns (quar q)).turns (quar (-q))).W * ((p.turns (quar q)).turns (quar (-q))).H) c20] ∧ Keeps (fun k => k = w8.heap.size) w20 wz) (set3_facts X_20.out GE_TB.out TB_20.out) ?_
  rintro w21 ⟨hX, hB0, hK⟩
  have X_21 := Lib.hid (hX)
  have B_21 := Lib.hid (B_20.out.keeps hK NE_B_TB.out)
  have TA_21 := Lib.hid (TA_20.out.keeps hK NE_TA_TB.out)
  have TB_21 := Lib.hid (hB0)
  have TC_21 := Lib.hid (TC_20.out.keeps hK (fun e => NE_TB_TC.out e.symm))
  have TD_21 := Lib.hid (TD_20.out.keeps hK (fun e => NE_TB_TD.out e.symm))
  have AA_21 := Lib.hid (AA_20.out.keeps hK (fun a e q => LT_B.out (by injection e with e; rw [e]; exact q.symm)))
  have FA_21 := Lib.hid (FA_20.out)
  have BB_21 := Lib.hid (BB_20.out.keeps hK (fun a e q => LT_B2.out (by injection e with e; rw [e]; exact q.symm)))
  have FB_21 := Lib.hid (FB_20.out)
  clear hX hB0 hK X_20 B_20 TA_20 TB_20 TC_20 TD_20 AA_20 FA_20 BB_20 FB_20
  refine (own_pc p a c _ HP.out (HX.out.ext X_21.out)).mono ?_
  rintro e w22 ⟨⟨a22, c22, rfl, hx, _⟩, h⟩
  have X_22 := Lib.hid (X_21.out.trans h)
  have B_22 := Lib.hid (B_21.out.ext h)
  have TA_22 := Lib.hid (TA_21.out.ext h)
  have TB_22 := Lib.hid (TB_21.out.ext h)
  have TC_22 := Lib.hid (TC_21.out.ext h)
  have TD_22 := Lib.hid (TD_21.out.ext h)
  have AA_22 := Lib.hid (AA_21.out.ext h)
  have FA_22 := Lib.hid (FA_21.out)
  have BB_22 := Lib.hid (BB_21.out.ext h)
  have FB_22 := Lib.hid (FB_21.out)
  have O_22 := Lib.hid (hx)
  clear h hx
  clear X_21 B_21 TA_21 TB_21 TC_21 TD_21 AA_21 FA_21 BB_21 FB_21
  have LTC3 := Lib.hid (TC_22.out.lt)
  go_wp2_with fail
  refine (turn_pc p (q + 4) a22 c22 _ HP.out O_22.out ⟨by omega, by omega⟩).mono ?_
  rintro e w23 ⟨⟨a23, c23, rfl, hx, hf⟩, h⟩
  have X_23 := Lib.hid (X_22.out.trans h)
  have B_23 := Lib.hid (B_22.out.ext h)
  have TA_23 := Lib.hid (TA_22.out.ext h)
  have TB_23 := Lib.hid (TB_22.out.ext h)
  have TC_23 := Lib.hid (TC_22.out.ext h)
  have TD_23 := Lib.hid (TD_22.out.ext h)
  have AA_23 := Lib.hid (AA_22.out.ext h)
  have FA_23 := Lib.hid (FA_22.out)
  have BB_23 := Lib.hid (BB_22.out.ext h)
  have FB_23 := Lib.hid (FB_22.out)
  have O_23 := Lib.hid (O_22.out.ext h)
  have CC_23 := Lib.hid (hx)
  have FC_23 := Lib.hid (hf)
  clear h hf hx
  clear X_22 B_22 TA_22 TB_22 TC_22 TD_22 AA_22 FA_22 BB_22 FB_22 O_22
  clear O_23
  have LT_C3 := Lib.hid (show w10.heap.size ≠ a23.block from fun e => by have h2 := FC_23.out; have h4 := LTC3.out; omega)
  have k0 := TC_23.out.cell 0
  have z0 := TC_23.out.frozen 0
  have k1 := TC_23.out.cell 1
  have z1 := TC_23.out.frozen 1
  have k2 := TC_23.out.cell 2
  have z2 := TC_23.out.frozen 2
  have k3 := TB_23.out.cell 0
  have k4 := TB_23.out.cell 1
  have k5 := TB_23.out.cell 2
  have n_TB : w8.heap.size ≠ w10.heap.size := NE_TB_TC.out
  have m_TB := n_TB.symm
  have k6 := B_23.out.cell 0
  have k7 := B_23.out.cell 1
  have k8 := B_23.out.cell 2
  have n_B : w.heap.size ≠ w10.heap.size := NE_B_TC.out
  have m_B := n_B.symm
  go_wp2_with fail
  clear k0 k1 k2 k3 k4 k5 k6 k7 k8 n_TB m_TB n_B m_B z0 z1 z2
  refine calls_world (fun wz => Ext w wz ∧ Bk wz w10.heap.size #[.int .i64 ((p.turns (quar (q + 4))).W : Int), .int .i64 ((p.turns (quar (q + 4))).H : Int), .slice (some a23) ((p.turns (quar (q + 4))).W * (p.turns (quar (q + 4))).H) c23] ∧ Keeps (fun k => k = w10.heap.size) w23 wz) (set3_facts X_23.out GE_TC.out TC_23.out) ?_
  rintro w24 ⟨hX, hB0, hK⟩
  have X_24 := Lib.hid (hX)
  have B_24 := Lib.hid (B_23.out.keeps hK NE_B_TC.out)
  have TA_24 := Lib.hid (TA_23.out.keeps hK NE_TA_TC.out)
  have TB_24 := Lib.hid (TB_23.out.keeps hK NE_TB_TC.out)
  have TC_24 := Lib.hid (hB0)
  have TD_24 := Lib.hid (TD_23.out.keeps hK (fun e => NE_TC_TD.out e.symm))
  have AA_24 := Lib.hid (AA_23.out.keeps hK (fun a e q => LT_C.out (by injection e with e; rw [e]; exact q.symm)))
  have FA_24 := Lib.hid (FA_23.out)
  have BB_24 := Lib.hid (BB_23.out.keeps hK (fun a e q => LT_C2.out (by injection e with e; rw [e]; exact q.symm)))
  have FB_24 := Lib.hid (FB_23.out)
  have CC_24 := Lib.hid (CC_23.out.keeps hK (fun a e q => LT_C3.out (by injection e with e; rw [e]; exact q.symm)))
  have FC_24 := Lib.hid (FC_23.out)
  clear hX hB0 hK X_23 B_23 TA_23 TB_23 TC_23 TD_23 AA_23 FA_23 BB_23 FB_23 CC_23 FC_23
  refine (same_pc ((p.turns (quar q)).turns (quar (-q))) p a20 a c20 c _ (Pc3.turns_ok OKQ.out _) (Pc3.turns_back p q) BB_24.out (HX.out.ext X_24.out)).mono ?_
  rintro e w25 ⟨rfl, h⟩
  have X_25 := Lib.hid (X_24.out.trans h)
  have B_25 := Lib.hid (B_24.out.ext h)
  have TA_25 := Lib.hid (TA_24.out.ext h)
  have TB_25 := Lib.hid (TB_24.out.ext h)
  have TC_25 := Lib.hid (TC_24.out.ext h)
  have TD_25 := Lib.hid (TD_24.out.ext h)
  have AA_25 := Lib.hid (AA_24.out.ext h)
  have FA_25 := Lib.hid (FA_24.out)
  have BB_25 := Lib.hid (BB_24.out.ext h)
  have FB_25 := Lib.hid (FB_24.out)
  have CC_25 := Lib.hid (CC_24.out.ext h)
  have FC_25 := Lib.hid (FC_24.out)
  clear h
  clear X_24 B_24 TA_24 TB_24 TC_24 TD_24 AA_24 FA_24 BB_24 FB_24 CC_24 FC_24
  have k0 := TC_25.out.cell 0
  have k1 := TC_25.out.cell 1
  have k2 := TC_25.out.cell 2
  have k3 := TA_25.out.cell 0
  have k4 := TA_25.out.cell 1
  have k5 := TA_25.out.cell 2
  go_wp2_with fail
  refine (same_pc (p.turns (quar (q + 4))) (p.turns (quar q)) a23 a18 c23 c18 _ (Pc3.turns_ok HP.out _) (by rw [quar_four]; exact Pc3.Same.refl _) CC_25.out AA_25.out).mono ?_
  rintro e w26 ⟨rfl, h⟩
  have X_26 := Lib.hid (X_25.out.trans h)
  have B_26 := Lib.hid (B_25.out.ext h)
  have TA_26 := Lib.hid (TA_25.out.ext h)
  have TB_26 := Lib.hid (TB_25.out.ext h)
  have TC_26 := Lib.hid (TC_25.out.ext h)
  have TD_26 := Lib.hid (TD_25.out.ext h)
  have AA_26 := Lib.hid (AA_25.out.ext h)
  have FA_26 := Lib.hid (FA_25.out)
  have BB_26 := Lib.hid (BB_25.out.ext h)
  have FB_26 := Lib.hid (FB_25.out)
  have CC_26 := Lib.hid (CC_25.out.ext h)
  have FC_26 := Lib.hid (FC_25.out)
  clear h
  clear X_25 B_25 TA_25 TB_25 TC_25 TD_25 AA_25 FA_25 BB_25 FB_25 CC_25 FC_25
  clear k0 k1 k2 k3 k4 k5
  go_wp2_with fail
  go_ret
  exact ⟨rfl, X_26.out⟩
theorem back_any (W H q : Int) (x : Option Addr) (n cap : Nat) (px : Nat → P4) (w : World) (hn : n ≤ maxLen) (hx : Pxs w x n px) :
    Calls Tryd.prog 3 #[.agg #[.int .i64 W, .int .i64 H, .slice x n cap], .int .i64 q] w fun e w' => e = .returned (.bool true) ∧ Ext w w' := by
  by_cases h1 : 3000 < n
  · exact back_small W H q x n cap w hn h1
  · by_cases h2 : rightB W H n = false ∨ q < -1000 ∨ 1000 < q
    · exact back_not W H q x n cap w (by omega) h2
    · have h3 : rightB W H n = true := by
        cases h : rightB W H n
        · exact absurd (.inl h) h2
        · rfl
      obtain ⟨a, b, rfl, rfl, a1, a2, b1, b2, rfl⟩ := rightB_yes h3
      obtain ⟨ad, rfl⟩ := hx.isSome (Nat.mul_pos a1 b1)
      exact back_good ⟨a, b, px⟩ q ad cap w ⟨a1, a2, b1, b2, fun i hi => (hx.2 ad rfl i hi).2.2.2.2⟩ hx (by show a * b ≤ 3000; omega) ⟨by omega, by omega⟩
end Go.Proofs.YtkfjcgcgfdibaaaDoor
