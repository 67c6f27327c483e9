/- raster.Turn. -/
import Derived.Test.YtkfjcgcgfdibaaaDoorTurnR
namespace Go.Proofs.YtkfjcgcgfdibaaaDoor
open Go.RowKit
set_option maxRecDepth 100000
/-- a picture's sides and pixels -/
structure Pc3 where
  W : Nat
  H : Nat
  px : Nat → P4
structure Pc3.Ok (p : Pc3) : Prop where
  w1 : 1 ≤ p.W
  w2 : p.W ≤ 256
  h1 : 1 ≤ p.H
  h2 : p.H ≤ 256
  ok : ∀ i, i < p.W * p.H → (p.px i).Ok
/-- a quarter to the right -/
def Pc3.turn (p : Pc3) : Pc3 := ⟨p.H, p.W, lin p.H fun x y => p.px ((p.H - 1 - x) * p.W + y)⟩
def Pc3.turns (p : Pc3) : Nat → Pc3
  | 0 => p
  | k + 1 => (p.turns k).turn
theorem lin_idx {W H i : Nat} (h : i < W * H) : i % W < W ∧ i / W < H := by
  have hW : 0 < W := by
    rcases Nat.eq_zero_or_pos W with q | q
    · subst q; rw [Nat.zero_mul] at h; omega
    · exact q
  exact ⟨Nat.mod_lt _ hW, (Nat.div_lt_iff_lt_mul hW).2 (by rw [Nat.mul_comm]; exact h)⟩
theorem Pc3.turn_ok {p : Pc3} (h : p.Ok) : p.turn.Ok := by
  refine ⟨h.h1, h.h2, h.w1, h.w2, fun i hi => ?_⟩
  obtain ⟨q1, q2⟩ := lin_idx hi
  exact h.ok _ (mul_lt_of (by show p.H - 1 - i % p.H < p.H; have : i % p.H < p.H := q1; omega) q2)
theorem Pc3.turns_ok {p : Pc3} (h : p.Ok) : ∀ k, (p.turns k).Ok := by
  intro k
  induction k with
  | zero => exact h
  | succ k ih => exact Pc3.turn_ok ih
theorem Pc3.turns_size (p : Pc3) : ∀ k, (p.turns k).W * (p.turns k).H = p.W * p.H := by
  intro k
  induction k with
  | zero => rfl
  | succ k ih => rw [← ih, Nat.mul_comm]; rfl
/-- how many quarters to the right -/
def quar (q : Int) : Nat := (q % 4).toNat
theorem quar_lt (q : Int) : quar q < 4 := by unfold quar; omega
theorem quar_spell (q : Int) : (q.tmod 4 + 4) % 4 = (quar q : Int) := by
  unfold quar
  rw [Int.tmod_eq_emod]
  split <;> omega
/-- a picture that a variable holds -/
structure VAt (w0 wr : World) (b0 T : Nat) (p : Pc3) (v : Value) : Prop where
  ext : Ext w0 wr
  bk : Bk wr T #[.int .i64 (p.W : Int), .int .i64 (p.H : Int), v]
  own : wr.ownsRow b0 36 4 v (p.W * p.H) (pxV (p.W * p.H) p.px)
  ne : v.ownBlock ≠ some T
theorem VAt.filled {w0 wr w2 : World} {b0 b1 T : Nat} {p q : Pc3} {v v' : Value} (h : VAt w0 wr b0 T p v) (hx : Ext wr w2) (hown : w2.ownsRow b1 36 4 v' (q.W * q.H) (pxV (q.W * q.H) q.px)) (hT : w0.heap.size ≤ T) (hb : b0 ≤ b1) (hne : v'.ownBlock ≠ some T) :
    VAt w0 (((w2.setCell ⟨T, 0, none⟩ (.int .i64 (q.W : Int))).setCell ⟨T, 1, none⟩ (.int .i64 (q.H : Int))).setCell ⟨T, 2, none⟩ v') b0 T q v' := by
  refine ⟨(h.ext.trans hx).set3 hT _ _ _, ?_, owns_based (ownsRow_set3 hown hne _ _ _) hb, hne⟩
  have h1 := (((h.bk.ext hx).set_ 0 (.int .i64 (q.W : Int))).set_ 1 (.int .i64 (q.H : Int))).set_ 2 v'
  exact h1
theorem turn_good (W H : Nat) (a : Addr) (c : Nat) (q : Int) (px : Nat → P4) (w : World) (hr : rightB (W : Int) (H : Int) (W * H) = true) (hx : Pxs w (some a) (W * H) px) (hq : -9223372036854775808 ≤ q ∧ q ≤ 9223372036854775807) :
    Calls Tryd.prog 18 #[.agg #[.int .i64 (W : Int), .int .i64 (H : Int), .slice (some a) (W * H) c], .int .i64 q] w fun e w' => (∃ v, e = .returned (.tuple #[.agg #[.int .i64 (((Pc3.mk W H px).turns (quar q)).W : Int), .int .i64 (((Pc3.mk W H px).turns (quar q)).H : Int), v], .nilIface]) ∧ w'.ownsRow w.heap.size 36 4 v (W * H) (pxV (W * H) ((Pc3.mk W H px).turns (quar q)).px)) ∧ Ext w w' := by
  obtain ⟨W', H', q1, q2, hW1, hW2, hH1, hH2, _⟩ := rightB_yes hr
  obtain rfl : W' = W := by omega
  obtain rfl : H' = H := by omega
  have HR := Lib.hid hr
  have HX := Lib.hid hx
  have hP : (Pc3.mk W' H' px).Ok := ⟨hW1, hW2, hH1, hH2, fun i hi => (hx.2 a rfl i hi).2.2.2.2⟩
  have HPO := Lib.hid (Pc3.turns_ok hP)
  have hsp := quar_spell q
  have hq4 := quar_lt q
  obtain ⟨Q, hQ⟩ : ∃ Q, quar q = Q := ⟨_, rfl⟩
  rw [hQ] at hsp hq4 ⊢
  have hmul : W' * H' ≤ 65536 := Nat.mul_le_mul hW2 hH2
  clear q1 q2 hr hx hP hQ
  have HSP := Lib.hid hsp
  clear hsp
  obtain ⟨hqa, hqb⟩ := hq
  go_enter Tryd.func18, Tryd.ntmps18
  go_wp2_with fail
  refine calls_world (fun wz => Ext w wz ∧ wz.heap.size = w.heap.size + 1 + 1 ∧ Bk wz (w.heap.size) #[.int .i64 (W' : Int), .int .i64 (H' : Int), .slice (some a) (W' * H') c] ∧ Bk wz (w.heap.size + 1) #[.int .i64 0, .int .i64 0, .slice none 0 0]) ⟨by repeat (first | exact Ext.refl _ | refine Ext.alloc ?_ _), by simp, by repeat (first | exact Bk.at (by simp) | refine Bk.old ?_), by repeat (first | exact Bk.at (by simp) | refine Bk.old ?_)⟩ ?_
  rintro wa ⟨hX, hZ, hB0, hB1⟩
  have B0 := Lib.hid hB0
  have B1 := Lib.hid hB1
  have XA := Lib.hid hX
  have ZA := Lib.hid hZ
  clear hB0 hB1 hX hZ
  refine (check_ok _ _ _ _ _ _ HR.out).mono ?_
  rintro e wb ⟨rfl, h2⟩
  have X2 := Lib.hid (h2)
  clear h2
  have c0 := (B0.out.ext X2.out).cell 0
  have c1 := (B0.out.ext X2.out).cell 1
  have c2 := (B0.out.ext X2.out).cell 2
  go_wp2_with fail
  refine (rown_any _ _ _ _ _ px _ (HX.out.ext (XA.out.trans X2.out)) (fun h => by cases h) (by omega)).mono ?_
  rintro e wc ⟨⟨v, rfl, hown⟩, h3⟩
  have OWN := Lib.hid (hown)
  have X3 := Lib.hid (h3)
  clear h3 hown
  obtain ⟨x, c', rfl⟩ := own_slice OWN.out
  have hsp := HSP.out
  have hb1 : -3 ≤ q.tmod 4 := by rw [Int.tmod_eq_emod]; split <;> omega
  have hb2 : q.tmod 4 ≤ 3 := by rw [Int.tmod_eq_emod]; split <;> omega
  clear hsp
  go_wp2_with fail
  rw [HSP.out]
  clear c0 c1 c2 hb1 hb2
  have hTz : wb.heap.size ≤ wc.heap.size := X3.out.size
  refine wp_world (fun wz => VAt wc wz wb.heap.size wc.heap.size ((Pc3.mk W' H' px).turns 0) (.slice x (W' * H') c')) ⟨(Ext.refl _).alloc _, Bk.at rfl, OWN.out.alloc _, fun e => Nat.lt_irrefl _ (ownsRow_lt OWN.out e)⟩ ?_
  intro wd hV
  have VD := Lib.hid hV
  clear hV
  go_loopw [21] (fun k wr => ∃ (i : Nat) (v : Value), i ≤ Q ∧ k = .int .i64 i ∧ Hid (VAt wc wr wb.heap.size wc.heap.size ((Pc3.mk W' H' px).turns i) v)) (fun k _ => Q - (intOf k).toNat)
  case atStart => exact ⟨0, _, by omega, rfl, VD⟩
  case round =>
    clear VD
    obtain ⟨i, v, hi, rfl, HV⟩ := hrel
    have hp := HPO.out i
    have hps := Pc3.turns_size (Pc3.mk W' H' px) i
    have HN : Hid ((Pc3.mk W' H' px).turns (i + 1) = ((Pc3.mk W' H' px).turns i).turn) := Lib.hid rfl
    by_cases hlt : i < Q
    · generalize (Pc3.mk W' H' px).turns i = p at *
      obtain ⟨x, c', rfl⟩ := own_slice HV.out.own
      have hpos : 0 < p.W * p.H := Nat.mul_pos hp.w1 hp.h1
      obtain ⟨x3, c3, e2, hpx, _⟩ := Pxs.of_own HV.out.own hp.ok
      obtain ⟨rfl, rfl⟩ : x = x3 ∧ c' = c3 := by injection e2 with e3 _ e4; exact ⟨e3, e4⟩
      obtain ⟨b, rfl⟩ := hpx.isSome hpos
      have HPX := Lib.hid hpx
      have HP := Lib.hid hp
      have c0 := HV.out.bk.cell 0
      have c1 := HV.out.bk.cell 1
      have c2 := HV.out.bk.cell 2
      have hTl := HV.out.bk.lt
      clear e2 hpx hp hps
      go_wp2_with fail
      have HB := Lib.hid (Bk.at (w := wr) (k := wr.heap.size) (cs := #[.int .i64 (p.W : Int), .int .i64 (p.H : Int), .slice (some b) (p.W * p.H) c']) (t := 24) rfl)
      have XZ := Lib.hid ((Ext.refl wr).alloc (.cells #[.int .i64 (p.W : Int), .int .i64 (p.H : Int), .slice (some b) (p.W * p.H) c'] 24))
      generalize wr.alloc (.cells #[.int .i64 (p.W : Int), .int .i64 (p.H : Int), .slice (some b) (p.W * p.H) c'] 24) = wz at *
      have hW2' := HP.out.w2
      have hH2' := HP.out.h2
      refine (each_any 59 #[.pointer (some ⟨wr.heap.size, 0, none⟩)] p.H p.W (fun x y => p.px ((p.H - 1 - x) * p.W + y)) wz (by omega) (by omega) enters_turn1 (fun x y w1 h1 hxH hyW => turn1_any x y p.W p.H b c' wr.heap.size p.px w1 (HB.out.ext h1).pic (HPX.out.ext (XZ.out.trans h1)) hW2' hH2' hxH hyW)).mono ?_
      rintro e w3 ⟨⟨v', rfl, hown⟩, h3⟩
      have OWN3 := Lib.hid (hown)
      have X3' := Lib.hid (XZ.out.trans h3)
      have HZS := Lib.hid ((Nat.le_trans XZ.out.size (Nat.le_refl _)))
      clear h3 hown
      obtain ⟨x', c'', rfl⟩ := own_slice OWN3.out
      have B3 := HV.out.bk.ext X3'.out
      have d0 := B3.cell 0
      have d1 := B3.cell 1
      have d2 := B3.cell 2
      have e0 := B3.frozen 0
      have e1 := B3.frozen 1
      have e2 := B3.frozen 2
      have VF := Lib.hid (HV.out.filled (q := p.turn) X3'.out OWN3.out (Nat.le_refl _) (Nat.le_trans (Nat.le_trans hTz (Nat.le_of_lt hTl)) HZS.out) (fun e => by have := (OWN3.out.lt _ e).1; have := HZS.out; omega))
      clear c0 c1 c2 B3
      go_wp2_with fail
      go_roundw
      case rel => exact ⟨i + 1, _, by omega, by go_num, by rw [HN.out]; exact VF⟩
      case measure => simp [intOf]; omega
    · obtain rfl : i = Q := by omega
      rw [show (Pc3.mk W' H' px).W * (Pc3.mk W' H' px).H = W' * H' from rfl] at hps
      obtain ⟨p, hpe⟩ : ∃ p, (Pc3.mk W' H' px).turns i = p := ⟨_, rfl⟩
      rw [hpe] at HV hps
      have HPE := Lib.hid hpe
      clear hpe
      have own := HV.out.own
      rw [hps] at own
      obtain ⟨x', c'', rfl⟩ := own_slice own
      have OWN3 := Lib.hid own
      have c0 := HV.out.bk.cell 0
      have c1 := HV.out.bk.cell 1
      have c2 := HV.out.bk.cell 2
      have B3 := B1.out.ext ((X2.out.trans X3.out).trans HV.out.ext)
      have d0 := B3.cell 0
      have d1 := B3.cell 1
      have d2 := B3.cell 2
      have e0 := B3.frozen 0
      have e1 := B3.frozen 1
      have e2 := B3.frozen 2
      have hlt1 : w.heap.size + 1 < wb.heap.size := by have := X2.out.size; have := ZA.out; omega
      have FR := Lib.hid (fill_res (W := (p.W : Int)) (H := (p.H : Int)) (((XA.out.trans X2.out).trans X3.out).trans HV.out.ext) (by omega : w.heap.size ≤ w.heap.size + 1) B3.pic OWN3.out hlt1)
      clear B3 own hps hp
      go_wp2_with fail
      obtain ⟨P, own, hX⟩ := FR.out
      have k0 := P.c0
      have k1 := P.c1
      have k2 := P.c2
      exact bodyPost_ret (v := .tuple #[.agg #[.int .i64 (p.W : Int), .int .i64 (p.H : Int), .slice x' (W' * H') c''], .nilIface]) (by simp [results, Tryd.results18, go_sem, k0, k1, k2]) rfl ⟨⟨.slice x' (W' * H') c'', by rw [HPE.out], by rw [HPE.out]; exact owns_based own (XA.out.trans X2.out).size⟩, hX⟩
end Go.Proofs.YtkfjcgcgfdibaaaDoor
