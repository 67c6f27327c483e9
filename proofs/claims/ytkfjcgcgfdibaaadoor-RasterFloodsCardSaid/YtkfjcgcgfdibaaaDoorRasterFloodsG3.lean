/-
  raster.Flip; the closed fact.
  raster.own, Turn.
  raster.Turn.
  Pictures flipped and turned: plain laws, and the contracts in their terms; the closed fact.
  told, In, at, Near: of pictures.
  near numbers.
  plainly: the closed fact of pictures.
  Blank; raster.At; the contracts of New where it cannot.
  raster.At.
-/
import Derived.Test.YtkfjcgcgfdibaaaDoorRasterFloodsG2
import Derived.Deep.RegionHeld3
namespace Go.Proofs.YtkfjcgcgfdibaaaDoor
open Go.RowKit
set_option maxRecDepth 100000
def flipP (W H : Nat) (down : Bool) (px : Nat → P4) : Nat → P4 := lin W fun x y => px (if down then (H - 1 - y) * W + x else y * W + (W - 1 - x))
theorem flip_good (W H : Nat) (a : Addr) (c : Nat) (down : Bool) (px : Nat → P4) (w : World) (hr : rightB (W : Int) (H : Int) (W * H) = true) (hx : Pxs w (some a) (W * H) px) :
    Calls Tryd.prog 16 #[.agg #[.int .i64 (W : Int), .int .i64 (H : Int), .slice (some a) (W * H) c], .bool down] w fun e w' => (∃ v, e = .returned (.tuple #[.agg #[.int .i64 (W : Int), .int .i64 (H : Int), v], .nilIface]) ∧ w'.ownsRow w.heap.size 36 4 v (W * H) (pxV (W * H) (flipP W H down px))) ∧ Ext w w' := by
  obtain ⟨W', H', q1, q2, hW1, hW2, hH1, hH2, _⟩ := rightB_yes hr
  obtain rfl : W' = W := by omega
  obtain rfl : H' = H := by omega
  have HR := Lib.hid hr
  have HX := Lib.hid hx
  clear q1 q2 hr hx
  go_enter Tryd.func16, Tryd.ntmps16
  go_wp2_with fail
  refine calls_world (fun wz => Ext w wz ∧ wz.heap.size = w.heap.size + 1 + 1 + 1 ∧ Bk wz (w.heap.size) #[.int .i64 (W' : Int), .int .i64 (H' : Int), .slice (some a) (W' * H') c] ∧ Bk wz (w.heap.size + 1) #[.bool down] ∧ Bk wz (w.heap.size + 1 + 1) #[.int .i64 0, .int .i64 0, .slice none 0 0]) ⟨by repeat (first | exact Ext.refl _ | refine Ext.alloc ?_ _), by simp, by repeat (first | exact Bk.at (by simp) | refine Bk.old ?_), by repeat (first | exact Bk.at (by simp) | refine Bk.old ?_), by repeat (first | exact Bk.at (by simp) | refine Bk.old ?_)⟩ ?_
  rintro wa ⟨hX, hZ, hB0, hB1, hB2⟩
  have B0 := Lib.hid hB0
  have B1 := Lib.hid hB1
  have B2 := Lib.hid hB2
  have XA := Lib.hid hX
  have ZA := Lib.hid hZ
  clear hB0 hB1 hB2 hX hZ
  refine (check_ok _ _ _ _ _ _ HR.out).mono ?_
  rintro e wb ⟨rfl, h2⟩
  have X2 := Lib.hid (h2)
  clear h2
  have c0 := (B0.out.ext X2.out).cell 0
  have c1 := (B0.out.ext X2.out).cell 1
  have hzb : w.heap.size + 1 + 1 < wb.heap.size := by have := X2.out.size; have := ZA.out; omega
  go_wp2_with fail
  refine (each_any 57 #[.pointer (some ⟨w.heap.size + 1, 0, none⟩), .pointer (some ⟨w.heap.size, 0, none⟩)] W' H' (fun x y => px (if down then (H' - 1 - y) * W' + x else y * W' + (W' - 1 - x))) wb (by omega) (by omega) enters_flip1 (fun x y w1 h1 hxW hyH => flip1_both x y W' H' a c w.heap.size (w.heap.size + 1) px down w1 (B0.out.ext (X2.out.trans h1)).pic ((B1.out.ext (X2.out.trans h1)).cell 0) (HX.out.ext ((XA.out.trans X2.out).trans h1)) hW2 hH2 hxW hyH)).mono ?_
  rintro e w3 ⟨⟨v, rfl, hown⟩, h3⟩
  have OWN := Lib.hid (hown)
  have X3 := Lib.hid (h3)
  clear h3 hown
  obtain ⟨x, c', rfl⟩ := own_slice OWN.out
  have B3 := B2.out.ext (X2.out.trans X3.out)
  have d0 := B3.cell 0
  have d1 := B3.cell 1
  have d2 := B3.cell 2
  have e0 := B3.frozen 0
  have e1 := B3.frozen 1
  have e2 := B3.frozen 2
  have FR := Lib.hid (fill_res (W := (W' : Int)) (H := (H' : Int)) ((XA.out.trans X2.out).trans X3.out) (by omega : w.heap.size ≤ w.heap.size + 1 + 1) B3.pic OWN.out hzb)
  clear B3 c0 c1
  go_wp2_with fail
  obtain ⟨P, own, hX⟩ := FR.out
  have k0 := P.c0
  have k1 := P.c1
  have k2 := P.c2
  exact bodyPost_ret (v := .tuple #[.agg #[.int .i64 (W' : Int), .int .i64 (H' : Int), .slice x (W' * H') c'], .nilIface]) (by simp [results, Tryd.results16, go_sem, k0, k1, k2]) rfl ⟨⟨_, rfl, owns_based own (by omega)⟩, hX⟩
end Go.Proofs.YtkfjcgcgfdibaaaDoor
namespace Go.Proofs.YtkfjcgcgfdibaaaDoor
open Go.RowKit
set_option maxRecDepth 100000
theorem owns_empty (w : World) (e : TypeId) (size : Nat) : (w.alloc (.cells #[] e)).ownsRow w.heap.size e size (.slice (some ⟨w.heap.size, 0, none⟩) 0 0) 0 [] :=
  ⟨by simp, .inr ⟨w.heap.size, 0, #[], rfl, Nat.le_refl _, heap_alloc_new w _, Nat.le_refl _, by unfold maxLen; omega, by simp, by simp⟩⟩
theorem clone_any (x : Option Addr) (n cap : Nat) (px : Nat → P4) (w : World) (hx : Pxs w x n px) (h0 : x = none → cap = 0) (hn : n ≤ 10000000) :
    Calls Tryd.prog 94 #[.slice x n cap] w fun e w' => (∃ v, e = .returned v ∧ w'.ownsRow w.heap.size 36 4 v n (pxV n px)) ∧ Ext w w' := by
  obtain ⟨i0, hi0, hz0, hz1, hz2⟩ := info_parts pixinfo
  have HX := Lib.hid hx
  clear hx
  cases x with
  | none =>
    obtain rfl := HX.out.1 rfl
    obtain rfl := h0 rfl
    have hnil := fun W : World => Lib.run_eql_slice_nil (P := Tryd.prog) W 22 36 none 0 0 0 0 Tryd.underlying22
    go_enter Tryd.func94, Tryd.ntmps94
    go_wp2_with fail
    go_ret
    exact ⟨⟨_, rfl, World.ownsRow_nil _ _ _ _⟩, Ext.refl _⟩
  | some a =>
    have HXA := Lib.hid (HX.out.ext ((Ext.refl w).alloc (.cells #[] 36)))
    have hnil := fun W : World => Lib.run_eql_slice_nil (P := Tryd.prog) W 22 36 (some a) n cap 0 0 Tryd.underlying22
    go_enter Tryd.func94, Tryd.ntmps94
    go_wp2_with (at_builtin; refine wpList_append_own_at _ rfl _ _ 22 rfl w.heap.size 36 i0 _ 4 4 Tryd.underlying22 hi0 hz0 hz1 hz2 rfl (by decide) (.slice (some ⟨w.heap.size, 0, none⟩) 0 0) 0 [] rfl (owns_empty _ _ _) a n cap (pxV n px) rfl (pxV_length _ _) HXA.out.cells (cells_one _ _) ?c3 ?c4 ?c5 ?_)
    case c3 => unfold maxLen; omega
    case c4 => omega
    case c5 => simp
    intro v' w1 hown hgrow _ _
    have hE : Ext w w1 := by
      have h1 : Ext w (w.alloc (.cells #[] 36)) := (Ext.refl w).alloc _
      exact Below.trans h1 ((Keeps.grown hgrow).below h1.size (fun k hk q => by injection q with q; subst q; exact Nat.lt_irrefl _ hk))
    have HO := Lib.hid hown
    have HE := Lib.hid hE
    clear hown hgrow hE
    go_wp2_with fail
    go_ret
    refine ⟨⟨v', rfl, ?_⟩, HE.out⟩
    have := HO.out
    simpa using this
theorem rown_any (W H : Int) (x : Option Addr) (n cap : Nat) (px : Nat → P4) (w : World) (hx : Pxs w x n px) (h0 : x = none → cap = 0) (hn : n ≤ 10000000) :
    Calls Tryd.prog 58 #[.agg #[.int .i64 W, .int .i64 H, .slice x n cap]] w fun e w' => (∃ v, e = .returned (.agg #[.int .i64 W, .int .i64 H, v]) ∧ w'.ownsRow w.heap.size 36 4 v n (pxV n px)) ∧ Ext w w' := by
  have HX := Lib.hid hx
  clear hx
  go_enter Tryd.func58, Tryd.ntmps58
  go_wp2_with fail
  refine wp_world (fun wz => Ext w wz ∧ wz.heap.size = w.heap.size + 1 + 1 ∧ Bk wz (w.heap.size) #[.int .i64 W, .int .i64 H, .slice x n cap] ∧ Bk wz (w.heap.size + 1) #[.int .i64 0, .int .i64 0, .slice none 0 0]) ⟨by repeat (first | exact Ext.refl _ | refine Ext.alloc ?_ _), by simp, by repeat (first | exact Bk.at (by simp) | refine Bk.old ?_), by repeat (first | exact Bk.at (by simp) | refine Bk.old ?_)⟩ ?_
  rintro wr ⟨hX, hZ, hB0, hB1⟩
  have q0 := hB0.cell 0
  have q1 := hB0.cell 1
  have q2 := hB0.cell 2
  have B1 := Lib.hid hB1
  have XR := Lib.hid hX
  have ZR := Lib.hid hZ
  have B0 := Lib.hid hB0
  have HXR := Lib.hid (HX.out.ext hX)
  clear hB1 hX hZ hB0
  go_region_held3 (fun w' => w'.cell? ⟨w.heap.size, 0, none⟩ = some (.int .i64 W) ∧ w'.cell? ⟨w.heap.size, 1, none⟩ = some (.int .i64 H) ∧ w'.cell? ⟨w.heap.size, 2, none⟩ = some (.slice x n cap)) (first | exact ⟨q0, q1, q2⟩ | exact ⟨(B0.out.ext hE).cell 0, (B0.out.ext hE).cell 1, (B0.out.ext hE).cell 2⟩ | exact ⟨(((((B0.out.ext hE).far (Nat.ne_of_lt (Nat.lt_succ_self _)) _).far (Nat.ne_of_lt (Nat.lt_succ_self _)) _).far (Nat.ne_of_lt (Nat.lt_succ_self _)) _).cell 0), (((((B0.out.ext hE).far (Nat.ne_of_lt (Nat.lt_succ_self _)) _).far (Nat.ne_of_lt (Nat.lt_succ_self _)) _).far (Nat.ne_of_lt (Nat.lt_succ_self _)) _).cell 1), (((((B0.out.ext hE).far (Nat.ne_of_lt (Nat.lt_succ_self _)) _).far (Nat.ne_of_lt (Nat.lt_succ_self _)) _).far (Nat.ne_of_lt (Nat.lt_succ_self _)) _).cell 2)⟩)
    (first
      | ((refine (clone_any x n cap px _ (HXR.out.ext (Below.drew (Ext.refl wr))) h0 hn).mono ?_; rintro e w3 ⟨⟨v, rfl, hown⟩, hx3⟩; have hE : Ext wr w3 := ⟨hx3.os, hx3.tape, hx3.output, hx3.size, hx3.block⟩; obtain ⟨x', c', rfl⟩ := own_slice hown; have d0 := (B1.out.ext hE).cell 0; have d1 := (B1.out.ext hE).cell 1; have d2 := (B1.out.ext hE).cell 2; have e0 := (B1.out.ext hE).frozen 0; have e1 := (B1.out.ext hE).frozen 1; have e2 := (B1.out.ext hE).frozen 2; have FR := Lib.hid (fill_res (W := W) (H := H) (XR.out.trans hE) (by omega : w.heap.size ≤ w.heap.size + 1) (B1.out.ext hE).pic hown (show w.heap.size + 1 < wr.heap.size by have := ZR.out; omega)))))
  clear d0 d1 d2 e0 e1 e2 hown hE hx3
  go_wp2_with fail
  obtain ⟨P, own, hX⟩ := FR.out
  have k0 := P.c0
  have k1 := P.c1
  have k2 := P.c2
  exact bodyPost_ret (v := .agg #[.int .i64 W, .int .i64 H, .slice x' n c']) (by simp [results, Tryd.results58, go_sem, k0, k1, k2]) rfl ⟨⟨_, rfl, owns_based own XR.out.size⟩, hX⟩
end Go.Proofs.YtkfjcgcgfdibaaaDoor
namespace Go.Proofs.YtkfjcgcgfdibaaaDoor
open Go.RowKit
set_option maxRecDepth 100000
/-- a picture's sides and pixels -/
structure Pc3 where
  W : Nat
  H : Nat
  px : Nat → P4
structure Pc3.Ok (p : Pc3) : Prop where
  w1 : 1 ≤ p.W
  w2 : p.W ≤ 256
  h1 : 1 ≤ p.H
  h2 : p.H ≤ 256
  ok : ∀ i, i < p.W * p.H → (p.px i).Ok
/-- a quarter to the right -/
def Pc3.turn (p : Pc3) : Pc3 := ⟨p.H, p.W, lin p.H fun x y => p.px ((p.H - 1 - x) * p.W + y)⟩
def Pc3.turns (p : Pc3) : Nat → Pc3
  | 0 => p
  | k + 1 => (p.turns k).turn
theorem lin_idx {W H i : Nat} (h : i < W * H) : i % W < W ∧ i / W < H := by
  have hW : 0 < W := by
    rcases Nat.eq_zero_or_pos W with q | q
    · subst q; rw [Nat.zero_mul] at h; omega
    · exact q
  exact ⟨Nat.mod_lt _ hW, (Nat.div_lt_iff_lt_mul hW).2 (by rw [Nat.mul_comm]; exact h)⟩
theorem Pc3.turn_ok {p : Pc3} (h : p.Ok) : p.turn.Ok := by
  refine ⟨h.h1, h.h2, h.w1, h.w2, fun i hi => ?_⟩
  obtain ⟨q1, q2⟩ := lin_idx hi
  exact h.ok _ (mul_lt_of (by show p.H - 1 - i % p.H < p.H; have : i % p.H < p.H := q1; omega) q2)
theorem Pc3.turns_ok {p : Pc3} (h : p.Ok) : ∀ k, (p.turns k).Ok := by
  intro k
  induction k with
  | zero => exact h
  | succ k ih => exact Pc3.turn_ok ih
theorem Pc3.turns_size (p : Pc3) : ∀ k, (p.turns k).W * (p.turns k).H = p.W * p.H := by
  intro k
  induction k with
  | zero => rfl
  | succ k ih => rw [← ih, Nat.mul_comm]; rfl
/-- how many quarters to the right -/
def quar (q : Int) : Nat := (q % 4).toNat
theorem quar_lt (q : Int) : quar q < 4 := by unfold quar; omega
theorem quar_spell (q : Int) : (q.tmod 4 + 4) % 4 = (quar q : Int) := by
  unfold quar
  rw [Int.tmod_eq_emod]
  split <;> omega
/-- a picture that a variable holds -/
structure VAt (w0 wr : World) (b0 T : Nat) (p : Pc3) (v : Value) : Prop where
  ext : Ext w0 wr
  bk : Bk wr T #[.int .i64 (p.W : Int), .int .i64 (p.H : Int), v]
  own : wr.ownsRow b0 36 4 v (p.W * p.H) (pxV (p.W * p.H) p.px)
  ne : v.ownBlock ≠ some T
theorem VAt.filled {w0 wr w2 : World} {b0 b1 T : Nat} {p q : Pc3} {v v' : Value} (h : VAt w0 wr b0 T p v) (hx : Ext wr w2) (hown : w2.ownsRow b1 36 4 v' (q.W * q.H) (pxV (q.W * q.H) q.px)) (hT : w0.heap.size ≤ T) (hb : b0 ≤ b1) (hne : v'.ownBlock ≠ some T) :
    VAt w0 (((w2.setCell ⟨T, 0, none⟩ (.int .i64 (q.W : Int))).setCell ⟨T, 1, none⟩ (.int .i64 (q.H : Int))).setCell ⟨T, 2, none⟩ v') b0 T q v' := by
  refine ⟨(h.ext.trans hx).set3 hT _ _ _, ?_, owns_based (ownsRow_set3 hown hne _ _ _) hb, hne⟩
  have h1 := (((h.bk.ext hx).set_ 0 (.int .i64 (q.W : Int))).set_ 1 (.int .i64 (q.H : Int))).set_ 2 v'
  exact h1
theorem turn_good (W H : Nat) (a : Addr) (c : Nat) (q : Int) (px : Nat → P4) (w : World) (hr : rightB (W : Int) (H : Int) (W * H) = true) (hx : Pxs w (some a) (W * H) px) (hq : -9223372036854775808 ≤ q ∧ q ≤ 9223372036854775807) :
    Calls Tryd.prog 18 #[.agg #[.int .i64 (W : Int), .int .i64 (H : Int), .slice (some a) (W * H) c], .int .i64 q] w fun e w' => (∃ v, e = .returned (.tuple #[.agg #[.int .i64 (((Pc3.mk W H px).turns (quar q)).W : Int), .int .i64 (((Pc3.mk W H px).turns (quar q)).H : Int), v], .nilIface]) ∧ w'.ownsRow w.heap.size 36 4 v (W * H) (pxV (W * H) ((Pc3.mk W H px).turns (quar q)).px)) ∧ Ext w w' := by
  obtain ⟨W', H', q1, q2, hW1, hW2, hH1, hH2, _⟩ := rightB_yes hr
  obtain rfl : W' = W := by omega
  obtain rfl : H' = H := by omega
  have HR := Lib.hid hr
  have HX := Lib.hid hx
  have hP : (Pc3.mk W' H' px).Ok := ⟨hW1, hW2, hH1, hH2, fun i hi => (hx.2 a rfl i hi).2.2.2.2⟩
  have HPO := Lib.hid (Pc3.turns_ok hP)
  have hsp := quar_spell q
  have hq4 := quar_lt q
  obtain ⟨Q, hQ⟩ : ∃ Q, quar q = Q := ⟨_, rfl⟩
  rw [hQ] at hsp hq4 ⊢
  have hmul : W' * H' ≤ 65536 := Nat.mul_le_mul hW2 hH2
  clear q1 q2 hr hx hP hQ
  have HSP := Lib.hid hsp
  clear hsp
  obtain ⟨hqa, hqb⟩ := hq
  go_enter Tryd.func18, Tryd.ntmps18
  go_wp2_with fail
  refine calls_world (fun wz => Ext w wz ∧ wz.heap.size = w.heap.size + 1 + 1 ∧ Bk wz (w.heap.size) #[.int .i64 (W' : Int), .int .i64 (H' : Int), .slice (some a) (W' * H') c] ∧ Bk wz (w.heap.size + 1) #[.int .i64 0, .int .i64 0, .slice none 0 0]) ⟨by repeat (first | exact Ext.refl _ | refine Ext.alloc ?_ _), by simp, by repeat (first | exact Bk.at (by simp) | refine Bk.old ?_), by repeat (first | exact Bk.at (by simp) | refine Bk.old ?_)⟩ ?_
  rintro wa ⟨hX, hZ, hB0, hB1⟩
  have B0 := Lib.hid hB0
  have B1 := Lib.hid hB1
  have XA := Lib.hid hX
  have ZA := Lib.hid hZ
  clear hB0 hB1 hX hZ
  refine (check_ok _ _ _ _ _ _ HR.out).mono ?_
  rintro e wb ⟨rfl, h2⟩
  have X2 := Lib.hid (h2)
  clear h2
  have c0 := (B0.out.ext X2.out).cell 0
  have c1 := (B0.out.ext X2.out).cell 1
  have c2 := (B0.out.ext X2.out).cell 2
  go_wp2_with fail
  refine (rown_any _ _ _ _ _ px _ (HX.out.ext (XA.out.trans X2.out)) (fun h => by cases h) (by omega)).mono ?_
  rintro e wc ⟨⟨v, rfl, hown⟩, h3⟩
  have OWN := Lib.hid (hown)
  have X3 := Lib.hid (h3)
  clear h3 hown
  obtain ⟨x, c', rfl⟩ := own_slice OWN.out
  have hsp := HSP.out
  have hb1 : -3 ≤ q.tmod 4 := by rw [Int.tmod_eq_emod]; split <;> omega
  have hb2 : q.tmod 4 ≤ 3 := by rw [Int.tmod_eq_emod]; split <;> omega
  clear hsp
  go_wp2_with fail
  rw [HSP.out]
  clear c0 c1 c2 hb1 hb2
  have hTz : wb.heap.size ≤ wc.heap.size := X3.out.size
  refine wp_world (fun wz => VAt wc wz wb.heap.size wc.heap.size ((Pc3.mk W' H' px).turns 0) (.slice x (W' * H') c')) ⟨(Ext.refl _).alloc _, Bk.at rfl, OWN.out.alloc _, fun e => Nat.lt_irrefl _ (ownsRow_lt OWN.out e)⟩ ?_
  intro wd hV
  have VD := Lib.hid hV
  clear hV
  go_loopw [21] (fun k wr => ∃ (i : Nat) (v : Value), i ≤ Q ∧ k = .int .i64 i ∧ Hid (VAt wc wr wb.heap.size wc.heap.size ((Pc3.mk W' H' px).turns i) v)) (fun k _ => Q - (intOf k).toNat)
  case atStart => exact ⟨0, _, by omega, rfl, VD⟩
  case round =>
    clear VD
    obtain ⟨i, v, hi, rfl, HV⟩ := hrel
    have hp := HPO.out i
    have hps := Pc3.turns_size (Pc3.mk W' H' px) i
    have HN : Hid ((Pc3.mk W' H' px).turns (i + 1) = ((Pc3.mk W' H' px).turns i).turn) := Lib.hid rfl
    by_cases hlt : i < Q
    · generalize (Pc3.mk W' H' px).turns i = p at *
      obtain ⟨x, c', rfl⟩ := own_slice HV.out.own
      have hpos : 0 < p.W * p.H := Nat.mul_pos hp.w1 hp.h1
      obtain ⟨x3, c3, e2, hpx, _⟩ := Pxs.of_own HV.out.own hp.ok
      obtain ⟨rfl, rfl⟩ : x = x3 ∧ c' = c3 := by injection e2 with e3 _ e4; exact ⟨e3, e4⟩
      obtain ⟨b, rfl⟩ := hpx.isSome hpos
      have HPX := Lib.hid hpx
      have HP := Lib.hid hp
      have c0 := HV.out.bk.cell 0
      have c1 := HV.out.bk.cell 1
      have c2 := HV.out.bk.cell 2
      have hTl := HV.out.bk.lt
      clear e2 hpx hp hps
      go_wp2_with fail
      have HB := Lib.hid (Bk.at (w := wr) (k := wr.heap.size) (cs := #[.int .i64 (p.W : Int), .int .i64 (p.H : Int), .slice (some b) (p.W * p.H) c']) (t := 24) rfl)
      have XZ := Lib.hid ((Ext.refl wr).alloc (.cells #[.int .i64 (p.W : Int), .int .i64 (p.H : Int), .slice (some b) (p.W * p.H) c'] 24))
      generalize wr.alloc (.cells #[.int .i64 (p.W : Int), .int .i64 (p.H : Int), .slice (some b) (p.W * p.H) c'] 24) = wz at *
      have hW2' := HP.out.w2
      have hH2' := HP.out.h2
      refine (each_any 59 #[.pointer (some ⟨wr.heap.size, 0, none⟩)] p.H p.W (fun x y => p.px ((p.H - 1 - x) * p.W + y)) wz (by omega) (by omega) enters_turn1 (fun x y w1 h1 hxH hyW => turn1_any x y p.W p.H b c' wr.heap.size p.px w1 (HB.out.ext h1).pic (HPX.out.ext (XZ.out.trans h1)) hW2' hH2' hxH hyW)).mono ?_
      rintro e w3 ⟨⟨v', rfl, hown⟩, h3⟩
      have OWN3 := Lib.hid (hown)
      have X3' := Lib.hid (XZ.out.trans h3)
      have HZS := Lib.hid ((Nat.le_trans XZ.out.size (Nat.le_refl _)))
      clear h3 hown
      obtain ⟨x', c'', rfl⟩ := own_slice OWN3.out
      have B3 := HV.out.bk.ext X3'.out
      have d0 := B3.cell 0
      have d1 := B3.cell 1
      have d2 := B3.cell 2
      have e0 := B3.frozen 0
      have e1 := B3.frozen 1
      have e2 := B3.frozen 2
      have VF := Lib.hid (HV.out.filled (q := p.turn) X3'.out OWN3.out (Nat.le_refl _) (Nat.le_trans (Nat.le_trans hTz (Nat.le_of_lt hTl)) HZS.out) (fun e => by have := (OWN3.out.lt _ e).1; have := HZS.out; omega))
      clear c0 c1 c2 B3
      go_wp2_with fail
      go_roundw
      case rel => exact ⟨i + 1, _, by omega, by go_num, by rw [HN.out]; exact VF⟩
      case measure => simp [intOf]; omega
    · obtain rfl : i = Q := by omega
      rw [show (Pc3.mk W' H' px).W * (Pc3.mk W' H' px).H = W' * H' from rfl] at hps
      obtain ⟨p, hpe⟩ : ∃ p, (Pc3.mk W' H' px).turns i = p := ⟨_, rfl⟩
      rw [hpe] at HV hps
      have HPE := Lib.hid hpe
      clear hpe
      have own := HV.out.own
      rw [hps] at own
      obtain ⟨x', c'', rfl⟩ := own_slice own
      have OWN3 := Lib.hid own
      have c0 := HV.out.bk.cell 0
      have c1 := HV.out.bk.cell 1
      have c2 := HV.out.bk.cell 2
      have B3 := B1.out.ext ((X2.out.trans X3.out).trans HV.out.ext)
      have d0 := B3.cell 0
      have d1 := B3.cell 1
      have d2 := B3.cell 2
      have e0 := B3.frozen 0
      have e1 := B3.frozen 1
      have e2 := B3.frozen 2
      have hlt1 : w.heap.size + 1 < wb.heap.size := by have := X2.out.size; have := ZA.out; omega
      have FR := Lib.hid (fill_res (W := (p.W : Int)) (H := (p.H : Int)) (((XA.out.trans X2.out).trans X3.out).trans HV.out.ext) (by omega : w.heap.size ≤ w.heap.size + 1) B3.pic OWN3.out hlt1)
      clear B3 own hps hp
      go_wp2_with fail
      obtain ⟨P, own, hX⟩ := FR.out
      have k0 := P.c0
      have k1 := P.c1
      have k2 := P.c2
      exact bodyPost_ret (v := .tuple #[.agg #[.int .i64 (p.W : Int), .int .i64 (p.H : Int), .slice x' (W' * H') c''], .nilIface]) (by simp [results, Tryd.results18, go_sem, k0, k1, k2]) rfl ⟨⟨.slice x' (W' * H') c'', by rw [HPE.out], by rw [HPE.out]; exact owns_based own (XA.out.trans X2.out).size⟩, hX⟩
end Go.Proofs.YtkfjcgcgfdibaaaDoor
namespace Go.Proofs.YtkfjcgcgfdibaaaDoor
open Go.RowKit
set_option maxRecDepth 100000
def Pc3.flip (p : Pc3) (down : Bool) : Pc3 := ⟨p.W, p.H, flipP p.W p.H down p.px⟩
/-- the same picture -/
structure Pc3.Same (p q : Pc3) : Prop where
  w : p.W = q.W
  h : p.H = q.H
  px : ∀ i, i < p.W * p.H → p.px i = q.px i
theorem Pc3.Same.refl (p : Pc3) : p.Same p := ⟨rfl, rfl, fun _ _ => rfl⟩
theorem Pc3.Same.of_at {p q : Pc3} (hw : p.W = q.W) (hh : p.H = q.H) (h : ∀ x y, x < p.W → y < p.H → p.px (y * p.W + x) = q.px (y * p.W + x)) : p.Same q := by
  refine ⟨hw, hh, fun i hi => ?_⟩
  obtain ⟨q1, q2⟩ := lin_idx hi
  have := h (i % p.W) (i / p.W) q1 q2
  rwa [Nat.mul_comm, Nat.div_add_mod] at this
theorem Pc3.flip_ok {p : Pc3} (h : p.Ok) (down : Bool) : (p.flip down).Ok := by
  refine ⟨h.w1, h.w2, h.h1, h.h2, fun i hi => ?_⟩
  obtain ⟨q1, q2⟩ := lin_idx hi
  have q1' : i % p.W < p.W := q1
  have q2' : i / p.W < p.H := q2
  show (p.px (if down then (p.H - 1 - i / p.W) * p.W + i % p.W else i / p.W * p.W + (p.W - 1 - i % p.W))).Ok
  split
  · exact h.ok _ (mul_lt_of (show p.H - 1 - i / p.W < p.H by have := h.h1; generalize i / p.W = t; omega) q1')
  · exact h.ok _ (mul_lt_of q2' (by omega))
theorem Pc3.flip_at (p : Pc3) (down : Bool) (x y : Nat) (hx : x < p.W) : (p.flip down).px (y * p.W + x) = p.px (if down then (p.H - 1 - y) * p.W + x else y * p.W + (p.W - 1 - x)) := lin_at p.W (fun x y => p.px (if down then (p.H - 1 - y) * p.W + x else y * p.W + (p.W - 1 - x))) x y hx
theorem Pc3.turn_at (p : Pc3) (x y : Nat) (hx : x < p.H) : p.turn.px (y * p.H + x) = p.px ((p.H - 1 - x) * p.W + y) := lin_at p.H (fun x y => p.px ((p.H - 1 - x) * p.W + y)) x y hx
theorem Pc3.turn2_at (p : Pc3) (x y : Nat) (hx : x < p.W) (hy : y < p.H) : p.turn.turn.px (y * p.W + x) = p.px ((p.H - 1 - y) * p.W + (p.W - 1 - x)) := by
  have h := Pc3.turn_at p.turn x y hx
  show p.turn.turn.px (y * p.turn.H + x) = _
  rw [h]
  exact Pc3.turn_at p y (p.W - 1 - x) hy
theorem Pc3.flip_twice (p : Pc3) : ((p.flip true).flip true).Same p := by
  refine Pc3.Same.of_at rfl rfl fun x y hx hy => ?_
  have hx' : x < p.W := hx
  have hy' : y < p.H := hy
  have h := Pc3.flip_at (p.flip true) true x y hx
  show ((p.flip true).flip true).px (y * (p.flip true).W + x) = p.px (y * p.W + x)
  rw [h, if_pos rfl]
  have h2 := Pc3.flip_at p true x (p.H - 1 - y) hx'
  rw [if_pos rfl, show p.H - 1 - (p.H - 1 - y) = y by omega] at h2
  exact h2
theorem Pc3.flip_both (p : Pc3) : ((p.flip true).flip false).Same (p.turns 2) := by
  refine Pc3.Same.of_at rfl rfl fun x y hx hy => ?_
  have hx' : x < p.W := hx
  have hy' : y < p.H := hy
  have h := Pc3.flip_at (p.flip true) false x y hx
  have h3 := Pc3.turn2_at p x y hx' hy'
  show ((p.flip true).flip false).px (y * (p.flip true).W + x) = p.turn.turn.px (y * p.W + x)
  rw [h, if_neg (by decide), h3]
  have h2 := Pc3.flip_at p true (p.W - 1 - x) y (by omega)
  rw [if_pos rfl] at h2
  exact h2
theorem Pc3.turn_same {p q : Pc3} (h : p.Same q) : p.turn.Same q.turn := by
  refine Pc3.Same.of_at h.h h.w fun x y hx hy => ?_
  have hx' : x < p.H := hx
  have hy' : y < p.W := hy
  have h1 := Pc3.turn_at p x y hx'
  have h2 := Pc3.turn_at q x y (by rw [← h.h]; exact hx')
  show p.turn.px (y * p.H + x) = q.turn.px (y * p.H + x)
  rw [h1]
  rw [← h.h, ← h.w] at h2
  rw [h2]
  exact h.px _ (mul_lt_of (by omega) hy')
theorem Pc3.turns_same {p q : Pc3} (h : p.Same q) : ∀ k, (p.turns k).Same (q.turns k) := by
  intro k
  induction k with
  | zero => exact h
  | succ k ih => exact Pc3.turn_same ih
theorem Pc3.turns_add (p : Pc3) (m : Nat) : ∀ k, (p.turns m).turns k = p.turns (m + k) := by
  intro k
  induction k with
  | zero => rfl
  | succ k ih => show ((p.turns m).turns k).turn = (p.turns (m + k)).turn; rw [ih]
theorem Pc3.turns_four (p : Pc3) : (p.turns 4).Same p := by
  refine Pc3.Same.of_at rfl rfl fun x y hx hy => ?_
  have hx' : x < p.W := hx
  have hy' : y < p.H := hy
  have h := Pc3.turn2_at p.turn.turn x y hx' hy'
  show p.turn.turn.turn.turn.px (y * p.W + x) = p.px (y * p.W + x)
  have e : p.turn.turn.W = p.W := rfl
  have e2 : p.turn.turn.H = p.H := rfl
  rw [e, e2] at h
  rw [h, Pc3.turn2_at p (p.W - 1 - x) (p.H - 1 - y) (by omega) (by omega)]
  rw [show p.H - 1 - (p.H - 1 - y) = y by omega, show p.W - 1 - (p.W - 1 - x) = x by omega]
theorem quar_neg (q : Int) : quar q + quar (-q) = 0 ∨ quar q + quar (-q) = 4 := by unfold quar; omega
theorem quar_four (q : Int) : quar (q + 4) = quar q := by unfold quar; omega
theorem Pc3.turns_back (p : Pc3) (q : Int) : ((p.turns (quar q)).turns (quar (-q))).Same p := by
  rw [Pc3.turns_add]
  rcases quar_neg q with h | h
  · rw [h]; exact Pc3.Same.refl p
  · rw [h]; exact Pc3.turns_four p
/-- a picture as a value -/
def PcV (w0 w : World) (v : Value) (p : Pc3) : Prop := ∃ a c, v = .agg #[.int .i64 (p.W : Int), .int .i64 (p.H : Int), .slice (some a) (p.W * p.H) c] ∧ Pxs w (some a) (p.W * p.H) p.px ∧ w0.heap.size ≤ a.block
theorem Pc3.right {p : Pc3} (h : p.Ok) : rightB (p.W : Int) (p.H : Int) (p.W * p.H) = true := by
  obtain ⟨h1, h2, h3, h4, _⟩ := h
  unfold rightB sideB
  simp only [Bool.and_eq_true, decide_eq_true_eq]
  exact ⟨⟨⟨by omega, by omega⟩, ⟨by omega, by omega⟩⟩, by simp⟩
theorem PcV.of_own {w0 w : World} {v : Value} {p : Pc3} (h : w.ownsRow w0.heap.size 36 4 v (p.W * p.H) (pxV (p.W * p.H) p.px)) (hp : p.Ok) : ∃ a c, v = .slice (some a) (p.W * p.H) c ∧ Pxs w (some a) (p.W * p.H) p.px ∧ w0.heap.size ≤ a.block := by
  obtain ⟨x, c, rfl, hx, hb⟩ := Pxs.of_own h hp.ok
  obtain ⟨a, rfl⟩ := hx.isSome (Nat.mul_pos hp.w1 hp.h1)
  exact ⟨a, c, rfl, hx, hb a rfl⟩
theorem own_pc (p : Pc3) (a : Addr) (c : Nat) (w : World) (hp : p.Ok) (hx : Pxs w (some a) (p.W * p.H) p.px) :
    Calls Tryd.prog 17 #[.agg #[.int .i64 (p.W : Int), .int .i64 (p.H : Int), .slice (some a) (p.W * p.H) c]] w fun e w' => (∃ a' c', e = .returned (.agg #[.int .i64 (p.W : Int), .int .i64 (p.H : Int), .slice (some a') (p.W * p.H) c']) ∧ Pxs w' (some a') (p.W * p.H) p.px ∧ w.heap.size ≤ a'.block) ∧ Ext w w' := by
  refine (own_any _ _ _ _ _ p.px w hx (fun h => by cases h) (Nat.le_trans (Nat.mul_le_mul hp.w2 hp.h2) (by decide))).mono ?_
  rintro e w2 ⟨⟨v, rfl, ho⟩, h2⟩
  obtain ⟨a', c', rfl, q1, q2⟩ := PcV.of_own ho hp
  exact ⟨⟨a', c', rfl, q1, q2⟩, h2⟩
theorem flip_pc (p : Pc3) (down : Bool) (a : Addr) (c : Nat) (w : World) (hp : p.Ok) (hx : Pxs w (some a) (p.W * p.H) p.px) :
    Calls Tryd.prog 16 #[.agg #[.int .i64 (p.W : Int), .int .i64 (p.H : Int), .slice (some a) (p.W * p.H) c], .bool down] w fun e w' => (∃ a' c', e = .returned (.tuple #[.agg #[.int .i64 (p.W : Int), .int .i64 (p.H : Int), .slice (some a') (p.W * p.H) c'], .nilIface]) ∧ Pxs w' (some a') (p.W * p.H) (p.flip down).px ∧ w.heap.size ≤ a'.block) ∧ Ext w w' := by
  refine (flip_good p.W p.H a c down p.px w (Pc3.right hp) hx).mono ?_
  rintro e w2 ⟨⟨v, rfl, ho⟩, h2⟩
  obtain ⟨a', c', rfl, q1, q2⟩ := PcV.of_own (p := p.flip down) ho (Pc3.flip_ok hp down)
  exact ⟨⟨a', c', rfl, q1, q2⟩, h2⟩
theorem turn_pc (p : Pc3) (q : Int) (a : Addr) (c : Nat) (w : World) (hp : p.Ok) (hx : Pxs w (some a) (p.W * p.H) p.px) (hq : -9223372036854775808 ≤ q ∧ q ≤ 9223372036854775807) :
    Calls Tryd.prog 18 #[.agg #[.int .i64 (p.W : Int), .int .i64 (p.H : Int), .slice (some a) (p.W * p.H) c], .int .i64 q] w fun e w' => (∃ a' c', e = .returned (.tuple #[.agg #[.int .i64 ((p.turns (quar q)).W : Int), .int .i64 ((p.turns (quar q)).H : Int), .slice (some a') ((p.turns (quar q)).W * (p.turns (quar q)).H) c'], .nilIface]) ∧ Pxs w' (some a') ((p.turns (quar q)).W * (p.turns (quar q)).H) (p.turns (quar q)).px ∧ w.heap.size ≤ a'.block) ∧ Ext w w' := by
  refine (turn_good p.W p.H a c q p.px w (Pc3.right hp) hx hq).mono ?_
  rintro e w2 ⟨⟨v, rfl, ho⟩, h2⟩
  rw [← Pc3.turns_size p (quar q)] at ho
  obtain ⟨a', c', rfl, q1, q2⟩ := PcV.of_own (p := p.turns (quar q)) ho (Pc3.turns_ok hp _)
  exact ⟨⟨a', c', rfl, q1, q2⟩, h2⟩
theorem same_pc (p q : Pc3) (a b : Addr) (c d : Nat) (w : World) (hp : p.Ok) (hs : p.Same q) (hx : Pxs w (some a) (p.W * p.H) p.px) (hy : Pxs w (some b) (q.W * q.H) q.px) :
    Calls Tryd.prog 19 #[.agg #[.int .i64 (p.W : Int), .int .i64 (p.H : Int), .slice (some a) (p.W * p.H) c], .agg #[.int .i64 (q.W : Int), .int .i64 (q.H : Int), .slice (some b) (q.W * q.H) d]] w fun e w' => e = .returned (.bool true) ∧ Ext w w' := by
  rw [← hs.w, ← hs.h] at hy ⊢
  exact same_yes _ _ _ _ _ c d p.px w hx (hy.congr hs.px) (Nat.le_trans (Nat.mul_le_mul hp.w2 hp.h2) (by decide))
end Go.Proofs.YtkfjcgcgfdibaaaDoor
namespace Go.Proofs.YtkfjcgcgfdibaaaDoor
open Go.RowKit
set_option maxRecDepth 100000
theorem told_err (err : Value) (k : Nat) (W H : Int) (x : Option Addr) (n cap : Nat) (w : World) (E : Nat → Addr) (hE : Errs w E) (hv : ErrV w E err ((k : Int) + 1) (-1)) :
    Calls Tryd.prog 22 #[.agg #[.int .i64 0, .int .i64 0, .slice none 0 0], err, .agg #[.int .i64 W, .int .i64 H, .slice x n cap], .int .i64 ((k : Int) + 1)] w fun e w' => e = .returned (.bool true) ∧ Ext w w' := by
  have HE := Lib.hid hE
  have HV := Lib.hid hv
  have t1 : decide ((0 : Int) < (k : Int) + 1) = true := decide_eq_true (by omega)
  clear hE hv
  go_enter Tryd.func22, Tryd.ntmps22
  go_wp2_with fail
  clear t1
  refine calls_world (fun wz => Ext w wz ∧ wz.heap.size = w.heap.size + 1 + 1 ∧ Bk wz (w.heap.size) #[.int .i64 0, .int .i64 0, .slice none 0 0] ∧ Bk wz (w.heap.size + 1) #[.int .i64 W, .int .i64 H, .slice x n cap]) ⟨by repeat (first | exact Ext.refl _ | refine Ext.alloc ?_ _), by simp, by repeat (first | exact Bk.at (by simp) | refine Bk.old ?_), by repeat (first | exact Bk.at (by simp) | refine Bk.old ?_)⟩ ?_
  rintro wa ⟨hX, hZ, hB0, hB1⟩
  have X1 := Lib.hid hX
  have B1 := Lib.hid hB0
  clear hX hZ hB0 hB1
  refine (coded_any _ E (HE.out.ext X1.out) _ _ _ ((k : Int) + 1) (HV.out.ext X1.out)).mono ?_
  rintro e w2 ⟨he, h2⟩
  have X2 := Lib.hid (X1.out.trans h2)
  have B2 := Lib.hid (B1.out.ext h2)
  clear h2
  obtain rfl : e = .returned (.bool true) := by rw [he]; exact ret_bool (by simp)
  clear he
  have c0 := B2.out.cell 0
  have c1 := B2.out.cell 1
  have c2 := B2.out.cell 2
  go_wp2_with fail
  refine (same_yes 0 0 none none 0 0 0 (fun _ => P4.zero) _ ⟨fun _ => rfl, fun a h => by cases h⟩ ⟨fun _ => rfl, fun a h => by cases h⟩ (by decide)).mono ?_
  rintro e w3 ⟨rfl, h3⟩
  have X3 := Lib.hid (X2.out.trans h3)
  clear h3
  clear c0 c1 c2
  go_wp2_with fail
  go_ret
  exact ⟨rfl, X3.out⟩
theorem told_ok (W H : Int) (x y : Option Addr) (n cap cap' : Nat) (px : Nat → P4) (w : World) (hx : Pxs w x n px) (hy : Pxs w y n px) (hn : n ≤ 10000000) :
    Calls Tryd.prog 22 #[.agg #[.int .i64 W, .int .i64 H, .slice x n cap], .nilIface, .agg #[.int .i64 W, .int .i64 H, .slice y n cap'], .int .i64 0] w fun e w' => e = .returned (.bool true) ∧ Ext w w' := by
  have HX := Lib.hid hx
  have HY := Lib.hid hy
  clear hx hy
  go_enter Tryd.func22, Tryd.ntmps22
  go_wp2_with fail
  refine calls_world (fun wz => Ext w wz ∧ wz.heap.size = w.heap.size + 1 + 1 ∧ Bk wz (w.heap.size) #[.int .i64 W, .int .i64 H, .slice x n cap] ∧ Bk wz (w.heap.size + 1) #[.int .i64 W, .int .i64 H, .slice y n cap']) ⟨by repeat (first | exact Ext.refl _ | refine Ext.alloc ?_ _), by simp, by repeat (first | exact Bk.at (by simp) | refine Bk.old ?_), by repeat (first | exact Bk.at (by simp) | refine Bk.old ?_)⟩ ?_
  rintro wa ⟨hX, hZ, hB0, hB1⟩
  have X1 := Lib.hid hX
  clear hX hZ hB0 hB1
  refine (same_yes W H x y n cap cap' px _ (HX.out.ext X1.out) (HY.out.ext X1.out) hn).mono ?_
  rintro e w3 ⟨rfl, h3⟩
  have X3 := Lib.hid (X1.out.trans h3)
  clear h3
  go_wp2_with fail
  go_ret
  exact ⟨rfl, X3.out⟩
def inB (W H x y : Int) : Bool := decide (0 ≤ x ∧ 0 ≤ y ∧ x < W ∧ y < H)
theorem refIn_any (W H : Int) (v : Value) (x y : Int) (w : World) (hv : ∃ a n c, v = .slice a n c) :
    Calls Tryd.prog 25 #[.agg #[.int .i64 W, .int .i64 H, v], .int .i64 x, .int .i64 y] w fun e w' => e = .returned (.bool (inB W H x y)) ∧ Ext w w' := by
  obtain ⟨a, n, c, rfl⟩ := hv
  have HX := Lib.hid ((Ext.refl w).alloc (.cells #[.int .i64 W, .int .i64 H, .slice a n c] 24))
  by_cases h1 : 0 ≤ x
  · have t1 : decide ((0 : Int) ≤ x) = true := decide_eq_true h1
    by_cases h2 : 0 ≤ y
    · have t2 : decide ((0 : Int) ≤ y) = true := decide_eq_true h2
      by_cases h3 : x < W
      · have t3 : decide (x < W) = true := decide_eq_true h3
        go_enter Tryd.func25, Tryd.ntmps25
        go_wp2_with fail
        go_ret
        exact ⟨ret_bool (by unfold inB; rw [Bool.eq_iff_iff]; simp only [decide_eq_true_eq]; exact ⟨fun h => ⟨h1, h2, h3, h⟩, fun h => h.2.2.2⟩), HX.out⟩
      · have t3 : decide (x < W) = false := decide_eq_false h3
        go_enter Tryd.func25, Tryd.ntmps25
        go_wp2_with fail
        go_ret
        exact ⟨ret_bool (by unfold inB; simp; omega), HX.out⟩
    · have t2 : decide ((0 : Int) ≤ y) = false := decide_eq_false h2
      go_enter Tryd.func25, Tryd.ntmps25
      go_wp2_with fail
      go_ret
      exact ⟨ret_bool (by unfold inB; simp; omega), HX.out⟩
  · have t1 : decide ((0 : Int) ≤ x) = false := decide_eq_false h1
    go_enter Tryd.func25, Tryd.ntmps25
    go_wp2_with fail
    go_ret
    exact ⟨ret_bool (by unfold inB; simp; omega), HX.out⟩
theorem in_any (W H : Int) (v : Value) (x y : Int) (w : World) (hv : ∃ a n c, v = .slice a n c) :
    Calls Tryd.prog 62 #[.agg #[.int .i64 W, .int .i64 H, v], .int .i64 x, .int .i64 y] w fun e w' => e = .returned (.bool (inB W H x y)) ∧ Ext w w' := by
  obtain ⟨a, n, c, rfl⟩ := hv
  have HX := Lib.hid ((Ext.refl w).alloc (.cells #[.int .i64 W, .int .i64 H, .slice a n c] 24))
  by_cases h1 : 0 ≤ x
  · have t1 : decide ((0 : Int) ≤ x) = true := decide_eq_true h1
    by_cases h3 : x < W
    · have t3 : decide (x < W) = true := decide_eq_true h3
      by_cases h2 : 0 ≤ y
      · have t2 : decide ((0 : Int) ≤ y) = true := decide_eq_true h2
        go_enter Tryd.func62, Tryd.ntmps62
        go_wp2_with fail
        go_ret
        exact ⟨ret_bool (by unfold inB; rw [Bool.eq_iff_iff]; simp only [decide_eq_true_eq]; exact ⟨fun h => ⟨h1, h2, h3, h⟩, fun h => h.2.2.2⟩), HX.out⟩
      · have t2 : decide ((0 : Int) ≤ y) = false := decide_eq_false h2
        go_enter Tryd.func62, Tryd.ntmps62
        go_wp2_with fail
        go_ret
        exact ⟨ret_bool (by unfold inB; simp; omega), HX.out⟩
    · have t3 : decide (x < W) = false := decide_eq_false h3
      go_enter Tryd.func62, Tryd.ntmps62
      go_wp2_with fail
      go_ret
      exact ⟨ret_bool (by unfold inB; simp; omega), HX.out⟩
  · have t1 : decide ((0 : Int) ≤ x) = false := decide_eq_false h1
    go_enter Tryd.func62, Tryd.ntmps62
    go_wp2_with fail
    go_ret
    exact ⟨ret_bool (by unfold inB; simp; omega), HX.out⟩
theorem at_any (x y W H : Nat) (a : Addr) (c : Nat) (px : Nat → P4) (w : World) (hx : Pxs w (some a) (W * H) px) (hW : W ≤ 256) (hH : H ≤ 256) (hxW : x < W) (hyH : y < H) :
    Calls Tryd.prog 67 #[.agg #[.int .i64 (W : Int), .int .i64 (H : Int), .slice (some a) (W * H) c], .int .i64 (x : Int), .int .i64 (y : Int)] w fun e w' => e = .returned (.agg #[.int .u8 (px (y * W + x)).r, .int .u8 (px (y * W + x)).g, .int .u8 (px (y * W + x)).b, .int .u8 (px (y * W + x)).a]) ∧ Ext w w' := by
  have hi : y * W + x < W * H := mul_lt_of hyH hxW
  obtain ⟨M, hM⟩ : ∃ M, y * W = M := ⟨_, rfl⟩
  have hM1 : M ≤ 65536 := by rw [← hM]; exact Nat.mul_le_mul (show y ≤ 256 by omega) hW
  have hMI : (y : Int) * (W : Int) = (M : Int) := by rw [← hM]; simp
  rw [hM] at hi ⊢
  have hX0 : Ext w ((w.alloc (.cells #[.int .i64 (W : Int), .int .i64 (H : Int), .slice (some a) (W * H) c] 24)).alloc (.cells #[.int .u8 0, .int .u8 0, .int .u8 0, .int .u8 0] 36)) := ((Ext.refl w).alloc _).alloc _
  obtain ⟨c0, c1, c2, c3, _⟩ := (hx.ext hX0).2 a rfl (M + x) hi
  obtain ⟨N, hN⟩ : ∃ N, W * H = N := ⟨_, rfl⟩
  have hNl : N ≤ 65536 := by rw [← hN]; exact Nat.mul_le_mul hW hH
  rw [hN] at hi c0 c1 c2 c3 ⊢
  have MM := Lib.hid hM
  clear hM hN hx hX0
  go_enter Tryd.func67, Tryd.ntmps67
  go_wp2_with fail
  exact bodyPost_ret (v := .agg #[.int .u8 (px (M + x)).r, .int .u8 (px (M + x)).g, .int .u8 (px (M + x)).b, .int .u8 (px (M + x)).a]) (by simp [results, Tryd.results67, go_sem]) rfl ⟨rfl, by repeat (first | exact Ext.refl _ | refine Ext.alloc ?_ _)⟩
end Go.Proofs.YtkfjcgcgfdibaaaDoor
namespace Go.Proofs.YtkfjcgcgfdibaaaDoor
open Go.RowKit
set_option maxRecDepth 100000
def nearB (n : Int) : Bool := decide (-10000 ≤ n ∧ n ≤ 10000)
theorem nearB_yes {n : Int} (h : nearB n = true) : -10000 ≤ n ∧ n ≤ 10000 := of_decide_eq_true h
theorem refNear_any (n : Int) (w : World) : Calls Tryd.prog 29 #[.int .i64 n] w fun e w' => e = .returned (.bool (nearB n)) ∧ w = w' := by
  by_cases h1 : -10000 ≤ n
  · by_cases h2 : n ≤ 10000
    · go_enter Tryd.func29, Tryd.ntmps29
      go_wp2_with fail
      go_ret
      exact ⟨ret_bool (by unfold nearB; simp; omega), rfl⟩
    · go_enter Tryd.func29, Tryd.ntmps29
      go_wp2_with fail
      go_ret
      exact ⟨ret_bool (by unfold nearB; simp; omega), rfl⟩
  · go_enter Tryd.func29, Tryd.ntmps29
    go_wp2_with fail
    go_ret
    exact ⟨ret_bool (by unfold nearB; simp; omega), rfl⟩
theorem near1_any (n : Int) (w : World) : Calls Tryd.prog 98 #[.int .i64 n] w fun e w' => e = .returned (.bool (!nearB n)) ∧ w = w' := by
  by_cases h1 : n < -10000
  · go_enter Tryd.func98, Tryd.ntmps98
    go_wp2_with fail
    go_ret
    exact ⟨ret_bool (by unfold nearB; simp; omega), rfl⟩
  · by_cases h2 : 10000 < n
    · go_enter Tryd.func98, Tryd.ntmps98
      go_wp2_with fail
      go_ret
      exact ⟨ret_bool (by unfold nearB; simp; omega), rfl⟩
    · go_enter Tryd.func98, Tryd.ntmps98
      go_wp2_with fail
      go_ret
      exact ⟨ret_bool (by unfold nearB; simp; omega), rfl⟩
theorem indexN_any (B n c : Nat) (f : Nat → Int) (w : World) (hx : ∀ i, i < n → w.cell? ⟨B, i, none⟩ = some (.int .i64 (f i))) (hn : n ≤ 100) :
    Calls Tryd.prog 114 #[.slice (some ⟨B, 0, none⟩) n c, .func (.func 98) #[] #[]] w fun e w' => (∃ i : Int, e = .returned (.int .i64 i) ∧ ((i = -1 ∧ ∀ j, j < n → nearB (f j) = true) ∨ (0 ≤ i ∧ i ≤ 100 ∧ ∃ j, j < n ∧ nearB (f j) = false))) ∧ w = w' := by
  have HX := Lib.hid hx
  clear hx
  go_enter Tryd.func114, Tryd.ntmps114
  go_wp2
  go_loop [5, 8] (fun _ c => ∃ i : Nat, i ≤ n ∧ c = .int .i64 i ∧ Hid (∀ j, j < i → nearB (f j) = true)) (fun _ c => n - (intOf c).toNat)
  case atStart => exact ⟨0, by omega, rfl, Lib.hid fun j hj => by omega⟩
  case round =>
    obtain ⟨i, hi, rfl, HF⟩ := hrel
    by_cases hlt : i < n
    · have hc := HX.out i hlt
      go_wp2_with fail
      refine (near1_any _ _).mono ?_
      rintro e w1 ⟨rfl, rfl⟩
      cases hb : nearB (f i)
      · have HBAD := Lib.hid hb
        clear hb
        go_wp2_with fail
        go_ret
        exact ⟨⟨i, rfl, .inr ⟨by omega, by omega, i, hlt, HBAD.out⟩⟩, rfl⟩
      · have HBAD := Lib.hid hb
        clear hb
        go_wp2_with fail
        go_round
        case rel =>
          refine ⟨i + 1, by omega, by go_num, Lib.hid fun j hj => ?_⟩
          rcases Nat.lt_succ_iff_lt_or_eq.1 hj with q | rfl
          · exact HF.out j q
          · exact HBAD.out
        case measure => simp [intOf]; omega
    · obtain rfl : i = n := by omega
      go_wp2
      go_ret
      exact ⟨⟨-1, rfl, .inl ⟨rfl, HF.out⟩⟩, rfl⟩
def nearAll (f : Nat → Int) : Nat → Bool
  | 0 => true
  | n + 1 => nearAll f n && nearB (f n)
theorem nearAll_iff (f : Nat → Int) : ∀ n, nearAll f n = true ↔ ∀ j, j < n → nearB (f j) = true := by
  intro n
  induction n with
  | zero => exact ⟨fun _ j hj => by omega, fun _ => rfl⟩
  | succ n ih =>
    simp only [nearAll, Bool.and_eq_true, ih]
    constructor
    · rintro ⟨h1, h2⟩ j hj
      rcases Nat.lt_succ_iff_lt_or_eq.1 hj with q | rfl
      · exact h1 j q
      · exact h2
    · exact fun h => ⟨fun j hj => h j (by omega), h n (by omega)⟩
theorem near_any (B n c : Nat) (f : Nat → Int) (w : World) (hx : ∀ i, i < n → w.cell? ⟨B, i, none⟩ = some (.int .i64 (f i))) (hn : n ≤ 100) :
    Calls Tryd.prog 64 #[.slice (some ⟨B, 0, none⟩) n c] w fun e w' => e = .returned (.bool (nearAll f n)) ∧ w = w' := by
  have HX := Lib.hid hx
  clear hx
  have hcont : ∀ W, W = w → Calls Tryd.prog 97 #[.slice (some ⟨B, 0, none⟩) n c, .func (.func 98) #[] #[]] W fun e w' => e = .returned (.bool (!nearAll f n)) ∧ w = w' := by
    rintro W rfl
    go_enter Tryd.func97, Tryd.ntmps97
    go_wp2_with fail
    refine (indexN_any B n c f _ HX.out hn).mono ?_
    rintro e w2 ⟨⟨i, rfl, hi⟩, rfl⟩
    rcases hi with ⟨rfl, h⟩ | ⟨h1, h2, j, hj, h⟩
    · have HH := Lib.hid ((nearAll_iff f n).2 h)
      clear h
      go_wp2_with fail
      go_ret
      exact ⟨ret_bool (by rw [HH.out]; rfl), rfl⟩
    · have HH : Hid (nearAll f n = false) := Lib.hid (by
        cases q : nearAll f n
        · rfl
        · have := (nearAll_iff f n).1 q j hj
          rw [h] at this; cases this)
      clear h
      go_wp2_with fail
      go_ret
      exact ⟨ret_bool (by rw [HH.out]; rfl), rfl⟩
  have HC := Lib.hid (hcont w rfl)
  clear hcont
  go_enter Tryd.func64, Tryd.ntmps64
  go_wp2_with fail
  refine (HC.out).mono ?_
  rintro e w2 ⟨rfl, rfl⟩
  go_wp2_with fail
  go_ret
  exact ⟨ret_bool (by simp), rfl⟩
end Go.Proofs.YtkfjcgcgfdibaaaDoor
namespace Go.Proofs.YtkfjcgcgfdibaaaDoor
open Go.RowKit
set_option maxRecDepth 100000
theorem plainly_any (w : World) : Calls Tryd.prog 13 #[] w fun e w' => e = .returned (.bool true) ∧ Ext w w' := by
  go_enter Tryd.func13, Tryd.ntmps13
  go_wp2_with fail
  refine (new_good 2 3 ⟨9, 0, 0, 0⟩ _ (by decide) (by decide)).mono ?_
  rintro e w2 ⟨⟨v, rfl, hown⟩, h2⟩
  have hok : ∀ i, i < 2 * 3 → ((fun _ : Nat => (⟨9, 0, 0, 0⟩ : P4)) i).Ok := fun _ _ => show (⟨9, 0, 0, 0⟩ : P4).Ok from ⟨⟨by decide, by decide⟩, ⟨by decide, by decide⟩, ⟨by decide, by decide⟩, ⟨by decide, by decide⟩⟩
  obtain ⟨x, c, rfl, hx, _⟩ := Pxs.of_own hown hok
  obtain ⟨a, rfl⟩ := hx.isSome (show 5 < 2 * 3 by decide)
  obtain ⟨c0, c1, c2, c3, _⟩ := (hx.ext ((Ext.refl w2).alloc (.cells #[.int .i64 2, .int .i64 3, .slice (some a) 6 c] 24))).2 a rfl 5 (by decide)
  have X2 := Lib.hid h2
  clear hown hok hx h2
  have k0 : (w2.alloc (.cells #[.int .i64 2, .int .i64 3, .slice (some a) 6 c] 24)).cell? ⟨a.block, a.off + 20, none⟩ = some (.int .u8 9) := c0
  have k1 : (w2.alloc (.cells #[.int .i64 2, .int .i64 3, .slice (some a) 6 c] 24)).cell? ⟨a.block, a.off + 20 + 1, none⟩ = some (.int .u8 0) := c1
  have k2 : (w2.alloc (.cells #[.int .i64 2, .int .i64 3, .slice (some a) 6 c] 24)).cell? ⟨a.block, a.off + 20 + 2, none⟩ = some (.int .u8 0) := c2
  have k3 : (w2.alloc (.cells #[.int .i64 2, .int .i64 3, .slice (some a) 6 c] 24)).cell? ⟨a.block, a.off + 20 + 3, none⟩ = some (.int .u8 0) := c3
  clear c0 c1 c2 c3
  go_wp2_with fail
  go_ret
  exact ⟨rfl, X2.out.alloc _⟩
end Go.Proofs.YtkfjcgcgfdibaaaDoor
namespace Go.Proofs.YtkfjcgcgfdibaaaDoor
open Go.RowKit
set_option maxRecDepth 100000
theorem run_make_pix (W : World) (n : Nat) (hn : n ≤ 10000000) : (Instr.makeSlice 22 (.int .i64 (n : Int)) (.int .i64 (n : Int))).run Tryd.prog W = .ok (.slice (some ⟨W.heap.size, 0, none⟩) n n) (W.alloc (.cells (madeCells #[Value.int .u8 0, .int .u8 0, .int .u8 0, .int .u8 0] (n * 4)) 36)) := by
  obtain ⟨i0, hi0, hz0, hz1, hz2⟩ := info_parts pixinfo
  have hr := run_make (P := Tryd.prog) W 22 36 i0 _ Tryd.underlying22 hi0 hz0 .i64 .i64 n n (by omega) (by omega) (by rw [hz2]; omega) (by omega)
  simp only [Int.toNat_natCast, hz1] at hr
  exact hr
/-- what Blank and its likes hold: the variable, the row -/
structure CAt (w0 wr : World) (R T g : Nat) (W H : Int) (n : Nat) (px : Nat → P4) : Prop where
  ext : Ext w0 wr
  res : Bk wr R #[.int .i64 0, .int .i64 0, .slice none 0 0]
  bk : Bk wr T #[.int .i64 W, .int .i64 H, .slice (some ⟨g, 0, none⟩) n n]
  row : Po wr g n px
  nT : T ≠ g
  nR : R ≠ g
  gn : w0.heap.size ≤ g
theorem CAt.put {w0 wr : World} {R T g : Nat} {W H : Int} {n : Nat} {px : Nat → P4} (h : CAt w0 wr R T g W H n px) (k : Nat) (p : P4) : CAt w0 (set4 wr g k p) R T g W H n (upd px k p) :=
  ⟨set4_ext h.ext h.gn k p, h.res.keeps (set4_keeps wr g k p) h.nR, h.bk.keeps (set4_keeps wr g k p) h.nT, h.row.put k p, h.nT, h.nR, h.gn⟩
theorem CAt.congr {w0 wr : World} {R T g : Nat} {W H : Int} {n : Nat} {px qx : Nat → P4} (h : CAt w0 wr R T g W H n px) (hq : ∀ i, i < n → qx i = px i) : CAt w0 wr R T g W H n qx := ⟨h.ext, h.res, h.bk, h.row.congr hq, h.nT, h.nR, h.gn⟩
theorem CAt.step {w0 wr w2 : World} {R T g : Nat} {W H : Int} {n : Nat} {px : Nat → P4} (h : CAt w0 wr R T g W H n px) (hE : Ext wr w2) : CAt w0 w2 R T g W H n px := ⟨h.ext.trans hE, h.res.ext hE, h.bk.ext hE, h.row.ext hE, h.nT, h.nR, h.gn⟩
theorem CAt.drew {w0 wr : World} {R T g : Nat} {W H : Int} {n : Nat} {px : Nat → P4} (h : CAt w0 wr R T g W H n px) : CAt w0 wr.drew R T g W H n px := ⟨h.ext.drew, h.res, h.bk, h.row, h.nT, h.nR, h.gn⟩
theorem CAt.drewN {w0 wr : World} {R T g : Nat} {W H : Int} {n : Nat} {px : Nat → P4} (h : CAt w0 wr R T g W H n px) (m : Nat) : CAt w0 (wr.drewN m) R T g W H n px := ⟨h.ext.drewN m, h.res, h.bk, h.row, h.nT, h.nR, h.gn⟩
/-- its end: the result's variable is filled -/
theorem CAt.close {w0 wr : World} {R T g : Nat} {W H : Int} {n : Nat} {px : Nat → P4} (h : CAt w0 wr R T g W H n px) (hR : w0.heap.size ≤ R) :
    let wz := ((wr.setCell ⟨R, 0, none⟩ (.int .i64 W)).setCell ⟨R, 1, none⟩ (.int .i64 H)).setCell ⟨R, 2, none⟩ (.slice (some ⟨g, 0, none⟩) n n)
    wz.cell? ⟨R, 0, none⟩ = some (.int .i64 W) ∧ wz.cell? ⟨R, 1, none⟩ = some (.int .i64 H) ∧ wz.cell? ⟨R, 2, none⟩ = some (.slice (some ⟨g, 0, none⟩) n n) ∧ Po wz g n px ∧ Ext w0 wz := by
  obtain ⟨k0, k1, k2⟩ := h.res.pic.set (W' := W) (H' := H) (v' := .slice (some ⟨g, 0, none⟩) n n)
  exact ⟨k0, k1, k2, ((h.row.far h.nR _).far h.nR _).far h.nR _, h.ext.set3 hR _ _ _⟩
theorem blank_any (W H : Nat) (p : P4) (w : World) (hW : 1 ≤ W ∧ W ≤ 256) (hH : 1 ≤ H ∧ H ≤ 256) :
    Calls Tryd.prog 23 #[.int .i64 (W : Int), .int .i64 (H : Int), .agg #[.int .u8 p.r, .int .u8 p.g, .int .u8 p.b, .int .u8 p.a]] w fun e w' => (∃ g, e = .returned (.agg #[.int .i64 (W : Int), .int .i64 (H : Int), .slice (some ⟨g, 0, none⟩) (W * H) (W * H)]) ∧ Po w' g (W * H) (fun _ => p) ∧ w.heap.size ≤ g) ∧ Ext w w' := by
  obtain ⟨hW1, hW2⟩ := hW
  obtain ⟨hH1, hH2⟩ := hH
  have hWHI : (W : Int) * (H : Int) = ((W * H : Nat) : Int) := by simp
  obtain ⟨N, hN⟩ : ∃ N, W * H = N := ⟨_, rfl⟩
  have hNl : N ≤ 65536 := by rw [← hN]; exact Nat.mul_le_mul hW2 hH2
  rw [hN] at hWHI ⊢
  have hmk := fun W : World => run_make_pix W N (by omega)
  have NN := Lib.hid hN
  clear hN
  go_enter Tryd.func23, Tryd.ntmps23
  go_wp2_with fail
  clear hmk hWHI
  refine wp_world (fun wz => Ext w wz ∧ wz.heap.size = w.heap.size + 1 + 1 + 1 + 1 ∧ Bk wz (w.heap.size) #[.int .u8 p.r, .int .u8 p.g, .int .u8 p.b, .int .u8 p.a] ∧ Bk wz (w.heap.size + 1) #[.int .i64 0, .int .i64 0, .slice none 0 0] ∧ Bk wz (w.heap.size + 1 + 1) (madeCells #[Value.int .u8 0, .int .u8 0, .int .u8 0, .int .u8 0] (N * 4)) ∧ Bk wz (w.heap.size + 1 + 1 + 1) #[.int .i64 (W : Int), .int .i64 (H : Int), .slice (some ⟨w.heap.size + 1 + 1, 0, none⟩) N N]) ⟨by repeat (first | exact Ext.refl _ | refine Ext.alloc ?_ _), by simp, by repeat (first | exact Bk.at (by simp) | refine Bk.old ?_), by repeat (first | exact Bk.at (by simp) | refine Bk.old ?_), by repeat (first | exact Bk.at (by simp) | refine Bk.old ?_), by repeat (first | exact Bk.at (by simp) | refine Bk.old ?_)⟩ ?_
  rintro wa ⟨hX, hZ, hB0, hB1, hB2, hB3⟩
  have CA : Hid (CAt w wa (w.heap.size + 1) (w.heap.size + 1 + 1 + 1) (w.heap.size + 1 + 1) (W : Int) (H : Int) N (fun i => if i < 0 then p else P4.zero)) := Lib.hid (CAt.congr ⟨hX, hB1, hB3, Po.of_bk hB2, by omega, by omega, by omega⟩ (fun i _ => by rw [if_neg (by omega)]))
  have PB := Lib.hid hB0
  clear hX hZ hB0 hB1 hB2 hB3
  go_loopw [8] (fun c wr => ∃ i : Nat, i ≤ N ∧ c = .int .i64 i ∧ Hid (CAt w wr (w.heap.size + 1) (w.heap.size + 1 + 1 + 1) (w.heap.size + 1 + 1) (W : Int) (H : Int) N (fun j => if j < i then p else P4.zero)) ∧ Hid (Bk wr w.heap.size #[.int .u8 p.r, .int .u8 p.g, .int .u8 p.b, .int .u8 p.a])) (fun c _ => N - (intOf c).toNat)
  case atStart => exact ⟨0, by omega, rfl, CA, PB⟩
  case round =>
    clear CA PB
    obtain ⟨i, hi, rfl, CA, PB⟩ := hrel
    have b2 := CA.out.bk.cell 2
    by_cases hlt : i < N
    · have p0 := PB.out.cell 0
      have p1 := PB.out.cell 1
      have p2 := PB.out.cell 2
      have p3 := PB.out.cell 3
      obtain ⟨r0, f0⟩ := CA.out.row (i * 4) (by omega)
      obtain ⟨r1, f1⟩ := CA.out.row (i * 4 + 1) (by omega)
      obtain ⟨r2, f2⟩ := CA.out.row (i * 4 + 2) (by omega)
      obtain ⟨r3, f3⟩ := CA.out.row (i * 4 + 3) (by omega)
      rw [cellP_0] at r0
      rw [cellP_1] at r1
      rw [cellP_2] at r2
      rw [cellP_3] at r3
      go_wp2_with fail
      refine ⟨⟨i + 1, by omega, by go_num, Lib.hid (CAt.congr (CA.out.put i p) fun j _ => ?_), Lib.hid (PB.out.keeps (set4_keeps wr (w.heap.size + 1 + 1) i p) (by show ¬ w.heap.size = w.heap.size + 1 + 1; omega))⟩, by simp [intOf]; omega⟩
      simp only [upd]
      by_cases e : j = i
      · subst e; rw [if_pos rfl, if_pos (by omega)]
      · rw [if_neg e]
        by_cases e2 : j < i
        · rw [if_pos e2, if_pos (by omega)]
        · rw [if_neg e2, if_neg (by omega)]
    · obtain rfl : i = N := by omega
      have b0 := CA.out.bk.cell 0
      have b1 := CA.out.bk.cell 1
      have d0 := CA.out.res.cell 0
      have d1 := CA.out.res.cell 1
      have d2 := CA.out.res.cell 2
      have e0 := CA.out.res.frozen 0
      have e1 := CA.out.res.frozen 1
      have e2 := CA.out.res.frozen 2
      have PC := Lib.hid (CA.out.close (by omega : w.heap.size ≤ w.heap.size + 1))
      go_wp2_with fail
      obtain ⟨k0, k1, k2, hP, hX⟩ := PC.out
      exact bodyPost_ret (v := .agg #[.int .i64 (W : Int), .int .i64 (H : Int), .slice (some ⟨w.heap.size + 1 + 1, 0, none⟩) i i]) (by simp [results, Tryd.results23, go_sem, k0, k1, k2]) rfl ⟨⟨_, rfl, hP.congr fun j hj => by rw [if_pos hj], by omega⟩, hX⟩
theorem new_bad (W H : Int) (r g b a : Int) (w : World) (E : Nat → Addr) (hE : Errs w E) (h : sideB W = false ∨ sideB H = false) :
    Calls Tryd.prog 20 #[.int .i64 W, .int .i64 H, .agg #[.int .u8 r, .int .u8 g, .int .u8 b, .int .u8 a]] w fun e w' => e = .returned (.tuple #[.agg #[.int .i64 0, .int .i64 0, .slice none 0 0], .iface 171 (.pointer (some (E 1)))]) ∧ Ext w w' := by
  have HE := Lib.hid hE
  have HS : Hid (sideB W = false ∨ (sideB W = true ∧ sideB H = false)) := Lib.hid (by
    cases h1 : sideB W
    · exact .inl rfl
    · rcases h with h | h
      · rw [h1] at h; cases h
      · exact .inr ⟨rfl, h⟩)
  clear hE h
  go_enter Tryd.func20, Tryd.ntmps20
  go_wp2_with fail
  refine calls_world (fun wz => Ext w wz ∧ wz.heap.size = w.heap.size + 1 + 1 ∧ Bk wz (w.heap.size) #[.int .u8 r, .int .u8 g, .int .u8 b, .int .u8 a] ∧ Bk wz (w.heap.size + 1) #[.int .i64 0, .int .i64 0, .slice none 0 0]) ⟨by repeat (first | exact Ext.refl _ | refine Ext.alloc ?_ _), by simp, by repeat (first | exact Bk.at (by simp) | refine Bk.old ?_), by repeat (first | exact Bk.at (by simp) | refine Bk.old ?_)⟩ ?_
  rintro wa ⟨hX, hZ, hB0, hB1⟩
  have X1 := Lib.hid hX
  have B1 := Lib.hid hB1
  clear hX hZ hB0 hB1
  have hv := (HE.out.ext X1.out).var 1 (by decide)
  simp only [gk, sentV] at hv
  have d0 := B1.out.cell 0
  have d1 := B1.out.cell 1
  have d2 := B1.out.cell 2
  have e0 := B1.out.frozen 0
  have e1 := B1.out.frozen 1
  have e2 := B1.out.frozen 2
  have FR := Lib.hid (show Ext w _ from X1.out.set3 (b := w.heap.size + 1) (by omega) (.int .i64 0) (.int .i64 0) (.slice none 0 0))
  have PR := Lib.hid (B1.out.pic.set (W' := 0) (H' := 0) (v' := .slice none 0 0))
  refine (side_any _ _).mono ?_
  rintro e w2 ⟨rfl, rfl⟩
  rcases HS.out with h | ⟨h, h'⟩
  · rw [h]
    clear h
    go_wp2_with fail
    go_region
    all_goals go_wp2_with fail
    all_goals
      obtain ⟨k0, k1, k2⟩ := PR.out
      exact bodyPost_ret (v := .tuple #[.agg #[.int .i64 0, .int .i64 0, .slice none 0 0], .iface 171 (.pointer (some (E 1)))]) (by simp [results, Tryd.results20, go_sem, k0, k1, k2]) rfl ⟨rfl, FR.out.drew⟩
  · rw [h]
    clear h
    have H' := Lib.hid h'
    clear h'
    go_wp2_with fail
    refine (side_any _ _).mono ?_
    rintro e w2 ⟨rfl, rfl⟩
    rw [H'.out]
    go_wp2_with fail
    go_region
    all_goals go_wp2_with fail
    all_goals
      obtain ⟨k0, k1, k2⟩ := PR.out
      exact bodyPost_ret (v := .tuple #[.agg #[.int .i64 0, .int .i64 0, .slice none 0 0], .iface 171 (.pointer (some (E 1)))]) (by simp [results, Tryd.results20, go_sem, k0, k1, k2]) rfl ⟨rfl, FR.out.drew⟩
end Go.Proofs.YtkfjcgcgfdibaaaDoor
namespace Go.Proofs.YtkfjcgcgfdibaaaDoor
open Go.RowKit
set_option maxRecDepth 100000
/-- a result's pixel, filled -/
theorem res4 {w0 w : World} {R : Nat} {a b c d : Value} {r g bb aa : Int} (h : Bk w R #[a, b, c, d]) (hX : Ext w0 w) (hR : w0.heap.size ≤ R) :
    let wz := (((w.setCell ⟨R, 0, none⟩ (.int .u8 r)).setCell ⟨R, 1, none⟩ (.int .u8 g)).setCell ⟨R, 2, none⟩ (.int .u8 bb)).setCell ⟨R, 3, none⟩ (.int .u8 aa)
    wz.cell? ⟨R, 0, none⟩ = some (.int .u8 r) ∧ wz.cell? ⟨R, 1, none⟩ = some (.int .u8 g) ∧ wz.cell? ⟨R, 2, none⟩ = some (.int .u8 bb) ∧ wz.cell? ⟨R, 3, none⟩ = some (.int .u8 aa) ∧ Ext w0 wz := by
  have q := (((h.set_ 0 (.int .u8 r)).set_ 1 (.int .u8 g)).set_ 2 (.int .u8 bb)).set_ 3 (.int .u8 aa)
  exact ⟨q.cell 0, q.cell 1, q.cell 2, q.cell 3, (((Below.setCell hX hR _).setCell hR _).setCell hR _).setCell hR _⟩
theorem at_shape (W H : Int) (x : Option Addr) (n cap : Nat) (u v : Int) (w : World) (E : Nat → Addr) (hE : Errs w E) (h : rightB W H n = false) :
    Calls Tryd.prog 24 #[.agg #[.int .i64 W, .int .i64 H, .slice x n cap], .int .i64 u, .int .i64 v] w fun e w' => e = .returned (.tuple #[.agg #[.int .u8 0, .int .u8 0, .int .u8 0, .int .u8 0], .iface 171 (.pointer (some (E 2)))]) ∧ Ext w w' := by
  have HE := Lib.hid hE
  have HR := Lib.hid h
  clear hE h
  go_enter Tryd.func24, Tryd.ntmps24
  go_wp2_with fail
  refine wp_world (fun wz => Ext w wz ∧ wz.heap.size = w.heap.size + 1 + 1 ∧ Bk wz (w.heap.size) #[.int .i64 W, .int .i64 H, .slice x n cap] ∧ Bk wz (w.heap.size + 1) #[.int .u8 0, .int .u8 0, .int .u8 0, .int .u8 0]) ⟨by repeat (first | exact Ext.refl _ | refine Ext.alloc ?_ _), by simp, by repeat (first | exact Bk.at (by simp) | refine Bk.old ?_), by repeat (first | exact Bk.at (by simp) | refine Bk.old ?_)⟩ ?_
  rintro wr ⟨hX, hZ, hB0, hB1⟩
  have q0 := hB0.cell 0
  have q1 := hB0.cell 1
  have q2 := hB0.cell 2
  have B0 := Lib.hid hB0
  have B1 := Lib.hid hB1
  have XR := Lib.hid hX
  have SZ := Lib.hid hZ
  clear hX hZ hB0 hB1
  go_region_held3 (fun w' => w'.cell? ⟨w.heap.size, 0, none⟩ = some (.int .i64 W) ∧ w'.cell? ⟨w.heap.size, 1, none⟩ = some (.int .i64 H) ∧ w'.cell? ⟨w.heap.size, 2, none⟩ = some (.slice x n cap)) (first | exact ⟨q0, q1, q2⟩ | exact ⟨(B0.out.ext hb).cell 0, (B0.out.ext hb).cell 1, (B0.out.ext hb).cell 2⟩ | exact ⟨(B0.out.ext ha).cell 0, (B0.out.ext ha).cell 1, (B0.out.ext ha).cell 2⟩)
    (first
      | ((go_at_call 62; refine (in_any W H (.slice x n cap) u v _ ⟨_, _, _, rfl⟩).mono ?_; rintro e w5 ⟨rfl, hx⟩; have ha : Ext wr w5 := ⟨hx.os, hx.tape, hx.output, hx.size, hx.block⟩; clear hx))
      | ((go_at_call 55; refine (check_shape W H x n cap _ _ E (HE.out.ext (Ext.trans XR.out ha)) HR.out).mono ?_; rintro e w6 ⟨rfl, hx⟩; have hb : Ext wr w6 := Ext.trans ha hx; clear hx)))
  have XS := Lib.hid (Ext.trans XR.out hb)
  have BS := Lib.hid (B0.out.ext hb)
  have RS := Lib.hid (B1.out.ext hb)
  clear q0 q1 q2 ha hb
  have d0 := RS.out.cell 0
  have d1 := RS.out.cell 1
  have d2 := RS.out.cell 2
  have d3 := RS.out.cell 3
  have e0 := RS.out.frozen 0
  have e1 := RS.out.frozen 1
  have e2 := RS.out.frozen 2
  have e3 := RS.out.frozen 3
  go_wp2_with fail
  obtain ⟨k0, k1, k2, k3, hX⟩ := res4 (r := 0) (g := 0) (bb := 0) (aa := 0) RS.out XS.out (show w.heap.size ≤ w.heap.size + 1 by omega)
  exact bodyPost_ret (v := .tuple #[.agg #[.int .u8 0, .int .u8 0, .int .u8 0, .int .u8 0], .iface 171 (.pointer (some (E 2)))]) (by simp [results, Tryd.results24, go_sem, k0, k1, k2, k3]) rfl ⟨rfl, hX⟩
theorem at_bound (W H : Int) (x : Option Addr) (n cap : Nat) (u v : Int) (w : World) (E : Nat → Addr) (hE : Errs w E) (h : rightB W H n = true) (hi : inB W H u v = false) :
    Calls Tryd.prog 24 #[.agg #[.int .i64 W, .int .i64 H, .slice x n cap], .int .i64 u, .int .i64 v] w fun e w' => e = .returned (.tuple #[.agg #[.int .u8 0, .int .u8 0, .int .u8 0, .int .u8 0], .iface 171 (.pointer (some (E 1)))]) ∧ Ext w w' := by
  have HE := Lib.hid hE
  have HR := Lib.hid h
  have HI := Lib.hid hi
  clear hE h hi
  go_enter Tryd.func24, Tryd.ntmps24
  go_wp2_with fail
  refine wp_world (fun wz => Ext w wz ∧ wz.heap.size = w.heap.size + 1 + 1 ∧ Bk wz (w.heap.size) #[.int .i64 W, .int .i64 H, .slice x n cap] ∧ Bk wz (w.heap.size + 1) #[.int .u8 0, .int .u8 0, .int .u8 0, .int .u8 0]) ⟨by repeat (first | exact Ext.refl _ | refine Ext.alloc ?_ _), by simp, by repeat (first | exact Bk.at (by simp) | refine Bk.old ?_), by repeat (first | exact Bk.at (by simp) | refine Bk.old ?_)⟩ ?_
  rintro wr ⟨hX, hZ, hB0, hB1⟩
  have q0 := hB0.cell 0
  have q1 := hB0.cell 1
  have q2 := hB0.cell 2
  have B0 := Lib.hid hB0
  have B1 := Lib.hid hB1
  have XR := Lib.hid hX
  have SZ := Lib.hid hZ
  clear hX hZ hB0 hB1
  go_region_held3 (fun w' => w'.cell? ⟨w.heap.size, 0, none⟩ = some (.int .i64 W) ∧ w'.cell? ⟨w.heap.size, 1, none⟩ = some (.int .i64 H) ∧ w'.cell? ⟨w.heap.size, 2, none⟩ = some (.slice x n cap)) (first | exact ⟨q0, q1, q2⟩ | exact ⟨(B0.out.ext hb).cell 0, (B0.out.ext hb).cell 1, (B0.out.ext hb).cell 2⟩ | exact ⟨(B0.out.ext ha).cell 0, (B0.out.ext ha).cell 1, (B0.out.ext ha).cell 2⟩)
    (first
      | ((go_at_call 62; refine (in_any W H (.slice x n cap) u v _ ⟨_, _, _, rfl⟩).mono ?_; rintro e w5 ⟨rfl, hx⟩; have ha : Ext wr w5 := ⟨hx.os, hx.tape, hx.output, hx.size, hx.block⟩; clear hx; rw [HI.out]))
      | ((go_at_call 55; refine (check_bound W H x n cap _ E (HE.out.ext (Ext.trans XR.out ha)) HR.out).mono ?_; rintro e w6 ⟨rfl, hx⟩; have hb : Ext wr w6 := Ext.trans ha hx; clear hx)))
  have XS := Lib.hid (Ext.trans XR.out hb)
  have BS := Lib.hid (B0.out.ext hb)
  have RS := Lib.hid (B1.out.ext hb)
  clear q0 q1 q2 ha hb
  have d0 := RS.out.cell 0
  have d1 := RS.out.cell 1
  have d2 := RS.out.cell 2
  have d3 := RS.out.cell 3
  have e0 := RS.out.frozen 0
  have e1 := RS.out.frozen 1
  have e2 := RS.out.frozen 2
  have e3 := RS.out.frozen 3
  go_wp2_with fail
  obtain ⟨k0, k1, k2, k3, hX⟩ := res4 (r := 0) (g := 0) (bb := 0) (aa := 0) RS.out XS.out (show w.heap.size ≤ w.heap.size + 1 by omega)
  exact bodyPost_ret (v := .tuple #[.agg #[.int .u8 0, .int .u8 0, .int .u8 0, .int .u8 0], .iface 171 (.pointer (some (E 1)))]) (by simp [results, Tryd.results24, go_sem, k0, k1, k2, k3]) rfl ⟨rfl, hX⟩
theorem rat_ok (W H u v : Nat) (a : Addr) (c : Nat) (px : Nat → P4) (w : World) (hr : rightB (W : Int) (H : Int) (W * H) = true) (hx : Pxs w (some a) (W * H) px) (hu : u < W) (hv : v < H) :
    Calls Tryd.prog 24 #[.agg #[.int .i64 (W : Int), .int .i64 (H : Int), .slice (some a) (W * H) c], .int .i64 (u : Int), .int .i64 (v : Int)] w fun e w' => e = .returned (.tuple #[.agg #[.int .u8 (px (v * W + u)).r, .int .u8 (px (v * W + u)).g, .int .u8 (px (v * W + u)).b, .int .u8 (px (v * W + u)).a], .nilIface]) ∧ Ext w w' := by
  have HR := Lib.hid hr
  have HI : Hid (inB (W : Int) (H : Int) (u : Int) (v : Int) = true) := Lib.hid (decide_eq_true ⟨by omega, by omega, by omega, by omega⟩)
  have HX := Lib.hid hx
  obtain ⟨W', H', q1, q2, hW1, hW2, hH1, hH2, _⟩ := rightB_yes hr
  obtain rfl : W' = W := by omega
  obtain rfl : H' = H := by omega
  have hi : v * W' + u < W' * H' := mul_lt_of hv hu
  obtain ⟨M, hM⟩ : ∃ M, v * W' = M := ⟨_, rfl⟩
  have hM1 : M ≤ 65536 := by rw [← hM]; exact Nat.mul_le_mul (show v ≤ 256 by omega) hW2
  have hMI : (v : Int) * (W' : Int) = (M : Int) := by rw [← hM]; simp
  rw [hM] at hi ⊢
  obtain ⟨N, hN⟩ : ∃ N, W' * H' = N := ⟨_, rfl⟩
  have hNl : N ≤ 65536 := by rw [← hN]; exact Nat.mul_le_mul hW2 hH2
  rw [hN] at hi HX HR ⊢
  have MM := Lib.hid hM
  have NN := Lib.hid hN
  have MI := Lib.hid hMI
  clear hM hN hx hr q1 q2 hMI
  go_enter Tryd.func24, Tryd.ntmps24
  go_wp2_with fail
  refine wp_world (fun wz => Ext w wz ∧ wz.heap.size = w.heap.size + 1 + 1 ∧ Bk wz (w.heap.size) #[.int .i64 (W' : Int), .int .i64 (H' : Int), .slice (some a) N c] ∧ Bk wz (w.heap.size + 1) #[.int .u8 0, .int .u8 0, .int .u8 0, .int .u8 0]) ⟨by repeat (first | exact Ext.refl _ | refine Ext.alloc ?_ _), by simp, by repeat (first | exact Bk.at (by simp) | refine Bk.old ?_), by repeat (first | exact Bk.at (by simp) | refine Bk.old ?_)⟩ ?_
  rintro wr ⟨hX, hZ, hB0, hB1⟩
  have q0 := hB0.cell 0
  have q1 := hB0.cell 1
  have q2 := hB0.cell 2
  have B0 := Lib.hid hB0
  have B1 := Lib.hid hB1
  have XR := Lib.hid hX
  have SZ := Lib.hid hZ
  clear hX hZ hB0 hB1
  go_region_held3 (fun w' => w'.cell? ⟨w.heap.size, 0, none⟩ = some (.int .i64 (W' : Int)) ∧ w'.cell? ⟨w.heap.size, 1, none⟩ = some (.int .i64 (H' : Int)) ∧ w'.cell? ⟨w.heap.size, 2, none⟩ = some (.slice (some a) N c)) (first | exact ⟨q0, q1, q2⟩ | exact ⟨(B0.out.ext hb).cell 0, (B0.out.ext hb).cell 1, (B0.out.ext hb).cell 2⟩ | exact ⟨(B0.out.ext ha).cell 0, (B0.out.ext ha).cell 1, (B0.out.ext ha).cell 2⟩)
    (first
      | ((go_at_call 62; refine (in_any _ _ (.slice (some a) N c) _ _ _ ⟨_, _, _, rfl⟩).mono ?_; rintro e w5 ⟨rfl, hx⟩; have ha : Ext wr w5 := ⟨hx.os, hx.tape, hx.output, hx.size, hx.block⟩; clear hx; rw [HI.out]))
      | ((go_at_call 55; refine (check_ok _ _ _ _ _ _ HR.out).mono ?_; rintro e w6 ⟨rfl, hx⟩; have hb : Ext wr w6 := Ext.trans ha hx; clear hx)))
  have XS := Lib.hid (Ext.trans XR.out hb)
  have BS := Lib.hid (B0.out.ext hb)
  have RS := Lib.hid (B1.out.ext hb)
  clear q0 q1 q2 ha hb
  have hMI := MI.out
  have p0 := BS.out.cell 0
  have p1 := BS.out.cell 1
  have p2 := BS.out.cell 2
  obtain ⟨c0, c1, c2, c3, _⟩ := (HX.out.ext XS.out).2 a rfl (M + u) hi
  have d0 := RS.out.cell 0
  have d1 := RS.out.cell 1
  have d2 := RS.out.cell 2
  have d3 := RS.out.cell 3
  have e0 := RS.out.frozen 0
  have e1 := RS.out.frozen 1
  have e2 := RS.out.frozen 2
  have e3 := RS.out.frozen 3
  go_wp2_with fail
  obtain ⟨k0, k1, k2, k3, hX⟩ := res4 (r := (px (M + u)).r) (g := (px (M + u)).g) (bb := (px (M + u)).b) (aa := (px (M + u)).a) RS.out XS.out (show w.heap.size ≤ w.heap.size + 1 by omega)
  exact bodyPost_ret (v := .tuple #[.agg #[.int .u8 (px (M + u)).r, .int .u8 (px (M + u)).g, .int .u8 (px (M + u)).b, .int .u8 (px (M + u)).a], .nilIface]) (by simp [results, Tryd.results24, go_sem, k0, k1, k2, k3]) rfl ⟨rfl, hX⟩
theorem own_x (W H : Int) (x : Option Addr) (n cap : Nat) (px : Nat → P4) (w : World) (hx : Pxs w x n px) (h0 : x = none → cap = 0) (hn : n ≤ 10000000) :
    Calls Tryd.prog 17 #[.agg #[.int .i64 W, .int .i64 H, .slice x n cap]] w fun e w' => (∃ ox oc, e = .returned (.agg #[.int .i64 W, .int .i64 H, .slice ox n oc]) ∧ Pxs w' ox n px ∧ (ox = none → oc = 0)) ∧ Ext w w' := by
  have hok : ∀ i, i < n → (px i).Ok := by
    intro i hi
    obtain ⟨a, rfl⟩ := hx.isSome hi
    exact (hx.2 a rfl i hi).2.2.2.2
  refine (own_any W H x n cap px w hx h0 hn).mono ?_
  rintro e w2 ⟨⟨v, rfl, ho⟩, h2⟩
  rcases ownsRow_slice ho with ⟨rfl, h0⟩ | ⟨g, c, rfl⟩
  · subst h0
    exact ⟨⟨none, 0, rfl, ⟨fun _ => rfl, fun a h => by cases h⟩, fun _ => rfl⟩, h2⟩
  · exact ⟨⟨some ⟨g, 0, none⟩, c, rfl, (Po.of_own ho).pxs hok, fun h => by cases h⟩, h2⟩
end Go.Proofs.YtkfjcgcgfdibaaaDoor
