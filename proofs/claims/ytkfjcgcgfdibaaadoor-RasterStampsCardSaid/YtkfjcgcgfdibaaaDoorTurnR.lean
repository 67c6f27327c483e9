/- raster.own, Turn. -/
import Derived.Test.YtkfjcgcgfdibaaaDoorFlip3
namespace Go.Proofs.YtkfjcgcgfdibaaaDoor
open Go.RowKit
set_option maxRecDepth 100000
theorem owns_empty (w : World) (e : TypeId) (size : Nat) : (w.alloc (.cells #[] e)).ownsRow w.heap.size e size (.slice (some ⟨w.heap.size, 0, none⟩) 0 0) 0 [] :=
  ⟨by simp, .inr ⟨w.heap.size, 0, #[], rfl, Nat.le_refl _, heap_alloc_new w _, Nat.le_refl _, by unfold maxLen; omega, by simp, by simp⟩⟩
theorem clone_any (x : Option Addr) (n cap : Nat) (px : Nat → P4) (w : World) (hx : Pxs w x n px) (h0 : x = none → cap = 0) (hn : n ≤ 10000000) :
    Calls Tryd.prog 94 #[.slice x n cap] w fun e w' => (∃ v, e = .returned v ∧ w'.ownsRow w.heap.size 36 4 v n (pxV n px)) ∧ Ext w w' := by
  obtain ⟨i0, hi0, hz0, hz1, hz2⟩ := info_parts pixinfo
  have HX := Lib.hid hx
  clear hx
  cases x with
  | none =>
    obtain rfl := HX.out.1 rfl
    obtain rfl := h0 rfl
    have hnil := fun W : World => Lib.run_eql_slice_nil (P := Tryd.prog) W 22 36 none 0 0 0 0 Tryd.underlying22
    go_enter Tryd.func94, Tryd.ntmps94
    go_wp2_with fail
    go_ret
    exact ⟨⟨_, rfl, World.ownsRow_nil _ _ _ _⟩, Ext.refl _⟩
  | some a =>
    have HXA := Lib.hid (HX.out.ext ((Ext.refl w).alloc (.cells #[] 36)))
    have hnil := fun W : World => Lib.run_eql_slice_nil (P := Tryd.prog) W 22 36 (some a) n cap 0 0 Tryd.underlying22
    go_enter Tryd.func94, Tryd.ntmps94
    go_wp2_with (at_builtin; refine wpList_append_own_at _ rfl _ _ 22 rfl w.heap.size 36 i0 _ 4 4 Tryd.underlying22 hi0 hz0 hz1 hz2 rfl (by decide) (.slice (some ⟨w.heap.size, 0, none⟩) 0 0) 0 [] rfl (owns_empty _ _ _) a n cap (pxV n px) rfl (pxV_length _ _) HXA.out.cells (cells_one _ _) ?c3 ?c4 ?c5 ?_)
    case c3 => unfold maxLen; omega
    case c4 => omega
    case c5 => simp
    intro v' w1 hown hgrow _ _
    have hE : Ext w w1 := by
      have h1 : Ext w (w.alloc (.cells #[] 36)) := (Ext.refl w).alloc _
      exact Below.trans h1 ((Keeps.grown hgrow).below h1.size (fun k hk q => by injection q with q; subst q; exact Nat.lt_irrefl _ hk))
    have HO := Lib.hid hown
    have HE := Lib.hid hE
    clear hown hgrow hE
    go_wp2_with fail
    go_ret
    refine ⟨⟨v', rfl, ?_⟩, HE.out⟩
    have := HO.out
    simpa using this
theorem rown_any (W H : Int) (x : Option Addr) (n cap : Nat) (px : Nat → P4) (w : World) (hx : Pxs w x n px) (h0 : x = none → cap = 0) (hn : n ≤ 10000000) :
    Calls Tryd.prog 58 #[.agg #[.int .i64 W, .int .i64 H, .slice x n cap]] w fun e w' => (∃ v, e = .returned (.agg #[.int .i64 W, .int .i64 H, v]) ∧ w'.ownsRow w.heap.size 36 4 v n (pxV n px)) ∧ Ext w w' := by
  have HX := Lib.hid hx
  clear hx
  go_enter Tryd.func58, Tryd.ntmps58
  go_wp2_with fail
  refine wp_world (fun wz => Ext w wz ∧ wz.heap.size = w.heap.size + 1 + 1 ∧ Bk wz (w.heap.size) #[.int .i64 W, .int .i64 H, .slice x n cap] ∧ Bk wz (w.heap.size + 1) #[.int .i64 0, .int .i64 0, .slice none 0 0]) ⟨by repeat (first | exact Ext.refl _ | refine Ext.alloc ?_ _), by simp, by repeat (first | exact Bk.at (by simp) | refine Bk.old ?_), by repeat (first | exact Bk.at (by simp) | refine Bk.old ?_)⟩ ?_
  rintro wr ⟨hX, hZ, hB0, hB1⟩
  have q0 := hB0.cell 0
  have q1 := hB0.cell 1
  have q2 := hB0.cell 2
  have B1 := Lib.hid hB1
  have XR := Lib.hid hX
  have ZR := Lib.hid hZ
  have B0 := Lib.hid hB0
  have HXR := Lib.hid (HX.out.ext hX)
  clear hB1 hX hZ hB0
  go_region_held3 (fun w' => w'.cell? ⟨w.heap.size, 0, none⟩ = some (.int .i64 W) ∧ w'.cell? ⟨w.heap.size, 1, none⟩ = some (.int .i64 H) ∧ w'.cell? ⟨w.heap.size, 2, none⟩ = some (.slice x n cap)) (first | exact ⟨q0, q1, q2⟩ | exact ⟨(B0.out.ext hE).cell 0, (B0.out.ext hE).cell 1, (B0.out.ext hE).cell 2⟩ | exact ⟨(((((B0.out.ext hE).far (Nat.ne_of_lt (Nat.lt_succ_self _)) _).far (Nat.ne_of_lt (Nat.lt_succ_self _)) _).far (Nat.ne_of_lt (Nat.lt_succ_self _)) _).cell 0), (((((B0.out.ext hE).far (Nat.ne_of_lt (Nat.lt_succ_self _)) _).far (Nat.ne_of_lt (Nat.lt_succ_self _)) _).far (Nat.ne_of_lt (Nat.lt_succ_self _)) _).cell 1), (((((B0.out.ext hE).far (Nat.ne_of_lt (Nat.lt_succ_self _)) _).far (Nat.ne_of_lt (Nat.lt_succ_self _)) _).far (Nat.ne_of_lt (Nat.lt_succ_self _)) _).cell 2)⟩)
    (first
      | ((refine (clone_any x n cap px _ (HXR.out.ext (Below.drew (Ext.refl wr))) h0 hn).mono ?_; rintro e w3 ⟨⟨v, rfl, hown⟩, hx3⟩; have hE : Ext wr w3 := ⟨hx3.os, hx3.tape, hx3.output, hx3.size, hx3.block⟩; obtain ⟨x', c', rfl⟩ := own_slice hown; have d0 := (B1.out.ext hE).cell 0; have d1 := (B1.out.ext hE).cell 1; have d2 := (B1.out.ext hE).cell 2; have e0 := (B1.out.ext hE).frozen 0; have e1 := (B1.out.ext hE).frozen 1; have e2 := (B1.out.ext hE).frozen 2; have FR := Lib.hid (fill_res (W := W) (H := H) (XR.out.trans hE) (by omega : w.heap.size ≤ w.heap.size + 1) (B1.out.ext hE).pic hown (show w.heap.size + 1 < wr.heap.size by have := ZR.out; omega)))))
  clear d0 d1 d2 e0 e1 e2 hown hE hx3
  go_wp2_with fail
  obtain ⟨P, own, hX⟩ := FR.out
  have k0 := P.c0
  have k1 := P.c1
  have k2 := P.c2
  exact bodyPost_ret (v := .agg #[.int .i64 W, .int .i64 H, .slice x' n c']) (by simp [results, Tryd.results58, go_sem, k0, k1, k2]) rfl ⟨⟨_, rfl, owns_based own XR.out.size⟩, hX⟩
end Go.Proofs.YtkfjcgcgfdibaaaDoor
