/- Pictures: own memory for one; the same ones. -/
import Derived.Test.YtkfjcgcgfdibaaaDoorPic1
import Derived.Test.YtkfjcgcgfdibaaaDoorEach
import Derived.Laws.AppendOwnNone
namespace Go.Proofs.YtkfjcgcgfdibaaaDoor
open Go.RowKit
set_option maxRecDepth 100000
theorem add_add4 (a : Addr) (i c : Nat) (hc : c ≠ 0) : a.add (i * 4 + c) = ⟨(a.add (i * 4)).block, (a.add (i * 4)).off + c, none⟩ := by
  unfold Addr.add
  rw [if_neg (by omega)]
  split
  · rename_i h
    have : i = 0 := by omega
    subst this; simp
  · simp [Nat.add_assoc]
/-- the cells of a row, one behind the other -/
theorem Pxs.cells {w : World} {a : Addr} {n : Nat} {px : Nat → P4} (h : Pxs w (some a) n px) (j : Nat) (u : Value) (hj : (pxV n px)[j]? = some u) : w.cell? (a.add j) = some u := by
  have hl : j < n * 4 := by
    rcases Nat.lt_or_ge j (n * 4) with q | q
    · exact q
    · rw [List.getElem?_eq_none (by rw [pxV_length]; exact q)] at hj; cases hj
  rw [pxV_get _ _ _ hl] at hj
  injection hj with hj
  subst hj
  obtain ⟨c0, c1, c2, c3, _⟩ := h.2 a rfl (j / 4) (by omega)
  obtain ⟨i, c, rfl, hc⟩ : ∃ i c, j = i * 4 + c ∧ c < 4 := ⟨j / 4, j % 4, by omega, by omega⟩
  rw [show (i * 4 + c) / 4 = i by omega] at c0 c1 c2 c3
  match c, hc with
  | 0, _ => rw [Nat.add_zero, cellP_0]; exact c0
  | 1, _ => rw [cellP_1, add_add4 _ _ _ (by decide)]; exact c1
  | 2, _ => rw [cellP_2, add_add4 _ _ _ (by decide)]; exact c2
  | 3, _ => rw [cellP_3, add_add4 _ _ _ (by decide)]; exact c3
theorem cells_one (n : Nat) (px : Nat → P4) : ∀ u ∈ pxV n px, u.oneCell' = true := by
  intro u hu
  obtain ⟨j, _, rfl⟩ := List.mem_map.1 hu
  exact cellP_one px j
/-- three variables that hold pictures, made one behind the other -/
theorem three_pics {w w1 : World} {W H : Int} {u : Value}
    (hg : Ext (((w.alloc (.cells #[.int .i64 W, .int .i64 H, u] 24)).alloc (.cells #[.int .i64 0, .int .i64 0, .slice none 0 0] 24)).alloc (.cells #[.int .i64 W, .int .i64 H, .slice none 0 0] 24)) w1) :
    PicAt w1 (w.heap.size + 1) 0 0 (.slice none 0 0) ∧ PicAt w1 (w.heap.size + 1 + 1) W H (.slice none 0 0) ∧ (∀ j, w1.frozen? ⟨w.heap.size + 1, j, none⟩ = false) ∧ (∀ j, w1.frozen? ⟨w.heap.size + 1 + 1, j, none⟩ = false) ∧ Ext w w1 := by
  have s1 : (w.alloc (.cells #[.int .i64 W, .int .i64 H, u] 24)).heap.size = w.heap.size + 1 := World.size_alloc _ _
  have e1 : Ext w (w.alloc (.cells #[.int .i64 W, .int .i64 H, u] 24)) := (Ext.refl w).alloc _
  generalize w.alloc (.cells #[.int .i64 W, .int .i64 H, u] 24) = wa at *
  have P1 := PicAt.new wa 0 0 (.slice none 0 0) 24
  have f1 : ∀ j, (wa.alloc (.cells #[.int .i64 0, .int .i64 0, .slice none 0 0] 24)).frozen? ⟨wa.heap.size, j, none⟩ = false := fun j => World.frozen?_alloc_at _ _ _ _ rfl
  have s2 : (wa.alloc (.cells #[.int .i64 0, .int .i64 0, .slice none 0 0] 24)).heap.size = wa.heap.size + 1 := World.size_alloc _ _
  have e2 : Ext wa (wa.alloc (.cells #[.int .i64 0, .int .i64 0, .slice none 0 0] 24)) := (Ext.refl wa).alloc _
  generalize wa.alloc (.cells #[.int .i64 0, .int .i64 0, .slice none 0 0] 24) = wb at *
  have P2 := PicAt.new wb W H (.slice none 0 0) 24
  have f2 : ∀ j, (wb.alloc (.cells #[.int .i64 W, .int .i64 H, .slice none 0 0] 24)).frozen? ⟨wb.heap.size, j, none⟩ = false := fun j => World.frozen?_alloc_at _ _ _ _ rfl
  have s3 : (wb.alloc (.cells #[.int .i64 W, .int .i64 H, .slice none 0 0] 24)).heap.size = wb.heap.size + 1 := World.size_alloc _ _
  have e3 : Ext wb (wb.alloc (.cells #[.int .i64 W, .int .i64 H, .slice none 0 0] 24)) := (Ext.refl wb).alloc _
  generalize wb.alloc (.cells #[.int .i64 W, .int .i64 H, .slice none 0 0] 24) = wc at *
  rw [s1] at P1 f1 s2
  rw [s2] at P2 f2 s3
  refine ⟨(P1.ext e3).ext hg, P2.ext hg, fun j => ?_, fun j => ?_, ((e1.trans e2).trans e3).trans hg⟩
  · exact (hg.frozen (p := ⟨w.heap.size + 1, j, none⟩) (by show w.heap.size + 1 < _; omega)).trans ((e3.frozen (p := ⟨w.heap.size + 1, j, none⟩) (by show w.heap.size + 1 < _; omega)).trans (f1 j))
  · exact (hg.frozen (p := ⟨w.heap.size + 1 + 1, j, none⟩) (by show w.heap.size + 1 + 1 < _; omega)).trans (f2 j)
theorem owns_based {w : World} {b b' : Nat} {e : TypeId} {size : Nat} {v : Value} {n : Nat} {xs : List Value} (h : w.ownsRow b e size v n xs) (hb : b' ≤ b) : w.ownsRow b' e size v n xs := by
  obtain ⟨h1, h2⟩ := h
  refine ⟨h1, ?_⟩
  rcases h2 with h2 | ⟨g, cap, cur, hv, hg, r⟩
  · exact .inl h2
  · exact .inr ⟨g, cap, cur, hv, by omega, r⟩
theorem own_any (W H : Int) (x : Option Addr) (n cap : Nat) (px : Nat → P4) (w : World) (hx : Pxs w x n px) (h0 : x = none → cap = 0) (hn : n ≤ 10000000) :
    Calls Tryd.prog 17 #[.agg #[.int .i64 W, .int .i64 H, .slice x n cap]] w fun e w' => (∃ v, e = .returned (.agg #[.int .i64 W, .int .i64 H, v]) ∧ w'.ownsRow w.heap.size 36 4 v n (pxV n px)) ∧ Ext w w' := by
  obtain ⟨i0, hi0, hz0, hz1, hz2⟩ := info_parts pixinfo
  have HX := Lib.hid hx
  clear hx
  cases x with
  | none =>
    obtain rfl := HX.out.1 rfl
    obtain rfl := h0 rfl
    go_enter Tryd.func17, Tryd.ntmps17
    go_wp2_with (at_builtin; refine wpList_append_own_none rfl _ _ 22 rfl 0 36 i0 4 Tryd.underlying22 hi0 (.slice none 0 0) 0 [] rfl (World.ownsRow_nil _ _ _ _) rfl ?_)
    exact bodyPost_ret (v := .agg #[.int .i64 W, .int .i64 H, .slice none 0 0]) (by simp [results, Tryd.results17, go_sem]) rfl ⟨⟨_, rfl, World.ownsRow_nil _ _ _ _⟩, (((Ext.refl _).alloc _).alloc _).alloc _⟩
  | some a =>
    have HA := Lib.hid HX.out.cells
    have HXA : Hid (Pxs (((w.alloc (.cells #[.int .i64 W, .int .i64 H, .slice (some a) n cap] 24)).alloc (.cells #[.int .i64 0, .int .i64 0, .slice none 0 0] 24)).alloc (.cells #[.int .i64 W, .int .i64 H, .slice none 0 0] 24)) (some a) n px) := Lib.hid (HX.out.ext ((((Ext.refl _).alloc _).alloc _).alloc _))
    go_enter Tryd.func17, Tryd.ntmps17
    go_wp2_with (at_builtin; refine wpList_append_own_at _ rfl _ _ 22 rfl (w.heap.size + 3) 36 i0 _ 4 4 Tryd.underlying22 hi0 hz0 hz1 hz2 rfl (by decide) (.slice none 0 0) 0 [] rfl (World.ownsRow_nil _ _ _ _) a n cap (pxV n px) rfl (pxV_length _ _) HXA.out.cells (cells_one _ _) ?c3 ?c4 ?c5 ?_)
    case c3 => unfold maxLen; omega
    case c4 => omega
    case c5 => simp
    intro v' w1 hown hgrow _ _
    have P := three_pics ((Keeps.grown hgrow).below (Nat.le_refl _) (fun k _ q => by cases q))
    obtain ⟨x', c', rfl⟩ := own_slice hown
    have hb : (Value.slice x' n c').ownBlock ≠ some (w.heap.size + 1) ∧ (Value.slice x' n c').ownBlock ≠ some (w.heap.size + 1 + 1) := ⟨fun e => by have := (hown.lt _ e).1; omega, fun e => by have := (hown.lt _ e).1; omega⟩
    have hown1 : (w1.setCell ⟨w.heap.size + 1 + 1, 2, none⟩ (.slice x' n c')).ownsRow (w.heap.size + 3) 36 4 (.slice x' n c') n (pxV n px) := ownsRow_setCell_other hown hb.2 _
    have e2 : ∀ j, (⟨w.heap.size + 1 + 1, 2, none⟩ : Addr) ≠ ⟨w.heap.size + 1, j, none⟩ := fun j e => by injection e with e; omega
    have HP := Lib.hid P
    have HO := Lib.hid hown1
    have HB := Lib.hid hb
    have e3 : ∀ j, j ≠ 2 → (⟨w.heap.size + 1 + 1, 2, none⟩ : Addr) ≠ ⟨w.heap.size + 1 + 1, j, none⟩ := fun j hj e => by injection e with _ e; exact hj e.symm
    have c0 : (w1.setCell ⟨w.heap.size + 1 + 1, 2, none⟩ (.slice x' n c')).cell? ⟨w.heap.size + 1 + 1, 0, none⟩ = some (.int .i64 W) := (World.cell?_setCell_other _ _ _ _ (e3 0 (by decide))).trans P.2.1.c0
    have c1 : (w1.setCell ⟨w.heap.size + 1 + 1, 2, none⟩ (.slice x' n c')).cell? ⟨w.heap.size + 1 + 1, 1, none⟩ = some (.int .i64 H) := (World.cell?_setCell_other _ _ _ _ (e3 1 (by decide))).trans P.2.1.c1
    have d2 := P.2.1.c2
    have g2 := P.2.2.2.1 2
    have hq : PicAt (w1.setCell ⟨w.heap.size + 1 + 1, 2, none⟩ (.slice x' n c')) (w.heap.size + 1) 0 0 (.slice none 0 0) := ⟨(World.cell?_setCell_other _ _ _ _ (e2 0)).trans P.1.c0, (World.cell?_setCell_other _ _ _ _ (e2 1)).trans P.1.c1, (World.cell?_setCell_other _ _ _ _ (e2 2)).trans P.1.c2⟩
    have q0 := hq.c0
    have q1 := hq.c1
    have q2 := hq.c2
    have r0 := P.2.2.1 0
    have r1 := P.2.2.1 1
    have r2 := P.2.2.1 2
    have HQ := Lib.hid hq
    clear hq
    clear P hown hgrow hb hown1 e2 e3
    go_wp2_with fail
    have P := HQ.out.set (W' := W) (H' := H) (v' := .slice x' n c')
    have k0 := P.c0
    have k1 := P.c1
    have k2 := P.c2
    have own := ownsRow_set3 HO.out HB.out.1 (.int .i64 W) (.int .i64 H) (.slice x' n c')
    have hX := (Ext.set3 (b := w.heap.size + 1) (Below.setCell (p := ⟨w.heap.size + 1 + 1, 2, none⟩) HP.out.2.2.2.2 (show w.heap.size ≤ w.heap.size + 1 + 1 by omega) (.slice x' n c')) (by omega) (.int .i64 W) (.int .i64 H) (.slice x' n c'))
    exact bodyPost_ret (v := .agg #[.int .i64 W, .int .i64 H, .slice x' n c']) (by simp [results, Tryd.results17, go_sem, k0, k1, k2]) rfl ⟨⟨_, rfl, owns_based own (by omega)⟩, hX⟩
theorem same_yes (W H : Int) (x y : Option Addr) (n cap cap' : Nat) (px : Nat → P4) (w : World) (hx : Pxs w x n px) (hy : Pxs w y n px) (hn : n ≤ 10000000) :
    Calls Tryd.prog 19 #[.agg #[.int .i64 W, .int .i64 H, .slice x n cap], .agg #[.int .i64 W, .int .i64 H, .slice y n cap']] w fun e w' => e = .returned (.bool true) ∧ Ext w w' := by
  have hE : Ext w ((w.alloc (.cells #[.int .i64 W, .int .i64 H, .slice x n cap] 24)).alloc (.cells #[.int .i64 W, .int .i64 H, .slice y n cap'] 24)) := ((Ext.refl _).alloc _).alloc _
  have HX := Lib.hid (hx.ext hE)
  have HY := Lib.hid (hy.ext hE)
  have HE := Lib.hid hE
  have P1 := Lib.hid ((PicAt.new w W H (.slice x n cap) 24).ext ((Ext.refl _).alloc (.cells #[.int .i64 W, .int .i64 H, .slice y n cap'] 24)))
  have P2 : Hid (PicAt ((w.alloc (.cells #[.int .i64 W, .int .i64 H, .slice x n cap] 24)).alloc (.cells #[.int .i64 W, .int .i64 H, .slice y n cap'] 24)) (w.heap.size + 1) W H (.slice y n cap')) := Lib.hid (by
    have := PicAt.new (w.alloc (.cells #[.int .i64 W, .int .i64 H, .slice x n cap] 24)) W H (.slice y n cap') 24
    rwa [World.size_alloc] at this)
  have t1 : (W != W) = false := by simp
  have t2 : (H != H) = false := by simp
  have t3 : ((n : Int) != (n : Int)) = false := by simp
  clear hx hy hE
  go_enter Tryd.func19, Tryd.ntmps19
  go_wp2_with fail
  clear t1 t2 t3
  generalize ((w.alloc (.cells #[.int .i64 W, .int .i64 H, .slice x n cap] 24)).alloc (.cells #[.int .i64 W, .int .i64 H, .slice y n cap'] 24)) = w2 at *
  go_loopw [5] (fun c wr => ∃ (i m : Nat), i ≤ n ∧ c = .int .i64 i ∧ wr = w2.drewN m) (fun c _ => n - (intOf c).toNat)
  case atStart => exact ⟨0, 0, by omega, rfl, rfl⟩
  case round =>
    obtain ⟨i, m, hi, rfl, rfl⟩ := hrel
    have p2 := P1.out.c2
    have r2 := P2.out.c2
    by_cases hlt : i < n
    · obtain ⟨a, rfl⟩ := HX.out.isSome hlt
      obtain ⟨b, rfl⟩ := HY.out.isSome hlt
      obtain ⟨a0, a1, a2, a3, _⟩ := HX.out.2 a rfl i hlt
      obtain ⟨b0, b1, b2, b3, _⟩ := HY.out.2 b rfl i hlt
      go_wp2_with fail
      go_quiet (fail)
      go_wp2_with fail
      go_roundw
      case rel => exact ⟨i + 1, _, by omega, by go_num, rfl⟩
      case measure => simp [intOf]; omega
    · obtain rfl : i = n := by omega
      go_wp2_with fail
      go_ret
      exact ⟨rfl, Ext.drewN HE.out _⟩
end Go.Proofs.YtkfjcgcgfdibaaaDoor
