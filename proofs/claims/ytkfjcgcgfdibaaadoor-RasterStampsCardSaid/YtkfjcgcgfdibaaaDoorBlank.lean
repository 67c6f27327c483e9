/- Blank; raster.At; the contracts of New where it cannot. -/
import Derived.Test.YtkfjcgcgfdibaaaDoorTold2
import Derived.Test.YtkfjcgcgfdibaaaDoorPlainly
namespace Go.Proofs.YtkfjcgcgfdibaaaDoor
open Go.RowKit
set_option maxRecDepth 100000
theorem run_make_pix (W : World) (n : Nat) (hn : n ≤ 10000000) : (Instr.makeSlice 22 (.int .i64 (n : Int)) (.int .i64 (n : Int))).run Tryd.prog W = .ok (.slice (some ⟨W.heap.size, 0, none⟩) n n) (W.alloc (.cells (madeCells #[Value.int .u8 0, .int .u8 0, .int .u8 0, .int .u8 0] (n * 4)) 36)) := by
  obtain ⟨i0, hi0, hz0, hz1, hz2⟩ := info_parts pixinfo
  have hr := run_make (P := Tryd.prog) W 22 36 i0 _ Tryd.underlying22 hi0 hz0 .i64 .i64 n n (by omega) (by omega) (by rw [hz2]; omega) (by omega)
  simp only [Int.toNat_natCast, hz1] at hr
  exact hr
/-- what Blank and its likes hold: the variable, the row -/
structure CAt (w0 wr : World) (R T g : Nat) (W H : Int) (n : Nat) (px : Nat → P4) : Prop where
  ext : Ext w0 wr
  res : Bk wr R #[.int .i64 0, .int .i64 0, .slice none 0 0]
  bk : Bk wr T #[.int .i64 W, .int .i64 H, .slice (some ⟨g, 0, none⟩) n n]
  row : Po wr g n px
  nT : T ≠ g
  nR : R ≠ g
  gn : w0.heap.size ≤ g
theorem CAt.put {w0 wr : World} {R T g : Nat} {W H : Int} {n : Nat} {px : Nat → P4} (h : CAt w0 wr R T g W H n px) (k : Nat) (p : P4) : CAt w0 (set4 wr g k p) R T g W H n (upd px k p) :=
  ⟨set4_ext h.ext h.gn k p, h.res.keeps (set4_keeps wr g k p) h.nR, h.bk.keeps (set4_keeps wr g k p) h.nT, h.row.put k p, h.nT, h.nR, h.gn⟩
theorem CAt.congr {w0 wr : World} {R T g : Nat} {W H : Int} {n : Nat} {px qx : Nat → P4} (h : CAt w0 wr R T g W H n px) (hq : ∀ i, i < n → qx i = px i) : CAt w0 wr R T g W H n qx := ⟨h.ext, h.res, h.bk, h.row.congr hq, h.nT, h.nR, h.gn⟩
theorem CAt.step {w0 wr w2 : World} {R T g : Nat} {W H : Int} {n : Nat} {px : Nat → P4} (h : CAt w0 wr R T g W H n px) (hE : Ext wr w2) : CAt w0 w2 R T g W H n px := ⟨h.ext.trans hE, h.res.ext hE, h.bk.ext hE, h.row.ext hE, h.nT, h.nR, h.gn⟩
theorem CAt.drew {w0 wr : World} {R T g : Nat} {W H : Int} {n : Nat} {px : Nat → P4} (h : CAt w0 wr R T g W H n px) : CAt w0 wr.drew R T g W H n px := ⟨h.ext.drew, h.res, h.bk, h.row, h.nT, h.nR, h.gn⟩
theorem CAt.drewN {w0 wr : World} {R T g : Nat} {W H : Int} {n : Nat} {px : Nat → P4} (h : CAt w0 wr R T g W H n px) (m : Nat) : CAt w0 (wr.drewN m) R T g W H n px := ⟨h.ext.drewN m, h.res, h.bk, h.row, h.nT, h.nR, h.gn⟩
/-- its end: the result's variable is filled -/
theorem CAt.close {w0 wr : World} {R T g : Nat} {W H : Int} {n : Nat} {px : Nat → P4} (h : CAt w0 wr R T g W H n px) (hR : w0.heap.size ≤ R) :
    let wz := ((wr.setCell ⟨R, 0, none⟩ (.int .i64 W)).setCell ⟨R, 1, none⟩ (.int .i64 H)).setCell ⟨R, 2, none⟩ (.slice (some ⟨g, 0, none⟩) n n)
    wz.cell? ⟨R, 0, none⟩ = some (.int .i64 W) ∧ wz.cell? ⟨R, 1, none⟩ = some (.int .i64 H) ∧ wz.cell? ⟨R, 2, none⟩ = some (.slice (some ⟨g, 0, none⟩) n n) ∧ Po wz g n px ∧ Ext w0 wz := by
  obtain ⟨k0, k1, k2⟩ := h.res.pic.set (W' := W) (H' := H) (v' := .slice (some ⟨g, 0, none⟩) n n)
  exact ⟨k0, k1, k2, ((h.row.far h.nR _).far h.nR _).far h.nR _, h.ext.set3 hR _ _ _⟩
theorem blank_any (W H : Nat) (p : P4) (w : World) (hW : 1 ≤ W ∧ W ≤ 256) (hH : 1 ≤ H ∧ H ≤ 256) :
    Calls Tryd.prog 23 #[.int .i64 (W : Int), .int .i64 (H : Int), .agg #[.int .u8 p.r, .int .u8 p.g, .int .u8 p.b, .int .u8 p.a]] w fun e w' => (∃ g, e = .returned (.agg #[.int .i64 (W : Int), .int .i64 (H : Int), .slice (some ⟨g, 0, none⟩) (W * H) (W * H)]) ∧ Po w' g (W * H) (fun _ => p) ∧ w.heap.size ≤ g) ∧ Ext w w' := by
  obtain ⟨hW1, hW2⟩ := hW
  obtain ⟨hH1, hH2⟩ := hH
  have hWHI : (W : Int) * (H : Int) = ((W * H : Nat) : Int) := by simp
  obtain ⟨N, hN⟩ : ∃ N, W * H = N := ⟨_, rfl⟩
  have hNl : N ≤ 65536 := by rw [← hN]; exact Nat.mul_le_mul hW2 hH2
  rw [hN] at hWHI ⊢
  have hmk := fun W : World => run_make_pix W N (by omega)
  have NN := Lib.hid hN
  clear hN
  go_enter Tryd.func23, Tryd.ntmps23
  go_wp2_with fail
  clear hmk hWHI
  refine wp_world (fun wz => Ext w wz ∧ wz.heap.size = w.heap.size + 1 + 1 + 1 + 1 ∧ Bk wz (w.heap.size) #[.int .u8 p.r, .int .u8 p.g, .int .u8 p.b, .int .u8 p.a] ∧ Bk wz (w.heap.size + 1) #[.int .i64 0, .int .i64 0, .slice none 0 0] ∧ Bk wz (w.heap.size + 1 + 1) (madeCells #[Value.int .u8 0, .int .u8 0, .int .u8 0, .int .u8 0] (N * 4)) ∧ Bk wz (w.heap.size + 1 + 1 + 1) #[.int .i64 (W : Int), .int .i64 (H : Int), .slice (some ⟨w.heap.size + 1 + 1, 0, none⟩) N N]) ⟨by repeat (first | exact Ext.refl _ | refine Ext.alloc ?_ _), by simp, by repeat (first | exact Bk.at (by simp) | refine Bk.old ?_), by repeat (first | exact Bk.at (by simp) | refine Bk.old ?_), by repeat (first | exact Bk.at (by simp) | refine Bk.old ?_), by repeat (first | exact Bk.at (by simp) | refine Bk.old ?_)⟩ ?_
  rintro wa ⟨hX, hZ, hB0, hB1, hB2, hB3⟩
  have CA : Hid (CAt w wa (w.heap.size + 1) (w.heap.size + 1 + 1 + 1) (w.heap.size + 1 + 1) (W : Int) (H : Int) N (fun i => if i < 0 then p else P4.zero)) := Lib.hid (CAt.congr ⟨hX, hB1, hB3, Po.of_bk hB2, by omega, by omega, by omega⟩ (fun i _ => by rw [if_neg (by omega)]))
  have PB := Lib.hid hB0
  clear hX hZ hB0 hB1 hB2 hB3
  go_loopw [8] (fun c wr => ∃ i : Nat, i ≤ N ∧ c = .int .i64 i ∧ Hid (CAt w wr (w.heap.size + 1) (w.heap.size + 1 + 1 + 1) (w.heap.size + 1 + 1) (W : Int) (H : Int) N (fun j => if j < i then p else P4.zero)) ∧ Hid (Bk wr w.heap.size #[.int .u8 p.r, .int .u8 p.g, .int .u8 p.b, .int .u8 p.a])) (fun c _ => N - (intOf c).toNat)
  case atStart => exact ⟨0, by omega, rfl, CA, PB⟩
  case round =>
    clear CA PB
    obtain ⟨i, hi, rfl, CA, PB⟩ := hrel
    have b2 := CA.out.bk.cell 2
    by_cases hlt : i < N
    · have p0 := PB.out.cell 0
      have p1 := PB.out.cell 1
      have p2 := PB.out.cell 2
      have p3 := PB.out.cell 3
      obtain ⟨r0, f0⟩ := CA.out.row (i * 4) (by omega)
      obtain ⟨r1, f1⟩ := CA.out.row (i * 4 + 1) (by omega)
      obtain ⟨r2, f2⟩ := CA.out.row (i * 4 + 2) (by omega)
      obtain ⟨r3, f3⟩ := CA.out.row (i * 4 + 3) (by omega)
      rw [cellP_0] at r0
      rw [cellP_1] at r1
      rw [cellP_2] at r2
      rw [cellP_3] at r3
      go_wp2_with fail
      refine ⟨⟨i + 1, by omega, by go_num, Lib.hid (CAt.congr (CA.out.put i p) fun j _ => ?_), Lib.hid (PB.out.keeps (set4_keeps wr (w.heap.size + 1 + 1) i p) (by show ¬ w.heap.size = w.heap.size + 1 + 1; omega))⟩, by simp [intOf]; omega⟩
      simp only [upd]
      by_cases e : j = i
      · subst e; rw [if_pos rfl, if_pos (by omega)]
      · rw [if_neg e]
        by_cases e2 : j < i
        · rw [if_pos e2, if_pos (by omega)]
        · rw [if_neg e2, if_neg (by omega)]
    · obtain rfl : i = N := by omega
      have b0 := CA.out.bk.cell 0
      have b1 := CA.out.bk.cell 1
      have d0 := CA.out.res.cell 0
      have d1 := CA.out.res.cell 1
      have d2 := CA.out.res.cell 2
      have e0 := CA.out.res.frozen 0
      have e1 := CA.out.res.frozen 1
      have e2 := CA.out.res.frozen 2
      have PC := Lib.hid (CA.out.close (by omega : w.heap.size ≤ w.heap.size + 1))
      go_wp2_with fail
      obtain ⟨k0, k1, k2, hP, hX⟩ := PC.out
      exact bodyPost_ret (v := .agg #[.int .i64 (W : Int), .int .i64 (H : Int), .slice (some ⟨w.heap.size + 1 + 1, 0, none⟩) i i]) (by simp [results, Tryd.results23, go_sem, k0, k1, k2]) rfl ⟨⟨_, rfl, hP.congr fun j hj => by rw [if_pos hj], by omega⟩, hX⟩
theorem new_bad (W H : Int) (r g b a : Int) (w : World) (E : Nat → Addr) (hE : Errs w E) (h : sideB W = false ∨ sideB H = false) :
    Calls Tryd.prog 20 #[.int .i64 W, .int .i64 H, .agg #[.int .u8 r, .int .u8 g, .int .u8 b, .int .u8 a]] w fun e w' => e = .returned (.tuple #[.agg #[.int .i64 0, .int .i64 0, .slice none 0 0], .iface 171 (.pointer (some (E 1)))]) ∧ Ext w w' := by
  have HE := Lib.hid hE
  have HS : Hid (sideB W = false ∨ (sideB W = true ∧ sideB H = false)) := Lib.hid (by
    cases h1 : sideB W
    · exact .inl rfl
    · rcases h with h | h
      · rw [h1] at h; cases h
      · exact .inr ⟨rfl, h⟩)
  clear hE h
  go_enter Tryd.func20, Tryd.ntmps20
  go_wp2_with fail
  refine calls_world (fun wz => Ext w wz ∧ wz.heap.size = w.heap.size + 1 + 1 ∧ Bk wz (w.heap.size) #[.int .u8 r, .int .u8 g, .int .u8 b, .int .u8 a] ∧ Bk wz (w.heap.size + 1) #[.int .i64 0, .int .i64 0, .slice none 0 0]) ⟨by repeat (first | exact Ext.refl _ | refine Ext.alloc ?_ _), by simp, by repeat (first | exact Bk.at (by simp) | refine Bk.old ?_), by repeat (first | exact Bk.at (by simp) | refine Bk.old ?_)⟩ ?_
  rintro wa ⟨hX, hZ, hB0, hB1⟩
  have X1 := Lib.hid hX
  have B1 := Lib.hid hB1
  clear hX hZ hB0 hB1
  have hv := (HE.out.ext X1.out).var 1 (by decide)
  simp only [gk, sentV] at hv
  have d0 := B1.out.cell 0
  have d1 := B1.out.cell 1
  have d2 := B1.out.cell 2
  have e0 := B1.out.frozen 0
  have e1 := B1.out.frozen 1
  have e2 := B1.out.frozen 2
  have FR := Lib.hid (show Ext w _ from X1.out.set3 (b := w.heap.size + 1) (by omega) (.int .i64 0) (.int .i64 0) (.slice none 0 0))
  have PR := Lib.hid (B1.out.pic.set (W' := 0) (H' := 0) (v' := .slice none 0 0))
  refine (side_any _ _).mono ?_
  rintro e w2 ⟨rfl, rfl⟩
  rcases HS.out with h | ⟨h, h'⟩
  · rw [h]
    clear h
    go_wp2_with fail
    go_region
    all_goals go_wp2_with fail
    all_goals
      obtain ⟨k0, k1, k2⟩ := PR.out
      exact bodyPost_ret (v := .tuple #[.agg #[.int .i64 0, .int .i64 0, .slice none 0 0], .iface 171 (.pointer (some (E 1)))]) (by simp [results, Tryd.results20, go_sem, k0, k1, k2]) rfl ⟨rfl, FR.out.drew⟩
  · rw [h]
    clear h
    have H' := Lib.hid h'
    clear h'
    go_wp2_with fail
    refine (side_any _ _).mono ?_
    rintro e w2 ⟨rfl, rfl⟩
    rw [H'.out]
    go_wp2_with fail
    go_region
    all_goals go_wp2_with fail
    all_goals
      obtain ⟨k0, k1, k2⟩ := PR.out
      exact bodyPost_ret (v := .tuple #[.agg #[.int .i64 0, .int .i64 0, .slice none 0 0], .iface 171 (.pointer (some (E 1)))]) (by simp [results, Tryd.results20, go_sem, k0, k1, k2]) rfl ⟨rfl, FR.out.drew⟩
end Go.Proofs.YtkfjcgcgfdibaaaDoor
