/-
  RasterFloods' walks.
-/
import Derived.Test.YtkfjcgcgfdibaaaDoorRasterFloodsG6
import Derived.Test.YtkfjcgcgfdibaaaDoorRasterFloodsG7
import Derived.Test.YtkfjcgcgfdibaaaDoorRasterFloodsG15
namespace Go.Proofs.YtkfjcgcgfdibaaaDoor
open Go.RowKit
set_option maxRecDepth 100000
def FldQ (W H x0 y0 : Nat) (px : Nat → P4) (c : P4) (qx : Nat → P4) : Prop := (∀ I : Nat → Bool, (∀ u v, u < W → v < H → (I (v * W + u) = true ↔ Fl.Rch W H (okF W x0 y0 px) x0 y0 u v)) → ∀ i, i < W * H → qx i = fldP I c px i) ∧ qx (y0 * W + x0) = c
theorem fld_some (W H x0 y0 : Nat) (ok : Nat → Nat → Prop) : ∃ I : Nat → Bool, ∀ u v, u < W → v < H → (I (v * W + u) = true ↔ Fl.Rch W H ok x0 y0 u v) := by
  refine ⟨fun i => @decide (Fl.Rch W H ok x0 y0 (i % W) (i / W)) (Classical.propDecidable _), fun u v hu hv => ?_⟩
  obtain ⟨e1, e2⟩ := at_mod (y := v) hu
  simp only [decide_eq_true_eq, e1, e2]
theorem FldQ.ok {W H x0 y0 : Nat} {px qx : Nat → P4} {c : P4} (h : FldQ W H x0 y0 px c qx) (hp : ∀ i, i < W * H → (px i).Ok) (hc : c.Ok) : ∀ i, i < W * H → (qx i).Ok := by
  intro i hi
  obtain ⟨I, hI⟩ := fld_some W H x0 y0 (okF W x0 y0 px)
  rw [h.1 I hI i hi]
  unfold fldP
  split
  · exact hc
  · exact hp i hi
theorem FldQ.twice {W H x0 y0 : Nat} {px qx qz : Nat → P4} {c : P4} (h : FldQ W H x0 y0 px c qx) (h2 : FldQ W H x0 y0 qx c qz) : ∀ i, i < W * H → qz i = qx i := by
  intro i hi
  obtain ⟨I, hI⟩ := fld_some W H x0 y0 (okF W x0 y0 qx)
  rw [h2.1 I hI i hi]
  obtain ⟨u, v, hu, hv, rfl⟩ := lin_sur hi
  unfold fldP
  split
  · rename_i hh
    have := Rch_ok ((hI u v hu hv).1 hh) rfl
    unfold okF at this
    rw [this, h.2]
  · rfl
theorem FldQ.of {W H x0 y0 : Nat} {px qx : Nat → P4} {c : P4} {I : Nat → Bool} (h : FldQ W H x0 y0 px c qx) (hI : ∀ u v, u < W → v < H → (I (v * W + u) = true ↔ Fl.Rch W H (okP W x0 y0 px) x0 y0 u v)) : ∀ i, i < W * H → fldP I c px i = qx i :=
  fun i hi => (h.1 I hI i hi).symm
set_option linter.unusedSimpArgs false in
set_option maxHeartbeats 4000000 in
theorem floods_shape (W H : Int) (x : Option Addr) (n cap : Nat) (px : Nat → P4) (u v : Int) (c : P4) (w : World) (E : Nat → Addr) (hE : Errs w E) (hx : Pxs w x n px) (hxz : x = none → cap = 0) (hn : n ≤ 3000) (hr : rightB W H n = false) :
    Calls Tryd.prog 6 #[.agg #[.int .i64 W, .int .i64 H, .slice x n cap], .int .i64 u, .int .i64 v, .agg #[.int .u8 c.r, .int .u8 c.g, .int .u8 c.b, .int .u8 c.a]] w fun e w' => e = .returned (.bool true) ∧ Ext w w' := by
  have HE := Lib.hid hE
  clear hE
  have HX := Lib.hid hx
  have HD := Lib.hid (decide_eq_true hn)
  have HR := Lib.hid hr
  have HX0 := Lib.hid hxz
  clear hxz
  clear hx hr
  go_enter Tryd.func6, Tryd.ntmps6
  go_wp2_with fail
  refine calls_world (fun wz => Ext w wz ∧ wz.heap.size = w.heap.size + 1 + 1 ∧ Bk wz (w.heap.size) #[.int .i64 W, .int .i64 H, .slice x n cap] ∧ Bk wz (w.heap.size + 1) #[.int .u8 c.r, .int .u8 c.g, .int .u8 c.b, .int .u8 c.a]) ⟨by repeat (first | exact Ext.refl _ | refine Ext.alloc ?_ _), by simp, by repeat (first | exact Bk.at (by simp) | refine Bk.old ?_), by repeat (first | exact Bk.at (by simp) | refine Bk.old ?_)⟩ ?_
  rintro w1 ⟨hX, hZ, hB0, hB1⟩
  have X_1 := Lib.hid hX
  have B_1 := Lib.hid hB0
  have C_1 := Lib.hid hB1
  clear hX hZ hB0 hB1
  have NBC : Hid (w.heap.size ≠ w.heap.size + 1) := Lib.hid (by omega)
  refine (plainly_any _).mono ?_
  rintro e w2 ⟨rfl, h⟩
  have X_2 := Lib.hid (X_1.out.trans h)
  have B_2 := Lib.hid (B_1.out.ext h)
  have C_2 := Lib.hid (C_1.out.ext h)
  clear h X_1 B_1 C_1
  have k0 := B_2.out.cell 0
  have k1 := B_2.out.cell 1
  have k2 := B_2.out.cell 2
  go_wp2_with fail
  refine (small_any _ _ _ _ _ _ (by unfold maxLen; omega)).mono ?_
  rintro e w3 ⟨rfl, h⟩
  have X_3 := Lib.hid (X_2.out.trans h)
  have B_3 := Lib.hid (B_2.out.ext h)
  have C_3 := Lib.hid (C_2.out.ext h)
  clear h X_2 B_2 C_2
  clear k0 k1 k2
  rw [HD.out]
  go_upto_region 4 with fail
  go_cut [10, 11] (fun s10 s11 wx => ∃ T : Nat, s10 = .pointer (some ⟨T, 0, none⟩) ∧ s11 = .iface 171 (.pointer (some (E 2))) ∧ Hid (Ext w wx) ∧ Hid (Bk wx w.heap.size #[.int .i64 W, .int .i64 H, .slice x n cap]) ∧ Hid (Bk wx (w.heap.size + 1) #[.int .u8 c.r, .int .u8 c.g, .int .u8 c.b, .int .u8 c.a]) ∧ Hid (Bk wx T #[.int .i64 0, .int .i64 0, .slice none 0 0]))
  case first =>
    refine wp_region_held_drew (S := fun w' => w'.cell? ⟨w.heap.size, 0, none⟩ = some (.int .i64 W) ∧ w'.cell? ⟨w.heap.size, 1, none⟩ = some (.int .i64 H) ∧ w'.cell? ⟨w.heap.size, 2, none⟩ = some (.slice x n cap) ∧ w'.cell? ⟨w.heap.size + 1, 0, none⟩ = some (.int .u8 c.r) ∧ w'.cell? ⟨w.heap.size + 1, 1, none⟩ = some (.int .u8 c.g) ∧ w'.cell? ⟨w.heap.size + 1, 2, none⟩ = some (.int .u8 c.b) ∧ w'.cell? ⟨w.heap.size + 1, 3, none⟩ = some (.int .u8 c.a)) (by kernel_rfl) ⟨B_3.out.cell 0, B_3.out.cell 1, B_3.out.cell 2, C_3.out.cell 0, C_3.out.cell 1, C_3.out.cell 2, C_3.out.cell 3⟩ (fun hHeld => ?_)
    clear hHeld
    refine anyH_world (fun wz => Ext w3 wz) (show Ext w3 w3.drew from Below.drew (Ext.refl w3)) ?_
    rintro w4 h
    have X_4 := Lib.hid (X_3.out.trans h)
    have B_4 := Lib.hid (B_3.out.ext h)
    have C_4 := Lib.hid (C_3.out.ext h)
    clear h X_3 B_3 C_3
    have hHeld : w4.cell? ⟨w.heap.size, 0, none⟩ = some (.int .i64 W) ∧ w4.cell? ⟨w.heap.size, 1, none⟩ = some (.int .i64 H) ∧ w4.cell? ⟨w.heap.size, 2, none⟩ = some (.slice x n cap) ∧ w4.cell? ⟨w.heap.size + 1, 0, none⟩ = some (.int .u8 c.r) ∧ w4.cell? ⟨w.heap.size + 1, 1, none⟩ = some (.int .u8 c.g) ∧ w4.cell? ⟨w.heap.size + 1, 2, none⟩ = some (.int .u8 c.b) ∧ w4.cell? ⟨w.heap.size + 1, 3, none⟩ = some (.int .u8 c.a) := ⟨B_4.out.cell 0, B_4.out.cell 1, B_4.out.cell 2, C_4.out.cell 0, C_4.out.cell 1, C_4.out.cell 2, C_4.out.cell 3⟩
    refine wpAnyH_take (i := 0) (v := ?_) rfl (by kernel_rfl) (by kernel_rfl) (by kernel_rfl) (fun _ _ _ h => h) (Or.inl ⟨by kernel_rfl, ?_⟩) hHeld ?_
    rotate_left
    · intro w hSw
      (try dsimp only at hSw)
      go_split_ands
      go_simp
      (try with_reducible rfl)
    try simp only [Act.put, List.getElem_toArray, List.getElem_cons_succ, List.getElem_cons_zero, List.setIfInBounds_toArray, List.set_cons_zero, List.set_cons_succ]
    refine wpAnyH_take (i := 2) (v := ?_) rfl (by kernel_rfl) (by kernel_rfl) (by kernel_rfl) (fun _ _ _ h => h) (Or.inl ⟨by kernel_rfl, ?_⟩) hHeld ?_
    rotate_left
    · intro w hSw
      (try dsimp only at hSw)
      go_split_ands
      go_simp
      (try with_reducible rfl)
    try simp only [Act.put, List.getElem_toArray, List.getElem_cons_succ, List.getElem_cons_zero, List.setIfInBounds_toArray, List.set_cons_zero, List.set_cons_succ]
    refine wpAnyH_take (i := 3) (v := ?_) rfl (by kernel_rfl) (by kernel_rfl) (by kernel_rfl) (fun _ _ _ h => h) (Or.inl ⟨by kernel_rfl, ?_⟩) hHeld ?_
    rotate_left
    · intro w hSw
      (try dsimp only at hSw)
      go_split_ands
      go_simp
      (try with_reducible rfl)
    try simp only [Act.put, List.getElem_toArray, List.getElem_cons_succ, List.getElem_cons_zero, List.setIfInBounds_toArray, List.set_cons_zero, List.set_cons_succ]
    refine wpAnyH_take (i := 4) (v := ?_) rfl (by kernel_rfl) (by kernel_rfl) (by kernel_rfl) (fun _ _ _ h => h) (Or.inl ⟨by kernel_rfl, ?_⟩) hHeld ?_
    rotate_left
    · intro w hSw
      (try dsimp only at hSw)
      go_split_ands
      go_simp
      (try with_reducible rfl)
    try simp only [Act.put, List.getElem_toArray, List.getElem_cons_succ, List.getElem_cons_zero, List.setIfInBounds_toArray, List.set_cons_zero, List.set_cons_succ]
    refine wpAnyH_ready (rs := [1, 9]) (by kernel_rfl) (by simp) ?_
    refine AllReadyH.cons rfl (fun KK hK => ?_) (AllReadyH.cons rfl (fun KK hK => ?_) AllReadyH.nil)
    · clear hHeld
      go_simp
      refine (own_x _ _ x n cap px _ (HX.out.ext X_4.out) HX0.out (by omega)).mono ?_
      rintro e w5 ⟨⟨ox, oc, rfl, hox, _⟩, h⟩
      have oxh := Lib.hid hox
      have X_5 := Lib.hid (X_4.out.trans h)
      have B_5 := Lib.hid (B_4.out.ext h)
      have C_5 := Lib.hid (C_4.out.ext h)
      clear h hox X_4 B_4 C_4
      have O_5 := Lib.hid (oxh.out)
      go_simp
      refine hK.out _ _ ⟨B_5.out.cell 0, B_5.out.cell 1, B_5.out.cell 2, C_5.out.cell 0, C_5.out.cell 1, C_5.out.cell 2, C_5.out.cell 3⟩ (fun hHeld => ?_)
      clear hK KK
      try simp only [Act.put, List.getElem_toArray, List.getElem_cons_succ, List.getElem_cons_zero, List.setIfInBounds_toArray, List.set_cons_zero, List.set_cons_succ]
      refine wpAnyH_ready (rs := [5, 9]) (by kernel_rfl) (by simp) ?_
      refine AllReadyH.cons rfl (fun KK hK => ?_) (AllReadyH.cons rfl (fun KK hK => ?_) AllReadyH.nil)
      · clear hHeld
        go_simp
        refine (flood_shape _ _ _ _ _ _ _ _ E _ (HE.out.ext X_5.out) HR.out).mono ?_
        rintro e w6 ⟨rfl, h⟩
        have X_6 := Lib.hid (X_5.out.trans h)
        have B_6 := Lib.hid (B_5.out.ext h)
        have C_6 := Lib.hid (C_5.out.ext h)
        have O_6 := Lib.hid (O_5.out.ext h)
        clear h X_5 B_5 C_5 O_5
        go_simp
        refine hK.out _ _ ⟨B_6.out.cell 0, B_6.out.cell 1, B_6.out.cell 2, C_6.out.cell 0, C_6.out.cell 1, C_6.out.cell 2, C_6.out.cell 3⟩ (fun hHeld => ?_)
        clear hK KK
        try simp only [Act.put, List.getElem_toArray, List.getElem_cons_succ, List.getElem_cons_zero, List.setIfInBounds_toArray, List.set_cons_zero, List.set_cons_succ]
        clear O_6
        refine wpAnyH_take (i := 6) (v := ?_) rfl (by kernel_rfl) (by kernel_rfl) (by kernel_rfl) (fun _ _ _ h => h) (Or.inl ⟨by kernel_rfl, ?_⟩) hHeld ?_
        rotate_left
        · intro w hSw
          (try dsimp only at hSw)
          go_split_ands
          go_simp
          (try with_reducible rfl)
        try simp only [Act.put, List.getElem_toArray, List.getElem_cons_succ, List.getElem_cons_zero, List.setIfInBounds_toArray, List.set_cons_zero, List.set_cons_succ]
        refine wpAnyH_take (i := 7) (v := ?_) rfl (by kernel_rfl) (by kernel_rfl) (by kernel_rfl) (fun _ _ _ h => h) (Or.inl ⟨by kernel_rfl, ?_⟩) hHeld ?_
        rotate_left
        · intro w hSw
          (try dsimp only at hSw)
          go_split_ands
          go_simp
          (try with_reducible rfl)
        try simp only [Act.put, List.getElem_toArray, List.getElem_cons_succ, List.getElem_cons_zero, List.setIfInBounds_toArray, List.set_cons_zero, List.set_cons_succ]
        refine wpAnyH_take (i := 8) (v := ?_) rfl (by kernel_rfl) (by kernel_rfl) (by kernel_rfl) (fun _ _ _ h => h) (Or.inl ⟨by kernel_rfl, ?_⟩) hHeld ?_
        rotate_left
        · intro w hSw
          (try dsimp only at hSw)
          go_split_ands
          go_simp
          (try with_reducible rfl)
        try simp only [Act.put, List.getElem_toArray, List.getElem_cons_succ, List.getElem_cons_zero, List.setIfInBounds_toArray, List.set_cons_zero, List.set_cons_succ]
        refine wpAnyH_ready (rs := [9]) (by kernel_rfl) (by simp) ?_
        refine AllReadyH.cons rfl (fun KK hK => ?_) AllReadyH.nil
        clear hHeld
        go_simp
        refine hK.out _ _ ⟨(B_6.out.ext (Ext.alloc (Ext.refl w6) _)).cell 0, (B_6.out.ext (Ext.alloc (Ext.refl w6) _)).cell 1, (B_6.out.ext (Ext.alloc (Ext.refl w6) _)).cell 2, (C_6.out.ext (Ext.alloc (Ext.refl w6) _)).cell 0, (C_6.out.ext (Ext.alloc (Ext.refl w6) _)).cell 1, (C_6.out.ext (Ext.alloc (Ext.refl w6) _)).cell 2, (C_6.out.ext (Ext.alloc (Ext.refl w6) _)).cell 3⟩ (fun hHeld => ?_)
        clear hK KK hHeld
        try simp only [Act.put, List.getElem_toArray, List.getElem_cons_succ, List.getElem_cons_zero, List.setIfInBounds_toArray, List.set_cons_zero, List.set_cons_succ]
        have NE_B_V := Lib.hid (Nat.ne_of_lt B_6.out.lt)
        have NE_C_V := Lib.hid (Nat.ne_of_lt C_6.out.lt)
        have GE_V := Lib.hid X_6.out.size
        refine anyH_world (fun wz => Ext w6 wz ∧ Bk wz w6.heap.size #[.int .i64 0, .int .i64 0, .slice none 0 0]) ⟨Ext.alloc (Ext.refl _) _, Bk.at rfl⟩ ?_
        rintro w7 ⟨h, hB⟩
        have X_7 := Lib.hid (X_6.out.trans h)
        have B_7 := Lib.hid (B_6.out.ext h)
        have C_7 := Lib.hid (C_6.out.ext h)
        clear h X_6 B_6 C_6
        have V_7 := Lib.hid (hB)
        clear hB
        have hHeld : w7.cell? ⟨w.heap.size, 0, none⟩ = some (.int .i64 W) ∧ w7.cell? ⟨w.heap.size, 1, none⟩ = some (.int .i64 H) ∧ w7.cell? ⟨w.heap.size, 2, none⟩ = some (.slice x n cap) ∧ w7.cell? ⟨w.heap.size + 1, 0, none⟩ = some (.int .u8 c.r) ∧ w7.cell? ⟨w.heap.size + 1, 1, none⟩ = some (.int .u8 c.g) ∧ w7.cell? ⟨w.heap.size + 1, 2, none⟩ = some (.int .u8 c.b) ∧ w7.cell? ⟨w.heap.size + 1, 3, none⟩ = some (.int .u8 c.a) := ⟨B_7.out.cell 0, B_7.out.cell 1, B_7.out.cell 2, C_7.out.cell 0, C_7.out.cell 1, C_7.out.cell 2, C_7.out.cell 3⟩
        refine wpAnyH_ready (rs := [10]) (by kernel_rfl) (by simp) ?_
        refine AllReadyH.cons rfl (fun KK hK => ?_) AllReadyH.nil
        clear hHeld
        have t0 := V_7.out.cell 0
        have f0 := V_7.out.frozen 0
        have t1 := V_7.out.cell 1
        have f1 := V_7.out.frozen 1
        have t2 := V_7.out.cell 2
        have f2 := V_7.out.frozen 2
        have SF := set3_all (x' := .int .i64 0) (y' := .int .i64 0) (z' := .slice none 0 0) X_7.out GE_V.out V_7.out
        have SFH := Lib.hid SF
        clear SF
        go_simp
        clear t0 t1 t2 f0 f1 f2
        refine hK.out _ _ ⟨(B_7.out.keeps SFH.out.2.2 (NE_B_V.out)).cell 0, (B_7.out.keeps SFH.out.2.2 (NE_B_V.out)).cell 1, (B_7.out.keeps SFH.out.2.2 (NE_B_V.out)).cell 2, (C_7.out.keeps SFH.out.2.2 (NE_C_V.out)).cell 0, (C_7.out.keeps SFH.out.2.2 (NE_C_V.out)).cell 1, (C_7.out.keeps SFH.out.2.2 (NE_C_V.out)).cell 2, (C_7.out.keeps SFH.out.2.2 (NE_C_V.out)).cell 3⟩ (fun hHeld => ?_)
        clear hK KK hHeld
        try simp only [Act.put, List.getElem_toArray, List.getElem_cons_succ, List.getElem_cons_zero, List.setIfInBounds_toArray, List.set_cons_zero, List.set_cons_succ]
        refine anyH_world (fun wz => Ext w wz ∧ Bk wz (w6.heap.size) #[.int .i64 0, .int .i64 0, .slice none 0 0] ∧ Keeps (fun k => k = w6.heap.size) w7 wz) SFH.out ?_
        rintro w8 ⟨hX, hB, hKK⟩
        have X_8 := Lib.hid (hX)
        have B_8 := Lib.hid (B_7.out.keeps hKK (NE_B_V.out))
        have C_8 := Lib.hid (C_7.out.keeps hKK (NE_C_V.out))
        have V_8 := Lib.hid (hB)
        clear hX hB hKK SFH X_7 B_7 C_7 V_7
        have hHeld : w8.cell? ⟨w.heap.size, 0, none⟩ = some (.int .i64 W) ∧ w8.cell? ⟨w.heap.size, 1, none⟩ = some (.int .i64 H) ∧ w8.cell? ⟨w.heap.size, 2, none⟩ = some (.slice x n cap) ∧ w8.cell? ⟨w.heap.size + 1, 0, none⟩ = some (.int .u8 c.r) ∧ w8.cell? ⟨w.heap.size + 1, 1, none⟩ = some (.int .u8 c.g) ∧ w8.cell? ⟨w.heap.size + 1, 2, none⟩ = some (.int .u8 c.b) ∧ w8.cell? ⟨w.heap.size + 1, 3, none⟩ = some (.int .u8 c.a) := ⟨B_8.out.cell 0, B_8.out.cell 1, B_8.out.cell 2, C_8.out.cell 0, C_8.out.cell 1, C_8.out.cell 2, C_8.out.cell 3⟩
        refine wpAnyH_take (i := 11) (v := ?_) rfl (by kernel_rfl) (by kernel_rfl) (by kernel_rfl) (fun _ _ _ h => h) (Or.inl ⟨by kernel_rfl, ?_⟩) hHeld ?_
        rotate_left
        · intro w hSw
          (try dsimp only at hSw)
          go_split_ands
          go_simp
          (try with_reducible rfl)
        try simp only [Act.put, List.getElem_toArray, List.getElem_cons_succ, List.getElem_cons_zero, List.setIfInBounds_toArray, List.set_cons_zero, List.set_cons_succ]
        refine wpAnyH_done (by kernel_rfl) ?_ _
        clear hHeld
        (try go_wp2_with fail)
        go_meet
        exact ⟨_, rfl, rfl, X_8, B_8, C_8, V_8⟩
      · clear hHeld
        go_simp
        refine hK.out _ _ ⟨(B_5.out.ext (Ext.alloc (Ext.refl w5) _)).cell 0, (B_5.out.ext (Ext.alloc (Ext.refl w5) _)).cell 1, (B_5.out.ext (Ext.alloc (Ext.refl w5) _)).cell 2, (C_5.out.ext (Ext.alloc (Ext.refl w5) _)).cell 0, (C_5.out.ext (Ext.alloc (Ext.refl w5) _)).cell 1, (C_5.out.ext (Ext.alloc (Ext.refl w5) _)).cell 2, (C_5.out.ext (Ext.alloc (Ext.refl w5) _)).cell 3⟩ (fun hHeld => ?_)
        clear hK KK hHeld
        try simp only [Act.put, List.getElem_toArray, List.getElem_cons_succ, List.getElem_cons_zero, List.setIfInBounds_toArray, List.set_cons_zero, List.set_cons_succ]
        have NE_B_V := Lib.hid (Nat.ne_of_lt B_5.out.lt)
        have NE_C_V := Lib.hid (Nat.ne_of_lt C_5.out.lt)
        have GE_V := Lib.hid X_5.out.size
        refine anyH_world (fun wz => Ext w5 wz ∧ Bk wz w5.heap.size #[.int .i64 0, .int .i64 0, .slice none 0 0]) ⟨Ext.alloc (Ext.refl _) _, Bk.at rfl⟩ ?_
        rintro w6 ⟨h, hB⟩
        have X_6 := Lib.hid (X_5.out.trans h)
        have B_6 := Lib.hid (B_5.out.ext h)
        have C_6 := Lib.hid (C_5.out.ext h)
        have O_6 := Lib.hid (O_5.out.ext h)
        clear h X_5 B_5 C_5 O_5
        have V_6 := Lib.hid (hB)
        clear hB
        have hHeld : w6.cell? ⟨w.heap.size, 0, none⟩ = some (.int .i64 W) ∧ w6.cell? ⟨w.heap.size, 1, none⟩ = some (.int .i64 H) ∧ w6.cell? ⟨w.heap.size, 2, none⟩ = some (.slice x n cap) ∧ w6.cell? ⟨w.heap.size + 1, 0, none⟩ = some (.int .u8 c.r) ∧ w6.cell? ⟨w.heap.size + 1, 1, none⟩ = some (.int .u8 c.g) ∧ w6.cell? ⟨w.heap.size + 1, 2, none⟩ = some (.int .u8 c.b) ∧ w6.cell? ⟨w.heap.size + 1, 3, none⟩ = some (.int .u8 c.a) := ⟨B_6.out.cell 0, B_6.out.cell 1, B_6.out.cell 2, C_6.out.cell 0, C_6.out.cell 1, C_6.out.cell 2, C_6.out.cell 3⟩
        refine wpAnyH_ready (rs := [5]) (by kernel_rfl) (by simp) ?_
        refine AllReadyH.cons rfl (fun KK hK => ?_) AllReadyH.nil
        clear hHeld
        go_simp
        refine (flood_shape _ _ _ _ _ _ _ _ E _ (HE.out.ext X_6.out) HR.out).mono ?_
        rintro e w7 ⟨rfl, h⟩
        have X_7 := Lib.hid (X_6.out.trans h)
        have B_7 := Lib.hid (B_6.out.ext h)
        have C_7 := Lib.hid (C_6.out.ext h)
        have O_7 := Lib.hid (O_6.out.ext h)
        have V_7 := Lib.hid (V_6.out.ext h)
        clear h X_6 B_6 C_6 O_6 V_6
        go_simp
        refine hK.out _ _ ⟨B_7.out.cell 0, B_7.out.cell 1, B_7.out.cell 2, C_7.out.cell 0, C_7.out.cell 1, C_7.out.cell 2, C_7.out.cell 3⟩ (fun hHeld => ?_)
        clear hK KK
        try simp only [Act.put, List.getElem_toArray, List.getElem_cons_succ, List.getElem_cons_zero, List.setIfInBounds_toArray, List.set_cons_zero, List.set_cons_succ]
        clear O_7
        refine wpAnyH_take (i := 6) (v := ?_) rfl (by kernel_rfl) (by kernel_rfl) (by kernel_rfl) (fun _ _ _ h => h) (Or.inl ⟨by kernel_rfl, ?_⟩) hHeld ?_
        rotate_left
        · intro w hSw
          (try dsimp only at hSw)
          go_split_ands
          go_simp
          (try with_reducible rfl)
        try simp only [Act.put, List.getElem_toArray, List.getElem_cons_succ, List.getElem_cons_zero, List.setIfInBounds_toArray, List.set_cons_zero, List.set_cons_succ]
        refine wpAnyH_take (i := 7) (v := ?_) rfl (by kernel_rfl) (by kernel_rfl) (by kernel_rfl) (fun _ _ _ h => h) (Or.inl ⟨by kernel_rfl, ?_⟩) hHeld ?_
        rotate_left
        · intro w hSw
          (try dsimp only at hSw)
          go_split_ands
          go_simp
          (try with_reducible rfl)
        try simp only [Act.put, List.getElem_toArray, List.getElem_cons_succ, List.getElem_cons_zero, List.setIfInBounds_toArray, List.set_cons_zero, List.set_cons_succ]
        refine wpAnyH_take (i := 8) (v := ?_) rfl (by kernel_rfl) (by kernel_rfl) (by kernel_rfl) (fun _ _ _ h => h) (Or.inl ⟨by kernel_rfl, ?_⟩) hHeld ?_
        rotate_left
        · intro w hSw
          (try dsimp only at hSw)
          go_split_ands
          go_simp
          (try with_reducible rfl)
        try simp only [Act.put, List.getElem_toArray, List.getElem_cons_succ, List.getElem_cons_zero, List.setIfInBounds_toArray, List.set_cons_zero, List.set_cons_succ]
        refine wpAnyH_ready (rs := [10]) (by kernel_rfl) (by simp) ?_
        refine AllReadyH.cons rfl (fun KK hK => ?_) AllReadyH.nil
        clear hHeld
        have t0 := V_7.out.cell 0
        have f0 := V_7.out.frozen 0
        have t1 := V_7.out.cell 1
        have f1 := V_7.out.frozen 1
        have t2 := V_7.out.cell 2
        have f2 := V_7.out.frozen 2
        have SF := set3_all (x' := .int .i64 0) (y' := .int .i64 0) (z' := .slice none 0 0) X_7.out GE_V.out V_7.out
        have SFH := Lib.hid SF
        clear SF
        go_simp
        clear t0 t1 t2 f0 f1 f2
        refine hK.out _ _ ⟨(B_7.out.keeps SFH.out.2.2 (NE_B_V.out)).cell 0, (B_7.out.keeps SFH.out.2.2 (NE_B_V.out)).cell 1, (B_7.out.keeps SFH.out.2.2 (NE_B_V.out)).cell 2, (C_7.out.keeps SFH.out.2.2 (NE_C_V.out)).cell 0, (C_7.out.keeps SFH.out.2.2 (NE_C_V.out)).cell 1, (C_7.out.keeps SFH.out.2.2 (NE_C_V.out)).cell 2, (C_7.out.keeps SFH.out.2.2 (NE_C_V.out)).cell 3⟩ (fun hHeld => ?_)
        clear hK KK hHeld
        try simp only [Act.put, List.getElem_toArray, List.getElem_cons_succ, List.getElem_cons_zero, List.setIfInBounds_toArray, List.set_cons_zero, List.set_cons_succ]
        refine anyH_world (fun wz => Ext w wz ∧ Bk wz (w5.heap.size) #[.int .i64 0, .int .i64 0, .slice none 0 0] ∧ Keeps (fun k => k = w5.heap.size) w7 wz) SFH.out ?_
        rintro w8 ⟨hX, hB, hKK⟩
        have X_8 := Lib.hid (hX)
        have B_8 := Lib.hid (B_7.out.keeps hKK (NE_B_V.out))
        have C_8 := Lib.hid (C_7.out.keeps hKK (NE_C_V.out))
        have V_8 := Lib.hid (hB)
        clear hX hB hKK SFH X_7 B_7 C_7 V_7
        have hHeld : w8.cell? ⟨w.heap.size, 0, none⟩ = some (.int .i64 W) ∧ w8.cell? ⟨w.heap.size, 1, none⟩ = some (.int .i64 H) ∧ w8.cell? ⟨w.heap.size, 2, none⟩ = some (.slice x n cap) ∧ w8.cell? ⟨w.heap.size + 1, 0, none⟩ = some (.int .u8 c.r) ∧ w8.cell? ⟨w.heap.size + 1, 1, none⟩ = some (.int .u8 c.g) ∧ w8.cell? ⟨w.heap.size + 1, 2, none⟩ = some (.int .u8 c.b) ∧ w8.cell? ⟨w.heap.size + 1, 3, none⟩ = some (.int .u8 c.a) := ⟨B_8.out.cell 0, B_8.out.cell 1, B_8.out.cell 2, C_8.out.cell 0, C_8.out.cell 1, C_8.out.cell 2, C_8.out.cell 3⟩
        refine wpAnyH_take (i := 11) (v := ?_) rfl (by kernel_rfl) (by kernel_rfl) (by kernel_rfl) (fun _ _ _ h => h) (Or.inl ⟨by kernel_rfl, ?_⟩) hHeld ?_
        rotate_left
        · intro w hSw
          (try dsimp only at hSw)
          go_split_ands
          go_simp
          (try with_reducible rfl)
        try simp only [Act.put, List.getElem_toArray, List.getElem_cons_succ, List.getElem_cons_zero, List.setIfInBounds_toArray, List.set_cons_zero, List.set_cons_succ]
        refine wpAnyH_done (by kernel_rfl) ?_ _
        clear hHeld
        (try go_wp2_with fail)
        go_meet
        exact ⟨_, rfl, rfl, X_8, B_8, C_8, V_8⟩
    · clear hHeld
      go_simp
      refine hK.out _ _ ⟨(B_4.out.ext (Ext.alloc (Ext.refl w4) _)).cell 0, (B_4.out.ext (Ext.alloc (Ext.refl w4) _)).cell 1, (B_4.out.ext (Ext.alloc (Ext.refl w4) _)).cell 2, (C_4.out.ext (Ext.alloc (Ext.refl w4) _)).cell 0, (C_4.out.ext (Ext.alloc (Ext.refl w4) _)).cell 1, (C_4.out.ext (Ext.alloc (Ext.refl w4) _)).cell 2, (C_4.out.ext (Ext.alloc (Ext.refl w4) _)).cell 3⟩ (fun hHeld => ?_)
      clear hK KK hHeld
      try simp only [Act.put, List.getElem_toArray, List.getElem_cons_succ, List.getElem_cons_zero, List.setIfInBounds_toArray, List.set_cons_zero, List.set_cons_succ]
      have NE_B_V := Lib.hid (Nat.ne_of_lt B_4.out.lt)
      have NE_C_V := Lib.hid (Nat.ne_of_lt C_4.out.lt)
      have GE_V := Lib.hid X_4.out.size
      refine anyH_world (fun wz => Ext w4 wz ∧ Bk wz w4.heap.size #[.int .i64 0, .int .i64 0, .slice none 0 0]) ⟨Ext.alloc (Ext.refl _) _, Bk.at rfl⟩ ?_
      rintro w5 ⟨h, hB⟩
      have X_5 := Lib.hid (X_4.out.trans h)
      have B_5 := Lib.hid (B_4.out.ext h)
      have C_5 := Lib.hid (C_4.out.ext h)
      clear h X_4 B_4 C_4
      have V_5 := Lib.hid (hB)
      clear hB
      have hHeld : w5.cell? ⟨w.heap.size, 0, none⟩ = some (.int .i64 W) ∧ w5.cell? ⟨w.heap.size, 1, none⟩ = some (.int .i64 H) ∧ w5.cell? ⟨w.heap.size, 2, none⟩ = some (.slice x n cap) ∧ w5.cell? ⟨w.heap.size + 1, 0, none⟩ = some (.int .u8 c.r) ∧ w5.cell? ⟨w.heap.size + 1, 1, none⟩ = some (.int .u8 c.g) ∧ w5.cell? ⟨w.heap.size + 1, 2, none⟩ = some (.int .u8 c.b) ∧ w5.cell? ⟨w.heap.size + 1, 3, none⟩ = some (.int .u8 c.a) := ⟨B_5.out.cell 0, B_5.out.cell 1, B_5.out.cell 2, C_5.out.cell 0, C_5.out.cell 1, C_5.out.cell 2, C_5.out.cell 3⟩
      refine wpAnyH_ready (rs := [1]) (by kernel_rfl) (by simp) ?_
      refine AllReadyH.cons rfl (fun KK hK => ?_) AllReadyH.nil
      clear hHeld
      go_simp
      refine (own_x _ _ x n cap px _ (HX.out.ext X_5.out) HX0.out (by omega)).mono ?_
      rintro e w6 ⟨⟨ox, oc, rfl, hox, _⟩, h⟩
      have oxh := Lib.hid hox
      have X_6 := Lib.hid (X_5.out.trans h)
      have B_6 := Lib.hid (B_5.out.ext h)
      have C_6 := Lib.hid (C_5.out.ext h)
      have V_6 := Lib.hid (V_5.out.ext h)
      clear h hox X_5 B_5 C_5 V_5
      have O_6 := Lib.hid (oxh.out)
      go_simp
      refine hK.out _ _ ⟨B_6.out.cell 0, B_6.out.cell 1, B_6.out.cell 2, C_6.out.cell 0, C_6.out.cell 1, C_6.out.cell 2, C_6.out.cell 3⟩ (fun hHeld => ?_)
      clear hK KK
      try simp only [Act.put, List.getElem_toArray, List.getElem_cons_succ, List.getElem_cons_zero, List.setIfInBounds_toArray, List.set_cons_zero, List.set_cons_succ]
      refine wpAnyH_ready (rs := [5]) (by kernel_rfl) (by simp) ?_
      refine AllReadyH.cons rfl (fun KK hK => ?_) AllReadyH.nil
      clear hHeld
      go_simp
      refine (flood_shape _ _ _ _ _ _ _ _ E _ (HE.out.ext X_6.out) HR.out).mono ?_
      rintro e w7 ⟨rfl, h⟩
      have X_7 := Lib.hid (X_6.out.trans h)
      have B_7 := Lib.hid (B_6.out.ext h)
      have C_7 := Lib.hid (C_6.out.ext h)
      have V_7 := Lib.hid (V_6.out.ext h)
      have O_7 := Lib.hid (O_6.out.ext h)
      clear h X_6 B_6 C_6 V_6 O_6
      go_simp
      refine hK.out _ _ ⟨B_7.out.cell 0, B_7.out.cell 1, B_7.out.cell 2, C_7.out.cell 0, C_7.out.cell 1, C_7.out.cell 2, C_7.out.cell 3⟩ (fun hHeld => ?_)
      clear hK KK
      try simp only [Act.put, List.getElem_toArray, List.getElem_cons_succ, List.getElem_cons_zero, List.setIfInBounds_toArray, List.set_cons_zero, List.set_cons_succ]
      clear O_7
      refine wpAnyH_take (i := 6) (v := ?_) rfl (by kernel_rfl) (by kernel_rfl) (by kernel_rfl) (fun _ _ _ h => h) (Or.inl ⟨by kernel_rfl, ?_⟩) hHeld ?_
      rotate_left
      · intro w hSw
        (try dsimp only at hSw)
        go_split_ands
        go_simp
        (try with_reducible rfl)
      try simp only [Act.put, List.getElem_toArray, List.getElem_cons_succ, List.getElem_cons_zero, List.setIfInBounds_toArray, List.set_cons_zero, List.set_cons_succ]
      refine wpAnyH_take (i := 7) (v := ?_) rfl (by kernel_rfl) (by kernel_rfl) (by kernel_rfl) (fun _ _ _ h => h) (Or.inl ⟨by kernel_rfl, ?_⟩) hHeld ?_
      rotate_left
      · intro w hSw
        (try dsimp only at hSw)
        go_split_ands
        go_simp
        (try with_reducible rfl)
      try simp only [Act.put, List.getElem_toArray, List.getElem_cons_succ, List.getElem_cons_zero, List.setIfInBounds_toArray, List.set_cons_zero, List.set_cons_succ]
      refine wpAnyH_take (i := 8) (v := ?_) rfl (by kernel_rfl) (by kernel_rfl) (by kernel_rfl) (fun _ _ _ h => h) (Or.inl ⟨by kernel_rfl, ?_⟩) hHeld ?_
      rotate_left
      · intro w hSw
        (try dsimp only at hSw)
        go_split_ands
        go_simp
        (try with_reducible rfl)
      try simp only [Act.put, List.getElem_toArray, List.getElem_cons_succ, List.getElem_cons_zero, List.setIfInBounds_toArray, List.set_cons_zero, List.set_cons_succ]
      refine wpAnyH_ready (rs := [10]) (by kernel_rfl) (by simp) ?_
      refine AllReadyH.cons rfl (fun KK hK => ?_) AllReadyH.nil
      clear hHeld
      have t0 := V_7.out.cell 0
      have f0 := V_7.out.frozen 0
      have t1 := V_7.out.cell 1
      have f1 := V_7.out.frozen 1
      have t2 := V_7.out.cell 2
      have f2 := V_7.out.frozen 2
      have SF := set3_all (x' := .int .i64 0) (y' := .int .i64 0) (z' := .slice none 0 0) X_7.out GE_V.out V_7.out
      have SFH := Lib.hid SF
      clear SF
      go_simp
      clear t0 t1 t2 f0 f1 f2
      refine hK.out _ _ ⟨(B_7.out.keeps SFH.out.2.2 (NE_B_V.out)).cell 0, (B_7.out.keeps SFH.out.2.2 (NE_B_V.out)).cell 1, (B_7.out.keeps SFH.out.2.2 (NE_B_V.out)).cell 2, (C_7.out.keeps SFH.out.2.2 (NE_C_V.out)).cell 0, (C_7.out.keeps SFH.out.2.2 (NE_C_V.out)).cell 1, (C_7.out.keeps SFH.out.2.2 (NE_C_V.out)).cell 2, (C_7.out.keeps SFH.out.2.2 (NE_C_V.out)).cell 3⟩ (fun hHeld => ?_)
      clear hK KK hHeld
      try simp only [Act.put, List.getElem_toArray, List.getElem_cons_succ, List.getElem_cons_zero, List.setIfInBounds_toArray, List.set_cons_zero, List.set_cons_succ]
      refine anyH_world (fun wz => Ext w wz ∧ Bk wz (w4.heap.size) #[.int .i64 0, .int .i64 0, .slice none 0 0] ∧ Keeps (fun k => k = w4.heap.size) w7 wz) SFH.out ?_
      rintro w8 ⟨hX, hB, hKK⟩
      have X_8 := Lib.hid (hX)
      have B_8 := Lib.hid (B_7.out.keeps hKK (NE_B_V.out))
      have C_8 := Lib.hid (C_7.out.keeps hKK (NE_C_V.out))
      have V_8 := Lib.hid (hB)
      clear hX hB hKK SFH X_7 B_7 C_7 V_7
      have hHeld : w8.cell? ⟨w.heap.size, 0, none⟩ = some (.int .i64 W) ∧ w8.cell? ⟨w.heap.size, 1, none⟩ = some (.int .i64 H) ∧ w8.cell? ⟨w.heap.size, 2, none⟩ = some (.slice x n cap) ∧ w8.cell? ⟨w.heap.size + 1, 0, none⟩ = some (.int .u8 c.r) ∧ w8.cell? ⟨w.heap.size + 1, 1, none⟩ = some (.int .u8 c.g) ∧ w8.cell? ⟨w.heap.size + 1, 2, none⟩ = some (.int .u8 c.b) ∧ w8.cell? ⟨w.heap.size + 1, 3, none⟩ = some (.int .u8 c.a) := ⟨B_8.out.cell 0, B_8.out.cell 1, B_8.out.cell 2, C_8.out.cell 0, C_8.out.cell 1, C_8.out.cell 2, C_8.out.cell 3⟩
      refine wpAnyH_take (i := 11) (v := ?_) rfl (by kernel_rfl) (by kernel_rfl) (by kernel_rfl) (fun _ _ _ h => h) (Or.inl ⟨by kernel_rfl, ?_⟩) hHeld ?_
      rotate_left
      · intro w hSw
        (try dsimp only at hSw)
        go_split_ands
        go_simp
        (try with_reducible rfl)
      try simp only [Act.put, List.getElem_toArray, List.getElem_cons_succ, List.getElem_cons_zero, List.setIfInBounds_toArray, List.set_cons_zero, List.set_cons_succ]
      refine wpAnyH_done (by kernel_rfl) ?_ _
      clear hHeld
      (try go_wp2_with fail)
      go_meet
      exact ⟨_, rfl, rfl, X_8, B_8, C_8, V_8⟩
  case rest =>
    clear X_3 B_3 C_3
    obtain ⟨T, rfl, rfl, X_30, B_30, C_30, V_30⟩ := hcut
    have k0 := B_30.out.cell 0
    have k1 := B_30.out.cell 1
    have k2 := B_30.out.cell 2
    go_wp2_with fail
    refine (refIn_any _ _ _ _ _ _ ⟨_, _, _, rfl⟩).mono ?_
    rintro e y31 ⟨rfl, h⟩
    have X_31 := Lib.hid (X_30.out.trans h)
    have B_31 := Lib.hid (B_30.out.ext h)
    have C_31 := Lib.hid (C_30.out.ext h)
    have V_31 := Lib.hid (V_30.out.ext h)
    clear h X_30 B_30 C_30 V_30
    clear k0 k1 k2
    cases hin : inB W H u v
    · clear hin
      have k0 := B_31.out.cell 0
      have k1 := B_31.out.cell 1
      have k2 := B_31.out.cell 2
      go_wp2_with fail
      refine (refRight_any _ _ _ _ _ _).mono ?_
      rintro e y32 ⟨rfl, h⟩
      have X_32 := Lib.hid (X_31.out.trans h)
      have B_32 := Lib.hid (B_31.out.ext h)
      have C_32 := Lib.hid (C_31.out.ext h)
      have V_32 := Lib.hid (V_31.out.ext h)
      clear h X_31 B_31 C_31 V_31
      clear k0 k1 k2
      rw [HR.out]
      have k0 := V_32.out.cell 0
      have k1 := V_32.out.cell 1
      have k2 := V_32.out.cell 2
      have k3 := B_32.out.cell 0
      have k4 := B_32.out.cell 1
      have k5 := B_32.out.cell 2
      go_wp2_with fail
      refine (told_err _ 2 _ _ _ _ _ _ E (HE.out.ext X_32.out) (.sent 2 (by decide))).mono ?_
      rintro e y33 ⟨rfl, h⟩
      have X_33 := Lib.hid (X_32.out.trans h)
      have B_33 := Lib.hid (B_32.out.ext h)
      have C_33 := Lib.hid (C_32.out.ext h)
      have V_33 := Lib.hid (V_32.out.ext h)
      clear h X_32 B_32 C_32 V_32
      clear k0 k1 k2 k3 k4 k5
      go_wp2_with fail
      go_ret
      exact ⟨rfl, X_33.out⟩
    · clear hin
      have k0 := B_31.out.cell 0
      have k1 := B_31.out.cell 1
      have k2 := B_31.out.cell 2
      go_wp2_with fail
      refine (refRight_any _ _ _ _ _ _).mono ?_
      rintro e y32 ⟨rfl, h⟩
      have X_32 := Lib.hid (X_31.out.trans h)
      have B_32 := Lib.hid (B_31.out.ext h)
      have C_32 := Lib.hid (C_31.out.ext h)
      have V_32 := Lib.hid (V_31.out.ext h)
      clear h X_31 B_31 C_31 V_31
      clear k0 k1 k2
      rw [HR.out]
      have k0 := V_32.out.cell 0
      have k1 := V_32.out.cell 1
      have k2 := V_32.out.cell 2
      have k3 := B_32.out.cell 0
      have k4 := B_32.out.cell 1
      have k5 := B_32.out.cell 2
      go_wp2_with fail
      refine (told_err _ 2 _ _ _ _ _ _ E (HE.out.ext X_32.out) (.sent 2 (by decide))).mono ?_
      rintro e y33 ⟨rfl, h⟩
      have X_33 := Lib.hid (X_32.out.trans h)
      have B_33 := Lib.hid (B_32.out.ext h)
      have C_33 := Lib.hid (C_32.out.ext h)
      have V_33 := Lib.hid (V_32.out.ext h)
      clear h X_32 B_32 C_32 V_32
      clear k0 k1 k2 k3 k4 k5
      go_wp2_with fail
      go_ret
      exact ⟨rfl, X_33.out⟩
set_option linter.unusedSimpArgs false in
set_option maxHeartbeats 4000000 in
theorem floods_bound (W H : Int) (x : Option Addr) (n cap : Nat) (px : Nat → P4) (u v : Int) (c : P4) (w : World) (E : Nat → Addr) (hE : Errs w E) (hx : Pxs w x n px) (hxz : x = none → cap = 0) (hn : n ≤ 3000) (hr : rightB W H n = true) (hi : inB W H u v = false) :
    Calls Tryd.prog 6 #[.agg #[.int .i64 W, .int .i64 H, .slice x n cap], .int .i64 u, .int .i64 v, .agg #[.int .u8 c.r, .int .u8 c.g, .int .u8 c.b, .int .u8 c.a]] w fun e w' => e = .returned (.bool true) ∧ Ext w w' := by
  have HE := Lib.hid hE
  clear hE
  have HX := Lib.hid hx
  have HD := Lib.hid (decide_eq_true hn)
  have HR := Lib.hid hr
  have HI := Lib.hid hi
  clear hi
  have HX0 := Lib.hid hxz
  clear hxz
  clear hx hr
  go_enter Tryd.func6, Tryd.ntmps6
  go_wp2_with fail
  refine calls_world (fun wz => Ext w wz ∧ wz.heap.size = w.heap.size + 1 + 1 ∧ Bk wz (w.heap.size) #[.int .i64 W, .int .i64 H, .slice x n cap] ∧ Bk wz (w.heap.size + 1) #[.int .u8 c.r, .int .u8 c.g, .int .u8 c.b, .int .u8 c.a]) ⟨by repeat (first | exact Ext.refl _ | refine Ext.alloc ?_ _), by simp, by repeat (first | exact Bk.at (by simp) | refine Bk.old ?_), by repeat (first | exact Bk.at (by simp) | refine Bk.old ?_)⟩ ?_
  rintro w1 ⟨hX, hZ, hB0, hB1⟩
  have X_1 := Lib.hid hX
  have B_1 := Lib.hid hB0
  have C_1 := Lib.hid hB1
  clear hX hZ hB0 hB1
  have NBC : Hid (w.heap.size ≠ w.heap.size + 1) := Lib.hid (by omega)
  refine (plainly_any _).mono ?_
  rintro e w2 ⟨rfl, h⟩
  have X_2 := Lib.hid (X_1.out.trans h)
  have B_2 := Lib.hid (B_1.out.ext h)
  have C_2 := Lib.hid (C_1.out.ext h)
  clear h X_1 B_1 C_1
  have k0 := B_2.out.cell 0
  have k1 := B_2.out.cell 1
  have k2 := B_2.out.cell 2
  go_wp2_with fail
  refine (small_any _ _ _ _ _ _ (by unfold maxLen; omega)).mono ?_
  rintro e w3 ⟨rfl, h⟩
  have X_3 := Lib.hid (X_2.out.trans h)
  have B_3 := Lib.hid (B_2.out.ext h)
  have C_3 := Lib.hid (C_2.out.ext h)
  clear h X_2 B_2 C_2
  clear k0 k1 k2
  rw [HD.out]
  go_upto_region 4 with fail
  go_cut [10, 11] (fun s10 s11 wx => ∃ T : Nat, s10 = .pointer (some ⟨T, 0, none⟩) ∧ s11 = .iface 171 (.pointer (some (E 1))) ∧ Hid (Ext w wx) ∧ Hid (Bk wx w.heap.size #[.int .i64 W, .int .i64 H, .slice x n cap]) ∧ Hid (Bk wx (w.heap.size + 1) #[.int .u8 c.r, .int .u8 c.g, .int .u8 c.b, .int .u8 c.a]) ∧ Hid (Bk wx T #[.int .i64 0, .int .i64 0, .slice none 0 0]))
  case first =>
    refine wp_region_held_drew (S := fun w' => w'.cell? ⟨w.heap.size, 0, none⟩ = some (.int .i64 W) ∧ w'.cell? ⟨w.heap.size, 1, none⟩ = some (.int .i64 H) ∧ w'.cell? ⟨w.heap.size, 2, none⟩ = some (.slice x n cap) ∧ w'.cell? ⟨w.heap.size + 1, 0, none⟩ = some (.int .u8 c.r) ∧ w'.cell? ⟨w.heap.size + 1, 1, none⟩ = some (.int .u8 c.g) ∧ w'.cell? ⟨w.heap.size + 1, 2, none⟩ = some (.int .u8 c.b) ∧ w'.cell? ⟨w.heap.size + 1, 3, none⟩ = some (.int .u8 c.a)) (by kernel_rfl) ⟨B_3.out.cell 0, B_3.out.cell 1, B_3.out.cell 2, C_3.out.cell 0, C_3.out.cell 1, C_3.out.cell 2, C_3.out.cell 3⟩ (fun hHeld => ?_)
    clear hHeld
    refine anyH_world (fun wz => Ext w3 wz) (show Ext w3 w3.drew from Below.drew (Ext.refl w3)) ?_
    rintro w4 h
    have X_4 := Lib.hid (X_3.out.trans h)
    have B_4 := Lib.hid (B_3.out.ext h)
    have C_4 := Lib.hid (C_3.out.ext h)
    clear h X_3 B_3 C_3
    have hHeld : w4.cell? ⟨w.heap.size, 0, none⟩ = some (.int .i64 W) ∧ w4.cell? ⟨w.heap.size, 1, none⟩ = some (.int .i64 H) ∧ w4.cell? ⟨w.heap.size, 2, none⟩ = some (.slice x n cap) ∧ w4.cell? ⟨w.heap.size + 1, 0, none⟩ = some (.int .u8 c.r) ∧ w4.cell? ⟨w.heap.size + 1, 1, none⟩ = some (.int .u8 c.g) ∧ w4.cell? ⟨w.heap.size + 1, 2, none⟩ = some (.int .u8 c.b) ∧ w4.cell? ⟨w.heap.size + 1, 3, none⟩ = some (.int .u8 c.a) := ⟨B_4.out.cell 0, B_4.out.cell 1, B_4.out.cell 2, C_4.out.cell 0, C_4.out.cell 1, C_4.out.cell 2, C_4.out.cell 3⟩
    refine wpAnyH_take (i := 0) (v := ?_) rfl (by kernel_rfl) (by kernel_rfl) (by kernel_rfl) (fun _ _ _ h => h) (Or.inl ⟨by kernel_rfl, ?_⟩) hHeld ?_
    rotate_left
    · intro w hSw
      (try dsimp only at hSw)
      go_split_ands
      go_simp
      (try with_reducible rfl)
    try simp only [Act.put, List.getElem_toArray, List.getElem_cons_succ, List.getElem_cons_zero, List.setIfInBounds_toArray, List.set_cons_zero, List.set_cons_succ]
    refine wpAnyH_take (i := 2) (v := ?_) rfl (by kernel_rfl) (by kernel_rfl) (by kernel_rfl) (fun _ _ _ h => h) (Or.inl ⟨by kernel_rfl, ?_⟩) hHeld ?_
    rotate_left
    · intro w hSw
      (try dsimp only at hSw)
      go_split_ands
      go_simp
      (try with_reducible rfl)
    try simp only [Act.put, List.getElem_toArray, List.getElem_cons_succ, List.getElem_cons_zero, List.setIfInBounds_toArray, List.set_cons_zero, List.set_cons_succ]
    refine wpAnyH_take (i := 3) (v := ?_) rfl (by kernel_rfl) (by kernel_rfl) (by kernel_rfl) (fun _ _ _ h => h) (Or.inl ⟨by kernel_rfl, ?_⟩) hHeld ?_
    rotate_left
    · intro w hSw
      (try dsimp only at hSw)
      go_split_ands
      go_simp
      (try with_reducible rfl)
    try simp only [Act.put, List.getElem_toArray, List.getElem_cons_succ, List.getElem_cons_zero, List.setIfInBounds_toArray, List.set_cons_zero, List.set_cons_succ]
    refine wpAnyH_take (i := 4) (v := ?_) rfl (by kernel_rfl) (by kernel_rfl) (by kernel_rfl) (fun _ _ _ h => h) (Or.inl ⟨by kernel_rfl, ?_⟩) hHeld ?_
    rotate_left
    · intro w hSw
      (try dsimp only at hSw)
      go_split_ands
      go_simp
      (try with_reducible rfl)
    try simp only [Act.put, List.getElem_toArray, List.getElem_cons_succ, List.getElem_cons_zero, List.setIfInBounds_toArray, List.set_cons_zero, List.set_cons_succ]
    refine wpAnyH_ready (rs := [1, 9]) (by kernel_rfl) (by simp) ?_
    refine AllReadyH.cons rfl (fun KK hK => ?_) (AllReadyH.cons rfl (fun KK hK => ?_) AllReadyH.nil)
    · clear hHeld
      go_simp
      refine (own_x _ _ x n cap px _ (HX.out.ext X_4.out) HX0.out (by omega)).mono ?_
      rintro e w5 ⟨⟨ox, oc, rfl, hox, _⟩, h⟩
      have oxh := Lib.hid hox
      have X_5 := Lib.hid (X_4.out.trans h)
      have B_5 := Lib.hid (B_4.out.ext h)
      have C_5 := Lib.hid (C_4.out.ext h)
      clear h hox X_4 B_4 C_4
      have O_5 := Lib.hid (oxh.out)
      go_simp
      refine hK.out _ _ ⟨B_5.out.cell 0, B_5.out.cell 1, B_5.out.cell 2, C_5.out.cell 0, C_5.out.cell 1, C_5.out.cell 2, C_5.out.cell 3⟩ (fun hHeld => ?_)
      clear hK KK
      try simp only [Act.put, List.getElem_toArray, List.getElem_cons_succ, List.getElem_cons_zero, List.setIfInBounds_toArray, List.set_cons_zero, List.set_cons_succ]
      refine wpAnyH_ready (rs := [5, 9]) (by kernel_rfl) (by simp) ?_
      refine AllReadyH.cons rfl (fun KK hK => ?_) (AllReadyH.cons rfl (fun KK hK => ?_) AllReadyH.nil)
      · clear hHeld
        go_simp
        refine (flood_bound _ _ _ _ _ _ _ _ E _ (HE.out.ext X_5.out) HR.out HI.out).mono ?_
        rintro e w6 ⟨rfl, h⟩
        have X_6 := Lib.hid (X_5.out.trans h)
        have B_6 := Lib.hid (B_5.out.ext h)
        have C_6 := Lib.hid (C_5.out.ext h)
        have O_6 := Lib.hid (O_5.out.ext h)
        clear h X_5 B_5 C_5 O_5
        go_simp
        refine hK.out _ _ ⟨B_6.out.cell 0, B_6.out.cell 1, B_6.out.cell 2, C_6.out.cell 0, C_6.out.cell 1, C_6.out.cell 2, C_6.out.cell 3⟩ (fun hHeld => ?_)
        clear hK KK
        try simp only [Act.put, List.getElem_toArray, List.getElem_cons_succ, List.getElem_cons_zero, List.setIfInBounds_toArray, List.set_cons_zero, List.set_cons_succ]
        clear O_6
        refine wpAnyH_take (i := 6) (v := ?_) rfl (by kernel_rfl) (by kernel_rfl) (by kernel_rfl) (fun _ _ _ h => h) (Or.inl ⟨by kernel_rfl, ?_⟩) hHeld ?_
        rotate_left
        · intro w hSw
          (try dsimp only at hSw)
          go_split_ands
          go_simp
          (try with_reducible rfl)
        try simp only [Act.put, List.getElem_toArray, List.getElem_cons_succ, List.getElem_cons_zero, List.setIfInBounds_toArray, List.set_cons_zero, List.set_cons_succ]
        refine wpAnyH_take (i := 7) (v := ?_) rfl (by kernel_rfl) (by kernel_rfl) (by kernel_rfl) (fun _ _ _ h => h) (Or.inl ⟨by kernel_rfl, ?_⟩) hHeld ?_
        rotate_left
        · intro w hSw
          (try dsimp only at hSw)
          go_split_ands
          go_simp
          (try with_reducible rfl)
        try simp only [Act.put, List.getElem_toArray, List.getElem_cons_succ, List.getElem_cons_zero, List.setIfInBounds_toArray, List.set_cons_zero, List.set_cons_succ]
        refine wpAnyH_take (i := 8) (v := ?_) rfl (by kernel_rfl) (by kernel_rfl) (by kernel_rfl) (fun _ _ _ h => h) (Or.inl ⟨by kernel_rfl, ?_⟩) hHeld ?_
        rotate_left
        · intro w hSw
          (try dsimp only at hSw)
          go_split_ands
          go_simp
          (try with_reducible rfl)
        try simp only [Act.put, List.getElem_toArray, List.getElem_cons_succ, List.getElem_cons_zero, List.setIfInBounds_toArray, List.set_cons_zero, List.set_cons_succ]
        refine wpAnyH_ready (rs := [9]) (by kernel_rfl) (by simp) ?_
        refine AllReadyH.cons rfl (fun KK hK => ?_) AllReadyH.nil
        clear hHeld
        go_simp
        refine hK.out _ _ ⟨(B_6.out.ext (Ext.alloc (Ext.refl w6) _)).cell 0, (B_6.out.ext (Ext.alloc (Ext.refl w6) _)).cell 1, (B_6.out.ext (Ext.alloc (Ext.refl w6) _)).cell 2, (C_6.out.ext (Ext.alloc (Ext.refl w6) _)).cell 0, (C_6.out.ext (Ext.alloc (Ext.refl w6) _)).cell 1, (C_6.out.ext (Ext.alloc (Ext.refl w6) _)).cell 2, (C_6.out.ext (Ext.alloc (Ext.refl w6) _)).cell 3⟩ (fun hHeld => ?_)
        clear hK KK hHeld
        try simp only [Act.put, List.getElem_toArray, List.getElem_cons_succ, List.getElem_cons_zero, List.setIfInBounds_toArray, List.set_cons_zero, List.set_cons_succ]
        have NE_B_V := Lib.hid (Nat.ne_of_lt B_6.out.lt)
        have NE_C_V := Lib.hid (Nat.ne_of_lt C_6.out.lt)
        have GE_V := Lib.hid X_6.out.size
        refine anyH_world (fun wz => Ext w6 wz ∧ Bk wz w6.heap.size #[.int .i64 0, .int .i64 0, .slice none 0 0]) ⟨Ext.alloc (Ext.refl _) _, Bk.at rfl⟩ ?_
        rintro w7 ⟨h, hB⟩
        have X_7 := Lib.hid (X_6.out.trans h)
        have B_7 := Lib.hid (B_6.out.ext h)
        have C_7 := Lib.hid (C_6.out.ext h)
        clear h X_6 B_6 C_6
        have V_7 := Lib.hid (hB)
        clear hB
        have hHeld : w7.cell? ⟨w.heap.size, 0, none⟩ = some (.int .i64 W) ∧ w7.cell? ⟨w.heap.size, 1, none⟩ = some (.int .i64 H) ∧ w7.cell? ⟨w.heap.size, 2, none⟩ = some (.slice x n cap) ∧ w7.cell? ⟨w.heap.size + 1, 0, none⟩ = some (.int .u8 c.r) ∧ w7.cell? ⟨w.heap.size + 1, 1, none⟩ = some (.int .u8 c.g) ∧ w7.cell? ⟨w.heap.size + 1, 2, none⟩ = some (.int .u8 c.b) ∧ w7.cell? ⟨w.heap.size + 1, 3, none⟩ = some (.int .u8 c.a) := ⟨B_7.out.cell 0, B_7.out.cell 1, B_7.out.cell 2, C_7.out.cell 0, C_7.out.cell 1, C_7.out.cell 2, C_7.out.cell 3⟩
        refine wpAnyH_ready (rs := [10]) (by kernel_rfl) (by simp) ?_
        refine AllReadyH.cons rfl (fun KK hK => ?_) AllReadyH.nil
        clear hHeld
        have t0 := V_7.out.cell 0
        have f0 := V_7.out.frozen 0
        have t1 := V_7.out.cell 1
        have f1 := V_7.out.frozen 1
        have t2 := V_7.out.cell 2
        have f2 := V_7.out.frozen 2
        have SF := set3_all (x' := .int .i64 0) (y' := .int .i64 0) (z' := .slice none 0 0) X_7.out GE_V.out V_7.out
        have SFH := Lib.hid SF
        clear SF
        go_simp
        clear t0 t1 t2 f0 f1 f2
        refine hK.out _ _ ⟨(B_7.out.keeps SFH.out.2.2 (NE_B_V.out)).cell 0, (B_7.out.keeps SFH.out.2.2 (NE_B_V.out)).cell 1, (B_7.out.keeps SFH.out.2.2 (NE_B_V.out)).cell 2, (C_7.out.keeps SFH.out.2.2 (NE_C_V.out)).cell 0, (C_7.out.keeps SFH.out.2.2 (NE_C_V.out)).cell 1, (C_7.out.keeps SFH.out.2.2 (NE_C_V.out)).cell 2, (C_7.out.keeps SFH.out.2.2 (NE_C_V.out)).cell 3⟩ (fun hHeld => ?_)
        clear hK KK hHeld
        try simp only [Act.put, List.getElem_toArray, List.getElem_cons_succ, List.getElem_cons_zero, List.setIfInBounds_toArray, List.set_cons_zero, List.set_cons_succ]
        refine anyH_world (fun wz => Ext w wz ∧ Bk wz (w6.heap.size) #[.int .i64 0, .int .i64 0, .slice none 0 0] ∧ Keeps (fun k => k = w6.heap.size) w7 wz) SFH.out ?_
        rintro w8 ⟨hX, hB, hKK⟩
        have X_8 := Lib.hid (hX)
        have B_8 := Lib.hid (B_7.out.keeps hKK (NE_B_V.out))
        have C_8 := Lib.hid (C_7.out.keeps hKK (NE_C_V.out))
        have V_8 := Lib.hid (hB)
        clear hX hB hKK SFH X_7 B_7 C_7 V_7
        have hHeld : w8.cell? ⟨w.heap.size, 0, none⟩ = some (.int .i64 W) ∧ w8.cell? ⟨w.heap.size, 1, none⟩ = some (.int .i64 H) ∧ w8.cell? ⟨w.heap.size, 2, none⟩ = some (.slice x n cap) ∧ w8.cell? ⟨w.heap.size + 1, 0, none⟩ = some (.int .u8 c.r) ∧ w8.cell? ⟨w.heap.size + 1, 1, none⟩ = some (.int .u8 c.g) ∧ w8.cell? ⟨w.heap.size + 1, 2, none⟩ = some (.int .u8 c.b) ∧ w8.cell? ⟨w.heap.size + 1, 3, none⟩ = some (.int .u8 c.a) := ⟨B_8.out.cell 0, B_8.out.cell 1, B_8.out.cell 2, C_8.out.cell 0, C_8.out.cell 1, C_8.out.cell 2, C_8.out.cell 3⟩
        refine wpAnyH_take (i := 11) (v := ?_) rfl (by kernel_rfl) (by kernel_rfl) (by kernel_rfl) (fun _ _ _ h => h) (Or.inl ⟨by kernel_rfl, ?_⟩) hHeld ?_
        rotate_left
        · intro w hSw
          (try dsimp only at hSw)
          go_split_ands
          go_simp
          (try with_reducible rfl)
        try simp only [Act.put, List.getElem_toArray, List.getElem_cons_succ, List.getElem_cons_zero, List.setIfInBounds_toArray, List.set_cons_zero, List.set_cons_succ]
        refine wpAnyH_done (by kernel_rfl) ?_ _
        clear hHeld
        (try go_wp2_with fail)
        go_meet
        exact ⟨_, rfl, rfl, X_8, B_8, C_8, V_8⟩
      · clear hHeld
        go_simp
        refine hK.out _ _ ⟨(B_5.out.ext (Ext.alloc (Ext.refl w5) _)).cell 0, (B_5.out.ext (Ext.alloc (Ext.refl w5) _)).cell 1, (B_5.out.ext (Ext.alloc (Ext.refl w5) _)).cell 2, (C_5.out.ext (Ext.alloc (Ext.refl w5) _)).cell 0, (C_5.out.ext (Ext.alloc (Ext.refl w5) _)).cell 1, (C_5.out.ext (Ext.alloc (Ext.refl w5) _)).cell 2, (C_5.out.ext (Ext.alloc (Ext.refl w5) _)).cell 3⟩ (fun hHeld => ?_)
        clear hK KK hHeld
        try simp only [Act.put, List.getElem_toArray, List.getElem_cons_succ, List.getElem_cons_zero, List.setIfInBounds_toArray, List.set_cons_zero, List.set_cons_succ]
        have NE_B_V := Lib.hid (Nat.ne_of_lt B_5.out.lt)
        have NE_C_V := Lib.hid (Nat.ne_of_lt C_5.out.lt)
        have GE_V := Lib.hid X_5.out.size
        refine anyH_world (fun wz => Ext w5 wz ∧ Bk wz w5.heap.size #[.int .i64 0, .int .i64 0, .slice none 0 0]) ⟨Ext.alloc (Ext.refl _) _, Bk.at rfl⟩ ?_
        rintro w6 ⟨h, hB⟩
        have X_6 := Lib.hid (X_5.out.trans h)
        have B_6 := Lib.hid (B_5.out.ext h)
        have C_6 := Lib.hid (C_5.out.ext h)
        have O_6 := Lib.hid (O_5.out.ext h)
        clear h X_5 B_5 C_5 O_5
        have V_6 := Lib.hid (hB)
        clear hB
        have hHeld : w6.cell? ⟨w.heap.size, 0, none⟩ = some (.int .i64 W) ∧ w6.cell? ⟨w.heap.size, 1, none⟩ = some (.int .i64 H) ∧ w6.cell? ⟨w.heap.size, 2, none⟩ = some (.slice x n cap) ∧ w6.cell? ⟨w.heap.size + 1, 0, none⟩ = some (.int .u8 c.r) ∧ w6.cell? ⟨w.heap.size + 1, 1, none⟩ = some (.int .u8 c.g) ∧ w6.cell? ⟨w.heap.size + 1, 2, none⟩ = some (.int .u8 c.b) ∧ w6.cell? ⟨w.heap.size + 1, 3, none⟩ = some (.int .u8 c.a) := ⟨B_6.out.cell 0, B_6.out.cell 1, B_6.out.cell 2, C_6.out.cell 0, C_6.out.cell 1, C_6.out.cell 2, C_6.out.cell 3⟩
        refine wpAnyH_ready (rs := [5]) (by kernel_rfl) (by simp) ?_
        refine AllReadyH.cons rfl (fun KK hK => ?_) AllReadyH.nil
        clear hHeld
        go_simp
        refine (flood_bound _ _ _ _ _ _ _ _ E _ (HE.out.ext X_6.out) HR.out HI.out).mono ?_
        rintro e w7 ⟨rfl, h⟩
        have X_7 := Lib.hid (X_6.out.trans h)
        have B_7 := Lib.hid (B_6.out.ext h)
        have C_7 := Lib.hid (C_6.out.ext h)
        have O_7 := Lib.hid (O_6.out.ext h)
        have V_7 := Lib.hid (V_6.out.ext h)
        clear h X_6 B_6 C_6 O_6 V_6
        go_simp
        refine hK.out _ _ ⟨B_7.out.cell 0, B_7.out.cell 1, B_7.out.cell 2, C_7.out.cell 0, C_7.out.cell 1, C_7.out.cell 2, C_7.out.cell 3⟩ (fun hHeld => ?_)
        clear hK KK
        try simp only [Act.put, List.getElem_toArray, List.getElem_cons_succ, List.getElem_cons_zero, List.setIfInBounds_toArray, List.set_cons_zero, List.set_cons_succ]
        clear O_7
        refine wpAnyH_take (i := 6) (v := ?_) rfl (by kernel_rfl) (by kernel_rfl) (by kernel_rfl) (fun _ _ _ h => h) (Or.inl ⟨by kernel_rfl, ?_⟩) hHeld ?_
        rotate_left
        · intro w hSw
          (try dsimp only at hSw)
          go_split_ands
          go_simp
          (try with_reducible rfl)
        try simp only [Act.put, List.getElem_toArray, List.getElem_cons_succ, List.getElem_cons_zero, List.setIfInBounds_toArray, List.set_cons_zero, List.set_cons_succ]
        refine wpAnyH_take (i := 7) (v := ?_) rfl (by kernel_rfl) (by kernel_rfl) (by kernel_rfl) (fun _ _ _ h => h) (Or.inl ⟨by kernel_rfl, ?_⟩) hHeld ?_
        rotate_left
        · intro w hSw
          (try dsimp only at hSw)
          go_split_ands
          go_simp
          (try with_reducible rfl)
        try simp only [Act.put, List.getElem_toArray, List.getElem_cons_succ, List.getElem_cons_zero, List.setIfInBounds_toArray, List.set_cons_zero, List.set_cons_succ]
        refine wpAnyH_take (i := 8) (v := ?_) rfl (by kernel_rfl) (by kernel_rfl) (by kernel_rfl) (fun _ _ _ h => h) (Or.inl ⟨by kernel_rfl, ?_⟩) hHeld ?_
        rotate_left
        · intro w hSw
          (try dsimp only at hSw)
          go_split_ands
          go_simp
          (try with_reducible rfl)
        try simp only [Act.put, List.getElem_toArray, List.getElem_cons_succ, List.getElem_cons_zero, List.setIfInBounds_toArray, List.set_cons_zero, List.set_cons_succ]
        refine wpAnyH_ready (rs := [10]) (by kernel_rfl) (by simp) ?_
        refine AllReadyH.cons rfl (fun KK hK => ?_) AllReadyH.nil
        clear hHeld
        have t0 := V_7.out.cell 0
        have f0 := V_7.out.frozen 0
        have t1 := V_7.out.cell 1
        have f1 := V_7.out.frozen 1
        have t2 := V_7.out.cell 2
        have f2 := V_7.out.frozen 2
        have SF := set3_all (x' := .int .i64 0) (y' := .int .i64 0) (z' := .slice none 0 0) X_7.out GE_V.out V_7.out
        have SFH := Lib.hid SF
        clear SF
        go_simp
        clear t0 t1 t2 f0 f1 f2
        refine hK.out _ _ ⟨(B_7.out.keeps SFH.out.2.2 (NE_B_V.out)).cell 0, (B_7.out.keeps SFH.out.2.2 (NE_B_V.out)).cell 1, (B_7.out.keeps SFH.out.2.2 (NE_B_V.out)).cell 2, (C_7.out.keeps SFH.out.2.2 (NE_C_V.out)).cell 0, (C_7.out.keeps SFH.out.2.2 (NE_C_V.out)).cell 1, (C_7.out.keeps SFH.out.2.2 (NE_C_V.out)).cell 2, (C_7.out.keeps SFH.out.2.2 (NE_C_V.out)).cell 3⟩ (fun hHeld => ?_)
        clear hK KK hHeld
        try simp only [Act.put, List.getElem_toArray, List.getElem_cons_succ, List.getElem_cons_zero, List.setIfInBounds_toArray, List.set_cons_zero, List.set_cons_succ]
        refine anyH_world (fun wz => Ext w wz ∧ Bk wz (w5.heap.size) #[.int .i64 0, .int .i64 0, .slice none 0 0] ∧ Keeps (fun k => k = w5.heap.size) w7 wz) SFH.out ?_
        rintro w8 ⟨hX, hB, hKK⟩
        have X_8 := Lib.hid (hX)
        have B_8 := Lib.hid (B_7.out.keeps hKK (NE_B_V.out))
        have C_8 := Lib.hid (C_7.out.keeps hKK (NE_C_V.out))
        have V_8 := Lib.hid (hB)
        clear hX hB hKK SFH X_7 B_7 C_7 V_7
        have hHeld : w8.cell? ⟨w.heap.size, 0, none⟩ = some (.int .i64 W) ∧ w8.cell? ⟨w.heap.size, 1, none⟩ = some (.int .i64 H) ∧ w8.cell? ⟨w.heap.size, 2, none⟩ = some (.slice x n cap) ∧ w8.cell? ⟨w.heap.size + 1, 0, none⟩ = some (.int .u8 c.r) ∧ w8.cell? ⟨w.heap.size + 1, 1, none⟩ = some (.int .u8 c.g) ∧ w8.cell? ⟨w.heap.size + 1, 2, none⟩ = some (.int .u8 c.b) ∧ w8.cell? ⟨w.heap.size + 1, 3, none⟩ = some (.int .u8 c.a) := ⟨B_8.out.cell 0, B_8.out.cell 1, B_8.out.cell 2, C_8.out.cell 0, C_8.out.cell 1, C_8.out.cell 2, C_8.out.cell 3⟩
        refine wpAnyH_take (i := 11) (v := ?_) rfl (by kernel_rfl) (by kernel_rfl) (by kernel_rfl) (fun _ _ _ h => h) (Or.inl ⟨by kernel_rfl, ?_⟩) hHeld ?_
        rotate_left
        · intro w hSw
          (try dsimp only at hSw)
          go_split_ands
          go_simp
          (try with_reducible rfl)
        try simp only [Act.put, List.getElem_toArray, List.getElem_cons_succ, List.getElem_cons_zero, List.setIfInBounds_toArray, List.set_cons_zero, List.set_cons_succ]
        refine wpAnyH_done (by kernel_rfl) ?_ _
        clear hHeld
        (try go_wp2_with fail)
        go_meet
        exact ⟨_, rfl, rfl, X_8, B_8, C_8, V_8⟩
    · clear hHeld
      go_simp
      refine hK.out _ _ ⟨(B_4.out.ext (Ext.alloc (Ext.refl w4) _)).cell 0, (B_4.out.ext (Ext.alloc (Ext.refl w4) _)).cell 1, (B_4.out.ext (Ext.alloc (Ext.refl w4) _)).cell 2, (C_4.out.ext (Ext.alloc (Ext.refl w4) _)).cell 0, (C_4.out.ext (Ext.alloc (Ext.refl w4) _)).cell 1, (C_4.out.ext (Ext.alloc (Ext.refl w4) _)).cell 2, (C_4.out.ext (Ext.alloc (Ext.refl w4) _)).cell 3⟩ (fun hHeld => ?_)
      clear hK KK hHeld
      try simp only [Act.put, List.getElem_toArray, List.getElem_cons_succ, List.getElem_cons_zero, List.setIfInBounds_toArray, List.set_cons_zero, List.set_cons_succ]
      have NE_B_V := Lib.hid (Nat.ne_of_lt B_4.out.lt)
      have NE_C_V := Lib.hid (Nat.ne_of_lt C_4.out.lt)
      have GE_V := Lib.hid X_4.out.size
      refine anyH_world (fun wz => Ext w4 wz ∧ Bk wz w4.heap.size #[.int .i64 0, .int .i64 0, .slice none 0 0]) ⟨Ext.alloc (Ext.refl _) _, Bk.at rfl⟩ ?_
      rintro w5 ⟨h, hB⟩
      have X_5 := Lib.hid (X_4.out.trans h)
      have B_5 := Lib.hid (B_4.out.ext h)
      have C_5 := Lib.hid (C_4.out.ext h)
      clear h X_4 B_4 C_4
      have V_5 := Lib.hid (hB)
      clear hB
      have hHeld : w5.cell? ⟨w.heap.size, 0, none⟩ = some (.int .i64 W) ∧ w5.cell? ⟨w.heap.size, 1, none⟩ = some (.int .i64 H) ∧ w5.cell? ⟨w.heap.size, 2, none⟩ = some (.slice x n cap) ∧ w5.cell? ⟨w.heap.size + 1, 0, none⟩ = some (.int .u8 c.r) ∧ w5.cell? ⟨w.heap.size + 1, 1, none⟩ = some (.int .u8 c.g) ∧ w5.cell? ⟨w.heap.size + 1, 2, none⟩ = some (.int .u8 c.b) ∧ w5.cell? ⟨w.heap.size + 1, 3, none⟩ = some (.int .u8 c.a) := ⟨B_5.out.cell 0, B_5.out.cell 1, B_5.out.cell 2, C_5.out.cell 0, C_5.out.cell 1, C_5.out.cell 2, C_5.out.cell 3⟩
      refine wpAnyH_ready (rs := [1]) (by kernel_rfl) (by simp) ?_
      refine AllReadyH.cons rfl (fun KK hK => ?_) AllReadyH.nil
      clear hHeld
      go_simp
      refine (own_x _ _ x n cap px _ (HX.out.ext X_5.out) HX0.out (by omega)).mono ?_
      rintro e w6 ⟨⟨ox, oc, rfl, hox, _⟩, h⟩
      have oxh := Lib.hid hox
      have X_6 := Lib.hid (X_5.out.trans h)
      have B_6 := Lib.hid (B_5.out.ext h)
      have C_6 := Lib.hid (C_5.out.ext h)
      have V_6 := Lib.hid (V_5.out.ext h)
      clear h hox X_5 B_5 C_5 V_5
      have O_6 := Lib.hid (oxh.out)
      go_simp
      refine hK.out _ _ ⟨B_6.out.cell 0, B_6.out.cell 1, B_6.out.cell 2, C_6.out.cell 0, C_6.out.cell 1, C_6.out.cell 2, C_6.out.cell 3⟩ (fun hHeld => ?_)
      clear hK KK
      try simp only [Act.put, List.getElem_toArray, List.getElem_cons_succ, List.getElem_cons_zero, List.setIfInBounds_toArray, List.set_cons_zero, List.set_cons_succ]
      refine wpAnyH_ready (rs := [5]) (by kernel_rfl) (by simp) ?_
      refine AllReadyH.cons rfl (fun KK hK => ?_) AllReadyH.nil
      clear hHeld
      go_simp
      refine (flood_bound _ _ _ _ _ _ _ _ E _ (HE.out.ext X_6.out) HR.out HI.out).mono ?_
      rintro e w7 ⟨rfl, h⟩
      have X_7 := Lib.hid (X_6.out.trans h)
      have B_7 := Lib.hid (B_6.out.ext h)
      have C_7 := Lib.hid (C_6.out.ext h)
      have V_7 := Lib.hid (V_6.out.ext h)
      have O_7 := Lib.hid (O_6.out.ext h)
      clear h X_6 B_6 C_6 V_6 O_6
      go_simp
      refine hK.out _ _ ⟨B_7.out.cell 0, B_7.out.cell 1, B_7.out.cell 2, C_7.out.cell 0, C_7.out.cell 1, C_7.out.cell 2, C_7.out.cell 3⟩ (fun hHeld => ?_)
      clear hK KK
      try simp only [Act.put, List.getElem_toArray, List.getElem_cons_succ, List.getElem_cons_zero, List.setIfInBounds_toArray, List.set_cons_zero, List.set_cons_succ]
      clear O_7
      refine wpAnyH_take (i := 6) (v := ?_) rfl (by kernel_rfl) (by kernel_rfl) (by kernel_rfl) (fun _ _ _ h => h) (Or.inl ⟨by kernel_rfl, ?_⟩) hHeld ?_
      rotate_left
      · intro w hSw
        (try dsimp only at hSw)
        go_split_ands
        go_simp
        (try with_reducible rfl)
      try simp only [Act.put, List.getElem_toArray, List.getElem_cons_succ, List.getElem_cons_zero, List.setIfInBounds_toArray, List.set_cons_zero, List.set_cons_succ]
      refine wpAnyH_take (i := 7) (v := ?_) rfl (by kernel_rfl) (by kernel_rfl) (by kernel_rfl) (fun _ _ _ h => h) (Or.inl ⟨by kernel_rfl, ?_⟩) hHeld ?_
      rotate_left
      · intro w hSw
        (try dsimp only at hSw)
        go_split_ands
        go_simp
        (try with_reducible rfl)
      try simp only [Act.put, List.getElem_toArray, List.getElem_cons_succ, List.getElem_cons_zero, List.setIfInBounds_toArray, List.set_cons_zero, List.set_cons_succ]
      refine wpAnyH_take (i := 8) (v := ?_) rfl (by kernel_rfl) (by kernel_rfl) (by kernel_rfl) (fun _ _ _ h => h) (Or.inl ⟨by kernel_rfl, ?_⟩) hHeld ?_
      rotate_left
      · intro w hSw
        (try dsimp only at hSw)
        go_split_ands
        go_simp
        (try with_reducible rfl)
      try simp only [Act.put, List.getElem_toArray, List.getElem_cons_succ, List.getElem_cons_zero, List.setIfInBounds_toArray, List.set_cons_zero, List.set_cons_succ]
      refine wpAnyH_ready (rs := [10]) (by kernel_rfl) (by simp) ?_
      refine AllReadyH.cons rfl (fun KK hK => ?_) AllReadyH.nil
      clear hHeld
      have t0 := V_7.out.cell 0
      have f0 := V_7.out.frozen 0
      have t1 := V_7.out.cell 1
      have f1 := V_7.out.frozen 1
      have t2 := V_7.out.cell 2
      have f2 := V_7.out.frozen 2
      have SF := set3_all (x' := .int .i64 0) (y' := .int .i64 0) (z' := .slice none 0 0) X_7.out GE_V.out V_7.out
      have SFH := Lib.hid SF
      clear SF
      go_simp
      clear t0 t1 t2 f0 f1 f2
      refine hK.out _ _ ⟨(B_7.out.keeps SFH.out.2.2 (NE_B_V.out)).cell 0, (B_7.out.keeps SFH.out.2.2 (NE_B_V.out)).cell 1, (B_7.out.keeps SFH.out.2.2 (NE_B_V.out)).cell 2, (C_7.out.keeps SFH.out.2.2 (NE_C_V.out)).cell 0, (C_7.out.keeps SFH.out.2.2 (NE_C_V.out)).cell 1, (C_7.out.keeps SFH.out.2.2 (NE_C_V.out)).cell 2, (C_7.out.keeps SFH.out.2.2 (NE_C_V.out)).cell 3⟩ (fun hHeld => ?_)
      clear hK KK hHeld
      try simp only [Act.put, List.getElem_toArray, List.getElem_cons_succ, List.getElem_cons_zero, List.setIfInBounds_toArray, List.set_cons_zero, List.set_cons_succ]
      refine anyH_world (fun wz => Ext w wz ∧ Bk wz (w4.heap.size) #[.int .i64 0, .int .i64 0, .slice none 0 0] ∧ Keeps (fun k => k = w4.heap.size) w7 wz) SFH.out ?_
      rintro w8 ⟨hX, hB, hKK⟩
      have X_8 := Lib.hid (hX)
      have B_8 := Lib.hid (B_7.out.keeps hKK (NE_B_V.out))
      have C_8 := Lib.hid (C_7.out.keeps hKK (NE_C_V.out))
      have V_8 := Lib.hid (hB)
      clear hX hB hKK SFH X_7 B_7 C_7 V_7
      have hHeld : w8.cell? ⟨w.heap.size, 0, none⟩ = some (.int .i64 W) ∧ w8.cell? ⟨w.heap.size, 1, none⟩ = some (.int .i64 H) ∧ w8.cell? ⟨w.heap.size, 2, none⟩ = some (.slice x n cap) ∧ w8.cell? ⟨w.heap.size + 1, 0, none⟩ = some (.int .u8 c.r) ∧ w8.cell? ⟨w.heap.size + 1, 1, none⟩ = some (.int .u8 c.g) ∧ w8.cell? ⟨w.heap.size + 1, 2, none⟩ = some (.int .u8 c.b) ∧ w8.cell? ⟨w.heap.size + 1, 3, none⟩ = some (.int .u8 c.a) := ⟨B_8.out.cell 0, B_8.out.cell 1, B_8.out.cell 2, C_8.out.cell 0, C_8.out.cell 1, C_8.out.cell 2, C_8.out.cell 3⟩
      refine wpAnyH_take (i := 11) (v := ?_) rfl (by kernel_rfl) (by kernel_rfl) (by kernel_rfl) (fun _ _ _ h => h) (Or.inl ⟨by kernel_rfl, ?_⟩) hHeld ?_
      rotate_left
      · intro w hSw
        (try dsimp only at hSw)
        go_split_ands
        go_simp
        (try with_reducible rfl)
      try simp only [Act.put, List.getElem_toArray, List.getElem_cons_succ, List.getElem_cons_zero, List.setIfInBounds_toArray, List.set_cons_zero, List.set_cons_succ]
      refine wpAnyH_done (by kernel_rfl) ?_ _
      clear hHeld
      (try go_wp2_with fail)
      go_meet
      exact ⟨_, rfl, rfl, X_8, B_8, C_8, V_8⟩
  case rest =>
    clear X_3 B_3 C_3
    obtain ⟨T, rfl, rfl, X_30, B_30, C_30, V_30⟩ := hcut
    have k0 := B_30.out.cell 0
    have k1 := B_30.out.cell 1
    have k2 := B_30.out.cell 2
    go_wp2_with fail
    refine (refIn_any _ _ _ _ _ _ ⟨_, _, _, rfl⟩).mono ?_
    rintro e y31 ⟨rfl, h⟩
    have X_31 := Lib.hid (X_30.out.trans h)
    have B_31 := Lib.hid (B_30.out.ext h)
    have C_31 := Lib.hid (C_30.out.ext h)
    have V_31 := Lib.hid (V_30.out.ext h)
    clear h X_30 B_30 C_30 V_30
    clear k0 k1 k2
    rw [HI.out]
    have k0 := B_31.out.cell 0
    have k1 := B_31.out.cell 1
    have k2 := B_31.out.cell 2
    go_wp2_with fail
    refine (refRight_any _ _ _ _ _ _).mono ?_
    rintro e y32 ⟨rfl, h⟩
    have X_32 := Lib.hid (X_31.out.trans h)
    have B_32 := Lib.hid (B_31.out.ext h)
    have C_32 := Lib.hid (C_31.out.ext h)
    have V_32 := Lib.hid (V_31.out.ext h)
    clear h X_31 B_31 C_31 V_31
    clear k0 k1 k2
    rw [HR.out]
    have k0 := V_32.out.cell 0
    have k1 := V_32.out.cell 1
    have k2 := V_32.out.cell 2
    have k3 := B_32.out.cell 0
    have k4 := B_32.out.cell 1
    have k5 := B_32.out.cell 2
    go_wp2_with fail
    refine (told_err _ 1 _ _ _ _ _ _ E (HE.out.ext X_32.out) (.sent 1 (by decide))).mono ?_
    rintro e y33 ⟨rfl, h⟩
    have X_33 := Lib.hid (X_32.out.trans h)
    have B_33 := Lib.hid (B_32.out.ext h)
    have C_33 := Lib.hid (C_32.out.ext h)
    have V_33 := Lib.hid (V_32.out.ext h)
    clear h X_32 B_32 C_32 V_32
    clear k0 k1 k2 k3 k4 k5
    go_wp2_with fail
    go_ret
    exact ⟨rfl, X_33.out⟩
set_option linter.unusedSimpArgs false in
set_option maxHeartbeats 4000000 in
theorem floods_ok (W H x0 y0 : Nat) (ad : Addr) (cap : Nat) (px : Nat → P4) (c : P4) (w : World) (hc : c.Ok) (hok : ∀ i, i < W * H → (px i).Ok) (hx : Pxs w (some ad) (W * H) px) (hn : W * H ≤ 3000) (hr : rightB (W : Int) (H : Int) (W * H) = true) (hx0 : x0 < W) (hy0 : y0 < H) :
    Calls Tryd.prog 6 #[.agg #[.int .i64 (W : Int), .int .i64 (H : Int), .slice (some ad) (W * H) cap], .int .i64 (x0 : Int), .int .i64 (y0 : Int), .agg #[.int .u8 c.r, .int .u8 c.g, .int .u8 c.b, .int .u8 c.a]] w fun e w' => e = .returned (.bool true) ∧ Ext w w' := by
  have HS : Hid (1 ≤ W ∧ W ≤ 256 ∧ 1 ≤ H ∧ H ≤ 256) := Lib.hid (by
    obtain ⟨W', H', q1, q2, a1, a2, a3, a4, _⟩ := rightB_yes hr
    omega)
  have HX := Lib.hid hx
  have HD := Lib.hid (decide_eq_true hn)
  have HR := Lib.hid hr
  have HI : Hid (inB (W : Int) (H : Int) (x0 : Int) (y0 : Int) = true) := Lib.hid (decide_eq_true ⟨by omega, by omega, by omega, by omega⟩)
  have HC := Lib.hid hc
  have HOK := Lib.hid hok
  clear hc hok
  have HN0 := Lib.hid (show 0 < W * H from Nat.lt_of_le_of_lt (Nat.zero_le _) (mul_lt_of hy0 hx0))
  clear hx hr
  go_enter Tryd.func6, Tryd.ntmps6
  go_wp2_with fail
  refine calls_world (fun wz => Ext w wz ∧ wz.heap.size = w.heap.size + 1 + 1 ∧ Bk wz (w.heap.size) #[.int .i64 (W : Int), .int .i64 (H : Int), .slice (some ad) (W * H) cap] ∧ Bk wz (w.heap.size + 1) #[.int .u8 c.r, .int .u8 c.g, .int .u8 c.b, .int .u8 c.a]) ⟨by repeat (first | exact Ext.refl _ | refine Ext.alloc ?_ _), by simp, by repeat (first | exact Bk.at (by simp) | refine Bk.old ?_), by repeat (first | exact Bk.at (by simp) | refine Bk.old ?_)⟩ ?_
  rintro w1 ⟨hX, hZ, hB0, hB1⟩
  have X_1 := Lib.hid hX
  have B_1 := Lib.hid hB0
  have C_1 := Lib.hid hB1
  clear hX hZ hB0 hB1
  have NBC : Hid (w.heap.size ≠ w.heap.size + 1) := Lib.hid (by omega)
  refine (plainly_any _).mono ?_
  rintro e w2 ⟨rfl, h⟩
  have X_2 := Lib.hid (X_1.out.trans h)
  have B_2 := Lib.hid (B_1.out.ext h)
  have C_2 := Lib.hid (C_1.out.ext h)
  clear h X_1 B_1 C_1
  have k0 := B_2.out.cell 0
  have k1 := B_2.out.cell 1
  have k2 := B_2.out.cell 2
  go_wp2_with fail
  refine (small_any _ _ _ _ _ _ (by unfold maxLen; omega)).mono ?_
  rintro e w3 ⟨rfl, h⟩
  have X_3 := Lib.hid (X_2.out.trans h)
  have B_3 := Lib.hid (B_2.out.ext h)
  have C_3 := Lib.hid (C_2.out.ext h)
  clear h X_2 B_2 C_2
  clear k0 k1 k2
  rw [HD.out]
  go_upto_region 4 with fail
  go_cut [10, 11] (fun s10 s11 wx => ∃ (T g cc : Nat) (qx : Nat → P4), s10 = .pointer (some ⟨T, 0, none⟩) ∧ s11 = .nilIface ∧ Hid (Ext w wx) ∧ Hid (Bk wx w.heap.size #[.int .i64 (W : Int), .int .i64 (H : Int), .slice (some ad) (W * H) cap]) ∧ Hid (Bk wx (w.heap.size + 1) #[.int .u8 c.r, .int .u8 c.g, .int .u8 c.b, .int .u8 c.a]) ∧ Hid (Bk wx T #[.int .i64 (W : Int), .int .i64 (H : Int), .slice (some ⟨g, 0, none⟩) (W * H) cc]) ∧ Hid (Po wx g (W * H) qx) ∧ Hid (FldQ W H x0 y0 px c qx))
  case first =>
    refine wp_region_held_drew (S := fun w' => w'.cell? ⟨w.heap.size, 0, none⟩ = some (.int .i64 (W : Int)) ∧ w'.cell? ⟨w.heap.size, 1, none⟩ = some (.int .i64 (H : Int)) ∧ w'.cell? ⟨w.heap.size, 2, none⟩ = some (.slice (some ad) (W * H) cap) ∧ w'.cell? ⟨w.heap.size + 1, 0, none⟩ = some (.int .u8 c.r) ∧ w'.cell? ⟨w.heap.size + 1, 1, none⟩ = some (.int .u8 c.g) ∧ w'.cell? ⟨w.heap.size + 1, 2, none⟩ = some (.int .u8 c.b) ∧ w'.cell? ⟨w.heap.size + 1, 3, none⟩ = some (.int .u8 c.a)) (by kernel_rfl) ⟨B_3.out.cell 0, B_3.out.cell 1, B_3.out.cell 2, C_3.out.cell 0, C_3.out.cell 1, C_3.out.cell 2, C_3.out.cell 3⟩ (fun hHeld => ?_)
    clear hHeld
    refine anyH_world (fun wz => Ext w3 wz) (show Ext w3 w3.drew from Below.drew (Ext.refl w3)) ?_
    rintro w4 h
    have X_4 := Lib.hid (X_3.out.trans h)
    have B_4 := Lib.hid (B_3.out.ext h)
    have C_4 := Lib.hid (C_3.out.ext h)
    clear h X_3 B_3 C_3
    have hHeld : w4.cell? ⟨w.heap.size, 0, none⟩ = some (.int .i64 (W : Int)) ∧ w4.cell? ⟨w.heap.size, 1, none⟩ = some (.int .i64 (H : Int)) ∧ w4.cell? ⟨w.heap.size, 2, none⟩ = some (.slice (some ad) (W * H) cap) ∧ w4.cell? ⟨w.heap.size + 1, 0, none⟩ = some (.int .u8 c.r) ∧ w4.cell? ⟨w.heap.size + 1, 1, none⟩ = some (.int .u8 c.g) ∧ w4.cell? ⟨w.heap.size + 1, 2, none⟩ = some (.int .u8 c.b) ∧ w4.cell? ⟨w.heap.size + 1, 3, none⟩ = some (.int .u8 c.a) := ⟨B_4.out.cell 0, B_4.out.cell 1, B_4.out.cell 2, C_4.out.cell 0, C_4.out.cell 1, C_4.out.cell 2, C_4.out.cell 3⟩
    refine wpAnyH_take (i := 0) (v := ?_) rfl (by kernel_rfl) (by kernel_rfl) (by kernel_rfl) (fun _ _ _ h => h) (Or.inl ⟨by kernel_rfl, ?_⟩) hHeld ?_
    rotate_left
    · intro w hSw
      (try dsimp only at hSw)
      go_split_ands
      go_simp
      (try with_reducible rfl)
    try simp only [Act.put, List.getElem_toArray, List.getElem_cons_succ, List.getElem_cons_zero, List.setIfInBounds_toArray, List.set_cons_zero, List.set_cons_succ]
    refine wpAnyH_take (i := 2) (v := ?_) rfl (by kernel_rfl) (by kernel_rfl) (by kernel_rfl) (fun _ _ _ h => h) (Or.inl ⟨by kernel_rfl, ?_⟩) hHeld ?_
    rotate_left
    · intro w hSw
      (try dsimp only at hSw)
      go_split_ands
      go_simp
      (try with_reducible rfl)
    try simp only [Act.put, List.getElem_toArray, List.getElem_cons_succ, List.getElem_cons_zero, List.setIfInBounds_toArray, List.set_cons_zero, List.set_cons_succ]
    refine wpAnyH_take (i := 3) (v := ?_) rfl (by kernel_rfl) (by kernel_rfl) (by kernel_rfl) (fun _ _ _ h => h) (Or.inl ⟨by kernel_rfl, ?_⟩) hHeld ?_
    rotate_left
    · intro w hSw
      (try dsimp only at hSw)
      go_split_ands
      go_simp
      (try with_reducible rfl)
    try simp only [Act.put, List.getElem_toArray, List.getElem_cons_succ, List.getElem_cons_zero, List.setIfInBounds_toArray, List.set_cons_zero, List.set_cons_succ]
    refine wpAnyH_take (i := 4) (v := ?_) rfl (by kernel_rfl) (by kernel_rfl) (by kernel_rfl) (fun _ _ _ h => h) (Or.inl ⟨by kernel_rfl, ?_⟩) hHeld ?_
    rotate_left
    · intro w hSw
      (try dsimp only at hSw)
      go_split_ands
      go_simp
      (try with_reducible rfl)
    try simp only [Act.put, List.getElem_toArray, List.getElem_cons_succ, List.getElem_cons_zero, List.setIfInBounds_toArray, List.set_cons_zero, List.set_cons_succ]
    refine wpAnyH_ready (rs := [1, 9]) (by kernel_rfl) (by simp) ?_
    refine AllReadyH.cons rfl (fun KK hK => ?_) (AllReadyH.cons rfl (fun KK hK => ?_) AllReadyH.nil)
    · clear hHeld
      go_simp
      refine (own_x _ _ (some ad) (W * H) cap px _ (HX.out.ext X_4.out) (fun h => by cases h) (by omega)).mono ?_
      rintro e w5 ⟨⟨ox, oc, rfl, hox, _⟩, h⟩
      have oxh := Lib.hid hox
      have X_5 := Lib.hid (X_4.out.trans h)
      have B_5 := Lib.hid (B_4.out.ext h)
      have C_5 := Lib.hid (C_4.out.ext h)
      clear h hox X_4 B_4 C_4
      have O_5 := Lib.hid (oxh.out)
      go_simp
      refine hK.out _ _ ⟨B_5.out.cell 0, B_5.out.cell 1, B_5.out.cell 2, C_5.out.cell 0, C_5.out.cell 1, C_5.out.cell 2, C_5.out.cell 3⟩ (fun hHeld => ?_)
      clear hK KK
      try simp only [Act.put, List.getElem_toArray, List.getElem_cons_succ, List.getElem_cons_zero, List.setIfInBounds_toArray, List.set_cons_zero, List.set_cons_succ]
      refine wpAnyH_ready (rs := [5, 9]) (by kernel_rfl) (by simp) ?_
      refine AllReadyH.cons rfl (fun KK hK => ?_) (AllReadyH.cons rfl (fun KK hK => ?_) AllReadyH.nil)
      · clear hHeld
        obtain ⟨oa, rfl⟩ := O_5.out.isSome HN0.out
        go_simp
        refine (flood_ok W H x0 y0 oa oc px c _ O_5.out HR.out hx0 hy0).mono ?_
        rintro e w6 ⟨qx, hQ, ⟨g, cc, rfl, hpo, hge⟩, h⟩
        have rph := Lib.hid hpo
        have HQ_ := Lib.hid (show FldQ W H x0 y0 px c qx from hQ)
        have LT_R := Lib.hid (World.block_lt_of_cell? _ _ (hpo 0 (by have := HN0.out; omega)).1)
        have X_6 := Lib.hid (X_5.out.trans h)
        have B_6 := Lib.hid (B_5.out.ext h)
        have C_6 := Lib.hid (C_5.out.ext h)
        have O_6 := Lib.hid (O_5.out.ext h)
        clear h hpo hge hQ X_5 B_5 C_5 O_5
        have R_6 := Lib.hid (rph.out)
        go_simp
        refine hK.out _ _ ⟨B_6.out.cell 0, B_6.out.cell 1, B_6.out.cell 2, C_6.out.cell 0, C_6.out.cell 1, C_6.out.cell 2, C_6.out.cell 3⟩ (fun hHeld => ?_)
        clear hK KK
        try simp only [Act.put, List.getElem_toArray, List.getElem_cons_succ, List.getElem_cons_zero, List.setIfInBounds_toArray, List.set_cons_zero, List.set_cons_succ]
        clear O_6
        refine wpAnyH_take (i := 6) (v := ?_) rfl (by kernel_rfl) (by kernel_rfl) (by kernel_rfl) (fun _ _ _ h => h) (Or.inl ⟨by kernel_rfl, ?_⟩) hHeld ?_
        rotate_left
        · intro w hSw
          (try dsimp only at hSw)
          go_split_ands
          go_simp
          (try with_reducible rfl)
        try simp only [Act.put, List.getElem_toArray, List.getElem_cons_succ, List.getElem_cons_zero, List.setIfInBounds_toArray, List.set_cons_zero, List.set_cons_succ]
        refine wpAnyH_take (i := 7) (v := ?_) rfl (by kernel_rfl) (by kernel_rfl) (by kernel_rfl) (fun _ _ _ h => h) (Or.inl ⟨by kernel_rfl, ?_⟩) hHeld ?_
        rotate_left
        · intro w hSw
          (try dsimp only at hSw)
          go_split_ands
          go_simp
          (try with_reducible rfl)
        try simp only [Act.put, List.getElem_toArray, List.getElem_cons_succ, List.getElem_cons_zero, List.setIfInBounds_toArray, List.set_cons_zero, List.set_cons_succ]
        refine wpAnyH_take (i := 8) (v := ?_) rfl (by kernel_rfl) (by kernel_rfl) (by kernel_rfl) (fun _ _ _ h => h) (Or.inl ⟨by kernel_rfl, ?_⟩) hHeld ?_
        rotate_left
        · intro w hSw
          (try dsimp only at hSw)
          go_split_ands
          go_simp
          (try with_reducible rfl)
        try simp only [Act.put, List.getElem_toArray, List.getElem_cons_succ, List.getElem_cons_zero, List.setIfInBounds_toArray, List.set_cons_zero, List.set_cons_succ]
        refine wpAnyH_ready (rs := [9]) (by kernel_rfl) (by simp) ?_
        refine AllReadyH.cons rfl (fun KK hK => ?_) AllReadyH.nil
        clear hHeld
        have NE_R_V := Lib.hid (show ¬ g = w6.heap.size from Nat.ne_of_lt LT_R.out)
        go_simp
        refine hK.out _ _ ⟨(B_6.out.ext (Ext.alloc (Ext.refl w6) _)).cell 0, (B_6.out.ext (Ext.alloc (Ext.refl w6) _)).cell 1, (B_6.out.ext (Ext.alloc (Ext.refl w6) _)).cell 2, (C_6.out.ext (Ext.alloc (Ext.refl w6) _)).cell 0, (C_6.out.ext (Ext.alloc (Ext.refl w6) _)).cell 1, (C_6.out.ext (Ext.alloc (Ext.refl w6) _)).cell 2, (C_6.out.ext (Ext.alloc (Ext.refl w6) _)).cell 3⟩ (fun hHeld => ?_)
        clear hK KK hHeld
        try simp only [Act.put, List.getElem_toArray, List.getElem_cons_succ, List.getElem_cons_zero, List.setIfInBounds_toArray, List.set_cons_zero, List.set_cons_succ]
        have NE_B_V := Lib.hid (Nat.ne_of_lt B_6.out.lt)
        have NE_C_V := Lib.hid (Nat.ne_of_lt C_6.out.lt)
        have GE_V := Lib.hid X_6.out.size
        refine anyH_world (fun wz => Ext w6 wz ∧ Bk wz w6.heap.size #[.int .i64 0, .int .i64 0, .slice none 0 0]) ⟨Ext.alloc (Ext.refl _) _, Bk.at rfl⟩ ?_
        rintro w7 ⟨h, hB⟩
        have X_7 := Lib.hid (X_6.out.trans h)
        have B_7 := Lib.hid (B_6.out.ext h)
        have C_7 := Lib.hid (C_6.out.ext h)
        have R_7 := Lib.hid (R_6.out.ext h)
        clear h X_6 B_6 C_6 R_6
        have V_7 := Lib.hid (hB)
        clear hB
        have hHeld : w7.cell? ⟨w.heap.size, 0, none⟩ = some (.int .i64 (W : Int)) ∧ w7.cell? ⟨w.heap.size, 1, none⟩ = some (.int .i64 (H : Int)) ∧ w7.cell? ⟨w.heap.size, 2, none⟩ = some (.slice (some ad) (W * H) cap) ∧ w7.cell? ⟨w.heap.size + 1, 0, none⟩ = some (.int .u8 c.r) ∧ w7.cell? ⟨w.heap.size + 1, 1, none⟩ = some (.int .u8 c.g) ∧ w7.cell? ⟨w.heap.size + 1, 2, none⟩ = some (.int .u8 c.b) ∧ w7.cell? ⟨w.heap.size + 1, 3, none⟩ = some (.int .u8 c.a) := ⟨B_7.out.cell 0, B_7.out.cell 1, B_7.out.cell 2, C_7.out.cell 0, C_7.out.cell 1, C_7.out.cell 2, C_7.out.cell 3⟩
        refine wpAnyH_ready (rs := [10]) (by kernel_rfl) (by simp) ?_
        refine AllReadyH.cons rfl (fun KK hK => ?_) AllReadyH.nil
        clear hHeld
        have t0 := V_7.out.cell 0
        have f0 := V_7.out.frozen 0
        have t1 := V_7.out.cell 1
        have f1 := V_7.out.frozen 1
        have t2 := V_7.out.cell 2
        have f2 := V_7.out.frozen 2
        have SF := set3_all (x' := .int .i64 (W : Int)) (y' := .int .i64 (H : Int)) (z' := .slice (some ⟨g, 0, none⟩) (W * H) cc) X_7.out GE_V.out V_7.out
        have SFH := Lib.hid SF
        clear SF
        go_simp
        clear t0 t1 t2 f0 f1 f2
        refine hK.out _ _ ⟨(B_7.out.keeps SFH.out.2.2 (NE_B_V.out)).cell 0, (B_7.out.keeps SFH.out.2.2 (NE_B_V.out)).cell 1, (B_7.out.keeps SFH.out.2.2 (NE_B_V.out)).cell 2, (C_7.out.keeps SFH.out.2.2 (NE_C_V.out)).cell 0, (C_7.out.keeps SFH.out.2.2 (NE_C_V.out)).cell 1, (C_7.out.keeps SFH.out.2.2 (NE_C_V.out)).cell 2, (C_7.out.keeps SFH.out.2.2 (NE_C_V.out)).cell 3⟩ (fun hHeld => ?_)
        clear hK KK hHeld
        try simp only [Act.put, List.getElem_toArray, List.getElem_cons_succ, List.getElem_cons_zero, List.setIfInBounds_toArray, List.set_cons_zero, List.set_cons_succ]
        refine anyH_world (fun wz => Ext w wz ∧ Bk wz (w6.heap.size) #[.int .i64 (W : Int), .int .i64 (H : Int), .slice (some ⟨g, 0, none⟩) (W * H) cc] ∧ Keeps (fun k => k = w6.heap.size) w7 wz) SFH.out ?_
        rintro w8 ⟨hX, hB, hKK⟩
        have X_8 := Lib.hid (hX)
        have B_8 := Lib.hid (B_7.out.keeps hKK (NE_B_V.out))
        have C_8 := Lib.hid (C_7.out.keeps hKK (NE_C_V.out))
        have R_8 := Lib.hid (R_7.out.keeps hKK (NE_R_V.out))
        have V_8 := Lib.hid (hB)
        clear hX hB hKK SFH X_7 B_7 C_7 R_7 V_7
        have hHeld : w8.cell? ⟨w.heap.size, 0, none⟩ = some (.int .i64 (W : Int)) ∧ w8.cell? ⟨w.heap.size, 1, none⟩ = some (.int .i64 (H : Int)) ∧ w8.cell? ⟨w.heap.size, 2, none⟩ = some (.slice (some ad) (W * H) cap) ∧ w8.cell? ⟨w.heap.size + 1, 0, none⟩ = some (.int .u8 c.r) ∧ w8.cell? ⟨w.heap.size + 1, 1, none⟩ = some (.int .u8 c.g) ∧ w8.cell? ⟨w.heap.size + 1, 2, none⟩ = some (.int .u8 c.b) ∧ w8.cell? ⟨w.heap.size + 1, 3, none⟩ = some (.int .u8 c.a) := ⟨B_8.out.cell 0, B_8.out.cell 1, B_8.out.cell 2, C_8.out.cell 0, C_8.out.cell 1, C_8.out.cell 2, C_8.out.cell 3⟩
        refine wpAnyH_take (i := 11) (v := ?_) rfl (by kernel_rfl) (by kernel_rfl) (by kernel_rfl) (fun _ _ _ h => h) (Or.inl ⟨by kernel_rfl, ?_⟩) hHeld ?_
        rotate_left
        · intro w hSw
          (try dsimp only at hSw)
          go_split_ands
          go_simp
          (try with_reducible rfl)
        try simp only [Act.put, List.getElem_toArray, List.getElem_cons_succ, List.getElem_cons_zero, List.setIfInBounds_toArray, List.set_cons_zero, List.set_cons_succ]
        refine wpAnyH_done (by kernel_rfl) ?_ _
        clear hHeld
        (try go_wp2_with fail)
        go_meet
        exact ⟨_, _, _, _, rfl, rfl, X_8, B_8, C_8, V_8, R_8, HQ_⟩
      · clear hHeld
        go_simp
        refine hK.out _ _ ⟨(B_5.out.ext (Ext.alloc (Ext.refl w5) _)).cell 0, (B_5.out.ext (Ext.alloc (Ext.refl w5) _)).cell 1, (B_5.out.ext (Ext.alloc (Ext.refl w5) _)).cell 2, (C_5.out.ext (Ext.alloc (Ext.refl w5) _)).cell 0, (C_5.out.ext (Ext.alloc (Ext.refl w5) _)).cell 1, (C_5.out.ext (Ext.alloc (Ext.refl w5) _)).cell 2, (C_5.out.ext (Ext.alloc (Ext.refl w5) _)).cell 3⟩ (fun hHeld => ?_)
        clear hK KK hHeld
        try simp only [Act.put, List.getElem_toArray, List.getElem_cons_succ, List.getElem_cons_zero, List.setIfInBounds_toArray, List.set_cons_zero, List.set_cons_succ]
        have NE_B_V := Lib.hid (Nat.ne_of_lt B_5.out.lt)
        have NE_C_V := Lib.hid (Nat.ne_of_lt C_5.out.lt)
        have GE_V := Lib.hid X_5.out.size
        refine anyH_world (fun wz => Ext w5 wz ∧ Bk wz w5.heap.size #[.int .i64 0, .int .i64 0, .slice none 0 0]) ⟨Ext.alloc (Ext.refl _) _, Bk.at rfl⟩ ?_
        rintro w6 ⟨h, hB⟩
        have X_6 := Lib.hid (X_5.out.trans h)
        have B_6 := Lib.hid (B_5.out.ext h)
        have C_6 := Lib.hid (C_5.out.ext h)
        have O_6 := Lib.hid (O_5.out.ext h)
        clear h X_5 B_5 C_5 O_5
        have V_6 := Lib.hid (hB)
        clear hB
        have hHeld : w6.cell? ⟨w.heap.size, 0, none⟩ = some (.int .i64 (W : Int)) ∧ w6.cell? ⟨w.heap.size, 1, none⟩ = some (.int .i64 (H : Int)) ∧ w6.cell? ⟨w.heap.size, 2, none⟩ = some (.slice (some ad) (W * H) cap) ∧ w6.cell? ⟨w.heap.size + 1, 0, none⟩ = some (.int .u8 c.r) ∧ w6.cell? ⟨w.heap.size + 1, 1, none⟩ = some (.int .u8 c.g) ∧ w6.cell? ⟨w.heap.size + 1, 2, none⟩ = some (.int .u8 c.b) ∧ w6.cell? ⟨w.heap.size + 1, 3, none⟩ = some (.int .u8 c.a) := ⟨B_6.out.cell 0, B_6.out.cell 1, B_6.out.cell 2, C_6.out.cell 0, C_6.out.cell 1, C_6.out.cell 2, C_6.out.cell 3⟩
        refine wpAnyH_ready (rs := [5]) (by kernel_rfl) (by simp) ?_
        refine AllReadyH.cons rfl (fun KK hK => ?_) AllReadyH.nil
        clear hHeld
        obtain ⟨oa, rfl⟩ := O_6.out.isSome HN0.out
        go_simp
        refine (flood_ok W H x0 y0 oa oc px c _ O_6.out HR.out hx0 hy0).mono ?_
        rintro e w7 ⟨qx, hQ, ⟨g, cc, rfl, hpo, hge⟩, h⟩
        have rph := Lib.hid hpo
        have HQ_ := Lib.hid (show FldQ W H x0 y0 px c qx from hQ)
        have NE_R_V := Lib.hid (show ¬ g = w5.heap.size from fun e => by have h1 := hge; have h2 := V_6.out.lt; omega)
        have X_7 := Lib.hid (X_6.out.trans h)
        have B_7 := Lib.hid (B_6.out.ext h)
        have C_7 := Lib.hid (C_6.out.ext h)
        have O_7 := Lib.hid (O_6.out.ext h)
        have V_7 := Lib.hid (V_6.out.ext h)
        clear h hpo hge hQ X_6 B_6 C_6 O_6 V_6
        have R_7 := Lib.hid (rph.out)
        go_simp
        refine hK.out _ _ ⟨B_7.out.cell 0, B_7.out.cell 1, B_7.out.cell 2, C_7.out.cell 0, C_7.out.cell 1, C_7.out.cell 2, C_7.out.cell 3⟩ (fun hHeld => ?_)
        clear hK KK
        try simp only [Act.put, List.getElem_toArray, List.getElem_cons_succ, List.getElem_cons_zero, List.setIfInBounds_toArray, List.set_cons_zero, List.set_cons_succ]
        clear O_7
        refine wpAnyH_take (i := 6) (v := ?_) rfl (by kernel_rfl) (by kernel_rfl) (by kernel_rfl) (fun _ _ _ h => h) (Or.inl ⟨by kernel_rfl, ?_⟩) hHeld ?_
        rotate_left
        · intro w hSw
          (try dsimp only at hSw)
          go_split_ands
          go_simp
          (try with_reducible rfl)
        try simp only [Act.put, List.getElem_toArray, List.getElem_cons_succ, List.getElem_cons_zero, List.setIfInBounds_toArray, List.set_cons_zero, List.set_cons_succ]
        refine wpAnyH_take (i := 7) (v := ?_) rfl (by kernel_rfl) (by kernel_rfl) (by kernel_rfl) (fun _ _ _ h => h) (Or.inl ⟨by kernel_rfl, ?_⟩) hHeld ?_
        rotate_left
        · intro w hSw
          (try dsimp only at hSw)
          go_split_ands
          go_simp
          (try with_reducible rfl)
        try simp only [Act.put, List.getElem_toArray, List.getElem_cons_succ, List.getElem_cons_zero, List.setIfInBounds_toArray, List.set_cons_zero, List.set_cons_succ]
        refine wpAnyH_take (i := 8) (v := ?_) rfl (by kernel_rfl) (by kernel_rfl) (by kernel_rfl) (fun _ _ _ h => h) (Or.inl ⟨by kernel_rfl, ?_⟩) hHeld ?_
        rotate_left
        · intro w hSw
          (try dsimp only at hSw)
          go_split_ands
          go_simp
          (try with_reducible rfl)
        try simp only [Act.put, List.getElem_toArray, List.getElem_cons_succ, List.getElem_cons_zero, List.setIfInBounds_toArray, List.set_cons_zero, List.set_cons_succ]
        refine wpAnyH_ready (rs := [10]) (by kernel_rfl) (by simp) ?_
        refine AllReadyH.cons rfl (fun KK hK => ?_) AllReadyH.nil
        clear hHeld
        have t0 := V_7.out.cell 0
        have f0 := V_7.out.frozen 0
        have t1 := V_7.out.cell 1
        have f1 := V_7.out.frozen 1
        have t2 := V_7.out.cell 2
        have f2 := V_7.out.frozen 2
        have SF := set3_all (x' := .int .i64 (W : Int)) (y' := .int .i64 (H : Int)) (z' := .slice (some ⟨g, 0, none⟩) (W * H) cc) X_7.out GE_V.out V_7.out
        have SFH := Lib.hid SF
        clear SF
        go_simp
        clear t0 t1 t2 f0 f1 f2
        refine hK.out _ _ ⟨(B_7.out.keeps SFH.out.2.2 (NE_B_V.out)).cell 0, (B_7.out.keeps SFH.out.2.2 (NE_B_V.out)).cell 1, (B_7.out.keeps SFH.out.2.2 (NE_B_V.out)).cell 2, (C_7.out.keeps SFH.out.2.2 (NE_C_V.out)).cell 0, (C_7.out.keeps SFH.out.2.2 (NE_C_V.out)).cell 1, (C_7.out.keeps SFH.out.2.2 (NE_C_V.out)).cell 2, (C_7.out.keeps SFH.out.2.2 (NE_C_V.out)).cell 3⟩ (fun hHeld => ?_)
        clear hK KK hHeld
        try simp only [Act.put, List.getElem_toArray, List.getElem_cons_succ, List.getElem_cons_zero, List.setIfInBounds_toArray, List.set_cons_zero, List.set_cons_succ]
        refine anyH_world (fun wz => Ext w wz ∧ Bk wz (w5.heap.size) #[.int .i64 (W : Int), .int .i64 (H : Int), .slice (some ⟨g, 0, none⟩) (W * H) cc] ∧ Keeps (fun k => k = w5.heap.size) w7 wz) SFH.out ?_
        rintro w8 ⟨hX, hB, hKK⟩
        have X_8 := Lib.hid (hX)
        have B_8 := Lib.hid (B_7.out.keeps hKK (NE_B_V.out))
        have C_8 := Lib.hid (C_7.out.keeps hKK (NE_C_V.out))
        have V_8 := Lib.hid (hB)
        have R_8 := Lib.hid (R_7.out.keeps hKK (NE_R_V.out))
        clear hX hB hKK SFH X_7 B_7 C_7 V_7 R_7
        have hHeld : w8.cell? ⟨w.heap.size, 0, none⟩ = some (.int .i64 (W : Int)) ∧ w8.cell? ⟨w.heap.size, 1, none⟩ = some (.int .i64 (H : Int)) ∧ w8.cell? ⟨w.heap.size, 2, none⟩ = some (.slice (some ad) (W * H) cap) ∧ w8.cell? ⟨w.heap.size + 1, 0, none⟩ = some (.int .u8 c.r) ∧ w8.cell? ⟨w.heap.size + 1, 1, none⟩ = some (.int .u8 c.g) ∧ w8.cell? ⟨w.heap.size + 1, 2, none⟩ = some (.int .u8 c.b) ∧ w8.cell? ⟨w.heap.size + 1, 3, none⟩ = some (.int .u8 c.a) := ⟨B_8.out.cell 0, B_8.out.cell 1, B_8.out.cell 2, C_8.out.cell 0, C_8.out.cell 1, C_8.out.cell 2, C_8.out.cell 3⟩
        refine wpAnyH_take (i := 11) (v := ?_) rfl (by kernel_rfl) (by kernel_rfl) (by kernel_rfl) (fun _ _ _ h => h) (Or.inl ⟨by kernel_rfl, ?_⟩) hHeld ?_
        rotate_left
        · intro w hSw
          (try dsimp only at hSw)
          go_split_ands
          go_simp
          (try with_reducible rfl)
        try simp only [Act.put, List.getElem_toArray, List.getElem_cons_succ, List.getElem_cons_zero, List.setIfInBounds_toArray, List.set_cons_zero, List.set_cons_succ]
        refine wpAnyH_done (by kernel_rfl) ?_ _
        clear hHeld
        (try go_wp2_with fail)
        go_meet
        exact ⟨_, _, _, _, rfl, rfl, X_8, B_8, C_8, V_8, R_8, HQ_⟩
    · clear hHeld
      go_simp
      refine hK.out _ _ ⟨(B_4.out.ext (Ext.alloc (Ext.refl w4) _)).cell 0, (B_4.out.ext (Ext.alloc (Ext.refl w4) _)).cell 1, (B_4.out.ext (Ext.alloc (Ext.refl w4) _)).cell 2, (C_4.out.ext (Ext.alloc (Ext.refl w4) _)).cell 0, (C_4.out.ext (Ext.alloc (Ext.refl w4) _)).cell 1, (C_4.out.ext (Ext.alloc (Ext.refl w4) _)).cell 2, (C_4.out.ext (Ext.alloc (Ext.refl w4) _)).cell 3⟩ (fun hHeld => ?_)
      clear hK KK hHeld
      try simp only [Act.put, List.getElem_toArray, List.getElem_cons_succ, List.getElem_cons_zero, List.setIfInBounds_toArray, List.set_cons_zero, List.set_cons_succ]
      have NE_B_V := Lib.hid (Nat.ne_of_lt B_4.out.lt)
      have NE_C_V := Lib.hid (Nat.ne_of_lt C_4.out.lt)
      have GE_V := Lib.hid X_4.out.size
      refine anyH_world (fun wz => Ext w4 wz ∧ Bk wz w4.heap.size #[.int .i64 0, .int .i64 0, .slice none 0 0]) ⟨Ext.alloc (Ext.refl _) _, Bk.at rfl⟩ ?_
      rintro w5 ⟨h, hB⟩
      have X_5 := Lib.hid (X_4.out.trans h)
      have B_5 := Lib.hid (B_4.out.ext h)
      have C_5 := Lib.hid (C_4.out.ext h)
      clear h X_4 B_4 C_4
      have V_5 := Lib.hid (hB)
      clear hB
      have hHeld : w5.cell? ⟨w.heap.size, 0, none⟩ = some (.int .i64 (W : Int)) ∧ w5.cell? ⟨w.heap.size, 1, none⟩ = some (.int .i64 (H : Int)) ∧ w5.cell? ⟨w.heap.size, 2, none⟩ = some (.slice (some ad) (W * H) cap) ∧ w5.cell? ⟨w.heap.size + 1, 0, none⟩ = some (.int .u8 c.r) ∧ w5.cell? ⟨w.heap.size + 1, 1, none⟩ = some (.int .u8 c.g) ∧ w5.cell? ⟨w.heap.size + 1, 2, none⟩ = some (.int .u8 c.b) ∧ w5.cell? ⟨w.heap.size + 1, 3, none⟩ = some (.int .u8 c.a) := ⟨B_5.out.cell 0, B_5.out.cell 1, B_5.out.cell 2, C_5.out.cell 0, C_5.out.cell 1, C_5.out.cell 2, C_5.out.cell 3⟩
      refine wpAnyH_ready (rs := [1]) (by kernel_rfl) (by simp) ?_
      refine AllReadyH.cons rfl (fun KK hK => ?_) AllReadyH.nil
      clear hHeld
      go_simp
      refine (own_x _ _ (some ad) (W * H) cap px _ (HX.out.ext X_5.out) (fun h => by cases h) (by omega)).mono ?_
      rintro e w6 ⟨⟨ox, oc, rfl, hox, _⟩, h⟩
      have oxh := Lib.hid hox
      have X_6 := Lib.hid (X_5.out.trans h)
      have B_6 := Lib.hid (B_5.out.ext h)
      have C_6 := Lib.hid (C_5.out.ext h)
      have V_6 := Lib.hid (V_5.out.ext h)
      clear h hox X_5 B_5 C_5 V_5
      have O_6 := Lib.hid (oxh.out)
      go_simp
      refine hK.out _ _ ⟨B_6.out.cell 0, B_6.out.cell 1, B_6.out.cell 2, C_6.out.cell 0, C_6.out.cell 1, C_6.out.cell 2, C_6.out.cell 3⟩ (fun hHeld => ?_)
      clear hK KK
      try simp only [Act.put, List.getElem_toArray, List.getElem_cons_succ, List.getElem_cons_zero, List.setIfInBounds_toArray, List.set_cons_zero, List.set_cons_succ]
      refine wpAnyH_ready (rs := [5]) (by kernel_rfl) (by simp) ?_
      refine AllReadyH.cons rfl (fun KK hK => ?_) AllReadyH.nil
      clear hHeld
      obtain ⟨oa, rfl⟩ := O_6.out.isSome HN0.out
      go_simp
      refine (flood_ok W H x0 y0 oa oc px c _ O_6.out HR.out hx0 hy0).mono ?_
      rintro e w7 ⟨qx, hQ, ⟨g, cc, rfl, hpo, hge⟩, h⟩
      have rph := Lib.hid hpo
      have HQ_ := Lib.hid (show FldQ W H x0 y0 px c qx from hQ)
      have NE_R_V := Lib.hid (show ¬ g = w4.heap.size from fun e => by have h1 := hge; have h2 := V_6.out.lt; omega)
      have X_7 := Lib.hid (X_6.out.trans h)
      have B_7 := Lib.hid (B_6.out.ext h)
      have C_7 := Lib.hid (C_6.out.ext h)
      have V_7 := Lib.hid (V_6.out.ext h)
      have O_7 := Lib.hid (O_6.out.ext h)
      clear h hpo hge hQ X_6 B_6 C_6 V_6 O_6
      have R_7 := Lib.hid (rph.out)
      go_simp
      refine hK.out _ _ ⟨B_7.out.cell 0, B_7.out.cell 1, B_7.out.cell 2, C_7.out.cell 0, C_7.out.cell 1, C_7.out.cell 2, C_7.out.cell 3⟩ (fun hHeld => ?_)
      clear hK KK
      try simp only [Act.put, List.getElem_toArray, List.getElem_cons_succ, List.getElem_cons_zero, List.setIfInBounds_toArray, List.set_cons_zero, List.set_cons_succ]
      clear O_7
      refine wpAnyH_take (i := 6) (v := ?_) rfl (by kernel_rfl) (by kernel_rfl) (by kernel_rfl) (fun _ _ _ h => h) (Or.inl ⟨by kernel_rfl, ?_⟩) hHeld ?_
      rotate_left
      · intro w hSw
        (try dsimp only at hSw)
        go_split_ands
        go_simp
        (try with_reducible rfl)
      try simp only [Act.put, List.getElem_toArray, List.getElem_cons_succ, List.getElem_cons_zero, List.setIfInBounds_toArray, List.set_cons_zero, List.set_cons_succ]
      refine wpAnyH_take (i := 7) (v := ?_) rfl (by kernel_rfl) (by kernel_rfl) (by kernel_rfl) (fun _ _ _ h => h) (Or.inl ⟨by kernel_rfl, ?_⟩) hHeld ?_
      rotate_left
      · intro w hSw
        (try dsimp only at hSw)
        go_split_ands
        go_simp
        (try with_reducible rfl)
      try simp only [Act.put, List.getElem_toArray, List.getElem_cons_succ, List.getElem_cons_zero, List.setIfInBounds_toArray, List.set_cons_zero, List.set_cons_succ]
      refine wpAnyH_take (i := 8) (v := ?_) rfl (by kernel_rfl) (by kernel_rfl) (by kernel_rfl) (fun _ _ _ h => h) (Or.inl ⟨by kernel_rfl, ?_⟩) hHeld ?_
      rotate_left
      · intro w hSw
        (try dsimp only at hSw)
        go_split_ands
        go_simp
        (try with_reducible rfl)
      try simp only [Act.put, List.getElem_toArray, List.getElem_cons_succ, List.getElem_cons_zero, List.setIfInBounds_toArray, List.set_cons_zero, List.set_cons_succ]
      refine wpAnyH_ready (rs := [10]) (by kernel_rfl) (by simp) ?_
      refine AllReadyH.cons rfl (fun KK hK => ?_) AllReadyH.nil
      clear hHeld
      have t0 := V_7.out.cell 0
      have f0 := V_7.out.frozen 0
      have t1 := V_7.out.cell 1
      have f1 := V_7.out.frozen 1
      have t2 := V_7.out.cell 2
      have f2 := V_7.out.frozen 2
      have SF := set3_all (x' := .int .i64 (W : Int)) (y' := .int .i64 (H : Int)) (z' := .slice (some ⟨g, 0, none⟩) (W * H) cc) X_7.out GE_V.out V_7.out
      have SFH := Lib.hid SF
      clear SF
      go_simp
      clear t0 t1 t2 f0 f1 f2
      refine hK.out _ _ ⟨(B_7.out.keeps SFH.out.2.2 (NE_B_V.out)).cell 0, (B_7.out.keeps SFH.out.2.2 (NE_B_V.out)).cell 1, (B_7.out.keeps SFH.out.2.2 (NE_B_V.out)).cell 2, (C_7.out.keeps SFH.out.2.2 (NE_C_V.out)).cell 0, (C_7.out.keeps SFH.out.2.2 (NE_C_V.out)).cell 1, (C_7.out.keeps SFH.out.2.2 (NE_C_V.out)).cell 2, (C_7.out.keeps SFH.out.2.2 (NE_C_V.out)).cell 3⟩ (fun hHeld => ?_)
      clear hK KK hHeld
      try simp only [Act.put, List.getElem_toArray, List.getElem_cons_succ, List.getElem_cons_zero, List.setIfInBounds_toArray, List.set_cons_zero, List.set_cons_succ]
      refine anyH_world (fun wz => Ext w wz ∧ Bk wz (w4.heap.size) #[.int .i64 (W : Int), .int .i64 (H : Int), .slice (some ⟨g, 0, none⟩) (W * H) cc] ∧ Keeps (fun k => k = w4.heap.size) w7 wz) SFH.out ?_
      rintro w8 ⟨hX, hB, hKK⟩
      have X_8 := Lib.hid (hX)
      have B_8 := Lib.hid (B_7.out.keeps hKK (NE_B_V.out))
      have C_8 := Lib.hid (C_7.out.keeps hKK (NE_C_V.out))
      have V_8 := Lib.hid (hB)
      have R_8 := Lib.hid (R_7.out.keeps hKK (NE_R_V.out))
      clear hX hB hKK SFH X_7 B_7 C_7 V_7 R_7
      have hHeld : w8.cell? ⟨w.heap.size, 0, none⟩ = some (.int .i64 (W : Int)) ∧ w8.cell? ⟨w.heap.size, 1, none⟩ = some (.int .i64 (H : Int)) ∧ w8.cell? ⟨w.heap.size, 2, none⟩ = some (.slice (some ad) (W * H) cap) ∧ w8.cell? ⟨w.heap.size + 1, 0, none⟩ = some (.int .u8 c.r) ∧ w8.cell? ⟨w.heap.size + 1, 1, none⟩ = some (.int .u8 c.g) ∧ w8.cell? ⟨w.heap.size + 1, 2, none⟩ = some (.int .u8 c.b) ∧ w8.cell? ⟨w.heap.size + 1, 3, none⟩ = some (.int .u8 c.a) := ⟨B_8.out.cell 0, B_8.out.cell 1, B_8.out.cell 2, C_8.out.cell 0, C_8.out.cell 1, C_8.out.cell 2, C_8.out.cell 3⟩
      refine wpAnyH_take (i := 11) (v := ?_) rfl (by kernel_rfl) (by kernel_rfl) (by kernel_rfl) (fun _ _ _ h => h) (Or.inl ⟨by kernel_rfl, ?_⟩) hHeld ?_
      rotate_left
      · intro w hSw
        (try dsimp only at hSw)
        go_split_ands
        go_simp
        (try with_reducible rfl)
      try simp only [Act.put, List.getElem_toArray, List.getElem_cons_succ, List.getElem_cons_zero, List.setIfInBounds_toArray, List.set_cons_zero, List.set_cons_succ]
      refine wpAnyH_done (by kernel_rfl) ?_ _
      clear hHeld
      (try go_wp2_with fail)
      go_meet
      exact ⟨_, _, _, _, rfl, rfl, X_8, B_8, C_8, V_8, R_8, HQ_⟩
  case rest =>
    clear X_3 B_3 C_3
    obtain ⟨T, g, cc, qx, rfl, rfl, X_30, B_30, C_30, V_30, R_30, HQ⟩ := hcut
    have k0 := B_30.out.cell 0
    have k1 := B_30.out.cell 1
    have k2 := B_30.out.cell 2
    go_wp2_with fail
    refine (refIn_any _ _ _ _ _ _ ⟨_, _, _, rfl⟩).mono ?_
    rintro e y31 ⟨rfl, h⟩
    have X_31 := Lib.hid (X_30.out.trans h)
    have B_31 := Lib.hid (B_30.out.ext h)
    have C_31 := Lib.hid (C_30.out.ext h)
    have V_31 := Lib.hid (V_30.out.ext h)
    have R_31 := Lib.hid (R_30.out.ext h)
    clear h X_30 B_30 C_30 V_30 R_30
    clear k0 k1 k2
    rw [HI.out]
    have k0 := B_31.out.cell 0
    have k1 := B_31.out.cell 1
    have k2 := B_31.out.cell 2
    go_wp2_with fail
    refine (refRight_any _ _ _ _ _ _).mono ?_
    rintro e y32 ⟨rfl, h⟩
    have X_32 := Lib.hid (X_31.out.trans h)
    have B_32 := Lib.hid (B_31.out.ext h)
    have C_32 := Lib.hid (C_31.out.ext h)
    have V_32 := Lib.hid (V_31.out.ext h)
    have R_32 := Lib.hid (R_31.out.ext h)
    clear h X_31 B_31 C_31 V_31 R_31
    clear k0 k1 k2
    rw [HR.out]
    go_upto_region 12 with fail
    have k0 := V_32.out.cell 0
    have k1 := V_32.out.cell 1
    have k2 := V_32.out.cell 2
    have k3 := B_32.out.cell 0
    have k4 := B_32.out.cell 1
    have k5 := B_32.out.cell 2
    have k6 := C_32.out.cell 0
    have k7 := C_32.out.cell 1
    have k8 := C_32.out.cell 2
    have k9 := C_32.out.cell 3
    refine wp_region_held_drew (S := fun w' => w'.cell? ⟨T, 0, none⟩ = some (.int .i64 (W : Int)) ∧ w'.cell? ⟨T, 1, none⟩ = some (.int .i64 (H : Int)) ∧ w'.cell? ⟨T, 2, none⟩ = some (.slice (some ⟨g, 0, none⟩) (W * H) cc) ∧ w'.cell? ⟨w.heap.size, 0, none⟩ = some (.int .i64 (W : Int)) ∧ w'.cell? ⟨w.heap.size, 1, none⟩ = some (.int .i64 (H : Int)) ∧ w'.cell? ⟨w.heap.size, 2, none⟩ = some (.slice (some ad) (W * H) cap) ∧ w'.cell? ⟨w.heap.size + 1, 0, none⟩ = some (.int .u8 c.r) ∧ w'.cell? ⟨w.heap.size + 1, 1, none⟩ = some (.int .u8 c.g) ∧ w'.cell? ⟨w.heap.size + 1, 2, none⟩ = some (.int .u8 c.b) ∧ w'.cell? ⟨w.heap.size + 1, 3, none⟩ = some (.int .u8 c.a)) (by kernel_rfl) ⟨V_32.out.cell 0, V_32.out.cell 1, V_32.out.cell 2, B_32.out.cell 0, B_32.out.cell 1, B_32.out.cell 2, C_32.out.cell 0, C_32.out.cell 1, C_32.out.cell 2, C_32.out.cell 3⟩ (fun hHeld => ?_)
    clear hHeld
    clear k0 k1 k2 k3 k4 k5 k6 k7 k8 k9
    refine anyH_world (fun wz => Ext y32 wz) (show Ext y32 y32.drew from Below.drew (Ext.refl y32)) ?_
    rintro y33 h
    have X_33 := Lib.hid (X_32.out.trans h)
    have B_33 := Lib.hid (B_32.out.ext h)
    have C_33 := Lib.hid (C_32.out.ext h)
    have V_33 := Lib.hid (V_32.out.ext h)
    have R_33 := Lib.hid (R_32.out.ext h)
    clear h X_32 B_32 C_32 V_32 R_32
    have hHeld : y33.cell? ⟨T, 0, none⟩ = some (.int .i64 (W : Int)) ∧ y33.cell? ⟨T, 1, none⟩ = some (.int .i64 (H : Int)) ∧ y33.cell? ⟨T, 2, none⟩ = some (.slice (some ⟨g, 0, none⟩) (W * H) cc) ∧ y33.cell? ⟨w.heap.size, 0, none⟩ = some (.int .i64 (W : Int)) ∧ y33.cell? ⟨w.heap.size, 1, none⟩ = some (.int .i64 (H : Int)) ∧ y33.cell? ⟨w.heap.size, 2, none⟩ = some (.slice (some ad) (W * H) cap) ∧ y33.cell? ⟨w.heap.size + 1, 0, none⟩ = some (.int .u8 c.r) ∧ y33.cell? ⟨w.heap.size + 1, 1, none⟩ = some (.int .u8 c.g) ∧ y33.cell? ⟨w.heap.size + 1, 2, none⟩ = some (.int .u8 c.b) ∧ y33.cell? ⟨w.heap.size + 1, 3, none⟩ = some (.int .u8 c.a) := ⟨V_33.out.cell 0, V_33.out.cell 1, V_33.out.cell 2, B_33.out.cell 0, B_33.out.cell 1, B_33.out.cell 2, C_33.out.cell 0, C_33.out.cell 1, C_33.out.cell 2, C_33.out.cell 3⟩
    refine wpAnyH_take (i := 0) (v := ?_) rfl (by kernel_rfl) (by kernel_rfl) (by kernel_rfl) (fun _ _ _ h => h) (Or.inl ⟨by kernel_rfl, ?_⟩) hHeld ?_
    rotate_left
    · intro w hSw
      (try dsimp only at hSw)
      go_split_ands
      go_simp
      (try with_reducible rfl)
    try simp only [Act.put, List.getElem_toArray, List.getElem_cons_succ, List.getElem_cons_zero, List.setIfInBounds_toArray, List.set_cons_zero, List.set_cons_succ]
    refine wpAnyH_take (i := 1) (v := ?_) rfl (by kernel_rfl) (by kernel_rfl) (by kernel_rfl) (fun _ _ _ h => h) (Or.inl ⟨by kernel_rfl, ?_⟩) hHeld ?_
    rotate_left
    · intro w hSw
      (try dsimp only at hSw)
      go_split_ands
      go_simp
      (try with_reducible rfl)
    try simp only [Act.put, List.getElem_toArray, List.getElem_cons_succ, List.getElem_cons_zero, List.setIfInBounds_toArray, List.set_cons_zero, List.set_cons_succ]
    refine wpAnyH_take (i := 2) (v := ?_) rfl (by kernel_rfl) (by kernel_rfl) (by kernel_rfl) (fun _ _ _ h => h) (Or.inl ⟨by kernel_rfl, ?_⟩) hHeld ?_
    rotate_left
    · intro w hSw
      (try dsimp only at hSw)
      go_split_ands
      go_simp
      (try with_reducible rfl)
    try simp only [Act.put, List.getElem_toArray, List.getElem_cons_succ, List.getElem_cons_zero, List.setIfInBounds_toArray, List.set_cons_zero, List.set_cons_succ]
    refine wpAnyH_take (i := 3) (v := ?_) rfl (by kernel_rfl) (by kernel_rfl) (by kernel_rfl) (fun _ _ _ h => h) (Or.inl ⟨by kernel_rfl, ?_⟩) hHeld ?_
    rotate_left
    · intro w hSw
      (try dsimp only at hSw)
      go_split_ands
      go_simp
      (try with_reducible rfl)
    try simp only [Act.put, List.getElem_toArray, List.getElem_cons_succ, List.getElem_cons_zero, List.setIfInBounds_toArray, List.set_cons_zero, List.set_cons_succ]
    refine wpAnyH_take (i := 4) (v := ?_) rfl (by kernel_rfl) (by kernel_rfl) (by kernel_rfl) (fun _ _ _ h => h) (Or.inl ⟨by kernel_rfl, ?_⟩) hHeld ?_
    rotate_left
    · intro w hSw
      (try dsimp only at hSw)
      go_split_ands
      go_simp
      (try with_reducible rfl)
    try simp only [Act.put, List.getElem_toArray, List.getElem_cons_succ, List.getElem_cons_zero, List.setIfInBounds_toArray, List.set_cons_zero, List.set_cons_succ]
    refine wpAnyH_take (i := 5) (v := ?_) rfl (by kernel_rfl) (by kernel_rfl) (by kernel_rfl) (fun _ _ _ h => h) (Or.inl ⟨by kernel_rfl, ?_⟩) hHeld ?_
    rotate_left
    · intro w hSw
      (try dsimp only at hSw)
      go_split_ands
      go_simp
      (try with_reducible rfl)
    try simp only [Act.put, List.getElem_toArray, List.getElem_cons_succ, List.getElem_cons_zero, List.setIfInBounds_toArray, List.set_cons_zero, List.set_cons_succ]
    refine wpAnyH_ready (rs := [6]) (by kernel_rfl) (by simp) ?_
    refine AllReadyH.cons rfl (fun KK hK => ?_) AllReadyH.nil
    clear hHeld
    go_simp
    refine (floodOf_any W H x0 y0 ad cap px c _ (HX.out.ext X_33.out) ⟨HS.out.1, HS.out.2.1⟩ ⟨HS.out.2.2.1, HS.out.2.2.2⟩ hx0 hy0).mono ?_
    rintro e y34 ⟨I, hI, ⟨go, co, rfl, hpo, _⟩, h⟩
    have oph := Lib.hid hpo
    have X_34 := Lib.hid (X_33.out.trans h)
    have B_34 := Lib.hid (B_33.out.ext h)
    have C_34 := Lib.hid (C_33.out.ext h)
    have V_34 := Lib.hid (V_33.out.ext h)
    have R_34 := Lib.hid (R_33.out.ext h)
    clear h hpo X_33 B_33 C_33 V_33 R_33
    have O_34 := Lib.hid (oph.out)
    go_simp
    refine hK.out _ _ ⟨V_34.out.cell 0, V_34.out.cell 1, V_34.out.cell 2, B_34.out.cell 0, B_34.out.cell 1, B_34.out.cell 2, C_34.out.cell 0, C_34.out.cell 1, C_34.out.cell 2, C_34.out.cell 3⟩ (fun hHeld => ?_)
    clear hK KK
    try simp only [Act.put, List.getElem_toArray, List.getElem_cons_succ, List.getElem_cons_zero, List.setIfInBounds_toArray, List.set_cons_zero, List.set_cons_succ]
    refine wpAnyH_ready (rs := [7]) (by kernel_rfl) (by simp) ?_
    refine AllReadyH.cons rfl (fun KK hK => ?_) AllReadyH.nil
    clear hHeld
    go_simp
    refine (told_ok _ _ _ _ _ _ _ qx _ (R_34.out.pxs (HQ.out.ok HOK.out HC.out)) ((Po.congr O_34.out (fun i hi => (HQ.out.of hI i hi).symm)).pxs (HQ.out.ok HOK.out HC.out)) (by omega)).mono ?_
    rintro e y35 ⟨rfl, h⟩
    have X_35 := Lib.hid (X_34.out.trans h)
    have B_35 := Lib.hid (B_34.out.ext h)
    have C_35 := Lib.hid (C_34.out.ext h)
    have V_35 := Lib.hid (V_34.out.ext h)
    have R_35 := Lib.hid (R_34.out.ext h)
    have O_35 := Lib.hid (O_34.out.ext h)
    clear h X_34 B_34 C_34 V_34 R_34 O_34
    go_simp
    refine hK.out _ _ ⟨V_35.out.cell 0, V_35.out.cell 1, V_35.out.cell 2, B_35.out.cell 0, B_35.out.cell 1, B_35.out.cell 2, C_35.out.cell 0, C_35.out.cell 1, C_35.out.cell 2, C_35.out.cell 3⟩ (fun hHeld => ?_)
    clear hK KK
    try simp only [Act.put, List.getElem_toArray, List.getElem_cons_succ, List.getElem_cons_zero, List.setIfInBounds_toArray, List.set_cons_zero, List.set_cons_succ]
    clear O_35
    refine wpAnyH_take (i := 8) (v := ?_) rfl (by kernel_rfl) (by kernel_rfl) (by kernel_rfl) (fun _ _ _ h => h) (Or.inl ⟨by kernel_rfl, ?_⟩) hHeld ?_
    rotate_left
    · intro w hSw
      (try dsimp only at hSw)
      go_split_ands
      go_simp
      (try with_reducible rfl)
    try simp only [Act.put, List.getElem_toArray, List.getElem_cons_succ, List.getElem_cons_zero, List.setIfInBounds_toArray, List.set_cons_zero, List.set_cons_succ]
    refine wpAnyH_done (by kernel_rfl) ?_ _
    clear hHeld
    clear hI
    have k0 := V_35.out.cell 0
    have k1 := V_35.out.cell 1
    have k2 := V_35.out.cell 2
    have k3 := C_35.out.cell 0
    have k4 := C_35.out.cell 1
    have k5 := C_35.out.cell 2
    have k6 := C_35.out.cell 3
    go_wp2_with fail
    refine (flood_ok W H x0 y0 ⟨g, 0, none⟩ cc qx c _ (R_35.out.pxs (HQ.out.ok HOK.out HC.out)) HR.out hx0 hy0).mono ?_
    rintro e y36 ⟨qz, hQ, ⟨gz, cz, rfl, hpo, _⟩, h⟩
    have zph := Lib.hid hpo
    have X_36 := Lib.hid (X_35.out.trans h)
    have B_36 := Lib.hid (B_35.out.ext h)
    have C_36 := Lib.hid (C_35.out.ext h)
    have V_36 := Lib.hid (V_35.out.ext h)
    have R_36 := Lib.hid (R_35.out.ext h)
    clear h hpo X_35 B_35 C_35 V_35 R_35
    have Z_36 := Lib.hid (zph.out)
    clear k0 k1 k2 k3 k4 k5 k6
    have HQ2 := Lib.hid (show FldQ W H x0 y0 qx c qz from hQ)
    clear hQ
    go_upto_region 15 with fail
    refine wp_world (fun wz => Ext y36 wz ∧ Bk wz y36.heap.size #[.int .i64 (W : Int), .int .i64 (H : Int), .slice (some ⟨gz, 0, none⟩) (W * H) cz]) ⟨Ext.alloc (Ext.refl _) _, Bk.at rfl⟩ ?_
    rintro y37 ⟨h, hB⟩
    have X_37 := Lib.hid (X_36.out.trans h)
    have B_37 := Lib.hid (B_36.out.ext h)
    have C_37 := Lib.hid (C_36.out.ext h)
    have V_37 := Lib.hid (V_36.out.ext h)
    have R_37 := Lib.hid (R_36.out.ext h)
    have Z_37 := Lib.hid (Z_36.out.ext h)
    clear h X_36 B_36 C_36 V_36 R_36 Z_36
    have N_37 := Lib.hid (hB)
    clear hB
    have k0 := N_37.out.cell 0
    have k1 := N_37.out.cell 1
    have k2 := N_37.out.cell 2
    have k3 := V_37.out.cell 0
    have k4 := V_37.out.cell 1
    have k5 := V_37.out.cell 2
    go_wp2_with fail
    refine (same_yes _ _ _ _ _ _ _ qx _ ((Po.congr Z_37.out (fun i hi => (HQ.out.twice HQ2.out i hi).symm)).pxs (HQ.out.ok HOK.out HC.out)) (R_37.out.pxs (HQ.out.ok HOK.out HC.out)) (by omega)).mono ?_
    rintro e y38 ⟨rfl, h⟩
    have X_38 := Lib.hid (X_37.out.trans h)
    have B_38 := Lib.hid (B_37.out.ext h)
    have C_38 := Lib.hid (C_37.out.ext h)
    have V_38 := Lib.hid (V_37.out.ext h)
    have R_38 := Lib.hid (R_37.out.ext h)
    have Z_38 := Lib.hid (Z_37.out.ext h)
    have N_38 := Lib.hid (N_37.out.ext h)
    clear h X_37 B_37 C_37 V_37 R_37 Z_37 N_37
    clear k0 k1 k2 k3 k4 k5
    go_wp2_with fail
    go_ret
    exact ⟨rfl, X_38.out⟩
theorem floods_small (W H : Int) (x : Option Addr) (n cap : Nat) (u v : Int) (c : P4) (w : World) (hn : n ≤ maxLen) (h : 3000 < n) :
    Calls Tryd.prog 6 #[.agg #[.int .i64 W, .int .i64 H, .slice x n cap], .int .i64 u, .int .i64 v, .agg #[.int .u8 c.r, .int .u8 c.g, .int .u8 c.b, .int .u8 c.a]] w fun e w' => e = .returned (.bool true) ∧ Ext w w' := by
  have hd := Lib.hid (decide_eq_false (show ¬ n ≤ 3000 by omega))
  go_enter Tryd.func6, Tryd.ntmps6
  go_wp2_with fail
  refine calls_world (fun wz => Ext w wz ∧ wz.heap.size = w.heap.size + 1 + 1 ∧ Bk wz (w.heap.size) #[.int .i64 W, .int .i64 H, .slice x n cap] ∧ Bk wz (w.heap.size + 1) #[.int .u8 c.r, .int .u8 c.g, .int .u8 c.b, .int .u8 c.a]) ⟨by repeat (first | exact Ext.refl _ | refine Ext.alloc ?_ _), by simp, by repeat (first | exact Bk.at (by simp) | refine Bk.old ?_), by repeat (first | exact Bk.at (by simp) | refine Bk.old ?_)⟩ ?_
  rintro wa ⟨hX, hZ, hB0, hB1⟩
  refine (plainly_any _).mono ?_
  rintro e w2 ⟨rfl, h2⟩
  have X2 := Lib.hid (hX.trans h2)
  have B2 := Lib.hid (hB0.ext h2)
  clear h2
  have c0 := B2.out.cell 0
  have c1 := B2.out.cell 1
  have c2 := B2.out.cell 2
  go_wp2_with fail
  refine (small_any W H x n cap _ hn).mono ?_
  rintro e w3 ⟨rfl, h3⟩
  have X3 := Lib.hid (X2.out.trans h3)
  clear h3
  rw [hd.out]
  go_wp2_with fail
  go_ret
  exact ⟨rfl, X3.out⟩
theorem floods_any (u v r g b a W H : Int) (x : Option Addr) (n cap : Nat) (px : Nat → P4) (w : World) (E : Nat → Addr) (hE : Errs w E) (hp : (P4.mk r g b a).Ok) (hx : Pxs w x n px) (hx0 : x = none → cap = 0) (hn : n ≤ maxLen) :
    Calls Tryd.prog 6 #[.agg #[.int .i64 W, .int .i64 H, .slice x n cap], .int .i64 u, .int .i64 v, .agg #[.int .u8 r, .int .u8 g, .int .u8 b, .int .u8 a]] w fun e w' => e = .returned (.bool true) ∧ Ext w w' := by
  by_cases h1 : 3000 < n
  · exact floods_small W H x n cap u v ⟨r, g, b, a⟩ w hn h1
  have hn' : n ≤ 3000 := by omega
  cases hr : rightB W H n
  · exact floods_shape W H x n cap px u v ⟨r, g, b, a⟩ w E hE hx hx0 hn' hr
  cases hi : inB W H u v
  · exact floods_bound W H x n cap px u v ⟨r, g, b, a⟩ w E hE hx hx0 hn' hr hi
  · obtain ⟨A, B, rfl, rfl, a1, a2, b1, b2, rfl⟩ := rightB_yes hr
    obtain ⟨i1, i2, i3, i4⟩ := of_decide_eq_true hi
    obtain ⟨ad, rfl⟩ := hx.isSome (Nat.mul_pos a1 b1)
    obtain ⟨x0, rfl⟩ : ∃ m : Nat, u = m := ⟨u.toNat, by omega⟩
    obtain ⟨y0, rfl⟩ : ∃ m : Nat, v = m := ⟨v.toNat, by omega⟩
    exact floods_ok A B x0 y0 ad cap px ⟨r, g, b, a⟩ w hp hx.bd hx hn' hr (by omega) (by omega)
end Go.Proofs.YtkfjcgcgfdibaaaDoor
