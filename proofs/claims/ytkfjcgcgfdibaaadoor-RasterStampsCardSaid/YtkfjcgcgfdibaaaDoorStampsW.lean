/- RasterStamps' walk. -/
import Derived.Test.YtkfjcgcgfdibaaaDoorStampsLaw
import Derived.Deep.RegionHeld3
import Derived.Deep.DeepCutAuto
namespace Go.Proofs.YtkfjcgcgfdibaaaDoor
open Go.RowKit
set_option maxRecDepth 100000
set_option linter.unusedSimpArgs false in
set_option maxHeartbeats 4000000 in
theorem stamps_shapep (W H QW QH : Int) (X Y m : Int) (xa xb : Option Addr) (n c k d : Nat) (px qx : Nat → P4) (w : World) (E : Nat → Addr) (hE : Errs w E) (hx : Pxs w xa n px) (hx0 : xa = none → c = 0) (hy : Pxs w xb k qx) (hy0 : xb = none → d = 0) (hn : n ≤ 3000) (hk : k ≤ 3000) (hr : rightB W H n = false) :
    Calls Tryd.prog 8 #[.agg #[(.int .i64 W), (.int .i64 H), (.slice xa n c)], .agg #[(.int .i64 QW), (.int .i64 QH), (.slice xb k d)], .int .i64 X, .int .i64 Y, .int .i64 m] w fun e w' => e = .returned (.bool true) ∧ Ext w w' := by
  have HE := Lib.hid hE
  have HX := Lib.hid hx
  have HY := Lib.hid hy
  have HD := Lib.hid (decide_eq_true hn)
  have HD2 := Lib.hid (decide_eq_true hk)
  have HX0 := Lib.hid hx0
  have HY0 := Lib.hid hy0
  have HR := Lib.hid hr
  obtain ⟨gb, hB⟩ : ∃ gb, goodB X Y m = gb := ⟨_, rfl⟩
  have HB := Lib.hid hB
  clear hE hx hx0 hy hy0 hr hB
  go_enter Tryd.func8, Tryd.ntmps8
  go_wp2_with fail
  refine calls_world (fun wz => Ext w wz ∧ wz.heap.size = w.heap.size + 1 + 1 ∧ Bk wz (w.heap.size) #[(.int .i64 W), (.int .i64 H), (.slice xa n c)] ∧ Bk wz (w.heap.size + 1) #[(.int .i64 QW), (.int .i64 QH), (.slice xb k d)]) ⟨by repeat (first | exact Ext.refl _ | refine Ext.alloc ?_ _), by simp, by repeat (first | exact Bk.at (by simp) | refine Bk.old ?_), by repeat (first | exact Bk.at (by simp) | refine Bk.old ?_)⟩ ?_
  rintro w1 ⟨hX, hZ, hB0, hB1⟩
  have X_1 := Lib.hid (hX)
  have P_1 := Lib.hid (hB0)
  have Q_1 := Lib.hid (hB1)
  clear hX hZ hB0 hB1
  refine (plainly_any _).mono ?_
  rintro e w2 ⟨rfl, h⟩
  have X_2 := Lib.hid (X_1.out.trans h)
  have P_2 := Lib.hid (P_1.out.ext h)
  have Q_2 := Lib.hid (Q_1.out.ext h)
  clear h X_1 P_1 Q_1
  have k0 := P_2.out.cell 0
  have k1 := P_2.out.cell 1
  have k2 := P_2.out.cell 2
  go_wp2_with fail
  refine (small_any _ _ _ _ _ _ (by unfold maxLen; omega)).mono ?_
  rintro e w3 ⟨rfl, h⟩
  have X_3 := Lib.hid (X_2.out.trans h)
  have P_3 := Lib.hid (P_2.out.ext h)
  have Q_3 := Lib.hid (Q_2.out.ext h)
  clear h X_2 P_2 Q_2
  clear k0 k1 k2
  rw [HD.out]
  have k0 := Q_3.out.cell 0
  have k1 := Q_3.out.cell 1
  have k2 := Q_3.out.cell 2
  go_wp2_with fail
  refine (small_any _ _ _ _ _ _ (by unfold maxLen; omega)).mono ?_
  rintro e w4 ⟨rfl, h⟩
  have X_4 := Lib.hid (X_3.out.trans h)
  have P_4 := Lib.hid (P_3.out.ext h)
  have Q_4 := Lib.hid (Q_3.out.ext h)
  clear h X_3 P_3 Q_3
  clear k0 k1 k2
  rw [HD2.out]
  go_upto_region 4 with fail
  go_cut [12, 13] (fun s12 s13 wx => ∃ T, s12 = .pointer (some ⟨T, 0, none⟩) ∧ s13 = .iface 171 (.pointer (some (E 2))) ∧ Hid (Ext w wx) ∧ Hid (Bk wx w.heap.size #[(.int .i64 W), (.int .i64 H), (.slice xa n c)]) ∧ Hid (Bk wx (w.heap.size + 1) #[(.int .i64 QW), (.int .i64 QH), (.slice xb k d)]) ∧ Hid (Bk wx T #[.int .i64 0, .int .i64 0, .slice none 0 0]))
  case first =>
    have k0 := P_4.out.cell 0
    have k1 := P_4.out.cell 1
    have k2 := P_4.out.cell 2
    have k3 := Q_4.out.cell 0
    have k4 := Q_4.out.cell 1
    have k5 := Q_4.out.cell 2
    refine wp_region_held_drew (S := fun w' => w'.cell? ⟨w.heap.size, 0, none⟩ = some ((.int .i64 W)) ∧ w'.cell? ⟨w.heap.size, 1, none⟩ = some ((.int .i64 H)) ∧ w'.cell? ⟨w.heap.size, 2, none⟩ = some ((.slice xa n c)) ∧ w'.cell? ⟨w.heap.size + 1, 0, none⟩ = some ((.int .i64 QW)) ∧ w'.cell? ⟨w.heap.size + 1, 1, none⟩ = some ((.int .i64 QH)) ∧ w'.cell? ⟨w.heap.size + 1, 2, none⟩ = some ((.slice xb k d))) (by kernel_rfl) ⟨P_4.out.cell 0, P_4.out.cell 1, P_4.out.cell 2, Q_4.out.cell 0, Q_4.out.cell 1, Q_4.out.cell 2⟩ (fun hHeld => ?_)
    clear hHeld
    clear k0 k1 k2 k3 k4 k5
    refine anyH_world (fun wz => Ext w4 wz) (show Ext w4 w4.drew from Below.drew (Ext.refl w4)) ?_
    rintro w5 h
    have X_5 := Lib.hid (X_4.out.trans h)
    have P_5 := Lib.hid (P_4.out.ext h)
    have Q_5 := Lib.hid (Q_4.out.ext h)
    clear h X_4 P_4 Q_4
    have hHeld : w5.cell? ⟨w.heap.size, 0, none⟩ = some ((.int .i64 W)) ∧ w5.cell? ⟨w.heap.size, 1, none⟩ = some ((.int .i64 H)) ∧ w5.cell? ⟨w.heap.size, 2, none⟩ = some ((.slice xa n c)) ∧ w5.cell? ⟨w.heap.size + 1, 0, none⟩ = some ((.int .i64 QW)) ∧ w5.cell? ⟨w.heap.size + 1, 1, none⟩ = some ((.int .i64 QH)) ∧ w5.cell? ⟨w.heap.size + 1, 2, none⟩ = some ((.slice xb k d)) := ⟨P_5.out.cell 0, P_5.out.cell 1, P_5.out.cell 2, Q_5.out.cell 0, Q_5.out.cell 1, Q_5.out.cell 2⟩
    refine wpAnyH_take (i := 0) (v := ?_) rfl (by kernel_rfl) (by kernel_rfl) (by kernel_rfl) (fun _ _ _ h => h) (Or.inl ⟨by kernel_rfl, ?_⟩) hHeld ?_
    rotate_left
    · intro w hSw
      (try dsimp only at hSw)
      go_split_ands
      go_simp
      (try with_reducible rfl)
    try simp only [Act.put, List.getElem_toArray, List.getElem_cons_succ, List.getElem_cons_zero, List.setIfInBounds_toArray, List.set_cons_zero, List.set_cons_succ]
    refine wpAnyH_take (i := 2) (v := ?_) rfl (by kernel_rfl) (by kernel_rfl) (by kernel_rfl) (fun _ _ _ h => h) (Or.inl ⟨by kernel_rfl, ?_⟩) hHeld ?_
    rotate_left
    · intro w hSw
      (try dsimp only at hSw)
      go_split_ands
      go_simp
      (try with_reducible rfl)
    try simp only [Act.put, List.getElem_toArray, List.getElem_cons_succ, List.getElem_cons_zero, List.setIfInBounds_toArray, List.set_cons_zero, List.set_cons_succ]
    refine wpAnyH_take (i := 4) (v := ?_) rfl (by kernel_rfl) (by kernel_rfl) (by kernel_rfl) (fun _ _ _ h => h) (Or.inl ⟨by kernel_rfl, ?_⟩) hHeld ?_
    rotate_left
    · intro w hSw
      (try dsimp only at hSw)
      go_split_ands
      go_simp
      (try with_reducible rfl)
    try simp only [Act.put, List.getElem_toArray, List.getElem_cons_succ, List.getElem_cons_zero, List.setIfInBounds_toArray, List.set_cons_zero, List.set_cons_succ]
    refine wpAnyH_take (i := 5) (v := ?_) rfl (by kernel_rfl) (by kernel_rfl) (by kernel_rfl) (fun _ _ _ h => h) (Or.inl ⟨by kernel_rfl, ?_⟩) hHeld ?_
    rotate_left
    · intro w hSw
      (try dsimp only at hSw)
      go_split_ands
      go_simp
      (try with_reducible rfl)
    try simp only [Act.put, List.getElem_toArray, List.getElem_cons_succ, List.getElem_cons_zero, List.setIfInBounds_toArray, List.set_cons_zero, List.set_cons_succ]
    refine wpAnyH_take (i := 6) (v := ?_) rfl (by kernel_rfl) (by kernel_rfl) (by kernel_rfl) (fun _ _ _ h => h) (Or.inl ⟨by kernel_rfl, ?_⟩) hHeld ?_
    rotate_left
    · intro w hSw
      (try dsimp only at hSw)
      go_split_ands
      go_simp
      (try with_reducible rfl)
    try simp only [Act.put, List.getElem_toArray, List.getElem_cons_succ, List.getElem_cons_zero, List.setIfInBounds_toArray, List.set_cons_zero, List.set_cons_succ]
    refine wpAnyH_ready (rs := [1, 11]) (by kernel_rfl) (by simp) ?_
    refine AllReadyH.cons rfl (fun KK hK => ?_) (AllReadyH.cons rfl (fun KK hK => ?_) AllReadyH.nil)
    · clear hHeld
      go_simp
      refine (own_x _ _ xa n c px _ (HX.out.ext X_5.out) HX0.out (by omega)).mono ?_
      rintro e w6 ⟨⟨xO1, cO1, rfl, hox, _⟩, h⟩
      have X_6 := Lib.hid (X_5.out.trans h)
      have P_6 := Lib.hid (P_5.out.ext h)
      have Q_6 := Lib.hid (Q_5.out.ext h)
      clear h X_5 P_5 Q_5
      have O1_6 := Lib.hid (hox)
      clear hox
      go_simp
      refine hK.out _ _ ⟨P_6.out.cell 0, P_6.out.cell 1, P_6.out.cell 2, Q_6.out.cell 0, Q_6.out.cell 1, Q_6.out.cell 2⟩ (fun hHeld => ?_)
      clear hK KK
      try simp only [Act.put, List.getElem_toArray, List.getElem_cons_succ, List.getElem_cons_zero, List.setIfInBounds_toArray, List.set_cons_zero, List.set_cons_succ]
      refine wpAnyH_ready (rs := [3, 11]) (by kernel_rfl) (by simp) ?_
      refine AllReadyH.cons rfl (fun KK hK => ?_) (AllReadyH.cons rfl (fun KK hK => ?_) AllReadyH.nil)
      · clear hHeld
        go_simp
        refine (own_x _ _ xb k d qx _ (HY.out.ext X_6.out) HY0.out (by omega)).mono ?_
        rintro e w7 ⟨⟨xO2, cO2, rfl, hox, _⟩, h⟩
        have X_7 := Lib.hid (X_6.out.trans h)
        have P_7 := Lib.hid (P_6.out.ext h)
        have Q_7 := Lib.hid (Q_6.out.ext h)
        have O1_7 := Lib.hid (O1_6.out.ext h)
        clear h X_6 P_6 Q_6 O1_6
        have O2_7 := Lib.hid (hox)
        clear hox
        go_simp
        refine hK.out _ _ ⟨P_7.out.cell 0, P_7.out.cell 1, P_7.out.cell 2, Q_7.out.cell 0, Q_7.out.cell 1, Q_7.out.cell 2⟩ (fun hHeld => ?_)
        clear hK KK
        try simp only [Act.put, List.getElem_toArray, List.getElem_cons_succ, List.getElem_cons_zero, List.setIfInBounds_toArray, List.set_cons_zero, List.set_cons_succ]
        refine wpAnyH_ready (rs := [7, 11]) (by kernel_rfl) (by simp) ?_
        refine AllReadyH.cons rfl (fun KK hK => ?_) (AllReadyH.cons rfl (fun KK hK => ?_) AllReadyH.nil)
        · clear hHeld
          go_simp
          refine (stamp_shape_p _ _ _ _ X Y m _ _ _ _ _ _ E _ (HE.out.ext X_7.out) HR.out).mono ?_
          rintro e w8 ⟨rfl, h⟩
          clear O1_7 O2_7
          have X_8 := Lib.hid (X_7.out.trans h)
          have P_8 := Lib.hid (P_7.out.ext h)
          have Q_8 := Lib.hid (Q_7.out.ext h)
          clear h X_7 P_7 Q_7
          go_simp
          refine hK.out _ _ ⟨P_8.out.cell 0, P_8.out.cell 1, P_8.out.cell 2, Q_8.out.cell 0, Q_8.out.cell 1, Q_8.out.cell 2⟩ (fun hHeld => ?_)
          clear hK KK
          try simp only [Act.put, List.getElem_toArray, List.getElem_cons_succ, List.getElem_cons_zero, List.setIfInBounds_toArray, List.set_cons_zero, List.set_cons_succ]
          refine wpAnyH_take (i := 8) (v := ?_) rfl (by kernel_rfl) (by kernel_rfl) (by kernel_rfl) (fun _ _ _ h => h) (Or.inl ⟨by kernel_rfl, ?_⟩) hHeld ?_
          rotate_left
          · intro w hSw
            (try dsimp only at hSw)
            go_split_ands
            go_simp
            (try with_reducible rfl)
          try simp only [Act.put, List.getElem_toArray, List.getElem_cons_succ, List.getElem_cons_zero, List.setIfInBounds_toArray, List.set_cons_zero, List.set_cons_succ]
          refine wpAnyH_take (i := 9) (v := ?_) rfl (by kernel_rfl) (by kernel_rfl) (by kernel_rfl) (fun _ _ _ h => h) (Or.inl ⟨by kernel_rfl, ?_⟩) hHeld ?_
          rotate_left
          · intro w hSw
            (try dsimp only at hSw)
            go_split_ands
            go_simp
            (try with_reducible rfl)
          try simp only [Act.put, List.getElem_toArray, List.getElem_cons_succ, List.getElem_cons_zero, List.setIfInBounds_toArray, List.set_cons_zero, List.set_cons_succ]
          refine wpAnyH_take (i := 10) (v := ?_) rfl (by kernel_rfl) (by kernel_rfl) (by kernel_rfl) (fun _ _ _ h => h) (Or.inl ⟨by kernel_rfl, ?_⟩) hHeld ?_
          rotate_left
          · intro w hSw
            (try dsimp only at hSw)
            go_split_ands
            go_simp
            (try with_reducible rfl)
          try simp only [Act.put, List.getElem_toArray, List.getElem_cons_succ, List.getElem_cons_zero, List.setIfInBounds_toArray, List.set_cons_zero, List.set_cons_succ]
          refine wpAnyH_ready (rs := [11]) (by kernel_rfl) (by simp) ?_
          refine AllReadyH.cons rfl (fun KK hK => ?_) AllReadyH.nil
          clear hHeld
          go_simp
          refine hK.out _ _ ⟨(P_8.out.ext (Ext.alloc (Ext.refl w8) _)).cell 0, (P_8.out.ext (Ext.alloc (Ext.refl w8) _)).cell 1, (P_8.out.ext (Ext.alloc (Ext.refl w8) _)).cell 2, (Q_8.out.ext (Ext.alloc (Ext.refl w8) _)).cell 0, (Q_8.out.ext (Ext.alloc (Ext.refl w8) _)).cell 1, (Q_8.out.ext (Ext.alloc (Ext.refl w8) _)).cell 2⟩ (fun hHeld => ?_)
          clear hK KK hHeld
          try simp only [Act.put, List.getElem_toArray, List.getElem_cons_succ, List.getElem_cons_zero, List.setIfInBounds_toArray, List.set_cons_zero, List.set_cons_succ]
          have NE_P_T := Lib.hid (Nat.ne_of_lt P_8.out.lt)
          have NE_Q_T := Lib.hid (Nat.ne_of_lt Q_8.out.lt)
          have GE_T := Lib.hid X_8.out.size
          refine anyH_world (fun wz => Ext w8 wz ∧ Bk wz w8.heap.size #[.int .i64 0, .int .i64 0, .slice none 0 0]) ⟨Ext.alloc (Ext.refl _) _, Bk.at rfl⟩ ?_
          rintro w9 ⟨h, hB⟩
          have X_9 := Lib.hid (X_8.out.trans h)
          have P_9 := Lib.hid (P_8.out.ext h)
          have Q_9 := Lib.hid (Q_8.out.ext h)
          clear h X_8 P_8 Q_8
          have T_9 := Lib.hid (hB)
          clear hB
          have hHeld : w9.cell? ⟨w.heap.size, 0, none⟩ = some ((.int .i64 W)) ∧ w9.cell? ⟨w.heap.size, 1, none⟩ = some ((.int .i64 H)) ∧ w9.cell? ⟨w.heap.size, 2, none⟩ = some ((.slice xa n c)) ∧ w9.cell? ⟨w.heap.size + 1, 0, none⟩ = some ((.int .i64 QW)) ∧ w9.cell? ⟨w.heap.size + 1, 1, none⟩ = some ((.int .i64 QH)) ∧ w9.cell? ⟨w.heap.size + 1, 2, none⟩ = some ((.slice xb k d)) := ⟨P_9.out.cell 0, P_9.out.cell 1, P_9.out.cell 2, Q_9.out.cell 0, Q_9.out.cell 1, Q_9.out.cell 2⟩
          refine wpAnyH_ready (rs := [12]) (by kernel_rfl) (by simp) ?_
          refine AllReadyH.cons rfl (fun KK hK => ?_) AllReadyH.nil
          clear hHeld
          have t0 := T_9.out.cell 0
          have f0 := T_9.out.frozen 0
          have t1 := T_9.out.cell 1
          have f1 := T_9.out.frozen 1
          have t2 := T_9.out.cell 2
          have f2 := T_9.out.frozen 2
          have SF := set3_all (x' := .int .i64 0) (y' := .int .i64 0) (z' := .slice none 0 0) X_9.out GE_T.out T_9.out
          have SFH := Lib.hid SF
          clear SF
          go_simp
          clear t0 t1 t2 f0 f1 f2
          refine hK.out _ _ ⟨(P_9.out.keeps SFH.out.2.2 (NE_P_T.out)).cell 0, (P_9.out.keeps SFH.out.2.2 (NE_P_T.out)).cell 1, (P_9.out.keeps SFH.out.2.2 (NE_P_T.out)).cell 2, (Q_9.out.keeps SFH.out.2.2 (NE_Q_T.out)).cell 0, (Q_9.out.keeps SFH.out.2.2 (NE_Q_T.out)).cell 1, (Q_9.out.keeps SFH.out.2.2 (NE_Q_T.out)).cell 2⟩ (fun hHeld => ?_)
          clear hK KK hHeld
          try simp only [Act.put, List.getElem_toArray, List.getElem_cons_succ, List.getElem_cons_zero, List.setIfInBounds_toArray, List.set_cons_zero, List.set_cons_succ]
          refine anyH_world (fun wz => Ext w wz ∧ Bk wz (w8.heap.size) #[.int .i64 0, .int .i64 0, .slice none 0 0] ∧ Keeps (fun k => k = w8.heap.size) w9 wz) SFH.out ?_
          rintro w10 ⟨hX, hB, hKK⟩
          have X_10 := Lib.hid (hX)
          have P_10 := Lib.hid (P_9.out.keeps hKK (NE_P_T.out))
          have Q_10 := Lib.hid (Q_9.out.keeps hKK (NE_Q_T.out))
          have T_10 := Lib.hid (hB)
          clear hX hB hKK SFH X_9 P_9 Q_9 T_9
          have hHeld : w10.cell? ⟨w.heap.size, 0, none⟩ = some ((.int .i64 W)) ∧ w10.cell? ⟨w.heap.size, 1, none⟩ = some ((.int .i64 H)) ∧ w10.cell? ⟨w.heap.size, 2, none⟩ = some ((.slice xa n c)) ∧ w10.cell? ⟨w.heap.size + 1, 0, none⟩ = some ((.int .i64 QW)) ∧ w10.cell? ⟨w.heap.size + 1, 1, none⟩ = some ((.int .i64 QH)) ∧ w10.cell? ⟨w.heap.size + 1, 2, none⟩ = some ((.slice xb k d)) := ⟨P_10.out.cell 0, P_10.out.cell 1, P_10.out.cell 2, Q_10.out.cell 0, Q_10.out.cell 1, Q_10.out.cell 2⟩
          refine wpAnyH_take (i := 13) (v := ?_) rfl (by kernel_rfl) (by kernel_rfl) (by kernel_rfl) (fun _ _ _ h => h) (Or.inl ⟨by kernel_rfl, ?_⟩) hHeld ?_
          rotate_left
          · intro w hSw
            (try dsimp only at hSw)
            go_split_ands
            go_simp
            (try with_reducible rfl)
          try simp only [Act.put, List.getElem_toArray, List.getElem_cons_succ, List.getElem_cons_zero, List.setIfInBounds_toArray, List.set_cons_zero, List.set_cons_succ]
          refine wpAnyH_done (by kernel_rfl) ?_ _
          clear hHeld
          (try go_wp2_with fail)
          go_meet
          exact ⟨_, rfl, rfl, X_10, P_10, Q_10, T_10⟩
        · clear hHeld
          go_simp
          refine hK.out _ _ ⟨(P_7.out.ext (Ext.alloc (Ext.refl w7) _)).cell 0, (P_7.out.ext (Ext.alloc (Ext.refl w7) _)).cell 1, (P_7.out.ext (Ext.alloc (Ext.refl w7) _)).cell 2, (Q_7.out.ext (Ext.alloc (Ext.refl w7) _)).cell 0, (Q_7.out.ext (Ext.alloc (Ext.refl w7) _)).cell 1, (Q_7.out.ext (Ext.alloc (Ext.refl w7) _)).cell 2⟩ (fun hHeld => ?_)
          clear hK KK hHeld
          try simp only [Act.put, List.getElem_toArray, List.getElem_cons_succ, List.getElem_cons_zero, List.setIfInBounds_toArray, List.set_cons_zero, List.set_cons_succ]
          have NE_P_T := Lib.hid (Nat.ne_of_lt P_7.out.lt)
          have NE_Q_T := Lib.hid (Nat.ne_of_lt Q_7.out.lt)
          have GE_T := Lib.hid X_7.out.size
          refine anyH_world (fun wz => Ext w7 wz ∧ Bk wz w7.heap.size #[.int .i64 0, .int .i64 0, .slice none 0 0]) ⟨Ext.alloc (Ext.refl _) _, Bk.at rfl⟩ ?_
          rintro w8 ⟨h, hB⟩
          have X_8 := Lib.hid (X_7.out.trans h)
          have P_8 := Lib.hid (P_7.out.ext h)
          have Q_8 := Lib.hid (Q_7.out.ext h)
          have O1_8 := Lib.hid (O1_7.out.ext h)
          have O2_8 := Lib.hid (O2_7.out.ext h)
          clear h X_7 P_7 Q_7 O1_7 O2_7
          have T_8 := Lib.hid (hB)
          clear hB
          have hHeld : w8.cell? ⟨w.heap.size, 0, none⟩ = some ((.int .i64 W)) ∧ w8.cell? ⟨w.heap.size, 1, none⟩ = some ((.int .i64 H)) ∧ w8.cell? ⟨w.heap.size, 2, none⟩ = some ((.slice xa n c)) ∧ w8.cell? ⟨w.heap.size + 1, 0, none⟩ = some ((.int .i64 QW)) ∧ w8.cell? ⟨w.heap.size + 1, 1, none⟩ = some ((.int .i64 QH)) ∧ w8.cell? ⟨w.heap.size + 1, 2, none⟩ = some ((.slice xb k d)) := ⟨P_8.out.cell 0, P_8.out.cell 1, P_8.out.cell 2, Q_8.out.cell 0, Q_8.out.cell 1, Q_8.out.cell 2⟩
          refine wpAnyH_ready (rs := [7]) (by kernel_rfl) (by simp) ?_
          refine AllReadyH.cons rfl (fun KK hK => ?_) AllReadyH.nil
          clear hHeld
          go_simp
          refine (stamp_shape_p _ _ _ _ X Y m _ _ _ _ _ _ E _ (HE.out.ext X_8.out) HR.out).mono ?_
          rintro e w9 ⟨rfl, h⟩
          clear O1_8 O2_8
          have X_9 := Lib.hid (X_8.out.trans h)
          have P_9 := Lib.hid (P_8.out.ext h)
          have Q_9 := Lib.hid (Q_8.out.ext h)
          have T_9 := Lib.hid (T_8.out.ext h)
          clear h X_8 P_8 Q_8 T_8
          go_simp
          refine hK.out _ _ ⟨P_9.out.cell 0, P_9.out.cell 1, P_9.out.cell 2, Q_9.out.cell 0, Q_9.out.cell 1, Q_9.out.cell 2⟩ (fun hHeld => ?_)
          clear hK KK
          try simp only [Act.put, List.getElem_toArray, List.getElem_cons_succ, List.getElem_cons_zero, List.setIfInBounds_toArray, List.set_cons_zero, List.set_cons_succ]
          refine wpAnyH_take (i := 8) (v := ?_) rfl (by kernel_rfl) (by kernel_rfl) (by kernel_rfl) (fun _ _ _ h => h) (Or.inl ⟨by kernel_rfl, ?_⟩) hHeld ?_
          rotate_left
          · intro w hSw
            (try dsimp only at hSw)
            go_split_ands
            go_simp
            (try with_reducible rfl)
          try simp only [Act.put, List.getElem_toArray, List.getElem_cons_succ, List.getElem_cons_zero, List.setIfInBounds_toArray, List.set_cons_zero, List.set_cons_succ]
          refine wpAnyH_take (i := 9) (v := ?_) rfl (by kernel_rfl) (by kernel_rfl) (by kernel_rfl) (fun _ _ _ h => h) (Or.inl ⟨by kernel_rfl, ?_⟩) hHeld ?_
          rotate_left
          · intro w hSw
            (try dsimp only at hSw)
            go_split_ands
            go_simp
            (try with_reducible rfl)
          try simp only [Act.put, List.getElem_toArray, List.getElem_cons_succ, List.getElem_cons_zero, List.setIfInBounds_toArray, List.set_cons_zero, List.set_cons_succ]
          refine wpAnyH_take (i := 10) (v := ?_) rfl (by kernel_rfl) (by kernel_rfl) (by kernel_rfl) (fun _ _ _ h => h) (Or.inl ⟨by kernel_rfl, ?_⟩) hHeld ?_
          rotate_left
          · intro w hSw
            (try dsimp only at hSw)
            go_split_ands
            go_simp
            (try with_reducible rfl)
          try simp only [Act.put, List.getElem_toArray, List.getElem_cons_succ, List.getElem_cons_zero, List.setIfInBounds_toArray, List.set_cons_zero, List.set_cons_succ]
          refine wpAnyH_ready (rs := [12]) (by kernel_rfl) (by simp) ?_
          refine AllReadyH.cons rfl (fun KK hK => ?_) AllReadyH.nil
          clear hHeld
          have t0 := T_9.out.cell 0
          have f0 := T_9.out.frozen 0
          have t1 := T_9.out.cell 1
          have f1 := T_9.out.frozen 1
          have t2 := T_9.out.cell 2
          have f2 := T_9.out.frozen 2
          have SF := set3_all (x' := .int .i64 0) (y' := .int .i64 0) (z' := .slice none 0 0) X_9.out GE_T.out T_9.out
          have SFH := Lib.hid SF
          clear SF
          go_simp
          clear t0 t1 t2 f0 f1 f2
          refine hK.out _ _ ⟨(P_9.out.keeps SFH.out.2.2 (NE_P_T.out)).cell 0, (P_9.out.keeps SFH.out.2.2 (NE_P_T.out)).cell 1, (P_9.out.keeps SFH.out.2.2 (NE_P_T.out)).cell 2, (Q_9.out.keeps SFH.out.2.2 (NE_Q_T.out)).cell 0, (Q_9.out.keeps SFH.out.2.2 (NE_Q_T.out)).cell 1, (Q_9.out.keeps SFH.out.2.2 (NE_Q_T.out)).cell 2⟩ (fun hHeld => ?_)
          clear hK KK hHeld
          try simp only [Act.put, List.getElem_toArray, List.getElem_cons_succ, List.getElem_cons_zero, List.setIfInBounds_toArray, List.set_cons_zero, List.set_cons_succ]
          refine anyH_world (fun wz => Ext w wz ∧ Bk wz (w7.heap.size) #[.int .i64 0, .int .i64 0, .slice none 0 0] ∧ Keeps (fun k => k = w7.heap.size) w9 wz) SFH.out ?_
          rintro w10 ⟨hX, hB, hKK⟩
          have X_10 := Lib.hid (hX)
          have P_10 := Lib.hid (P_9.out.keeps hKK (NE_P_T.out))
          have Q_10 := Lib.hid (Q_9.out.keeps hKK (NE_Q_T.out))
          have T_10 := Lib.hid (hB)
          clear hX hB hKK SFH X_9 P_9 Q_9 T_9
          have hHeld : w10.cell? ⟨w.heap.size, 0, none⟩ = some ((.int .i64 W)) ∧ w10.cell? ⟨w.heap.size, 1, none⟩ = some ((.int .i64 H)) ∧ w10.cell? ⟨w.heap.size, 2, none⟩ = some ((.slice xa n c)) ∧ w10.cell? ⟨w.heap.size + 1, 0, none⟩ = some ((.int .i64 QW)) ∧ w10.cell? ⟨w.heap.size + 1, 1, none⟩ = some ((.int .i64 QH)) ∧ w10.cell? ⟨w.heap.size + 1, 2, none⟩ = some ((.slice xb k d)) := ⟨P_10.out.cell 0, P_10.out.cell 1, P_10.out.cell 2, Q_10.out.cell 0, Q_10.out.cell 1, Q_10.out.cell 2⟩
          refine wpAnyH_take (i := 13) (v := ?_) rfl (by kernel_rfl) (by kernel_rfl) (by kernel_rfl) (fun _ _ _ h => h) (Or.inl ⟨by kernel_rfl, ?_⟩) hHeld ?_
          rotate_left
          · intro w hSw
            (try dsimp only at hSw)
            go_split_ands
            go_simp
            (try with_reducible rfl)
          try simp only [Act.put, List.getElem_toArray, List.getElem_cons_succ, List.getElem_cons_zero, List.setIfInBounds_toArray, List.set_cons_zero, List.set_cons_succ]
          refine wpAnyH_done (by kernel_rfl) ?_ _
          clear hHeld
          (try go_wp2_with fail)
          go_meet
          exact ⟨_, rfl, rfl, X_10, P_10, Q_10, T_10⟩
      · clear hHeld
        go_simp
        refine hK.out _ _ ⟨(P_6.out.ext (Ext.alloc (Ext.refl w6) _)).cell 0, (P_6.out.ext (Ext.alloc (Ext.refl w6) _)).cell 1, (P_6.out.ext (Ext.alloc (Ext.refl w6) _)).cell 2, (Q_6.out.ext (Ext.alloc (Ext.refl w6) _)).cell 0, (Q_6.out.ext (Ext.alloc (Ext.refl w6) _)).cell 1, (Q_6.out.ext (Ext.alloc (Ext.refl w6) _)).cell 2⟩ (fun hHeld => ?_)
        clear hK KK hHeld
        try simp only [Act.put, List.getElem_toArray, List.getElem_cons_succ, List.getElem_cons_zero, List.setIfInBounds_toArray, List.set_cons_zero, List.set_cons_succ]
        have NE_P_T := Lib.hid (Nat.ne_of_lt P_6.out.lt)
        have NE_Q_T := Lib.hid (Nat.ne_of_lt Q_6.out.lt)
        have GE_T := Lib.hid X_6.out.size
        refine anyH_world (fun wz => Ext w6 wz ∧ Bk wz w6.heap.size #[.int .i64 0, .int .i64 0, .slice none 0 0]) ⟨Ext.alloc (Ext.refl _) _, Bk.at rfl⟩ ?_
        rintro w7 ⟨h, hB⟩
        have X_7 := Lib.hid (X_6.out.trans h)
        have P_7 := Lib.hid (P_6.out.ext h)
        have Q_7 := Lib.hid (Q_6.out.ext h)
        have O1_7 := Lib.hid (O1_6.out.ext h)
        clear h X_6 P_6 Q_6 O1_6
        have T_7 := Lib.hid (hB)
        clear hB
        have hHeld : w7.cell? ⟨w.heap.size, 0, none⟩ = some ((.int .i64 W)) ∧ w7.cell? ⟨w.heap.size, 1, none⟩ = some ((.int .i64 H)) ∧ w7.cell? ⟨w.heap.size, 2, none⟩ = some ((.slice xa n c)) ∧ w7.cell? ⟨w.heap.size + 1, 0, none⟩ = some ((.int .i64 QW)) ∧ w7.cell? ⟨w.heap.size + 1, 1, none⟩ = some ((.int .i64 QH)) ∧ w7.cell? ⟨w.heap.size + 1, 2, none⟩ = some ((.slice xb k d)) := ⟨P_7.out.cell 0, P_7.out.cell 1, P_7.out.cell 2, Q_7.out.cell 0, Q_7.out.cell 1, Q_7.out.cell 2⟩
        refine wpAnyH_ready (rs := [3]) (by kernel_rfl) (by simp) ?_
        refine AllReadyH.cons rfl (fun KK hK => ?_) AllReadyH.nil
        clear hHeld
        go_simp
        refine (own_x _ _ xb k d qx _ (HY.out.ext X_7.out) HY0.out (by omega)).mono ?_
        rintro e w8 ⟨⟨xO2, cO2, rfl, hox, _⟩, h⟩
        have X_8 := Lib.hid (X_7.out.trans h)
        have P_8 := Lib.hid (P_7.out.ext h)
        have Q_8 := Lib.hid (Q_7.out.ext h)
        have O1_8 := Lib.hid (O1_7.out.ext h)
        have T_8 := Lib.hid (T_7.out.ext h)
        clear h X_7 P_7 Q_7 O1_7 T_7
        have O2_8 := Lib.hid (hox)
        clear hox
        go_simp
        refine hK.out _ _ ⟨P_8.out.cell 0, P_8.out.cell 1, P_8.out.cell 2, Q_8.out.cell 0, Q_8.out.cell 1, Q_8.out.cell 2⟩ (fun hHeld => ?_)
        clear hK KK
        try simp only [Act.put, List.getElem_toArray, List.getElem_cons_succ, List.getElem_cons_zero, List.setIfInBounds_toArray, List.set_cons_zero, List.set_cons_succ]
        refine wpAnyH_ready (rs := [7]) (by kernel_rfl) (by simp) ?_
        refine AllReadyH.cons rfl (fun KK hK => ?_) AllReadyH.nil
        clear hHeld
        go_simp
        refine (stamp_shape_p _ _ _ _ X Y m _ _ _ _ _ _ E _ (HE.out.ext X_8.out) HR.out).mono ?_
        rintro e w9 ⟨rfl, h⟩
        clear O1_8 O2_8
        have X_9 := Lib.hid (X_8.out.trans h)
        have P_9 := Lib.hid (P_8.out.ext h)
        have Q_9 := Lib.hid (Q_8.out.ext h)
        have T_9 := Lib.hid (T_8.out.ext h)
        clear h X_8 P_8 Q_8 T_8
        go_simp
        refine hK.out _ _ ⟨P_9.out.cell 0, P_9.out.cell 1, P_9.out.cell 2, Q_9.out.cell 0, Q_9.out.cell 1, Q_9.out.cell 2⟩ (fun hHeld => ?_)
        clear hK KK
        try simp only [Act.put, List.getElem_toArray, List.getElem_cons_succ, List.getElem_cons_zero, List.setIfInBounds_toArray, List.set_cons_zero, List.set_cons_succ]
        refine wpAnyH_take (i := 8) (v := ?_) rfl (by kernel_rfl) (by kernel_rfl) (by kernel_rfl) (fun _ _ _ h => h) (Or.inl ⟨by kernel_rfl, ?_⟩) hHeld ?_
        rotate_left
        · intro w hSw
          (try dsimp only at hSw)
          go_split_ands
          go_simp
          (try with_reducible rfl)
        try simp only [Act.put, List.getElem_toArray, List.getElem_cons_succ, List.getElem_cons_zero, List.setIfInBounds_toArray, List.set_cons_zero, List.set_cons_succ]
        refine wpAnyH_take (i := 9) (v := ?_) rfl (by kernel_rfl) (by kernel_rfl) (by kernel_rfl) (fun _ _ _ h => h) (Or.inl ⟨by kernel_rfl, ?_⟩) hHeld ?_
        rotate_left
        · intro w hSw
          (try dsimp only at hSw)
          go_split_ands
          go_simp
          (try with_reducible rfl)
        try simp only [Act.put, List.getElem_toArray, List.getElem_cons_succ, List.getElem_cons_zero, List.setIfInBounds_toArray, List.set_cons_zero, List.set_cons_succ]
        refine wpAnyH_take (i := 10) (v := ?_) rfl (by kernel_rfl) (by kernel_rfl) (by kernel_rfl) (fun _ _ _ h => h) (Or.inl ⟨by kernel_rfl, ?_⟩) hHeld ?_
        rotate_left
        · intro w hSw
          (try dsimp only at hSw)
          go_split_ands
          go_simp
          (try with_reducible rfl)
        try simp only [Act.put, List.getElem_toArray, List.getElem_cons_succ, List.getElem_cons_zero, List.setIfInBounds_toArray, List.set_cons_zero, List.set_cons_succ]
        refine wpAnyH_ready (rs := [12]) (by kernel_rfl) (by simp) ?_
        refine AllReadyH.cons rfl (fun KK hK => ?_) AllReadyH.nil
        clear hHeld
        have t0 := T_9.out.cell 0
        have f0 := T_9.out.frozen 0
        have t1 := T_9.out.cell 1
        have f1 := T_9.out.frozen 1
        have t2 := T_9.out.cell 2
        have f2 := T_9.out.frozen 2
        have SF := set3_all (x' := .int .i64 0) (y' := .int .i64 0) (z' := .slice none 0 0) X_9.out GE_T.out T_9.out
        have SFH := Lib.hid SF
        clear SF
        go_simp
        clear t0 t1 t2 f0 f1 f2
        refine hK.out _ _ ⟨(P_9.out.keeps SFH.out.2.2 (NE_P_T.out)).cell 0, (P_9.out.keeps SFH.out.2.2 (NE_P_T.out)).cell 1, (P_9.out.keeps SFH.out.2.2 (NE_P_T.out)).cell 2, (Q_9.out.keeps SFH.out.2.2 (NE_Q_T.out)).cell 0, (Q_9.out.keeps SFH.out.2.2 (NE_Q_T.out)).cell 1, (Q_9.out.keeps SFH.out.2.2 (NE_Q_T.out)).cell 2⟩ (fun hHeld => ?_)
        clear hK KK hHeld
        try simp only [Act.put, List.getElem_toArray, List.getElem_cons_succ, List.getElem_cons_zero, List.setIfInBounds_toArray, List.set_cons_zero, List.set_cons_succ]
        refine anyH_world (fun wz => Ext w wz ∧ Bk wz (w6.heap.size) #[.int .i64 0, .int .i64 0, .slice none 0 0] ∧ Keeps (fun k => k = w6.heap.size) w9 wz) SFH.out ?_
        rintro w10 ⟨hX, hB, hKK⟩
        have X_10 := Lib.hid (hX)
        have P_10 := Lib.hid (P_9.out.keeps hKK (NE_P_T.out))
        have Q_10 := Lib.hid (Q_9.out.keeps hKK (NE_Q_T.out))
        have T_10 := Lib.hid (hB)
        clear hX hB hKK SFH X_9 P_9 Q_9 T_9
        have hHeld : w10.cell? ⟨w.heap.size, 0, none⟩ = some ((.int .i64 W)) ∧ w10.cell? ⟨w.heap.size, 1, none⟩ = some ((.int .i64 H)) ∧ w10.cell? ⟨w.heap.size, 2, none⟩ = some ((.slice xa n c)) ∧ w10.cell? ⟨w.heap.size + 1, 0, none⟩ = some ((.int .i64 QW)) ∧ w10.cell? ⟨w.heap.size + 1, 1, none⟩ = some ((.int .i64 QH)) ∧ w10.cell? ⟨w.heap.size + 1, 2, none⟩ = some ((.slice xb k d)) := ⟨P_10.out.cell 0, P_10.out.cell 1, P_10.out.cell 2, Q_10.out.cell 0, Q_10.out.cell 1, Q_10.out.cell 2⟩
        refine wpAnyH_take (i := 13) (v := ?_) rfl (by kernel_rfl) (by kernel_rfl) (by kernel_rfl) (fun _ _ _ h => h) (Or.inl ⟨by kernel_rfl, ?_⟩) hHeld ?_
        rotate_left
        · intro w hSw
          (try dsimp only at hSw)
          go_split_ands
          go_simp
          (try with_reducible rfl)
        try simp only [Act.put, List.getElem_toArray, List.getElem_cons_succ, List.getElem_cons_zero, List.setIfInBounds_toArray, List.set_cons_zero, List.set_cons_succ]
        refine wpAnyH_done (by kernel_rfl) ?_ _
        clear hHeld
        (try go_wp2_with fail)
        go_meet
        exact ⟨_, rfl, rfl, X_10, P_10, Q_10, T_10⟩
    · clear hHeld
      go_simp
      refine hK.out _ _ ⟨(P_5.out.ext (Ext.alloc (Ext.refl w5) _)).cell 0, (P_5.out.ext (Ext.alloc (Ext.refl w5) _)).cell 1, (P_5.out.ext (Ext.alloc (Ext.refl w5) _)).cell 2, (Q_5.out.ext (Ext.alloc (Ext.refl w5) _)).cell 0, (Q_5.out.ext (Ext.alloc (Ext.refl w5) _)).cell 1, (Q_5.out.ext (Ext.alloc (Ext.refl w5) _)).cell 2⟩ (fun hHeld => ?_)
      clear hK KK hHeld
      try simp only [Act.put, List.getElem_toArray, List.getElem_cons_succ, List.getElem_cons_zero, List.setIfInBounds_toArray, List.set_cons_zero, List.set_cons_succ]
      have NE_P_T := Lib.hid (Nat.ne_of_lt P_5.out.lt)
      have NE_Q_T := Lib.hid (Nat.ne_of_lt Q_5.out.lt)
      have GE_T := Lib.hid X_5.out.size
      refine anyH_world (fun wz => Ext w5 wz ∧ Bk wz w5.heap.size #[.int .i64 0, .int .i64 0, .slice none 0 0]) ⟨Ext.alloc (Ext.refl _) _, Bk.at rfl⟩ ?_
      rintro w6 ⟨h, hB⟩
      have X_6 := Lib.hid (X_5.out.trans h)
      have P_6 := Lib.hid (P_5.out.ext h)
      have Q_6 := Lib.hid (Q_5.out.ext h)
      clear h X_5 P_5 Q_5
      have T_6 := Lib.hid (hB)
      clear hB
      have hHeld : w6.cell? ⟨w.heap.size, 0, none⟩ = some ((.int .i64 W)) ∧ w6.cell? ⟨w.heap.size, 1, none⟩ = some ((.int .i64 H)) ∧ w6.cell? ⟨w.heap.size, 2, none⟩ = some ((.slice xa n c)) ∧ w6.cell? ⟨w.heap.size + 1, 0, none⟩ = some ((.int .i64 QW)) ∧ w6.cell? ⟨w.heap.size + 1, 1, none⟩ = some ((.int .i64 QH)) ∧ w6.cell? ⟨w.heap.size + 1, 2, none⟩ = some ((.slice xb k d)) := ⟨P_6.out.cell 0, P_6.out.cell 1, P_6.out.cell 2, Q_6.out.cell 0, Q_6.out.cell 1, Q_6.out.cell 2⟩
      refine wpAnyH_ready (rs := [1]) (by kernel_rfl) (by simp) ?_
      refine AllReadyH.cons rfl (fun KK hK => ?_) AllReadyH.nil
      clear hHeld
      go_simp
      refine (own_x _ _ xa n c px _ (HX.out.ext X_6.out) HX0.out (by omega)).mono ?_
      rintro e w7 ⟨⟨xO1, cO1, rfl, hox, _⟩, h⟩
      have X_7 := Lib.hid (X_6.out.trans h)
      have P_7 := Lib.hid (P_6.out.ext h)
      have Q_7 := Lib.hid (Q_6.out.ext h)
      have T_7 := Lib.hid (T_6.out.ext h)
      clear h X_6 P_6 Q_6 T_6
      have O1_7 := Lib.hid (hox)
      clear hox
      go_simp
      refine hK.out _ _ ⟨P_7.out.cell 0, P_7.out.cell 1, P_7.out.cell 2, Q_7.out.cell 0, Q_7.out.cell 1, Q_7.out.cell 2⟩ (fun hHeld => ?_)
      clear hK KK
      try simp only [Act.put, List.getElem_toArray, List.getElem_cons_succ, List.getElem_cons_zero, List.setIfInBounds_toArray, List.set_cons_zero, List.set_cons_succ]
      refine wpAnyH_ready (rs := [3]) (by kernel_rfl) (by simp) ?_
      refine AllReadyH.cons rfl (fun KK hK => ?_) AllReadyH.nil
      clear hHeld
      go_simp
      refine (own_x _ _ xb k d qx _ (HY.out.ext X_7.out) HY0.out (by omega)).mono ?_
      rintro e w8 ⟨⟨xO2, cO2, rfl, hox, _⟩, h⟩
      have X_8 := Lib.hid (X_7.out.trans h)
      have P_8 := Lib.hid (P_7.out.ext h)
      have Q_8 := Lib.hid (Q_7.out.ext h)
      have T_8 := Lib.hid (T_7.out.ext h)
      have O1_8 := Lib.hid (O1_7.out.ext h)
      clear h X_7 P_7 Q_7 T_7 O1_7
      have O2_8 := Lib.hid (hox)
      clear hox
      go_simp
      refine hK.out _ _ ⟨P_8.out.cell 0, P_8.out.cell 1, P_8.out.cell 2, Q_8.out.cell 0, Q_8.out.cell 1, Q_8.out.cell 2⟩ (fun hHeld => ?_)
      clear hK KK
      try simp only [Act.put, List.getElem_toArray, List.getElem_cons_succ, List.getElem_cons_zero, List.setIfInBounds_toArray, List.set_cons_zero, List.set_cons_succ]
      refine wpAnyH_ready (rs := [7]) (by kernel_rfl) (by simp) ?_
      refine AllReadyH.cons rfl (fun KK hK => ?_) AllReadyH.nil
      clear hHeld
      go_simp
      refine (stamp_shape_p _ _ _ _ X Y m _ _ _ _ _ _ E _ (HE.out.ext X_8.out) HR.out).mono ?_
      rintro e w9 ⟨rfl, h⟩
      clear O1_8 O2_8
      have X_9 := Lib.hid (X_8.out.trans h)
      have P_9 := Lib.hid (P_8.out.ext h)
      have Q_9 := Lib.hid (Q_8.out.ext h)
      have T_9 := Lib.hid (T_8.out.ext h)
      clear h X_8 P_8 Q_8 T_8
      go_simp
      refine hK.out _ _ ⟨P_9.out.cell 0, P_9.out.cell 1, P_9.out.cell 2, Q_9.out.cell 0, Q_9.out.cell 1, Q_9.out.cell 2⟩ (fun hHeld => ?_)
      clear hK KK
      try simp only [Act.put, List.getElem_toArray, List.getElem_cons_succ, List.getElem_cons_zero, List.setIfInBounds_toArray, List.set_cons_zero, List.set_cons_succ]
      refine wpAnyH_take (i := 8) (v := ?_) rfl (by kernel_rfl) (by kernel_rfl) (by kernel_rfl) (fun _ _ _ h => h) (Or.inl ⟨by kernel_rfl, ?_⟩) hHeld ?_
      rotate_left
      · intro w hSw
        (try dsimp only at hSw)
        go_split_ands
        go_simp
        (try with_reducible rfl)
      try simp only [Act.put, List.getElem_toArray, List.getElem_cons_succ, List.getElem_cons_zero, List.setIfInBounds_toArray, List.set_cons_zero, List.set_cons_succ]
      refine wpAnyH_take (i := 9) (v := ?_) rfl (by kernel_rfl) (by kernel_rfl) (by kernel_rfl) (fun _ _ _ h => h) (Or.inl ⟨by kernel_rfl, ?_⟩) hHeld ?_
      rotate_left
      · intro w hSw
        (try dsimp only at hSw)
        go_split_ands
        go_simp
        (try with_reducible rfl)
      try simp only [Act.put, List.getElem_toArray, List.getElem_cons_succ, List.getElem_cons_zero, List.setIfInBounds_toArray, List.set_cons_zero, List.set_cons_succ]
      refine wpAnyH_take (i := 10) (v := ?_) rfl (by kernel_rfl) (by kernel_rfl) (by kernel_rfl) (fun _ _ _ h => h) (Or.inl ⟨by kernel_rfl, ?_⟩) hHeld ?_
      rotate_left
      · intro w hSw
        (try dsimp only at hSw)
        go_split_ands
        go_simp
        (try with_reducible rfl)
      try simp only [Act.put, List.getElem_toArray, List.getElem_cons_succ, List.getElem_cons_zero, List.setIfInBounds_toArray, List.set_cons_zero, List.set_cons_succ]
      refine wpAnyH_ready (rs := [12]) (by kernel_rfl) (by simp) ?_
      refine AllReadyH.cons rfl (fun KK hK => ?_) AllReadyH.nil
      clear hHeld
      have t0 := T_9.out.cell 0
      have f0 := T_9.out.frozen 0
      have t1 := T_9.out.cell 1
      have f1 := T_9.out.frozen 1
      have t2 := T_9.out.cell 2
      have f2 := T_9.out.frozen 2
      have SF := set3_all (x' := .int .i64 0) (y' := .int .i64 0) (z' := .slice none 0 0) X_9.out GE_T.out T_9.out
      have SFH := Lib.hid SF
      clear SF
      go_simp
      clear t0 t1 t2 f0 f1 f2
      refine hK.out _ _ ⟨(P_9.out.keeps SFH.out.2.2 (NE_P_T.out)).cell 0, (P_9.out.keeps SFH.out.2.2 (NE_P_T.out)).cell 1, (P_9.out.keeps SFH.out.2.2 (NE_P_T.out)).cell 2, (Q_9.out.keeps SFH.out.2.2 (NE_Q_T.out)).cell 0, (Q_9.out.keeps SFH.out.2.2 (NE_Q_T.out)).cell 1, (Q_9.out.keeps SFH.out.2.2 (NE_Q_T.out)).cell 2⟩ (fun hHeld => ?_)
      clear hK KK hHeld
      try simp only [Act.put, List.getElem_toArray, List.getElem_cons_succ, List.getElem_cons_zero, List.setIfInBounds_toArray, List.set_cons_zero, List.set_cons_succ]
      refine anyH_world (fun wz => Ext w wz ∧ Bk wz (w5.heap.size) #[.int .i64 0, .int .i64 0, .slice none 0 0] ∧ Keeps (fun k => k = w5.heap.size) w9 wz) SFH.out ?_
      rintro w10 ⟨hX, hB, hKK⟩
      have X_10 := Lib.hid (hX)
      have P_10 := Lib.hid (P_9.out.keeps hKK (NE_P_T.out))
      have Q_10 := Lib.hid (Q_9.out.keeps hKK (NE_Q_T.out))
      have T_10 := Lib.hid (hB)
      clear hX hB hKK SFH X_9 P_9 Q_9 T_9
      have hHeld : w10.cell? ⟨w.heap.size, 0, none⟩ = some ((.int .i64 W)) ∧ w10.cell? ⟨w.heap.size, 1, none⟩ = some ((.int .i64 H)) ∧ w10.cell? ⟨w.heap.size, 2, none⟩ = some ((.slice xa n c)) ∧ w10.cell? ⟨w.heap.size + 1, 0, none⟩ = some ((.int .i64 QW)) ∧ w10.cell? ⟨w.heap.size + 1, 1, none⟩ = some ((.int .i64 QH)) ∧ w10.cell? ⟨w.heap.size + 1, 2, none⟩ = some ((.slice xb k d)) := ⟨P_10.out.cell 0, P_10.out.cell 1, P_10.out.cell 2, Q_10.out.cell 0, Q_10.out.cell 1, Q_10.out.cell 2⟩
      refine wpAnyH_take (i := 13) (v := ?_) rfl (by kernel_rfl) (by kernel_rfl) (by kernel_rfl) (fun _ _ _ h => h) (Or.inl ⟨by kernel_rfl, ?_⟩) hHeld ?_
      rotate_left
      · intro w hSw
        (try dsimp only at hSw)
        go_split_ands
        go_simp
        (try with_reducible rfl)
      try simp only [Act.put, List.getElem_toArray, List.getElem_cons_succ, List.getElem_cons_zero, List.setIfInBounds_toArray, List.set_cons_zero, List.set_cons_succ]
      refine wpAnyH_done (by kernel_rfl) ?_ _
      clear hHeld
      (try go_wp2_with fail)
      go_meet
      exact ⟨_, rfl, rfl, X_10, P_10, Q_10, T_10⟩
  case rest =>
    obtain ⟨T, rfl, rfl, X_100, P_100, Q_100, T_100⟩ := hcut
    clear X_4 P_4 Q_4
    go_upto_region 6 with fail
    go_cut [52] (fun s52 wx => s52 = .bool (!goodB X Y m) ∧ Hid (Ext w wx) ∧ Hid (Bk wx w.heap.size #[(.int .i64 W), (.int .i64 H), (.slice xa n c)]) ∧ Hid (Bk wx (w.heap.size + 1) #[(.int .i64 QW), (.int .i64 QH), (.slice xb k d)]) ∧ Hid (Bk wx T #[.int .i64 0, .int .i64 0, .slice none 0 0]))
    case first =>
      go_wp2_with fail
      refine (refNear_any X _).mono ?_
      rintro e w9 ⟨rfl, rfl⟩
      cases n0 : nearB X
      · have NV : Hid (goodB X Y m = false) := Lib.hid (by simp only [goodB, n0]; rfl)
        go_wp2_with fail
        go_meet
        exact ⟨by rw [NV.out]; rfl, X_100, P_100, Q_100, T_100⟩
      · go_wp2_with fail
        refine (refNear_any Y _).mono ?_
        rintro e w9 ⟨rfl, rfl⟩
        cases n1 : nearB Y
        · have NV : Hid (goodB X Y m = false) := Lib.hid (by simp only [goodB, n0, n1]; rfl)
          go_wp2_with fail
          go_meet
          exact ⟨by rw [NV.out]; rfl, X_100, P_100, Q_100, T_100⟩
        · go_wp2_with fail
          refine (isMode_any m _).mono ?_
          rintro e w9 ⟨rfl, rfl⟩
          cases n2 : decide (0 ≤ m ∧ m < 6)
          · have NV : Hid (goodB X Y m = false) := Lib.hid (by simp only [goodB, n0, n1, n2]; rfl)
            go_wp2_with fail
            go_meet
            exact ⟨by rw [NV.out]; rfl, X_100, P_100, Q_100, T_100⟩
          · have NV : Hid (goodB X Y m = true) := Lib.hid (by simp only [goodB, n0, n1, n2]; rfl)
            go_wp2_with fail
            go_meet
            exact ⟨by rw [NV.out]; rfl, X_100, P_100, Q_100, T_100⟩
    case rest =>
      obtain ⟨rfl, X_101, P_101, Q_101, T_101⟩ := hcut
      clear X_100 P_100 Q_100 T_100
      rw [HB.out]
      clear HB
      cases gb
      · have k0 := P_101.out.cell 0
        have k1 := P_101.out.cell 1
        have k2 := P_101.out.cell 2
        go_wp2_with fail
        refine (refRight_any _ _ _ _ _ _).mono ?_
        rintro e w102 ⟨rfl, h⟩
        have X_102 := Lib.hid (X_101.out.trans h)
        have P_102 := Lib.hid (P_101.out.ext h)
        have Q_102 := Lib.hid (Q_101.out.ext h)
        have T_102 := Lib.hid (T_101.out.ext h)
        clear h X_101 P_101 Q_101 T_101
        clear k0 k1 k2
        rw [HR.out]
        have k0 := T_102.out.cell 0
        have k1 := T_102.out.cell 1
        have k2 := T_102.out.cell 2
        have k3 := P_102.out.cell 0
        have k4 := P_102.out.cell 1
        have k5 := P_102.out.cell 2
        go_wp2_with fail
        refine (told_err _ 2 _ _ _ _ _ _ E (HE.out.ext X_102.out) (.sent 2 (by decide))).mono ?_
        rintro e w103 ⟨rfl, h⟩
        have X_103 := Lib.hid (X_102.out.trans h)
        have P_103 := Lib.hid (P_102.out.ext h)
        have Q_103 := Lib.hid (Q_102.out.ext h)
        have T_103 := Lib.hid (T_102.out.ext h)
        clear h X_102 P_102 Q_102 T_102
        clear k0 k1 k2 k3 k4 k5
        go_wp2_with fail
        go_ret
        exact ⟨rfl, X_103.out⟩
      · have k0 := P_101.out.cell 0
        have k1 := P_101.out.cell 1
        have k2 := P_101.out.cell 2
        go_wp2_with fail
        refine (refRight_any _ _ _ _ _ _).mono ?_
        rintro e w102 ⟨rfl, h⟩
        have X_102 := Lib.hid (X_101.out.trans h)
        have P_102 := Lib.hid (P_101.out.ext h)
        have Q_102 := Lib.hid (Q_101.out.ext h)
        have T_102 := Lib.hid (T_101.out.ext h)
        clear h X_101 P_101 Q_101 T_101
        clear k0 k1 k2
        rw [HR.out]
        have k0 := T_102.out.cell 0
        have k1 := T_102.out.cell 1
        have k2 := T_102.out.cell 2
        have k3 := P_102.out.cell 0
        have k4 := P_102.out.cell 1
        have k5 := P_102.out.cell 2
        go_wp2_with fail
        refine (told_err _ 2 _ _ _ _ _ _ E (HE.out.ext X_102.out) (.sent 2 (by decide))).mono ?_
        rintro e w103 ⟨rfl, h⟩
        have X_103 := Lib.hid (X_102.out.trans h)
        have P_103 := Lib.hid (P_102.out.ext h)
        have Q_103 := Lib.hid (Q_102.out.ext h)
        have T_103 := Lib.hid (T_102.out.ext h)
        clear h X_102 P_102 Q_102 T_102
        clear k0 k1 k2 k3 k4 k5
        go_wp2_with fail
        go_ret
        exact ⟨rfl, X_103.out⟩
set_option linter.unusedSimpArgs false in
set_option maxHeartbeats 4000000 in
theorem stamps_shapeq (W H QW QH : Int) (X Y m : Int) (xa xb : Option Addr) (n c k d : Nat) (px qx : Nat → P4) (w : World) (E : Nat → Addr) (hE : Errs w E) (hx : Pxs w xa n px) (hx0 : xa = none → c = 0) (hy : Pxs w xb k qx) (hy0 : xb = none → d = 0) (hn : n ≤ 3000) (hk : k ≤ 3000) (hr : rightB W H n = true) (hs : rightB QW QH k = false) :
    Calls Tryd.prog 8 #[.agg #[(.int .i64 W), (.int .i64 H), (.slice xa n c)], .agg #[(.int .i64 QW), (.int .i64 QH), (.slice xb k d)], .int .i64 X, .int .i64 Y, .int .i64 m] w fun e w' => e = .returned (.bool true) ∧ Ext w w' := by
  have HE := Lib.hid hE
  have HX := Lib.hid hx
  have HY := Lib.hid hy
  have HD := Lib.hid (decide_eq_true hn)
  have HD2 := Lib.hid (decide_eq_true hk)
  have HX0 := Lib.hid hx0
  have HY0 := Lib.hid hy0
  have HR := Lib.hid hr
  have HS := Lib.hid hs
  obtain ⟨gb, hB⟩ : ∃ gb, goodB X Y m = gb := ⟨_, rfl⟩
  have HB := Lib.hid hB
  clear hE hx hx0 hy hy0 hr hB hs
  go_enter Tryd.func8, Tryd.ntmps8
  go_wp2_with fail
  refine calls_world (fun wz => Ext w wz ∧ wz.heap.size = w.heap.size + 1 + 1 ∧ Bk wz (w.heap.size) #[(.int .i64 W), (.int .i64 H), (.slice xa n c)] ∧ Bk wz (w.heap.size + 1) #[(.int .i64 QW), (.int .i64 QH), (.slice xb k d)]) ⟨by repeat (first | exact Ext.refl _ | refine Ext.alloc ?_ _), by simp, by repeat (first | exact Bk.at (by simp) | refine Bk.old ?_), by repeat (first | exact Bk.at (by simp) | refine Bk.old ?_)⟩ ?_
  rintro w1 ⟨hX, hZ, hB0, hB1⟩
  have X_1 := Lib.hid (hX)
  have P_1 := Lib.hid (hB0)
  have Q_1 := Lib.hid (hB1)
  clear hX hZ hB0 hB1
  refine (plainly_any _).mono ?_
  rintro e w2 ⟨rfl, h⟩
  have X_2 := Lib.hid (X_1.out.trans h)
  have P_2 := Lib.hid (P_1.out.ext h)
  have Q_2 := Lib.hid (Q_1.out.ext h)
  clear h X_1 P_1 Q_1
  have k0 := P_2.out.cell 0
  have k1 := P_2.out.cell 1
  have k2 := P_2.out.cell 2
  go_wp2_with fail
  refine (small_any _ _ _ _ _ _ (by unfold maxLen; omega)).mono ?_
  rintro e w3 ⟨rfl, h⟩
  have X_3 := Lib.hid (X_2.out.trans h)
  have P_3 := Lib.hid (P_2.out.ext h)
  have Q_3 := Lib.hid (Q_2.out.ext h)
  clear h X_2 P_2 Q_2
  clear k0 k1 k2
  rw [HD.out]
  have k0 := Q_3.out.cell 0
  have k1 := Q_3.out.cell 1
  have k2 := Q_3.out.cell 2
  go_wp2_with fail
  refine (small_any _ _ _ _ _ _ (by unfold maxLen; omega)).mono ?_
  rintro e w4 ⟨rfl, h⟩
  have X_4 := Lib.hid (X_3.out.trans h)
  have P_4 := Lib.hid (P_3.out.ext h)
  have Q_4 := Lib.hid (Q_3.out.ext h)
  clear h X_3 P_3 Q_3
  clear k0 k1 k2
  rw [HD2.out]
  go_upto_region 4 with fail
  go_cut [12, 13] (fun s12 s13 wx => ∃ T, s12 = .pointer (some ⟨T, 0, none⟩) ∧ s13 = .iface 171 (.pointer (some (E 2))) ∧ Hid (Ext w wx) ∧ Hid (Bk wx w.heap.size #[(.int .i64 W), (.int .i64 H), (.slice xa n c)]) ∧ Hid (Bk wx (w.heap.size + 1) #[(.int .i64 QW), (.int .i64 QH), (.slice xb k d)]) ∧ Hid (Bk wx T #[.int .i64 0, .int .i64 0, .slice none 0 0]))
  case first =>
    have k0 := P_4.out.cell 0
    have k1 := P_4.out.cell 1
    have k2 := P_4.out.cell 2
    have k3 := Q_4.out.cell 0
    have k4 := Q_4.out.cell 1
    have k5 := Q_4.out.cell 2
    refine wp_region_held_drew (S := fun w' => w'.cell? ⟨w.heap.size, 0, none⟩ = some ((.int .i64 W)) ∧ w'.cell? ⟨w.heap.size, 1, none⟩ = some ((.int .i64 H)) ∧ w'.cell? ⟨w.heap.size, 2, none⟩ = some ((.slice xa n c)) ∧ w'.cell? ⟨w.heap.size + 1, 0, none⟩ = some ((.int .i64 QW)) ∧ w'.cell? ⟨w.heap.size + 1, 1, none⟩ = some ((.int .i64 QH)) ∧ w'.cell? ⟨w.heap.size + 1, 2, none⟩ = some ((.slice xb k d))) (by kernel_rfl) ⟨P_4.out.cell 0, P_4.out.cell 1, P_4.out.cell 2, Q_4.out.cell 0, Q_4.out.cell 1, Q_4.out.cell 2⟩ (fun hHeld => ?_)
    clear hHeld
    clear k0 k1 k2 k3 k4 k5
    refine anyH_world (fun wz => Ext w4 wz) (show Ext w4 w4.drew from Below.drew (Ext.refl w4)) ?_
    rintro w5 h
    have X_5 := Lib.hid (X_4.out.trans h)
    have P_5 := Lib.hid (P_4.out.ext h)
    have Q_5 := Lib.hid (Q_4.out.ext h)
    clear h X_4 P_4 Q_4
    have hHeld : w5.cell? ⟨w.heap.size, 0, none⟩ = some ((.int .i64 W)) ∧ w5.cell? ⟨w.heap.size, 1, none⟩ = some ((.int .i64 H)) ∧ w5.cell? ⟨w.heap.size, 2, none⟩ = some ((.slice xa n c)) ∧ w5.cell? ⟨w.heap.size + 1, 0, none⟩ = some ((.int .i64 QW)) ∧ w5.cell? ⟨w.heap.size + 1, 1, none⟩ = some ((.int .i64 QH)) ∧ w5.cell? ⟨w.heap.size + 1, 2, none⟩ = some ((.slice xb k d)) := ⟨P_5.out.cell 0, P_5.out.cell 1, P_5.out.cell 2, Q_5.out.cell 0, Q_5.out.cell 1, Q_5.out.cell 2⟩
    refine wpAnyH_take (i := 0) (v := ?_) rfl (by kernel_rfl) (by kernel_rfl) (by kernel_rfl) (fun _ _ _ h => h) (Or.inl ⟨by kernel_rfl, ?_⟩) hHeld ?_
    rotate_left
    · intro w hSw
      (try dsimp only at hSw)
      go_split_ands
      go_simp
      (try with_reducible rfl)
    try simp only [Act.put, List.getElem_toArray, List.getElem_cons_succ, List.getElem_cons_zero, List.setIfInBounds_toArray, List.set_cons_zero, List.set_cons_succ]
    refine wpAnyH_take (i := 2) (v := ?_) rfl (by kernel_rfl) (by kernel_rfl) (by kernel_rfl) (fun _ _ _ h => h) (Or.inl ⟨by kernel_rfl, ?_⟩) hHeld ?_
    rotate_left
    · intro w hSw
      (try dsimp only at hSw)
      go_split_ands
      go_simp
      (try with_reducible rfl)
    try simp only [Act.put, List.getElem_toArray, List.getElem_cons_succ, List.getElem_cons_zero, List.setIfInBounds_toArray, List.set_cons_zero, List.set_cons_succ]
    refine wpAnyH_take (i := 4) (v := ?_) rfl (by kernel_rfl) (by kernel_rfl) (by kernel_rfl) (fun _ _ _ h => h) (Or.inl ⟨by kernel_rfl, ?_⟩) hHeld ?_
    rotate_left
    · intro w hSw
      (try dsimp only at hSw)
      go_split_ands
      go_simp
      (try with_reducible rfl)
    try simp only [Act.put, List.getElem_toArray, List.getElem_cons_succ, List.getElem_cons_zero, List.setIfInBounds_toArray, List.set_cons_zero, List.set_cons_succ]
    refine wpAnyH_take (i := 5) (v := ?_) rfl (by kernel_rfl) (by kernel_rfl) (by kernel_rfl) (fun _ _ _ h => h) (Or.inl ⟨by kernel_rfl, ?_⟩) hHeld ?_
    rotate_left
    · intro w hSw
      (try dsimp only at hSw)
      go_split_ands
      go_simp
      (try with_reducible rfl)
    try simp only [Act.put, List.getElem_toArray, List.getElem_cons_succ, List.getElem_cons_zero, List.setIfInBounds_toArray, List.set_cons_zero, List.set_cons_succ]
    refine wpAnyH_take (i := 6) (v := ?_) rfl (by kernel_rfl) (by kernel_rfl) (by kernel_rfl) (fun _ _ _ h => h) (Or.inl ⟨by kernel_rfl, ?_⟩) hHeld ?_
    rotate_left
    · intro w hSw
      (try dsimp only at hSw)
      go_split_ands
      go_simp
      (try with_reducible rfl)
    try simp only [Act.put, List.getElem_toArray, List.getElem_cons_succ, List.getElem_cons_zero, List.setIfInBounds_toArray, List.set_cons_zero, List.set_cons_succ]
    refine wpAnyH_ready (rs := [1, 11]) (by kernel_rfl) (by simp) ?_
    refine AllReadyH.cons rfl (fun KK hK => ?_) (AllReadyH.cons rfl (fun KK hK => ?_) AllReadyH.nil)
    · clear hHeld
      go_simp
      refine (own_x _ _ xa n c px _ (HX.out.ext X_5.out) HX0.out (by omega)).mono ?_
      rintro e w6 ⟨⟨xO1, cO1, rfl, hox, _⟩, h⟩
      have X_6 := Lib.hid (X_5.out.trans h)
      have P_6 := Lib.hid (P_5.out.ext h)
      have Q_6 := Lib.hid (Q_5.out.ext h)
      clear h X_5 P_5 Q_5
      have O1_6 := Lib.hid (hox)
      clear hox
      go_simp
      refine hK.out _ _ ⟨P_6.out.cell 0, P_6.out.cell 1, P_6.out.cell 2, Q_6.out.cell 0, Q_6.out.cell 1, Q_6.out.cell 2⟩ (fun hHeld => ?_)
      clear hK KK
      try simp only [Act.put, List.getElem_toArray, List.getElem_cons_succ, List.getElem_cons_zero, List.setIfInBounds_toArray, List.set_cons_zero, List.set_cons_succ]
      refine wpAnyH_ready (rs := [3, 11]) (by kernel_rfl) (by simp) ?_
      refine AllReadyH.cons rfl (fun KK hK => ?_) (AllReadyH.cons rfl (fun KK hK => ?_) AllReadyH.nil)
      · clear hHeld
        go_simp
        refine (own_x _ _ xb k d qx _ (HY.out.ext X_6.out) HY0.out (by omega)).mono ?_
        rintro e w7 ⟨⟨xO2, cO2, rfl, hox, _⟩, h⟩
        have X_7 := Lib.hid (X_6.out.trans h)
        have P_7 := Lib.hid (P_6.out.ext h)
        have Q_7 := Lib.hid (Q_6.out.ext h)
        have O1_7 := Lib.hid (O1_6.out.ext h)
        clear h X_6 P_6 Q_6 O1_6
        have O2_7 := Lib.hid (hox)
        clear hox
        go_simp
        refine hK.out _ _ ⟨P_7.out.cell 0, P_7.out.cell 1, P_7.out.cell 2, Q_7.out.cell 0, Q_7.out.cell 1, Q_7.out.cell 2⟩ (fun hHeld => ?_)
        clear hK KK
        try simp only [Act.put, List.getElem_toArray, List.getElem_cons_succ, List.getElem_cons_zero, List.setIfInBounds_toArray, List.set_cons_zero, List.set_cons_succ]
        refine wpAnyH_ready (rs := [7, 11]) (by kernel_rfl) (by simp) ?_
        refine AllReadyH.cons rfl (fun KK hK => ?_) (AllReadyH.cons rfl (fun KK hK => ?_) AllReadyH.nil)
        · clear hHeld
          go_simp
          refine (stamp_shape_q _ _ _ _ X Y m _ _ _ _ _ _ E _ (HE.out.ext X_7.out) HR.out HS.out).mono ?_
          rintro e w8 ⟨rfl, h⟩
          clear O1_7 O2_7
          have X_8 := Lib.hid (X_7.out.trans h)
          have P_8 := Lib.hid (P_7.out.ext h)
          have Q_8 := Lib.hid (Q_7.out.ext h)
          clear h X_7 P_7 Q_7
          go_simp
          refine hK.out _ _ ⟨P_8.out.cell 0, P_8.out.cell 1, P_8.out.cell 2, Q_8.out.cell 0, Q_8.out.cell 1, Q_8.out.cell 2⟩ (fun hHeld => ?_)
          clear hK KK
          try simp only [Act.put, List.getElem_toArray, List.getElem_cons_succ, List.getElem_cons_zero, List.setIfInBounds_toArray, List.set_cons_zero, List.set_cons_succ]
          refine wpAnyH_take (i := 8) (v := ?_) rfl (by kernel_rfl) (by kernel_rfl) (by kernel_rfl) (fun _ _ _ h => h) (Or.inl ⟨by kernel_rfl, ?_⟩) hHeld ?_
          rotate_left
          · intro w hSw
            (try dsimp only at hSw)
            go_split_ands
            go_simp
            (try with_reducible rfl)
          try simp only [Act.put, List.getElem_toArray, List.getElem_cons_succ, List.getElem_cons_zero, List.setIfInBounds_toArray, List.set_cons_zero, List.set_cons_succ]
          refine wpAnyH_take (i := 9) (v := ?_) rfl (by kernel_rfl) (by kernel_rfl) (by kernel_rfl) (fun _ _ _ h => h) (Or.inl ⟨by kernel_rfl, ?_⟩) hHeld ?_
          rotate_left
          · intro w hSw
            (try dsimp only at hSw)
            go_split_ands
            go_simp
            (try with_reducible rfl)
          try simp only [Act.put, List.getElem_toArray, List.getElem_cons_succ, List.getElem_cons_zero, List.setIfInBounds_toArray, List.set_cons_zero, List.set_cons_succ]
          refine wpAnyH_take (i := 10) (v := ?_) rfl (by kernel_rfl) (by kernel_rfl) (by kernel_rfl) (fun _ _ _ h => h) (Or.inl ⟨by kernel_rfl, ?_⟩) hHeld ?_
          rotate_left
          · intro w hSw
            (try dsimp only at hSw)
            go_split_ands
            go_simp
            (try with_reducible rfl)
          try simp only [Act.put, List.getElem_toArray, List.getElem_cons_succ, List.getElem_cons_zero, List.setIfInBounds_toArray, List.set_cons_zero, List.set_cons_succ]
          refine wpAnyH_ready (rs := [11]) (by kernel_rfl) (by simp) ?_
          refine AllReadyH.cons rfl (fun KK hK => ?_) AllReadyH.nil
          clear hHeld
          go_simp
          refine hK.out _ _ ⟨(P_8.out.ext (Ext.alloc (Ext.refl w8) _)).cell 0, (P_8.out.ext (Ext.alloc (Ext.refl w8) _)).cell 1, (P_8.out.ext (Ext.alloc (Ext.refl w8) _)).cell 2, (Q_8.out.ext (Ext.alloc (Ext.refl w8) _)).cell 0, (Q_8.out.ext (Ext.alloc (Ext.refl w8) _)).cell 1, (Q_8.out.ext (Ext.alloc (Ext.refl w8) _)).cell 2⟩ (fun hHeld => ?_)
          clear hK KK hHeld
          try simp only [Act.put, List.getElem_toArray, List.getElem_cons_succ, List.getElem_cons_zero, List.setIfInBounds_toArray, List.set_cons_zero, List.set_cons_succ]
          have NE_P_T := Lib.hid (Nat.ne_of_lt P_8.out.lt)
          have NE_Q_T := Lib.hid (Nat.ne_of_lt Q_8.out.lt)
          have GE_T := Lib.hid X_8.out.size
          refine anyH_world (fun wz => Ext w8 wz ∧ Bk wz w8.heap.size #[.int .i64 0, .int .i64 0, .slice none 0 0]) ⟨Ext.alloc (Ext.refl _) _, Bk.at rfl⟩ ?_
          rintro w9 ⟨h, hB⟩
          have X_9 := Lib.hid (X_8.out.trans h)
          have P_9 := Lib.hid (P_8.out.ext h)
          have Q_9 := Lib.hid (Q_8.out.ext h)
          clear h X_8 P_8 Q_8
          have T_9 := Lib.hid (hB)
          clear hB
          have hHeld : w9.cell? ⟨w.heap.size, 0, none⟩ = some ((.int .i64 W)) ∧ w9.cell? ⟨w.heap.size, 1, none⟩ = some ((.int .i64 H)) ∧ w9.cell? ⟨w.heap.size, 2, none⟩ = some ((.slice xa n c)) ∧ w9.cell? ⟨w.heap.size + 1, 0, none⟩ = some ((.int .i64 QW)) ∧ w9.cell? ⟨w.heap.size + 1, 1, none⟩ = some ((.int .i64 QH)) ∧ w9.cell? ⟨w.heap.size + 1, 2, none⟩ = some ((.slice xb k d)) := ⟨P_9.out.cell 0, P_9.out.cell 1, P_9.out.cell 2, Q_9.out.cell 0, Q_9.out.cell 1, Q_9.out.cell 2⟩
          refine wpAnyH_ready (rs := [12]) (by kernel_rfl) (by simp) ?_
          refine AllReadyH.cons rfl (fun KK hK => ?_) AllReadyH.nil
          clear hHeld
          have t0 := T_9.out.cell 0
          have f0 := T_9.out.frozen 0
          have t1 := T_9.out.cell 1
          have f1 := T_9.out.frozen 1
          have t2 := T_9.out.cell 2
          have f2 := T_9.out.frozen 2
          have SF := set3_all (x' := .int .i64 0) (y' := .int .i64 0) (z' := .slice none 0 0) X_9.out GE_T.out T_9.out
          have SFH := Lib.hid SF
          clear SF
          go_simp
          clear t0 t1 t2 f0 f1 f2
          refine hK.out _ _ ⟨(P_9.out.keeps SFH.out.2.2 (NE_P_T.out)).cell 0, (P_9.out.keeps SFH.out.2.2 (NE_P_T.out)).cell 1, (P_9.out.keeps SFH.out.2.2 (NE_P_T.out)).cell 2, (Q_9.out.keeps SFH.out.2.2 (NE_Q_T.out)).cell 0, (Q_9.out.keeps SFH.out.2.2 (NE_Q_T.out)).cell 1, (Q_9.out.keeps SFH.out.2.2 (NE_Q_T.out)).cell 2⟩ (fun hHeld => ?_)
          clear hK KK hHeld
          try simp only [Act.put, List.getElem_toArray, List.getElem_cons_succ, List.getElem_cons_zero, List.setIfInBounds_toArray, List.set_cons_zero, List.set_cons_succ]
          refine anyH_world (fun wz => Ext w wz ∧ Bk wz (w8.heap.size) #[.int .i64 0, .int .i64 0, .slice none 0 0] ∧ Keeps (fun k => k = w8.heap.size) w9 wz) SFH.out ?_
          rintro w10 ⟨hX, hB, hKK⟩
          have X_10 := Lib.hid (hX)
          have P_10 := Lib.hid (P_9.out.keeps hKK (NE_P_T.out))
          have Q_10 := Lib.hid (Q_9.out.keeps hKK (NE_Q_T.out))
          have T_10 := Lib.hid (hB)
          clear hX hB hKK SFH X_9 P_9 Q_9 T_9
          have hHeld : w10.cell? ⟨w.heap.size, 0, none⟩ = some ((.int .i64 W)) ∧ w10.cell? ⟨w.heap.size, 1, none⟩ = some ((.int .i64 H)) ∧ w10.cell? ⟨w.heap.size, 2, none⟩ = some ((.slice xa n c)) ∧ w10.cell? ⟨w.heap.size + 1, 0, none⟩ = some ((.int .i64 QW)) ∧ w10.cell? ⟨w.heap.size + 1, 1, none⟩ = some ((.int .i64 QH)) ∧ w10.cell? ⟨w.heap.size + 1, 2, none⟩ = some ((.slice xb k d)) := ⟨P_10.out.cell 0, P_10.out.cell 1, P_10.out.cell 2, Q_10.out.cell 0, Q_10.out.cell 1, Q_10.out.cell 2⟩
          refine wpAnyH_take (i := 13) (v := ?_) rfl (by kernel_rfl) (by kernel_rfl) (by kernel_rfl) (fun _ _ _ h => h) (Or.inl ⟨by kernel_rfl, ?_⟩) hHeld ?_
          rotate_left
          · intro w hSw
            (try dsimp only at hSw)
            go_split_ands
            go_simp
            (try with_reducible rfl)
          try simp only [Act.put, List.getElem_toArray, List.getElem_cons_succ, List.getElem_cons_zero, List.setIfInBounds_toArray, List.set_cons_zero, List.set_cons_succ]
          refine wpAnyH_done (by kernel_rfl) ?_ _
          clear hHeld
          (try go_wp2_with fail)
          go_meet
          exact ⟨_, rfl, rfl, X_10, P_10, Q_10, T_10⟩
        · clear hHeld
          go_simp
          refine hK.out _ _ ⟨(P_7.out.ext (Ext.alloc (Ext.refl w7) _)).cell 0, (P_7.out.ext (Ext.alloc (Ext.refl w7) _)).cell 1, (P_7.out.ext (Ext.alloc (Ext.refl w7) _)).cell 2, (Q_7.out.ext (Ext.alloc (Ext.refl w7) _)).cell 0, (Q_7.out.ext (Ext.alloc (Ext.refl w7) _)).cell 1, (Q_7.out.ext (Ext.alloc (Ext.refl w7) _)).cell 2⟩ (fun hHeld => ?_)
          clear hK KK hHeld
          try simp only [Act.put, List.getElem_toArray, List.getElem_cons_succ, List.getElem_cons_zero, List.setIfInBounds_toArray, List.set_cons_zero, List.set_cons_succ]
          have NE_P_T := Lib.hid (Nat.ne_of_lt P_7.out.lt)
          have NE_Q_T := Lib.hid (Nat.ne_of_lt Q_7.out.lt)
          have GE_T := Lib.hid X_7.out.size
          refine anyH_world (fun wz => Ext w7 wz ∧ Bk wz w7.heap.size #[.int .i64 0, .int .i64 0, .slice none 0 0]) ⟨Ext.alloc (Ext.refl _) _, Bk.at rfl⟩ ?_
          rintro w8 ⟨h, hB⟩
          have X_8 := Lib.hid (X_7.out.trans h)
          have P_8 := Lib.hid (P_7.out.ext h)
          have Q_8 := Lib.hid (Q_7.out.ext h)
          have O1_8 := Lib.hid (O1_7.out.ext h)
          have O2_8 := Lib.hid (O2_7.out.ext h)
          clear h X_7 P_7 Q_7 O1_7 O2_7
          have T_8 := Lib.hid (hB)
          clear hB
          have hHeld : w8.cell? ⟨w.heap.size, 0, none⟩ = some ((.int .i64 W)) ∧ w8.cell? ⟨w.heap.size, 1, none⟩ = some ((.int .i64 H)) ∧ w8.cell? ⟨w.heap.size, 2, none⟩ = some ((.slice xa n c)) ∧ w8.cell? ⟨w.heap.size + 1, 0, none⟩ = some ((.int .i64 QW)) ∧ w8.cell? ⟨w.heap.size + 1, 1, none⟩ = some ((.int .i64 QH)) ∧ w8.cell? ⟨w.heap.size + 1, 2, none⟩ = some ((.slice xb k d)) := ⟨P_8.out.cell 0, P_8.out.cell 1, P_8.out.cell 2, Q_8.out.cell 0, Q_8.out.cell 1, Q_8.out.cell 2⟩
          refine wpAnyH_ready (rs := [7]) (by kernel_rfl) (by simp) ?_
          refine AllReadyH.cons rfl (fun KK hK => ?_) AllReadyH.nil
          clear hHeld
          go_simp
          refine (stamp_shape_q _ _ _ _ X Y m _ _ _ _ _ _ E _ (HE.out.ext X_8.out) HR.out HS.out).mono ?_
          rintro e w9 ⟨rfl, h⟩
          clear O1_8 O2_8
          have X_9 := Lib.hid (X_8.out.trans h)
          have P_9 := Lib.hid (P_8.out.ext h)
          have Q_9 := Lib.hid (Q_8.out.ext h)
          have T_9 := Lib.hid (T_8.out.ext h)
          clear h X_8 P_8 Q_8 T_8
          go_simp
          refine hK.out _ _ ⟨P_9.out.cell 0, P_9.out.cell 1, P_9.out.cell 2, Q_9.out.cell 0, Q_9.out.cell 1, Q_9.out.cell 2⟩ (fun hHeld => ?_)
          clear hK KK
          try simp only [Act.put, List.getElem_toArray, List.getElem_cons_succ, List.getElem_cons_zero, List.setIfInBounds_toArray, List.set_cons_zero, List.set_cons_succ]
          refine wpAnyH_take (i := 8) (v := ?_) rfl (by kernel_rfl) (by kernel_rfl) (by kernel_rfl) (fun _ _ _ h => h) (Or.inl ⟨by kernel_rfl, ?_⟩) hHeld ?_
          rotate_left
          · intro w hSw
            (try dsimp only at hSw)
            go_split_ands
            go_simp
            (try with_reducible rfl)
          try simp only [Act.put, List.getElem_toArray, List.getElem_cons_succ, List.getElem_cons_zero, List.setIfInBounds_toArray, List.set_cons_zero, List.set_cons_succ]
          refine wpAnyH_take (i := 9) (v := ?_) rfl (by kernel_rfl) (by kernel_rfl) (by kernel_rfl) (fun _ _ _ h => h) (Or.inl ⟨by kernel_rfl, ?_⟩) hHeld ?_
          rotate_left
          · intro w hSw
            (try dsimp only at hSw)
            go_split_ands
            go_simp
            (try with_reducible rfl)
          try simp only [Act.put, List.getElem_toArray, List.getElem_cons_succ, List.getElem_cons_zero, List.setIfInBounds_toArray, List.set_cons_zero, List.set_cons_succ]
          refine wpAnyH_take (i := 10) (v := ?_) rfl (by kernel_rfl) (by kernel_rfl) (by kernel_rfl) (fun _ _ _ h => h) (Or.inl ⟨by kernel_rfl, ?_⟩) hHeld ?_
          rotate_left
          · intro w hSw
            (try dsimp only at hSw)
            go_split_ands
            go_simp
            (try with_reducible rfl)
          try simp only [Act.put, List.getElem_toArray, List.getElem_cons_succ, List.getElem_cons_zero, List.setIfInBounds_toArray, List.set_cons_zero, List.set_cons_succ]
          refine wpAnyH_ready (rs := [12]) (by kernel_rfl) (by simp) ?_
          refine AllReadyH.cons rfl (fun KK hK => ?_) AllReadyH.nil
          clear hHeld
          have t0 := T_9.out.cell 0
          have f0 := T_9.out.frozen 0
          have t1 := T_9.out.cell 1
          have f1 := T_9.out.frozen 1
          have t2 := T_9.out.cell 2
          have f2 := T_9.out.frozen 2
          have SF := set3_all (x' := .int .i64 0) (y' := .int .i64 0) (z' := .slice none 0 0) X_9.out GE_T.out T_9.out
          have SFH := Lib.hid SF
          clear SF
          go_simp
          clear t0 t1 t2 f0 f1 f2
          refine hK.out _ _ ⟨(P_9.out.keeps SFH.out.2.2 (NE_P_T.out)).cell 0, (P_9.out.keeps SFH.out.2.2 (NE_P_T.out)).cell 1, (P_9.out.keeps SFH.out.2.2 (NE_P_T.out)).cell 2, (Q_9.out.keeps SFH.out.2.2 (NE_Q_T.out)).cell 0, (Q_9.out.keeps SFH.out.2.2 (NE_Q_T.out)).cell 1, (Q_9.out.keeps SFH.out.2.2 (NE_Q_T.out)).cell 2⟩ (fun hHeld => ?_)
          clear hK KK hHeld
          try simp only [Act.put, List.getElem_toArray, List.getElem_cons_succ, List.getElem_cons_zero, List.setIfInBounds_toArray, List.set_cons_zero, List.set_cons_succ]
          refine anyH_world (fun wz => Ext w wz ∧ Bk wz (w7.heap.size) #[.int .i64 0, .int .i64 0, .slice none 0 0] ∧ Keeps (fun k => k = w7.heap.size) w9 wz) SFH.out ?_
          rintro w10 ⟨hX, hB, hKK⟩
          have X_10 := Lib.hid (hX)
          have P_10 := Lib.hid (P_9.out.keeps hKK (NE_P_T.out))
          have Q_10 := Lib.hid (Q_9.out.keeps hKK (NE_Q_T.out))
          have T_10 := Lib.hid (hB)
          clear hX hB hKK SFH X_9 P_9 Q_9 T_9
          have hHeld : w10.cell? ⟨w.heap.size, 0, none⟩ = some ((.int .i64 W)) ∧ w10.cell? ⟨w.heap.size, 1, none⟩ = some ((.int .i64 H)) ∧ w10.cell? ⟨w.heap.size, 2, none⟩ = some ((.slice xa n c)) ∧ w10.cell? ⟨w.heap.size + 1, 0, none⟩ = some ((.int .i64 QW)) ∧ w10.cell? ⟨w.heap.size + 1, 1, none⟩ = some ((.int .i64 QH)) ∧ w10.cell? ⟨w.heap.size + 1, 2, none⟩ = some ((.slice xb k d)) := ⟨P_10.out.cell 0, P_10.out.cell 1, P_10.out.cell 2, Q_10.out.cell 0, Q_10.out.cell 1, Q_10.out.cell 2⟩
          refine wpAnyH_take (i := 13) (v := ?_) rfl (by kernel_rfl) (by kernel_rfl) (by kernel_rfl) (fun _ _ _ h => h) (Or.inl ⟨by kernel_rfl, ?_⟩) hHeld ?_
          rotate_left
          · intro w hSw
            (try dsimp only at hSw)
            go_split_ands
            go_simp
            (try with_reducible rfl)
          try simp only [Act.put, List.getElem_toArray, List.getElem_cons_succ, List.getElem_cons_zero, List.setIfInBounds_toArray, List.set_cons_zero, List.set_cons_succ]
          refine wpAnyH_done (by kernel_rfl) ?_ _
          clear hHeld
          (try go_wp2_with fail)
          go_meet
          exact ⟨_, rfl, rfl, X_10, P_10, Q_10, T_10⟩
      · clear hHeld
        go_simp
        refine hK.out _ _ ⟨(P_6.out.ext (Ext.alloc (Ext.refl w6) _)).cell 0, (P_6.out.ext (Ext.alloc (Ext.refl w6) _)).cell 1, (P_6.out.ext (Ext.alloc (Ext.refl w6) _)).cell 2, (Q_6.out.ext (Ext.alloc (Ext.refl w6) _)).cell 0, (Q_6.out.ext (Ext.alloc (Ext.refl w6) _)).cell 1, (Q_6.out.ext (Ext.alloc (Ext.refl w6) _)).cell 2⟩ (fun hHeld => ?_)
        clear hK KK hHeld
        try simp only [Act.put, List.getElem_toArray, List.getElem_cons_succ, List.getElem_cons_zero, List.setIfInBounds_toArray, List.set_cons_zero, List.set_cons_succ]
        have NE_P_T := Lib.hid (Nat.ne_of_lt P_6.out.lt)
        have NE_Q_T := Lib.hid (Nat.ne_of_lt Q_6.out.lt)
        have GE_T := Lib.hid X_6.out.size
        refine anyH_world (fun wz => Ext w6 wz ∧ Bk wz w6.heap.size #[.int .i64 0, .int .i64 0, .slice none 0 0]) ⟨Ext.alloc (Ext.refl _) _, Bk.at rfl⟩ ?_
        rintro w7 ⟨h, hB⟩
        have X_7 := Lib.hid (X_6.out.trans h)
        have P_7 := Lib.hid (P_6.out.ext h)
        have Q_7 := Lib.hid (Q_6.out.ext h)
        have O1_7 := Lib.hid (O1_6.out.ext h)
        clear h X_6 P_6 Q_6 O1_6
        have T_7 := Lib.hid (hB)
        clear hB
        have hHeld : w7.cell? ⟨w.heap.size, 0, none⟩ = some ((.int .i64 W)) ∧ w7.cell? ⟨w.heap.size, 1, none⟩ = some ((.int .i64 H)) ∧ w7.cell? ⟨w.heap.size, 2, none⟩ = some ((.slice xa n c)) ∧ w7.cell? ⟨w.heap.size + 1, 0, none⟩ = some ((.int .i64 QW)) ∧ w7.cell? ⟨w.heap.size + 1, 1, none⟩ = some ((.int .i64 QH)) ∧ w7.cell? ⟨w.heap.size + 1, 2, none⟩ = some ((.slice xb k d)) := ⟨P_7.out.cell 0, P_7.out.cell 1, P_7.out.cell 2, Q_7.out.cell 0, Q_7.out.cell 1, Q_7.out.cell 2⟩
        refine wpAnyH_ready (rs := [3]) (by kernel_rfl) (by simp) ?_
        refine AllReadyH.cons rfl (fun KK hK => ?_) AllReadyH.nil
        clear hHeld
        go_simp
        refine (own_x _ _ xb k d qx _ (HY.out.ext X_7.out) HY0.out (by omega)).mono ?_
        rintro e w8 ⟨⟨xO2, cO2, rfl, hox, _⟩, h⟩
        have X_8 := Lib.hid (X_7.out.trans h)
        have P_8 := Lib.hid (P_7.out.ext h)
        have Q_8 := Lib.hid (Q_7.out.ext h)
        have O1_8 := Lib.hid (O1_7.out.ext h)
        have T_8 := Lib.hid (T_7.out.ext h)
        clear h X_7 P_7 Q_7 O1_7 T_7
        have O2_8 := Lib.hid (hox)
        clear hox
        go_simp
        refine hK.out _ _ ⟨P_8.out.cell 0, P_8.out.cell 1, P_8.out.cell 2, Q_8.out.cell 0, Q_8.out.cell 1, Q_8.out.cell 2⟩ (fun hHeld => ?_)
        clear hK KK
        try simp only [Act.put, List.getElem_toArray, List.getElem_cons_succ, List.getElem_cons_zero, List.setIfInBounds_toArray, List.set_cons_zero, List.set_cons_succ]
        refine wpAnyH_ready (rs := [7]) (by kernel_rfl) (by simp) ?_
        refine AllReadyH.cons rfl (fun KK hK => ?_) AllReadyH.nil
        clear hHeld
        go_simp
        refine (stamp_shape_q _ _ _ _ X Y m _ _ _ _ _ _ E _ (HE.out.ext X_8.out) HR.out HS.out).mono ?_
        rintro e w9 ⟨rfl, h⟩
        clear O1_8 O2_8
        have X_9 := Lib.hid (X_8.out.trans h)
        have P_9 := Lib.hid (P_8.out.ext h)
        have Q_9 := Lib.hid (Q_8.out.ext h)
        have T_9 := Lib.hid (T_8.out.ext h)
        clear h X_8 P_8 Q_8 T_8
        go_simp
        refine hK.out _ _ ⟨P_9.out.cell 0, P_9.out.cell 1, P_9.out.cell 2, Q_9.out.cell 0, Q_9.out.cell 1, Q_9.out.cell 2⟩ (fun hHeld => ?_)
        clear hK KK
        try simp only [Act.put, List.getElem_toArray, List.getElem_cons_succ, List.getElem_cons_zero, List.setIfInBounds_toArray, List.set_cons_zero, List.set_cons_succ]
        refine wpAnyH_take (i := 8) (v := ?_) rfl (by kernel_rfl) (by kernel_rfl) (by kernel_rfl) (fun _ _ _ h => h) (Or.inl ⟨by kernel_rfl, ?_⟩) hHeld ?_
        rotate_left
        · intro w hSw
          (try dsimp only at hSw)
          go_split_ands
          go_simp
          (try with_reducible rfl)
        try simp only [Act.put, List.getElem_toArray, List.getElem_cons_succ, List.getElem_cons_zero, List.setIfInBounds_toArray, List.set_cons_zero, List.set_cons_succ]
        refine wpAnyH_take (i := 9) (v := ?_) rfl (by kernel_rfl) (by kernel_rfl) (by kernel_rfl) (fun _ _ _ h => h) (Or.inl ⟨by kernel_rfl, ?_⟩) hHeld ?_
        rotate_left
        · intro w hSw
          (try dsimp only at hSw)
          go_split_ands
          go_simp
          (try with_reducible rfl)
        try simp only [Act.put, List.getElem_toArray, List.getElem_cons_succ, List.getElem_cons_zero, List.setIfInBounds_toArray, List.set_cons_zero, List.set_cons_succ]
        refine wpAnyH_take (i := 10) (v := ?_) rfl (by kernel_rfl) (by kernel_rfl) (by kernel_rfl) (fun _ _ _ h => h) (Or.inl ⟨by kernel_rfl, ?_⟩) hHeld ?_
        rotate_left
        · intro w hSw
          (try dsimp only at hSw)
          go_split_ands
          go_simp
          (try with_reducible rfl)
        try simp only [Act.put, List.getElem_toArray, List.getElem_cons_succ, List.getElem_cons_zero, List.setIfInBounds_toArray, List.set_cons_zero, List.set_cons_succ]
        refine wpAnyH_ready (rs := [12]) (by kernel_rfl) (by simp) ?_
        refine AllReadyH.cons rfl (fun KK hK => ?_) AllReadyH.nil
        clear hHeld
        have t0 := T_9.out.cell 0
        have f0 := T_9.out.frozen 0
        have t1 := T_9.out.cell 1
        have f1 := T_9.out.frozen 1
        have t2 := T_9.out.cell 2
        have f2 := T_9.out.frozen 2
        have SF := set3_all (x' := .int .i64 0) (y' := .int .i64 0) (z' := .slice none 0 0) X_9.out GE_T.out T_9.out
        have SFH := Lib.hid SF
        clear SF
        go_simp
        clear t0 t1 t2 f0 f1 f2
        refine hK.out _ _ ⟨(P_9.out.keeps SFH.out.2.2 (NE_P_T.out)).cell 0, (P_9.out.keeps SFH.out.2.2 (NE_P_T.out)).cell 1, (P_9.out.keeps SFH.out.2.2 (NE_P_T.out)).cell 2, (Q_9.out.keeps SFH.out.2.2 (NE_Q_T.out)).cell 0, (Q_9.out.keeps SFH.out.2.2 (NE_Q_T.out)).cell 1, (Q_9.out.keeps SFH.out.2.2 (NE_Q_T.out)).cell 2⟩ (fun hHeld => ?_)
        clear hK KK hHeld
        try simp only [Act.put, List.getElem_toArray, List.getElem_cons_succ, List.getElem_cons_zero, List.setIfInBounds_toArray, List.set_cons_zero, List.set_cons_succ]
        refine anyH_world (fun wz => Ext w wz ∧ Bk wz (w6.heap.size) #[.int .i64 0, .int .i64 0, .slice none 0 0] ∧ Keeps (fun k => k = w6.heap.size) w9 wz) SFH.out ?_
        rintro w10 ⟨hX, hB, hKK⟩
        have X_10 := Lib.hid (hX)
        have P_10 := Lib.hid (P_9.out.keeps hKK (NE_P_T.out))
        have Q_10 := Lib.hid (Q_9.out.keeps hKK (NE_Q_T.out))
        have T_10 := Lib.hid (hB)
        clear hX hB hKK SFH X_9 P_9 Q_9 T_9
        have hHeld : w10.cell? ⟨w.heap.size, 0, none⟩ = some ((.int .i64 W)) ∧ w10.cell? ⟨w.heap.size, 1, none⟩ = some ((.int .i64 H)) ∧ w10.cell? ⟨w.heap.size, 2, none⟩ = some ((.slice xa n c)) ∧ w10.cell? ⟨w.heap.size + 1, 0, none⟩ = some ((.int .i64 QW)) ∧ w10.cell? ⟨w.heap.size + 1, 1, none⟩ = some ((.int .i64 QH)) ∧ w10.cell? ⟨w.heap.size + 1, 2, none⟩ = some ((.slice xb k d)) := ⟨P_10.out.cell 0, P_10.out.cell 1, P_10.out.cell 2, Q_10.out.cell 0, Q_10.out.cell 1, Q_10.out.cell 2⟩
        refine wpAnyH_take (i := 13) (v := ?_) rfl (by kernel_rfl) (by kernel_rfl) (by kernel_rfl) (fun _ _ _ h => h) (Or.inl ⟨by kernel_rfl, ?_⟩) hHeld ?_
        rotate_left
        · intro w hSw
          (try dsimp only at hSw)
          go_split_ands
          go_simp
          (try with_reducible rfl)
        try simp only [Act.put, List.getElem_toArray, List.getElem_cons_succ, List.getElem_cons_zero, List.setIfInBounds_toArray, List.set_cons_zero, List.set_cons_succ]
        refine wpAnyH_done (by kernel_rfl) ?_ _
        clear hHeld
        (try go_wp2_with fail)
        go_meet
        exact ⟨_, rfl, rfl, X_10, P_10, Q_10, T_10⟩
    · clear hHeld
      go_simp
      refine hK.out _ _ ⟨(P_5.out.ext (Ext.alloc (Ext.refl w5) _)).cell 0, (P_5.out.ext (Ext.alloc (Ext.refl w5) _)).cell 1, (P_5.out.ext (Ext.alloc (Ext.refl w5) _)).cell 2, (Q_5.out.ext (Ext.alloc (Ext.refl w5) _)).cell 0, (Q_5.out.ext (Ext.alloc (Ext.refl w5) _)).cell 1, (Q_5.out.ext (Ext.alloc (Ext.refl w5) _)).cell 2⟩ (fun hHeld => ?_)
      clear hK KK hHeld
      try simp only [Act.put, List.getElem_toArray, List.getElem_cons_succ, List.getElem_cons_zero, List.setIfInBounds_toArray, List.set_cons_zero, List.set_cons_succ]
      have NE_P_T := Lib.hid (Nat.ne_of_lt P_5.out.lt)
      have NE_Q_T := Lib.hid (Nat.ne_of_lt Q_5.out.lt)
      have GE_T := Lib.hid X_5.out.size
      refine anyH_world (fun wz => Ext w5 wz ∧ Bk wz w5.heap.size #[.int .i64 0, .int .i64 0, .slice none 0 0]) ⟨Ext.alloc (Ext.refl _) _, Bk.at rfl⟩ ?_
      rintro w6 ⟨h, hB⟩
      have X_6 := Lib.hid (X_5.out.trans h)
      have P_6 := Lib.hid (P_5.out.ext h)
      have Q_6 := Lib.hid (Q_5.out.ext h)
      clear h X_5 P_5 Q_5
      have T_6 := Lib.hid (hB)
      clear hB
      have hHeld : w6.cell? ⟨w.heap.size, 0, none⟩ = some ((.int .i64 W)) ∧ w6.cell? ⟨w.heap.size, 1, none⟩ = some ((.int .i64 H)) ∧ w6.cell? ⟨w.heap.size, 2, none⟩ = some ((.slice xa n c)) ∧ w6.cell? ⟨w.heap.size + 1, 0, none⟩ = some ((.int .i64 QW)) ∧ w6.cell? ⟨w.heap.size + 1, 1, none⟩ = some ((.int .i64 QH)) ∧ w6.cell? ⟨w.heap.size + 1, 2, none⟩ = some ((.slice xb k d)) := ⟨P_6.out.cell 0, P_6.out.cell 1, P_6.out.cell 2, Q_6.out.cell 0, Q_6.out.cell 1, Q_6.out.cell 2⟩
      refine wpAnyH_ready (rs := [1]) (by kernel_rfl) (by simp) ?_
      refine AllReadyH.cons rfl (fun KK hK => ?_) AllReadyH.nil
      clear hHeld
      go_simp
      refine (own_x _ _ xa n c px _ (HX.out.ext X_6.out) HX0.out (by omega)).mono ?_
      rintro e w7 ⟨⟨xO1, cO1, rfl, hox, _⟩, h⟩
      have X_7 := Lib.hid (X_6.out.trans h)
      have P_7 := Lib.hid (P_6.out.ext h)
      have Q_7 := Lib.hid (Q_6.out.ext h)
      have T_7 := Lib.hid (T_6.out.ext h)
      clear h X_6 P_6 Q_6 T_6
      have O1_7 := Lib.hid (hox)
      clear hox
      go_simp
      refine hK.out _ _ ⟨P_7.out.cell 0, P_7.out.cell 1, P_7.out.cell 2, Q_7.out.cell 0, Q_7.out.cell 1, Q_7.out.cell 2⟩ (fun hHeld => ?_)
      clear hK KK
      try simp only [Act.put, List.getElem_toArray, List.getElem_cons_succ, List.getElem_cons_zero, List.setIfInBounds_toArray, List.set_cons_zero, List.set_cons_succ]
      refine wpAnyH_ready (rs := [3]) (by kernel_rfl) (by simp) ?_
      refine AllReadyH.cons rfl (fun KK hK => ?_) AllReadyH.nil
      clear hHeld
      go_simp
      refine (own_x _ _ xb k d qx _ (HY.out.ext X_7.out) HY0.out (by omega)).mono ?_
      rintro e w8 ⟨⟨xO2, cO2, rfl, hox, _⟩, h⟩
      have X_8 := Lib.hid (X_7.out.trans h)
      have P_8 := Lib.hid (P_7.out.ext h)
      have Q_8 := Lib.hid (Q_7.out.ext h)
      have T_8 := Lib.hid (T_7.out.ext h)
      have O1_8 := Lib.hid (O1_7.out.ext h)
      clear h X_7 P_7 Q_7 T_7 O1_7
      have O2_8 := Lib.hid (hox)
      clear hox
      go_simp
      refine hK.out _ _ ⟨P_8.out.cell 0, P_8.out.cell 1, P_8.out.cell 2, Q_8.out.cell 0, Q_8.out.cell 1, Q_8.out.cell 2⟩ (fun hHeld => ?_)
      clear hK KK
      try simp only [Act.put, List.getElem_toArray, List.getElem_cons_succ, List.getElem_cons_zero, List.setIfInBounds_toArray, List.set_cons_zero, List.set_cons_succ]
      refine wpAnyH_ready (rs := [7]) (by kernel_rfl) (by simp) ?_
      refine AllReadyH.cons rfl (fun KK hK => ?_) AllReadyH.nil
      clear hHeld
      go_simp
      refine (stamp_shape_q _ _ _ _ X Y m _ _ _ _ _ _ E _ (HE.out.ext X_8.out) HR.out HS.out).mono ?_
      rintro e w9 ⟨rfl, h⟩
      clear O1_8 O2_8
      have X_9 := Lib.hid (X_8.out.trans h)
      have P_9 := Lib.hid (P_8.out.ext h)
      have Q_9 := Lib.hid (Q_8.out.ext h)
      have T_9 := Lib.hid (T_8.out.ext h)
      clear h X_8 P_8 Q_8 T_8
      go_simp
      refine hK.out _ _ ⟨P_9.out.cell 0, P_9.out.cell 1, P_9.out.cell 2, Q_9.out.cell 0, Q_9.out.cell 1, Q_9.out.cell 2⟩ (fun hHeld => ?_)
      clear hK KK
      try simp only [Act.put, List.getElem_toArray, List.getElem_cons_succ, List.getElem_cons_zero, List.setIfInBounds_toArray, List.set_cons_zero, List.set_cons_succ]
      refine wpAnyH_take (i := 8) (v := ?_) rfl (by kernel_rfl) (by kernel_rfl) (by kernel_rfl) (fun _ _ _ h => h) (Or.inl ⟨by kernel_rfl, ?_⟩) hHeld ?_
      rotate_left
      · intro w hSw
        (try dsimp only at hSw)
        go_split_ands
        go_simp
        (try with_reducible rfl)
      try simp only [Act.put, List.getElem_toArray, List.getElem_cons_succ, List.getElem_cons_zero, List.setIfInBounds_toArray, List.set_cons_zero, List.set_cons_succ]
      refine wpAnyH_take (i := 9) (v := ?_) rfl (by kernel_rfl) (by kernel_rfl) (by kernel_rfl) (fun _ _ _ h => h) (Or.inl ⟨by kernel_rfl, ?_⟩) hHeld ?_
      rotate_left
      · intro w hSw
        (try dsimp only at hSw)
        go_split_ands
        go_simp
        (try with_reducible rfl)
      try simp only [Act.put, List.getElem_toArray, List.getElem_cons_succ, List.getElem_cons_zero, List.setIfInBounds_toArray, List.set_cons_zero, List.set_cons_succ]
      refine wpAnyH_take (i := 10) (v := ?_) rfl (by kernel_rfl) (by kernel_rfl) (by kernel_rfl) (fun _ _ _ h => h) (Or.inl ⟨by kernel_rfl, ?_⟩) hHeld ?_
      rotate_left
      · intro w hSw
        (try dsimp only at hSw)
        go_split_ands
        go_simp
        (try with_reducible rfl)
      try simp only [Act.put, List.getElem_toArray, List.getElem_cons_succ, List.getElem_cons_zero, List.setIfInBounds_toArray, List.set_cons_zero, List.set_cons_succ]
      refine wpAnyH_ready (rs := [12]) (by kernel_rfl) (by simp) ?_
      refine AllReadyH.cons rfl (fun KK hK => ?_) AllReadyH.nil
      clear hHeld
      have t0 := T_9.out.cell 0
      have f0 := T_9.out.frozen 0
      have t1 := T_9.out.cell 1
      have f1 := T_9.out.frozen 1
      have t2 := T_9.out.cell 2
      have f2 := T_9.out.frozen 2
      have SF := set3_all (x' := .int .i64 0) (y' := .int .i64 0) (z' := .slice none 0 0) X_9.out GE_T.out T_9.out
      have SFH := Lib.hid SF
      clear SF
      go_simp
      clear t0 t1 t2 f0 f1 f2
      refine hK.out _ _ ⟨(P_9.out.keeps SFH.out.2.2 (NE_P_T.out)).cell 0, (P_9.out.keeps SFH.out.2.2 (NE_P_T.out)).cell 1, (P_9.out.keeps SFH.out.2.2 (NE_P_T.out)).cell 2, (Q_9.out.keeps SFH.out.2.2 (NE_Q_T.out)).cell 0, (Q_9.out.keeps SFH.out.2.2 (NE_Q_T.out)).cell 1, (Q_9.out.keeps SFH.out.2.2 (NE_Q_T.out)).cell 2⟩ (fun hHeld => ?_)
      clear hK KK hHeld
      try simp only [Act.put, List.getElem_toArray, List.getElem_cons_succ, List.getElem_cons_zero, List.setIfInBounds_toArray, List.set_cons_zero, List.set_cons_succ]
      refine anyH_world (fun wz => Ext w wz ∧ Bk wz (w5.heap.size) #[.int .i64 0, .int .i64 0, .slice none 0 0] ∧ Keeps (fun k => k = w5.heap.size) w9 wz) SFH.out ?_
      rintro w10 ⟨hX, hB, hKK⟩
      have X_10 := Lib.hid (hX)
      have P_10 := Lib.hid (P_9.out.keeps hKK (NE_P_T.out))
      have Q_10 := Lib.hid (Q_9.out.keeps hKK (NE_Q_T.out))
      have T_10 := Lib.hid (hB)
      clear hX hB hKK SFH X_9 P_9 Q_9 T_9
      have hHeld : w10.cell? ⟨w.heap.size, 0, none⟩ = some ((.int .i64 W)) ∧ w10.cell? ⟨w.heap.size, 1, none⟩ = some ((.int .i64 H)) ∧ w10.cell? ⟨w.heap.size, 2, none⟩ = some ((.slice xa n c)) ∧ w10.cell? ⟨w.heap.size + 1, 0, none⟩ = some ((.int .i64 QW)) ∧ w10.cell? ⟨w.heap.size + 1, 1, none⟩ = some ((.int .i64 QH)) ∧ w10.cell? ⟨w.heap.size + 1, 2, none⟩ = some ((.slice xb k d)) := ⟨P_10.out.cell 0, P_10.out.cell 1, P_10.out.cell 2, Q_10.out.cell 0, Q_10.out.cell 1, Q_10.out.cell 2⟩
      refine wpAnyH_take (i := 13) (v := ?_) rfl (by kernel_rfl) (by kernel_rfl) (by kernel_rfl) (fun _ _ _ h => h) (Or.inl ⟨by kernel_rfl, ?_⟩) hHeld ?_
      rotate_left
      · intro w hSw
        (try dsimp only at hSw)
        go_split_ands
        go_simp
        (try with_reducible rfl)
      try simp only [Act.put, List.getElem_toArray, List.getElem_cons_succ, List.getElem_cons_zero, List.setIfInBounds_toArray, List.set_cons_zero, List.set_cons_succ]
      refine wpAnyH_done (by kernel_rfl) ?_ _
      clear hHeld
      (try go_wp2_with fail)
      go_meet
      exact ⟨_, rfl, rfl, X_10, P_10, Q_10, T_10⟩
  case rest =>
    obtain ⟨T, rfl, rfl, X_100, P_100, Q_100, T_100⟩ := hcut
    clear X_4 P_4 Q_4
    go_upto_region 6 with fail
    go_cut [52] (fun s52 wx => s52 = .bool (!goodB X Y m) ∧ Hid (Ext w wx) ∧ Hid (Bk wx w.heap.size #[(.int .i64 W), (.int .i64 H), (.slice xa n c)]) ∧ Hid (Bk wx (w.heap.size + 1) #[(.int .i64 QW), (.int .i64 QH), (.slice xb k d)]) ∧ Hid (Bk wx T #[.int .i64 0, .int .i64 0, .slice none 0 0]))
    case first =>
      go_wp2_with fail
      refine (refNear_any X _).mono ?_
      rintro e w9 ⟨rfl, rfl⟩
      cases n0 : nearB X
      · have NV : Hid (goodB X Y m = false) := Lib.hid (by simp only [goodB, n0]; rfl)
        go_wp2_with fail
        go_meet
        exact ⟨by rw [NV.out]; rfl, X_100, P_100, Q_100, T_100⟩
      · go_wp2_with fail
        refine (refNear_any Y _).mono ?_
        rintro e w9 ⟨rfl, rfl⟩
        cases n1 : nearB Y
        · have NV : Hid (goodB X Y m = false) := Lib.hid (by simp only [goodB, n0, n1]; rfl)
          go_wp2_with fail
          go_meet
          exact ⟨by rw [NV.out]; rfl, X_100, P_100, Q_100, T_100⟩
        · go_wp2_with fail
          refine (isMode_any m _).mono ?_
          rintro e w9 ⟨rfl, rfl⟩
          cases n2 : decide (0 ≤ m ∧ m < 6)
          · have NV : Hid (goodB X Y m = false) := Lib.hid (by simp only [goodB, n0, n1, n2]; rfl)
            go_wp2_with fail
            go_meet
            exact ⟨by rw [NV.out]; rfl, X_100, P_100, Q_100, T_100⟩
          · have NV : Hid (goodB X Y m = true) := Lib.hid (by simp only [goodB, n0, n1, n2]; rfl)
            go_wp2_with fail
            go_meet
            exact ⟨by rw [NV.out]; rfl, X_100, P_100, Q_100, T_100⟩
    case rest =>
      obtain ⟨rfl, X_101, P_101, Q_101, T_101⟩ := hcut
      clear X_100 P_100 Q_100 T_100
      rw [HB.out]
      clear HB
      cases gb
      · have k0 := P_101.out.cell 0
        have k1 := P_101.out.cell 1
        have k2 := P_101.out.cell 2
        go_wp2_with fail
        refine (refRight_any _ _ _ _ _ _).mono ?_
        rintro e w102 ⟨rfl, h⟩
        have X_102 := Lib.hid (X_101.out.trans h)
        have P_102 := Lib.hid (P_101.out.ext h)
        have Q_102 := Lib.hid (Q_101.out.ext h)
        have T_102 := Lib.hid (T_101.out.ext h)
        clear h X_101 P_101 Q_101 T_101
        clear k0 k1 k2
        rw [HR.out]
        have k0 := Q_102.out.cell 0
        have k1 := Q_102.out.cell 1
        have k2 := Q_102.out.cell 2
        go_wp2_with fail
        refine (refRight_any _ _ _ _ _ _).mono ?_
        rintro e w103 ⟨rfl, h⟩
        have X_103 := Lib.hid (X_102.out.trans h)
        have P_103 := Lib.hid (P_102.out.ext h)
        have Q_103 := Lib.hid (Q_102.out.ext h)
        have T_103 := Lib.hid (T_102.out.ext h)
        clear h X_102 P_102 Q_102 T_102
        clear k0 k1 k2
        rw [HS.out]
        have k0 := T_103.out.cell 0
        have k1 := T_103.out.cell 1
        have k2 := T_103.out.cell 2
        have k3 := P_103.out.cell 0
        have k4 := P_103.out.cell 1
        have k5 := P_103.out.cell 2
        go_wp2_with fail
        refine (told_err _ 2 _ _ _ _ _ _ E (HE.out.ext X_103.out) (.sent 2 (by decide))).mono ?_
        rintro e w104 ⟨rfl, h⟩
        have X_104 := Lib.hid (X_103.out.trans h)
        have P_104 := Lib.hid (P_103.out.ext h)
        have Q_104 := Lib.hid (Q_103.out.ext h)
        have T_104 := Lib.hid (T_103.out.ext h)
        clear h X_103 P_103 Q_103 T_103
        clear k0 k1 k2 k3 k4 k5
        go_wp2_with fail
        go_ret
        exact ⟨rfl, X_104.out⟩
      · have k0 := P_101.out.cell 0
        have k1 := P_101.out.cell 1
        have k2 := P_101.out.cell 2
        go_wp2_with fail
        refine (refRight_any _ _ _ _ _ _).mono ?_
        rintro e w102 ⟨rfl, h⟩
        have X_102 := Lib.hid (X_101.out.trans h)
        have P_102 := Lib.hid (P_101.out.ext h)
        have Q_102 := Lib.hid (Q_101.out.ext h)
        have T_102 := Lib.hid (T_101.out.ext h)
        clear h X_101 P_101 Q_101 T_101
        clear k0 k1 k2
        rw [HR.out]
        have k0 := Q_102.out.cell 0
        have k1 := Q_102.out.cell 1
        have k2 := Q_102.out.cell 2
        go_wp2_with fail
        refine (refRight_any _ _ _ _ _ _).mono ?_
        rintro e w103 ⟨rfl, h⟩
        have X_103 := Lib.hid (X_102.out.trans h)
        have P_103 := Lib.hid (P_102.out.ext h)
        have Q_103 := Lib.hid (Q_102.out.ext h)
        have T_103 := Lib.hid (T_102.out.ext h)
        clear h X_102 P_102 Q_102 T_102
        clear k0 k1 k2
        rw [HS.out]
        have k0 := T_103.out.cell 0
        have k1 := T_103.out.cell 1
        have k2 := T_103.out.cell 2
        have k3 := P_103.out.cell 0
        have k4 := P_103.out.cell 1
        have k5 := P_103.out.cell 2
        go_wp2_with fail
        refine (told_err _ 2 _ _ _ _ _ _ E (HE.out.ext X_103.out) (.sent 2 (by decide))).mono ?_
        rintro e w104 ⟨rfl, h⟩
        have X_104 := Lib.hid (X_103.out.trans h)
        have P_104 := Lib.hid (P_103.out.ext h)
        have Q_104 := Lib.hid (Q_103.out.ext h)
        have T_104 := Lib.hid (T_103.out.ext h)
        clear h X_103 P_103 Q_103 T_103
        clear k0 k1 k2 k3 k4 k5
        go_wp2_with fail
        go_ret
        exact ⟨rfl, X_104.out⟩
set_option linter.unusedSimpArgs false in
set_option maxHeartbeats 4000000 in
theorem stamps_bound (W H QW QH : Nat) (X Y m : Int) (ad bd : Addr) (c d : Nat) (px qx : Nat → P4) (w : World) (E : Nat → Addr) (hE : Errs w E) (hx : Pxs w (some ad) (W * H) px) (hy : Pxs w (some bd) (QW * QH) qx) (hn : W * H ≤ 3000) (hk : QW * QH ≤ 3000) (hWH : 1 ≤ W ∧ W ≤ 256 ∧ 1 ≤ H ∧ H ≤ 256) (hQH : 1 ≤ QW ∧ QW ≤ 256 ∧ 1 ≤ QH ∧ QH ≤ 256) (hB : goodB X Y m = false) :
    Calls Tryd.prog 8 #[.agg #[(.int .i64 (W : Int)), (.int .i64 (H : Int)), (.slice (some ad) (W * H) c)], .agg #[(.int .i64 (QW : Int)), (.int .i64 (QH : Int)), (.slice (some bd) (QW * QH) d)], .int .i64 X, .int .i64 Y, .int .i64 m] w fun e w' => e = .returned (.bool true) ∧ Ext w w' := by
  have HE := Lib.hid hE
  have HX := Lib.hid hx
  have HY := Lib.hid hy
  have HD := Lib.hid (decide_eq_true hn)
  have HD2 := Lib.hid (decide_eq_true hk)
  have HB := Lib.hid hB
  have HR : Hid (rightB (W : Int) (H : Int) (W * H) = true) := Lib.hid (right_of ⟨hWH.1, hWH.2.1⟩ hWH.2.2)
  have HS : Hid (rightB (QW : Int) (QH : Int) (QW * QH) = true) := Lib.hid (right_of ⟨hQH.1, hQH.2.1⟩ hQH.2.2)
  have HP1 : Hid (0 < W * H) := Lib.hid (Nat.mul_pos hWH.1 hWH.2.2.1)
  have HP2 : Hid (0 < QW * QH) := Lib.hid (Nat.mul_pos hQH.1 hQH.2.2.1)
  have HWH := Lib.hid hWH
  have HQH := Lib.hid hQH
  clear hE hx hy hB hWH hQH
  go_enter Tryd.func8, Tryd.ntmps8
  go_wp2_with fail
  refine calls_world (fun wz => Ext w wz ∧ wz.heap.size = w.heap.size + 1 + 1 ∧ Bk wz (w.heap.size) #[(.int .i64 (W : Int)), (.int .i64 (H : Int)), (.slice (some ad) (W * H) c)] ∧ Bk wz (w.heap.size + 1) #[(.int .i64 (QW : Int)), (.int .i64 (QH : Int)), (.slice (some bd) (QW * QH) d)]) ⟨by repeat (first | exact Ext.refl _ | refine Ext.alloc ?_ _), by simp, by repeat (first | exact Bk.at (by simp) | refine Bk.old ?_), by repeat (first | exact Bk.at (by simp) | refine Bk.old ?_)⟩ ?_
  rintro w1 ⟨hX, hZ, hB0, hB1⟩
  have X_1 := Lib.hid (hX)
  have P_1 := Lib.hid (hB0)
  have Q_1 := Lib.hid (hB1)
  clear hX hZ hB0 hB1
  refine (plainly_any _).mono ?_
  rintro e w2 ⟨rfl, h⟩
  have X_2 := Lib.hid (X_1.out.trans h)
  have P_2 := Lib.hid (P_1.out.ext h)
  have Q_2 := Lib.hid (Q_1.out.ext h)
  clear h X_1 P_1 Q_1
  have k0 := P_2.out.cell 0
  have k1 := P_2.out.cell 1
  have k2 := P_2.out.cell 2
  go_wp2_with fail
  refine (small_any _ _ _ _ _ _ (by unfold maxLen; omega)).mono ?_
  rintro e w3 ⟨rfl, h⟩
  have X_3 := Lib.hid (X_2.out.trans h)
  have P_3 := Lib.hid (P_2.out.ext h)
  have Q_3 := Lib.hid (Q_2.out.ext h)
  clear h X_2 P_2 Q_2
  clear k0 k1 k2
  rw [HD.out]
  have k0 := Q_3.out.cell 0
  have k1 := Q_3.out.cell 1
  have k2 := Q_3.out.cell 2
  go_wp2_with fail
  refine (small_any _ _ _ _ _ _ (by unfold maxLen; omega)).mono ?_
  rintro e w4 ⟨rfl, h⟩
  have X_4 := Lib.hid (X_3.out.trans h)
  have P_4 := Lib.hid (P_3.out.ext h)
  have Q_4 := Lib.hid (Q_3.out.ext h)
  clear h X_3 P_3 Q_3
  clear k0 k1 k2
  rw [HD2.out]
  go_upto_region 4 with fail
  go_cut [12, 13] (fun s12 s13 wx => ∃ T, s12 = .pointer (some ⟨T, 0, none⟩) ∧ s13 = .iface 171 (.pointer (some (E 1))) ∧ Hid (Ext w wx) ∧ Hid (Bk wx w.heap.size #[(.int .i64 (W : Int)), (.int .i64 (H : Int)), (.slice (some ad) (W * H) c)]) ∧ Hid (Bk wx (w.heap.size + 1) #[(.int .i64 (QW : Int)), (.int .i64 (QH : Int)), (.slice (some bd) (QW * QH) d)]) ∧ Hid (Bk wx T #[.int .i64 0, .int .i64 0, .slice none 0 0]))
  case first =>
    have k0 := P_4.out.cell 0
    have k1 := P_4.out.cell 1
    have k2 := P_4.out.cell 2
    have k3 := Q_4.out.cell 0
    have k4 := Q_4.out.cell 1
    have k5 := Q_4.out.cell 2
    refine wp_region_held_drew (S := fun w' => w'.cell? ⟨w.heap.size, 0, none⟩ = some ((.int .i64 (W : Int))) ∧ w'.cell? ⟨w.heap.size, 1, none⟩ = some ((.int .i64 (H : Int))) ∧ w'.cell? ⟨w.heap.size, 2, none⟩ = some ((.slice (some ad) (W * H) c)) ∧ w'.cell? ⟨w.heap.size + 1, 0, none⟩ = some ((.int .i64 (QW : Int))) ∧ w'.cell? ⟨w.heap.size + 1, 1, none⟩ = some ((.int .i64 (QH : Int))) ∧ w'.cell? ⟨w.heap.size + 1, 2, none⟩ = some ((.slice (some bd) (QW * QH) d))) (by kernel_rfl) ⟨P_4.out.cell 0, P_4.out.cell 1, P_4.out.cell 2, Q_4.out.cell 0, Q_4.out.cell 1, Q_4.out.cell 2⟩ (fun hHeld => ?_)
    clear hHeld
    clear k0 k1 k2 k3 k4 k5
    refine anyH_world (fun wz => Ext w4 wz) (show Ext w4 w4.drew from Below.drew (Ext.refl w4)) ?_
    rintro w5 h
    have X_5 := Lib.hid (X_4.out.trans h)
    have P_5 := Lib.hid (P_4.out.ext h)
    have Q_5 := Lib.hid (Q_4.out.ext h)
    clear h X_4 P_4 Q_4
    have hHeld : w5.cell? ⟨w.heap.size, 0, none⟩ = some ((.int .i64 (W : Int))) ∧ w5.cell? ⟨w.heap.size, 1, none⟩ = some ((.int .i64 (H : Int))) ∧ w5.cell? ⟨w.heap.size, 2, none⟩ = some ((.slice (some ad) (W * H) c)) ∧ w5.cell? ⟨w.heap.size + 1, 0, none⟩ = some ((.int .i64 (QW : Int))) ∧ w5.cell? ⟨w.heap.size + 1, 1, none⟩ = some ((.int .i64 (QH : Int))) ∧ w5.cell? ⟨w.heap.size + 1, 2, none⟩ = some ((.slice (some bd) (QW * QH) d)) := ⟨P_5.out.cell 0, P_5.out.cell 1, P_5.out.cell 2, Q_5.out.cell 0, Q_5.out.cell 1, Q_5.out.cell 2⟩
    refine wpAnyH_take (i := 0) (v := ?_) rfl (by kernel_rfl) (by kernel_rfl) (by kernel_rfl) (fun _ _ _ h => h) (Or.inl ⟨by kernel_rfl, ?_⟩) hHeld ?_
    rotate_left
    · intro w hSw
      (try dsimp only at hSw)
      go_split_ands
      go_simp
      (try with_reducible rfl)
    try simp only [Act.put, List.getElem_toArray, List.getElem_cons_succ, List.getElem_cons_zero, List.setIfInBounds_toArray, List.set_cons_zero, List.set_cons_succ]
    refine wpAnyH_take (i := 2) (v := ?_) rfl (by kernel_rfl) (by kernel_rfl) (by kernel_rfl) (fun _ _ _ h => h) (Or.inl ⟨by kernel_rfl, ?_⟩) hHeld ?_
    rotate_left
    · intro w hSw
      (try dsimp only at hSw)
      go_split_ands
      go_simp
      (try with_reducible rfl)
    try simp only [Act.put, List.getElem_toArray, List.getElem_cons_succ, List.getElem_cons_zero, List.setIfInBounds_toArray, List.set_cons_zero, List.set_cons_succ]
    refine wpAnyH_take (i := 4) (v := ?_) rfl (by kernel_rfl) (by kernel_rfl) (by kernel_rfl) (fun _ _ _ h => h) (Or.inl ⟨by kernel_rfl, ?_⟩) hHeld ?_
    rotate_left
    · intro w hSw
      (try dsimp only at hSw)
      go_split_ands
      go_simp
      (try with_reducible rfl)
    try simp only [Act.put, List.getElem_toArray, List.getElem_cons_succ, List.getElem_cons_zero, List.setIfInBounds_toArray, List.set_cons_zero, List.set_cons_succ]
    refine wpAnyH_take (i := 5) (v := ?_) rfl (by kernel_rfl) (by kernel_rfl) (by kernel_rfl) (fun _ _ _ h => h) (Or.inl ⟨by kernel_rfl, ?_⟩) hHeld ?_
    rotate_left
    · intro w hSw
      (try dsimp only at hSw)
      go_split_ands
      go_simp
      (try with_reducible rfl)
    try simp only [Act.put, List.getElem_toArray, List.getElem_cons_succ, List.getElem_cons_zero, List.setIfInBounds_toArray, List.set_cons_zero, List.set_cons_succ]
    refine wpAnyH_take (i := 6) (v := ?_) rfl (by kernel_rfl) (by kernel_rfl) (by kernel_rfl) (fun _ _ _ h => h) (Or.inl ⟨by kernel_rfl, ?_⟩) hHeld ?_
    rotate_left
    · intro w hSw
      (try dsimp only at hSw)
      go_split_ands
      go_simp
      (try with_reducible rfl)
    try simp only [Act.put, List.getElem_toArray, List.getElem_cons_succ, List.getElem_cons_zero, List.setIfInBounds_toArray, List.set_cons_zero, List.set_cons_succ]
    refine wpAnyH_ready (rs := [1, 11]) (by kernel_rfl) (by simp) ?_
    refine AllReadyH.cons rfl (fun KK hK => ?_) (AllReadyH.cons rfl (fun KK hK => ?_) AllReadyH.nil)
    · clear hHeld
      go_simp
      refine (own_x _ _ (some ad) (W * H) c px _ (HX.out.ext X_5.out) (fun h => by cases h) (by omega)).mono ?_
      rintro e w6 ⟨⟨xO1, cO1, rfl, hox, _⟩, h⟩
      obtain ⟨aO1, rfl⟩ := hox.isSome HP1.out
      have X_6 := Lib.hid (X_5.out.trans h)
      have P_6 := Lib.hid (P_5.out.ext h)
      have Q_6 := Lib.hid (Q_5.out.ext h)
      clear h X_5 P_5 Q_5
      have O1_6 := Lib.hid (hox)
      clear hox
      go_simp
      refine hK.out _ _ ⟨P_6.out.cell 0, P_6.out.cell 1, P_6.out.cell 2, Q_6.out.cell 0, Q_6.out.cell 1, Q_6.out.cell 2⟩ (fun hHeld => ?_)
      clear hK KK
      try simp only [Act.put, List.getElem_toArray, List.getElem_cons_succ, List.getElem_cons_zero, List.setIfInBounds_toArray, List.set_cons_zero, List.set_cons_succ]
      refine wpAnyH_ready (rs := [3, 11]) (by kernel_rfl) (by simp) ?_
      refine AllReadyH.cons rfl (fun KK hK => ?_) (AllReadyH.cons rfl (fun KK hK => ?_) AllReadyH.nil)
      · clear hHeld
        go_simp
        refine (own_x _ _ (some bd) (QW * QH) d qx _ (HY.out.ext X_6.out) (fun h => by cases h) (by omega)).mono ?_
        rintro e w7 ⟨⟨xO2, cO2, rfl, hox, _⟩, h⟩
        obtain ⟨aO2, rfl⟩ := hox.isSome HP2.out
        have X_7 := Lib.hid (X_6.out.trans h)
        have P_7 := Lib.hid (P_6.out.ext h)
        have Q_7 := Lib.hid (Q_6.out.ext h)
        have O1_7 := Lib.hid (O1_6.out.ext h)
        clear h X_6 P_6 Q_6 O1_6
        have O2_7 := Lib.hid (hox)
        clear hox
        go_simp
        refine hK.out _ _ ⟨P_7.out.cell 0, P_7.out.cell 1, P_7.out.cell 2, Q_7.out.cell 0, Q_7.out.cell 1, Q_7.out.cell 2⟩ (fun hHeld => ?_)
        clear hK KK
        try simp only [Act.put, List.getElem_toArray, List.getElem_cons_succ, List.getElem_cons_zero, List.setIfInBounds_toArray, List.set_cons_zero, List.set_cons_succ]
        refine wpAnyH_ready (rs := [7, 11]) (by kernel_rfl) (by simp) ?_
        refine AllReadyH.cons rfl (fun KK hK => ?_) (AllReadyH.cons rfl (fun KK hK => ?_) AllReadyH.nil)
        · clear hHeld
          go_simp
          refine (stamp_bound _ _ _ _ X Y m _ _ _ _ _ _ E _ (HE.out.ext X_7.out) HR.out HS.out HB.out).mono ?_
          rintro e w8 ⟨rfl, h⟩
          clear O1_7 O2_7
          have X_8 := Lib.hid (X_7.out.trans h)
          have P_8 := Lib.hid (P_7.out.ext h)
          have Q_8 := Lib.hid (Q_7.out.ext h)
          clear h X_7 P_7 Q_7
          go_simp
          refine hK.out _ _ ⟨P_8.out.cell 0, P_8.out.cell 1, P_8.out.cell 2, Q_8.out.cell 0, Q_8.out.cell 1, Q_8.out.cell 2⟩ (fun hHeld => ?_)
          clear hK KK
          try simp only [Act.put, List.getElem_toArray, List.getElem_cons_succ, List.getElem_cons_zero, List.setIfInBounds_toArray, List.set_cons_zero, List.set_cons_succ]
          refine wpAnyH_take (i := 8) (v := ?_) rfl (by kernel_rfl) (by kernel_rfl) (by kernel_rfl) (fun _ _ _ h => h) (Or.inl ⟨by kernel_rfl, ?_⟩) hHeld ?_
          rotate_left
          · intro w hSw
            (try dsimp only at hSw)
            go_split_ands
            go_simp
            (try with_reducible rfl)
          try simp only [Act.put, List.getElem_toArray, List.getElem_cons_succ, List.getElem_cons_zero, List.setIfInBounds_toArray, List.set_cons_zero, List.set_cons_succ]
          refine wpAnyH_take (i := 9) (v := ?_) rfl (by kernel_rfl) (by kernel_rfl) (by kernel_rfl) (fun _ _ _ h => h) (Or.inl ⟨by kernel_rfl, ?_⟩) hHeld ?_
          rotate_left
          · intro w hSw
            (try dsimp only at hSw)
            go_split_ands
            go_simp
            (try with_reducible rfl)
          try simp only [Act.put, List.getElem_toArray, List.getElem_cons_succ, List.getElem_cons_zero, List.setIfInBounds_toArray, List.set_cons_zero, List.set_cons_succ]
          refine wpAnyH_take (i := 10) (v := ?_) rfl (by kernel_rfl) (by kernel_rfl) (by kernel_rfl) (fun _ _ _ h => h) (Or.inl ⟨by kernel_rfl, ?_⟩) hHeld ?_
          rotate_left
          · intro w hSw
            (try dsimp only at hSw)
            go_split_ands
            go_simp
            (try with_reducible rfl)
          try simp only [Act.put, List.getElem_toArray, List.getElem_cons_succ, List.getElem_cons_zero, List.setIfInBounds_toArray, List.set_cons_zero, List.set_cons_succ]
          refine wpAnyH_ready (rs := [11]) (by kernel_rfl) (by simp) ?_
          refine AllReadyH.cons rfl (fun KK hK => ?_) AllReadyH.nil
          clear hHeld
          go_simp
          refine hK.out _ _ ⟨(P_8.out.ext (Ext.alloc (Ext.refl w8) _)).cell 0, (P_8.out.ext (Ext.alloc (Ext.refl w8) _)).cell 1, (P_8.out.ext (Ext.alloc (Ext.refl w8) _)).cell 2, (Q_8.out.ext (Ext.alloc (Ext.refl w8) _)).cell 0, (Q_8.out.ext (Ext.alloc (Ext.refl w8) _)).cell 1, (Q_8.out.ext (Ext.alloc (Ext.refl w8) _)).cell 2⟩ (fun hHeld => ?_)
          clear hK KK hHeld
          try simp only [Act.put, List.getElem_toArray, List.getElem_cons_succ, List.getElem_cons_zero, List.setIfInBounds_toArray, List.set_cons_zero, List.set_cons_succ]
          have NE_P_T := Lib.hid (Nat.ne_of_lt P_8.out.lt)
          have NE_Q_T := Lib.hid (Nat.ne_of_lt Q_8.out.lt)
          have GE_T := Lib.hid X_8.out.size
          refine anyH_world (fun wz => Ext w8 wz ∧ Bk wz w8.heap.size #[.int .i64 0, .int .i64 0, .slice none 0 0]) ⟨Ext.alloc (Ext.refl _) _, Bk.at rfl⟩ ?_
          rintro w9 ⟨h, hB⟩
          have X_9 := Lib.hid (X_8.out.trans h)
          have P_9 := Lib.hid (P_8.out.ext h)
          have Q_9 := Lib.hid (Q_8.out.ext h)
          clear h X_8 P_8 Q_8
          have T_9 := Lib.hid (hB)
          clear hB
          have hHeld : w9.cell? ⟨w.heap.size, 0, none⟩ = some ((.int .i64 (W : Int))) ∧ w9.cell? ⟨w.heap.size, 1, none⟩ = some ((.int .i64 (H : Int))) ∧ w9.cell? ⟨w.heap.size, 2, none⟩ = some ((.slice (some ad) (W * H) c)) ∧ w9.cell? ⟨w.heap.size + 1, 0, none⟩ = some ((.int .i64 (QW : Int))) ∧ w9.cell? ⟨w.heap.size + 1, 1, none⟩ = some ((.int .i64 (QH : Int))) ∧ w9.cell? ⟨w.heap.size + 1, 2, none⟩ = some ((.slice (some bd) (QW * QH) d)) := ⟨P_9.out.cell 0, P_9.out.cell 1, P_9.out.cell 2, Q_9.out.cell 0, Q_9.out.cell 1, Q_9.out.cell 2⟩
          refine wpAnyH_ready (rs := [12]) (by kernel_rfl) (by simp) ?_
          refine AllReadyH.cons rfl (fun KK hK => ?_) AllReadyH.nil
          clear hHeld
          have t0 := T_9.out.cell 0
          have f0 := T_9.out.frozen 0
          have t1 := T_9.out.cell 1
          have f1 := T_9.out.frozen 1
          have t2 := T_9.out.cell 2
          have f2 := T_9.out.frozen 2
          have SF := set3_all (x' := .int .i64 0) (y' := .int .i64 0) (z' := .slice none 0 0) X_9.out GE_T.out T_9.out
          have SFH := Lib.hid SF
          clear SF
          go_simp
          clear t0 t1 t2 f0 f1 f2
          refine hK.out _ _ ⟨(P_9.out.keeps SFH.out.2.2 (NE_P_T.out)).cell 0, (P_9.out.keeps SFH.out.2.2 (NE_P_T.out)).cell 1, (P_9.out.keeps SFH.out.2.2 (NE_P_T.out)).cell 2, (Q_9.out.keeps SFH.out.2.2 (NE_Q_T.out)).cell 0, (Q_9.out.keeps SFH.out.2.2 (NE_Q_T.out)).cell 1, (Q_9.out.keeps SFH.out.2.2 (NE_Q_T.out)).cell 2⟩ (fun hHeld => ?_)
          clear hK KK hHeld
          try simp only [Act.put, List.getElem_toArray, List.getElem_cons_succ, List.getElem_cons_zero, List.setIfInBounds_toArray, List.set_cons_zero, List.set_cons_succ]
          refine anyH_world (fun wz => Ext w wz ∧ Bk wz (w8.heap.size) #[.int .i64 0, .int .i64 0, .slice none 0 0] ∧ Keeps (fun k => k = w8.heap.size) w9 wz) SFH.out ?_
          rintro w10 ⟨hX, hB, hKK⟩
          have X_10 := Lib.hid (hX)
          have P_10 := Lib.hid (P_9.out.keeps hKK (NE_P_T.out))
          have Q_10 := Lib.hid (Q_9.out.keeps hKK (NE_Q_T.out))
          have T_10 := Lib.hid (hB)
          clear hX hB hKK SFH X_9 P_9 Q_9 T_9
          have hHeld : w10.cell? ⟨w.heap.size, 0, none⟩ = some ((.int .i64 (W : Int))) ∧ w10.cell? ⟨w.heap.size, 1, none⟩ = some ((.int .i64 (H : Int))) ∧ w10.cell? ⟨w.heap.size, 2, none⟩ = some ((.slice (some ad) (W * H) c)) ∧ w10.cell? ⟨w.heap.size + 1, 0, none⟩ = some ((.int .i64 (QW : Int))) ∧ w10.cell? ⟨w.heap.size + 1, 1, none⟩ = some ((.int .i64 (QH : Int))) ∧ w10.cell? ⟨w.heap.size + 1, 2, none⟩ = some ((.slice (some bd) (QW * QH) d)) := ⟨P_10.out.cell 0, P_10.out.cell 1, P_10.out.cell 2, Q_10.out.cell 0, Q_10.out.cell 1, Q_10.out.cell 2⟩
          refine wpAnyH_take (i := 13) (v := ?_) rfl (by kernel_rfl) (by kernel_rfl) (by kernel_rfl) (fun _ _ _ h => h) (Or.inl ⟨by kernel_rfl, ?_⟩) hHeld ?_
          rotate_left
          · intro w hSw
            (try dsimp only at hSw)
            go_split_ands
            go_simp
            (try with_reducible rfl)
          try simp only [Act.put, List.getElem_toArray, List.getElem_cons_succ, List.getElem_cons_zero, List.setIfInBounds_toArray, List.set_cons_zero, List.set_cons_succ]
          refine wpAnyH_done (by kernel_rfl) ?_ _
          clear hHeld
          (try go_wp2_with fail)
          go_meet
          exact ⟨_, rfl, rfl, X_10, P_10, Q_10, T_10⟩
        · clear hHeld
          go_simp
          refine hK.out _ _ ⟨(P_7.out.ext (Ext.alloc (Ext.refl w7) _)).cell 0, (P_7.out.ext (Ext.alloc (Ext.refl w7) _)).cell 1, (P_7.out.ext (Ext.alloc (Ext.refl w7) _)).cell 2, (Q_7.out.ext (Ext.alloc (Ext.refl w7) _)).cell 0, (Q_7.out.ext (Ext.alloc (Ext.refl w7) _)).cell 1, (Q_7.out.ext (Ext.alloc (Ext.refl w7) _)).cell 2⟩ (fun hHeld => ?_)
          clear hK KK hHeld
          try simp only [Act.put, List.getElem_toArray, List.getElem_cons_succ, List.getElem_cons_zero, List.setIfInBounds_toArray, List.set_cons_zero, List.set_cons_succ]
          have NE_P_T := Lib.hid (Nat.ne_of_lt P_7.out.lt)
          have NE_Q_T := Lib.hid (Nat.ne_of_lt Q_7.out.lt)
          have GE_T := Lib.hid X_7.out.size
          refine anyH_world (fun wz => Ext w7 wz ∧ Bk wz w7.heap.size #[.int .i64 0, .int .i64 0, .slice none 0 0]) ⟨Ext.alloc (Ext.refl _) _, Bk.at rfl⟩ ?_
          rintro w8 ⟨h, hB⟩
          have X_8 := Lib.hid (X_7.out.trans h)
          have P_8 := Lib.hid (P_7.out.ext h)
          have Q_8 := Lib.hid (Q_7.out.ext h)
          have O1_8 := Lib.hid (O1_7.out.ext h)
          have O2_8 := Lib.hid (O2_7.out.ext h)
          clear h X_7 P_7 Q_7 O1_7 O2_7
          have T_8 := Lib.hid (hB)
          clear hB
          have hHeld : w8.cell? ⟨w.heap.size, 0, none⟩ = some ((.int .i64 (W : Int))) ∧ w8.cell? ⟨w.heap.size, 1, none⟩ = some ((.int .i64 (H : Int))) ∧ w8.cell? ⟨w.heap.size, 2, none⟩ = some ((.slice (some ad) (W * H) c)) ∧ w8.cell? ⟨w.heap.size + 1, 0, none⟩ = some ((.int .i64 (QW : Int))) ∧ w8.cell? ⟨w.heap.size + 1, 1, none⟩ = some ((.int .i64 (QH : Int))) ∧ w8.cell? ⟨w.heap.size + 1, 2, none⟩ = some ((.slice (some bd) (QW * QH) d)) := ⟨P_8.out.cell 0, P_8.out.cell 1, P_8.out.cell 2, Q_8.out.cell 0, Q_8.out.cell 1, Q_8.out.cell 2⟩
          refine wpAnyH_ready (rs := [7]) (by kernel_rfl) (by simp) ?_
          refine AllReadyH.cons rfl (fun KK hK => ?_) AllReadyH.nil
          clear hHeld
          go_simp
          refine (stamp_bound _ _ _ _ X Y m _ _ _ _ _ _ E _ (HE.out.ext X_8.out) HR.out HS.out HB.out).mono ?_
          rintro e w9 ⟨rfl, h⟩
          clear O1_8 O2_8
          have X_9 := Lib.hid (X_8.out.trans h)
          have P_9 := Lib.hid (P_8.out.ext h)
          have Q_9 := Lib.hid (Q_8.out.ext h)
          have T_9 := Lib.hid (T_8.out.ext h)
          clear h X_8 P_8 Q_8 T_8
          go_simp
          refine hK.out _ _ ⟨P_9.out.cell 0, P_9.out.cell 1, P_9.out.cell 2, Q_9.out.cell 0, Q_9.out.cell 1, Q_9.out.cell 2⟩ (fun hHeld => ?_)
          clear hK KK
          try simp only [Act.put, List.getElem_toArray, List.getElem_cons_succ, List.getElem_cons_zero, List.setIfInBounds_toArray, List.set_cons_zero, List.set_cons_succ]
          refine wpAnyH_take (i := 8) (v := ?_) rfl (by kernel_rfl) (by kernel_rfl) (by kernel_rfl) (fun _ _ _ h => h) (Or.inl ⟨by kernel_rfl, ?_⟩) hHeld ?_
          rotate_left
          · intro w hSw
            (try dsimp only at hSw)
            go_split_ands
            go_simp
            (try with_reducible rfl)
          try simp only [Act.put, List.getElem_toArray, List.getElem_cons_succ, List.getElem_cons_zero, List.setIfInBounds_toArray, List.set_cons_zero, List.set_cons_succ]
          refine wpAnyH_take (i := 9) (v := ?_) rfl (by kernel_rfl) (by kernel_rfl) (by kernel_rfl) (fun _ _ _ h => h) (Or.inl ⟨by kernel_rfl, ?_⟩) hHeld ?_
          rotate_left
          · intro w hSw
            (try dsimp only at hSw)
            go_split_ands
            go_simp
            (try with_reducible rfl)
          try simp only [Act.put, List.getElem_toArray, List.getElem_cons_succ, List.getElem_cons_zero, List.setIfInBounds_toArray, List.set_cons_zero, List.set_cons_succ]
          refine wpAnyH_take (i := 10) (v := ?_) rfl (by kernel_rfl) (by kernel_rfl) (by kernel_rfl) (fun _ _ _ h => h) (Or.inl ⟨by kernel_rfl, ?_⟩) hHeld ?_
          rotate_left
          · intro w hSw
            (try dsimp only at hSw)
            go_split_ands
            go_simp
            (try with_reducible rfl)
          try simp only [Act.put, List.getElem_toArray, List.getElem_cons_succ, List.getElem_cons_zero, List.setIfInBounds_toArray, List.set_cons_zero, List.set_cons_succ]
          refine wpAnyH_ready (rs := [12]) (by kernel_rfl) (by simp) ?_
          refine AllReadyH.cons rfl (fun KK hK => ?_) AllReadyH.nil
          clear hHeld
          have t0 := T_9.out.cell 0
          have f0 := T_9.out.frozen 0
          have t1 := T_9.out.cell 1
          have f1 := T_9.out.frozen 1
          have t2 := T_9.out.cell 2
          have f2 := T_9.out.frozen 2
          have SF := set3_all (x' := .int .i64 0) (y' := .int .i64 0) (z' := .slice none 0 0) X_9.out GE_T.out T_9.out
          have SFH := Lib.hid SF
          clear SF
          go_simp
          clear t0 t1 t2 f0 f1 f2
          refine hK.out _ _ ⟨(P_9.out.keeps SFH.out.2.2 (NE_P_T.out)).cell 0, (P_9.out.keeps SFH.out.2.2 (NE_P_T.out)).cell 1, (P_9.out.keeps SFH.out.2.2 (NE_P_T.out)).cell 2, (Q_9.out.keeps SFH.out.2.2 (NE_Q_T.out)).cell 0, (Q_9.out.keeps SFH.out.2.2 (NE_Q_T.out)).cell 1, (Q_9.out.keeps SFH.out.2.2 (NE_Q_T.out)).cell 2⟩ (fun hHeld => ?_)
          clear hK KK hHeld
          try simp only [Act.put, List.getElem_toArray, List.getElem_cons_succ, List.getElem_cons_zero, List.setIfInBounds_toArray, List.set_cons_zero, List.set_cons_succ]
          refine anyH_world (fun wz => Ext w wz ∧ Bk wz (w7.heap.size) #[.int .i64 0, .int .i64 0, .slice none 0 0] ∧ Keeps (fun k => k = w7.heap.size) w9 wz) SFH.out ?_
          rintro w10 ⟨hX, hB, hKK⟩
          have X_10 := Lib.hid (hX)
          have P_10 := Lib.hid (P_9.out.keeps hKK (NE_P_T.out))
          have Q_10 := Lib.hid (Q_9.out.keeps hKK (NE_Q_T.out))
          have T_10 := Lib.hid (hB)
          clear hX hB hKK SFH X_9 P_9 Q_9 T_9
          have hHeld : w10.cell? ⟨w.heap.size, 0, none⟩ = some ((.int .i64 (W : Int))) ∧ w10.cell? ⟨w.heap.size, 1, none⟩ = some ((.int .i64 (H : Int))) ∧ w10.cell? ⟨w.heap.size, 2, none⟩ = some ((.slice (some ad) (W * H) c)) ∧ w10.cell? ⟨w.heap.size + 1, 0, none⟩ = some ((.int .i64 (QW : Int))) ∧ w10.cell? ⟨w.heap.size + 1, 1, none⟩ = some ((.int .i64 (QH : Int))) ∧ w10.cell? ⟨w.heap.size + 1, 2, none⟩ = some ((.slice (some bd) (QW * QH) d)) := ⟨P_10.out.cell 0, P_10.out.cell 1, P_10.out.cell 2, Q_10.out.cell 0, Q_10.out.cell 1, Q_10.out.cell 2⟩
          refine wpAnyH_take (i := 13) (v := ?_) rfl (by kernel_rfl) (by kernel_rfl) (by kernel_rfl) (fun _ _ _ h => h) (Or.inl ⟨by kernel_rfl, ?_⟩) hHeld ?_
          rotate_left
          · intro w hSw
            (try dsimp only at hSw)
            go_split_ands
            go_simp
            (try with_reducible rfl)
          try simp only [Act.put, List.getElem_toArray, List.getElem_cons_succ, List.getElem_cons_zero, List.setIfInBounds_toArray, List.set_cons_zero, List.set_cons_succ]
          refine wpAnyH_done (by kernel_rfl) ?_ _
          clear hHeld
          (try go_wp2_with fail)
          go_meet
          exact ⟨_, rfl, rfl, X_10, P_10, Q_10, T_10⟩
      · clear hHeld
        go_simp
        refine hK.out _ _ ⟨(P_6.out.ext (Ext.alloc (Ext.refl w6) _)).cell 0, (P_6.out.ext (Ext.alloc (Ext.refl w6) _)).cell 1, (P_6.out.ext (Ext.alloc (Ext.refl w6) _)).cell 2, (Q_6.out.ext (Ext.alloc (Ext.refl w6) _)).cell 0, (Q_6.out.ext (Ext.alloc (Ext.refl w6) _)).cell 1, (Q_6.out.ext (Ext.alloc (Ext.refl w6) _)).cell 2⟩ (fun hHeld => ?_)
        clear hK KK hHeld
        try simp only [Act.put, List.getElem_toArray, List.getElem_cons_succ, List.getElem_cons_zero, List.setIfInBounds_toArray, List.set_cons_zero, List.set_cons_succ]
        have NE_P_T := Lib.hid (Nat.ne_of_lt P_6.out.lt)
        have NE_Q_T := Lib.hid (Nat.ne_of_lt Q_6.out.lt)
        have GE_T := Lib.hid X_6.out.size
        refine anyH_world (fun wz => Ext w6 wz ∧ Bk wz w6.heap.size #[.int .i64 0, .int .i64 0, .slice none 0 0]) ⟨Ext.alloc (Ext.refl _) _, Bk.at rfl⟩ ?_
        rintro w7 ⟨h, hB⟩
        have X_7 := Lib.hid (X_6.out.trans h)
        have P_7 := Lib.hid (P_6.out.ext h)
        have Q_7 := Lib.hid (Q_6.out.ext h)
        have O1_7 := Lib.hid (O1_6.out.ext h)
        clear h X_6 P_6 Q_6 O1_6
        have T_7 := Lib.hid (hB)
        clear hB
        have hHeld : w7.cell? ⟨w.heap.size, 0, none⟩ = some ((.int .i64 (W : Int))) ∧ w7.cell? ⟨w.heap.size, 1, none⟩ = some ((.int .i64 (H : Int))) ∧ w7.cell? ⟨w.heap.size, 2, none⟩ = some ((.slice (some ad) (W * H) c)) ∧ w7.cell? ⟨w.heap.size + 1, 0, none⟩ = some ((.int .i64 (QW : Int))) ∧ w7.cell? ⟨w.heap.size + 1, 1, none⟩ = some ((.int .i64 (QH : Int))) ∧ w7.cell? ⟨w.heap.size + 1, 2, none⟩ = some ((.slice (some bd) (QW * QH) d)) := ⟨P_7.out.cell 0, P_7.out.cell 1, P_7.out.cell 2, Q_7.out.cell 0, Q_7.out.cell 1, Q_7.out.cell 2⟩
        refine wpAnyH_ready (rs := [3]) (by kernel_rfl) (by simp) ?_
        refine AllReadyH.cons rfl (fun KK hK => ?_) AllReadyH.nil
        clear hHeld
        go_simp
        refine (own_x _ _ (some bd) (QW * QH) d qx _ (HY.out.ext X_7.out) (fun h => by cases h) (by omega)).mono ?_
        rintro e w8 ⟨⟨xO2, cO2, rfl, hox, _⟩, h⟩
        obtain ⟨aO2, rfl⟩ := hox.isSome HP2.out
        have X_8 := Lib.hid (X_7.out.trans h)
        have P_8 := Lib.hid (P_7.out.ext h)
        have Q_8 := Lib.hid (Q_7.out.ext h)
        have O1_8 := Lib.hid (O1_7.out.ext h)
        have T_8 := Lib.hid (T_7.out.ext h)
        clear h X_7 P_7 Q_7 O1_7 T_7
        have O2_8 := Lib.hid (hox)
        clear hox
        go_simp
        refine hK.out _ _ ⟨P_8.out.cell 0, P_8.out.cell 1, P_8.out.cell 2, Q_8.out.cell 0, Q_8.out.cell 1, Q_8.out.cell 2⟩ (fun hHeld => ?_)
        clear hK KK
        try simp only [Act.put, List.getElem_toArray, List.getElem_cons_succ, List.getElem_cons_zero, List.setIfInBounds_toArray, List.set_cons_zero, List.set_cons_succ]
        refine wpAnyH_ready (rs := [7]) (by kernel_rfl) (by simp) ?_
        refine AllReadyH.cons rfl (fun KK hK => ?_) AllReadyH.nil
        clear hHeld
        go_simp
        refine (stamp_bound _ _ _ _ X Y m _ _ _ _ _ _ E _ (HE.out.ext X_8.out) HR.out HS.out HB.out).mono ?_
        rintro e w9 ⟨rfl, h⟩
        clear O1_8 O2_8
        have X_9 := Lib.hid (X_8.out.trans h)
        have P_9 := Lib.hid (P_8.out.ext h)
        have Q_9 := Lib.hid (Q_8.out.ext h)
        have T_9 := Lib.hid (T_8.out.ext h)
        clear h X_8 P_8 Q_8 T_8
        go_simp
        refine hK.out _ _ ⟨P_9.out.cell 0, P_9.out.cell 1, P_9.out.cell 2, Q_9.out.cell 0, Q_9.out.cell 1, Q_9.out.cell 2⟩ (fun hHeld => ?_)
        clear hK KK
        try simp only [Act.put, List.getElem_toArray, List.getElem_cons_succ, List.getElem_cons_zero, List.setIfInBounds_toArray, List.set_cons_zero, List.set_cons_succ]
        refine wpAnyH_take (i := 8) (v := ?_) rfl (by kernel_rfl) (by kernel_rfl) (by kernel_rfl) (fun _ _ _ h => h) (Or.inl ⟨by kernel_rfl, ?_⟩) hHeld ?_
        rotate_left
        · intro w hSw
          (try dsimp only at hSw)
          go_split_ands
          go_simp
          (try with_reducible rfl)
        try simp only [Act.put, List.getElem_toArray, List.getElem_cons_succ, List.getElem_cons_zero, List.setIfInBounds_toArray, List.set_cons_zero, List.set_cons_succ]
        refine wpAnyH_take (i := 9) (v := ?_) rfl (by kernel_rfl) (by kernel_rfl) (by kernel_rfl) (fun _ _ _ h => h) (Or.inl ⟨by kernel_rfl, ?_⟩) hHeld ?_
        rotate_left
        · intro w hSw
          (try dsimp only at hSw)
          go_split_ands
          go_simp
          (try with_reducible rfl)
        try simp only [Act.put, List.getElem_toArray, List.getElem_cons_succ, List.getElem_cons_zero, List.setIfInBounds_toArray, List.set_cons_zero, List.set_cons_succ]
        refine wpAnyH_take (i := 10) (v := ?_) rfl (by kernel_rfl) (by kernel_rfl) (by kernel_rfl) (fun _ _ _ h => h) (Or.inl ⟨by kernel_rfl, ?_⟩) hHeld ?_
        rotate_left
        · intro w hSw
          (try dsimp only at hSw)
          go_split_ands
          go_simp
          (try with_reducible rfl)
        try simp only [Act.put, List.getElem_toArray, List.getElem_cons_succ, List.getElem_cons_zero, List.setIfInBounds_toArray, List.set_cons_zero, List.set_cons_succ]
        refine wpAnyH_ready (rs := [12]) (by kernel_rfl) (by simp) ?_
        refine AllReadyH.cons rfl (fun KK hK => ?_) AllReadyH.nil
        clear hHeld
        have t0 := T_9.out.cell 0
        have f0 := T_9.out.frozen 0
        have t1 := T_9.out.cell 1
        have f1 := T_9.out.frozen 1
        have t2 := T_9.out.cell 2
        have f2 := T_9.out.frozen 2
        have SF := set3_all (x' := .int .i64 0) (y' := .int .i64 0) (z' := .slice none 0 0) X_9.out GE_T.out T_9.out
        have SFH := Lib.hid SF
        clear SF
        go_simp
        clear t0 t1 t2 f0 f1 f2
        refine hK.out _ _ ⟨(P_9.out.keeps SFH.out.2.2 (NE_P_T.out)).cell 0, (P_9.out.keeps SFH.out.2.2 (NE_P_T.out)).cell 1, (P_9.out.keeps SFH.out.2.2 (NE_P_T.out)).cell 2, (Q_9.out.keeps SFH.out.2.2 (NE_Q_T.out)).cell 0, (Q_9.out.keeps SFH.out.2.2 (NE_Q_T.out)).cell 1, (Q_9.out.keeps SFH.out.2.2 (NE_Q_T.out)).cell 2⟩ (fun hHeld => ?_)
        clear hK KK hHeld
        try simp only [Act.put, List.getElem_toArray, List.getElem_cons_succ, List.getElem_cons_zero, List.setIfInBounds_toArray, List.set_cons_zero, List.set_cons_succ]
        refine anyH_world (fun wz => Ext w wz ∧ Bk wz (w6.heap.size) #[.int .i64 0, .int .i64 0, .slice none 0 0] ∧ Keeps (fun k => k = w6.heap.size) w9 wz) SFH.out ?_
        rintro w10 ⟨hX, hB, hKK⟩
        have X_10 := Lib.hid (hX)
        have P_10 := Lib.hid (P_9.out.keeps hKK (NE_P_T.out))
        have Q_10 := Lib.hid (Q_9.out.keeps hKK (NE_Q_T.out))
        have T_10 := Lib.hid (hB)
        clear hX hB hKK SFH X_9 P_9 Q_9 T_9
        have hHeld : w10.cell? ⟨w.heap.size, 0, none⟩ = some ((.int .i64 (W : Int))) ∧ w10.cell? ⟨w.heap.size, 1, none⟩ = some ((.int .i64 (H : Int))) ∧ w10.cell? ⟨w.heap.size, 2, none⟩ = some ((.slice (some ad) (W * H) c)) ∧ w10.cell? ⟨w.heap.size + 1, 0, none⟩ = some ((.int .i64 (QW : Int))) ∧ w10.cell? ⟨w.heap.size + 1, 1, none⟩ = some ((.int .i64 (QH : Int))) ∧ w10.cell? ⟨w.heap.size + 1, 2, none⟩ = some ((.slice (some bd) (QW * QH) d)) := ⟨P_10.out.cell 0, P_10.out.cell 1, P_10.out.cell 2, Q_10.out.cell 0, Q_10.out.cell 1, Q_10.out.cell 2⟩
        refine wpAnyH_take (i := 13) (v := ?_) rfl (by kernel_rfl) (by kernel_rfl) (by kernel_rfl) (fun _ _ _ h => h) (Or.inl ⟨by kernel_rfl, ?_⟩) hHeld ?_
        rotate_left
        · intro w hSw
          (try dsimp only at hSw)
          go_split_ands
          go_simp
          (try with_reducible rfl)
        try simp only [Act.put, List.getElem_toArray, List.getElem_cons_succ, List.getElem_cons_zero, List.setIfInBounds_toArray, List.set_cons_zero, List.set_cons_succ]
        refine wpAnyH_done (by kernel_rfl) ?_ _
        clear hHeld
        (try go_wp2_with fail)
        go_meet
        exact ⟨_, rfl, rfl, X_10, P_10, Q_10, T_10⟩
    · clear hHeld
      go_simp
      refine hK.out _ _ ⟨(P_5.out.ext (Ext.alloc (Ext.refl w5) _)).cell 0, (P_5.out.ext (Ext.alloc (Ext.refl w5) _)).cell 1, (P_5.out.ext (Ext.alloc (Ext.refl w5) _)).cell 2, (Q_5.out.ext (Ext.alloc (Ext.refl w5) _)).cell 0, (Q_5.out.ext (Ext.alloc (Ext.refl w5) _)).cell 1, (Q_5.out.ext (Ext.alloc (Ext.refl w5) _)).cell 2⟩ (fun hHeld => ?_)
      clear hK KK hHeld
      try simp only [Act.put, List.getElem_toArray, List.getElem_cons_succ, List.getElem_cons_zero, List.setIfInBounds_toArray, List.set_cons_zero, List.set_cons_succ]
      have NE_P_T := Lib.hid (Nat.ne_of_lt P_5.out.lt)
      have NE_Q_T := Lib.hid (Nat.ne_of_lt Q_5.out.lt)
      have GE_T := Lib.hid X_5.out.size
      refine anyH_world (fun wz => Ext w5 wz ∧ Bk wz w5.heap.size #[.int .i64 0, .int .i64 0, .slice none 0 0]) ⟨Ext.alloc (Ext.refl _) _, Bk.at rfl⟩ ?_
      rintro w6 ⟨h, hB⟩
      have X_6 := Lib.hid (X_5.out.trans h)
      have P_6 := Lib.hid (P_5.out.ext h)
      have Q_6 := Lib.hid (Q_5.out.ext h)
      clear h X_5 P_5 Q_5
      have T_6 := Lib.hid (hB)
      clear hB
      have hHeld : w6.cell? ⟨w.heap.size, 0, none⟩ = some ((.int .i64 (W : Int))) ∧ w6.cell? ⟨w.heap.size, 1, none⟩ = some ((.int .i64 (H : Int))) ∧ w6.cell? ⟨w.heap.size, 2, none⟩ = some ((.slice (some ad) (W * H) c)) ∧ w6.cell? ⟨w.heap.size + 1, 0, none⟩ = some ((.int .i64 (QW : Int))) ∧ w6.cell? ⟨w.heap.size + 1, 1, none⟩ = some ((.int .i64 (QH : Int))) ∧ w6.cell? ⟨w.heap.size + 1, 2, none⟩ = some ((.slice (some bd) (QW * QH) d)) := ⟨P_6.out.cell 0, P_6.out.cell 1, P_6.out.cell 2, Q_6.out.cell 0, Q_6.out.cell 1, Q_6.out.cell 2⟩
      refine wpAnyH_ready (rs := [1]) (by kernel_rfl) (by simp) ?_
      refine AllReadyH.cons rfl (fun KK hK => ?_) AllReadyH.nil
      clear hHeld
      go_simp
      refine (own_x _ _ (some ad) (W * H) c px _ (HX.out.ext X_6.out) (fun h => by cases h) (by omega)).mono ?_
      rintro e w7 ⟨⟨xO1, cO1, rfl, hox, _⟩, h⟩
      obtain ⟨aO1, rfl⟩ := hox.isSome HP1.out
      have X_7 := Lib.hid (X_6.out.trans h)
      have P_7 := Lib.hid (P_6.out.ext h)
      have Q_7 := Lib.hid (Q_6.out.ext h)
      have T_7 := Lib.hid (T_6.out.ext h)
      clear h X_6 P_6 Q_6 T_6
      have O1_7 := Lib.hid (hox)
      clear hox
      go_simp
      refine hK.out _ _ ⟨P_7.out.cell 0, P_7.out.cell 1, P_7.out.cell 2, Q_7.out.cell 0, Q_7.out.cell 1, Q_7.out.cell 2⟩ (fun hHeld => ?_)
      clear hK KK
      try simp only [Act.put, List.getElem_toArray, List.getElem_cons_succ, List.getElem_cons_zero, List.setIfInBounds_toArray, List.set_cons_zero, List.set_cons_succ]
      refine wpAnyH_ready (rs := [3]) (by kernel_rfl) (by simp) ?_
      refine AllReadyH.cons rfl (fun KK hK => ?_) AllReadyH.nil
      clear hHeld
      go_simp
      refine (own_x _ _ (some bd) (QW * QH) d qx _ (HY.out.ext X_7.out) (fun h => by cases h) (by omega)).mono ?_
      rintro e w8 ⟨⟨xO2, cO2, rfl, hox, _⟩, h⟩
      obtain ⟨aO2, rfl⟩ := hox.isSome HP2.out
      have X_8 := Lib.hid (X_7.out.trans h)
      have P_8 := Lib.hid (P_7.out.ext h)
      have Q_8 := Lib.hid (Q_7.out.ext h)
      have T_8 := Lib.hid (T_7.out.ext h)
      have O1_8 := Lib.hid (O1_7.out.ext h)
      clear h X_7 P_7 Q_7 T_7 O1_7
      have O2_8 := Lib.hid (hox)
      clear hox
      go_simp
      refine hK.out _ _ ⟨P_8.out.cell 0, P_8.out.cell 1, P_8.out.cell 2, Q_8.out.cell 0, Q_8.out.cell 1, Q_8.out.cell 2⟩ (fun hHeld => ?_)
      clear hK KK
      try simp only [Act.put, List.getElem_toArray, List.getElem_cons_succ, List.getElem_cons_zero, List.setIfInBounds_toArray, List.set_cons_zero, List.set_cons_succ]
      refine wpAnyH_ready (rs := [7]) (by kernel_rfl) (by simp) ?_
      refine AllReadyH.cons rfl (fun KK hK => ?_) AllReadyH.nil
      clear hHeld
      go_simp
      refine (stamp_bound _ _ _ _ X Y m _ _ _ _ _ _ E _ (HE.out.ext X_8.out) HR.out HS.out HB.out).mono ?_
      rintro e w9 ⟨rfl, h⟩
      clear O1_8 O2_8
      have X_9 := Lib.hid (X_8.out.trans h)
      have P_9 := Lib.hid (P_8.out.ext h)
      have Q_9 := Lib.hid (Q_8.out.ext h)
      have T_9 := Lib.hid (T_8.out.ext h)
      clear h X_8 P_8 Q_8 T_8
      go_simp
      refine hK.out _ _ ⟨P_9.out.cell 0, P_9.out.cell 1, P_9.out.cell 2, Q_9.out.cell 0, Q_9.out.cell 1, Q_9.out.cell 2⟩ (fun hHeld => ?_)
      clear hK KK
      try simp only [Act.put, List.getElem_toArray, List.getElem_cons_succ, List.getElem_cons_zero, List.setIfInBounds_toArray, List.set_cons_zero, List.set_cons_succ]
      refine wpAnyH_take (i := 8) (v := ?_) rfl (by kernel_rfl) (by kernel_rfl) (by kernel_rfl) (fun _ _ _ h => h) (Or.inl ⟨by kernel_rfl, ?_⟩) hHeld ?_
      rotate_left
      · intro w hSw
        (try dsimp only at hSw)
        go_split_ands
        go_simp
        (try with_reducible rfl)
      try simp only [Act.put, List.getElem_toArray, List.getElem_cons_succ, List.getElem_cons_zero, List.setIfInBounds_toArray, List.set_cons_zero, List.set_cons_succ]
      refine wpAnyH_take (i := 9) (v := ?_) rfl (by kernel_rfl) (by kernel_rfl) (by kernel_rfl) (fun _ _ _ h => h) (Or.inl ⟨by kernel_rfl, ?_⟩) hHeld ?_
      rotate_left
      · intro w hSw
        (try dsimp only at hSw)
        go_split_ands
        go_simp
        (try with_reducible rfl)
      try simp only [Act.put, List.getElem_toArray, List.getElem_cons_succ, List.getElem_cons_zero, List.setIfInBounds_toArray, List.set_cons_zero, List.set_cons_succ]
      refine wpAnyH_take (i := 10) (v := ?_) rfl (by kernel_rfl) (by kernel_rfl) (by kernel_rfl) (fun _ _ _ h => h) (Or.inl ⟨by kernel_rfl, ?_⟩) hHeld ?_
      rotate_left
      · intro w hSw
        (try dsimp only at hSw)
        go_split_ands
        go_simp
        (try with_reducible rfl)
      try simp only [Act.put, List.getElem_toArray, List.getElem_cons_succ, List.getElem_cons_zero, List.setIfInBounds_toArray, List.set_cons_zero, List.set_cons_succ]
      refine wpAnyH_ready (rs := [12]) (by kernel_rfl) (by simp) ?_
      refine AllReadyH.cons rfl (fun KK hK => ?_) AllReadyH.nil
      clear hHeld
      have t0 := T_9.out.cell 0
      have f0 := T_9.out.frozen 0
      have t1 := T_9.out.cell 1
      have f1 := T_9.out.frozen 1
      have t2 := T_9.out.cell 2
      have f2 := T_9.out.frozen 2
      have SF := set3_all (x' := .int .i64 0) (y' := .int .i64 0) (z' := .slice none 0 0) X_9.out GE_T.out T_9.out
      have SFH := Lib.hid SF
      clear SF
      go_simp
      clear t0 t1 t2 f0 f1 f2
      refine hK.out _ _ ⟨(P_9.out.keeps SFH.out.2.2 (NE_P_T.out)).cell 0, (P_9.out.keeps SFH.out.2.2 (NE_P_T.out)).cell 1, (P_9.out.keeps SFH.out.2.2 (NE_P_T.out)).cell 2, (Q_9.out.keeps SFH.out.2.2 (NE_Q_T.out)).cell 0, (Q_9.out.keeps SFH.out.2.2 (NE_Q_T.out)).cell 1, (Q_9.out.keeps SFH.out.2.2 (NE_Q_T.out)).cell 2⟩ (fun hHeld => ?_)
      clear hK KK hHeld
      try simp only [Act.put, List.getElem_toArray, List.getElem_cons_succ, List.getElem_cons_zero, List.setIfInBounds_toArray, List.set_cons_zero, List.set_cons_succ]
      refine anyH_world (fun wz => Ext w wz ∧ Bk wz (w5.heap.size) #[.int .i64 0, .int .i64 0, .slice none 0 0] ∧ Keeps (fun k => k = w5.heap.size) w9 wz) SFH.out ?_
      rintro w10 ⟨hX, hB, hKK⟩
      have X_10 := Lib.hid (hX)
      have P_10 := Lib.hid (P_9.out.keeps hKK (NE_P_T.out))
      have Q_10 := Lib.hid (Q_9.out.keeps hKK (NE_Q_T.out))
      have T_10 := Lib.hid (hB)
      clear hX hB hKK SFH X_9 P_9 Q_9 T_9
      have hHeld : w10.cell? ⟨w.heap.size, 0, none⟩ = some ((.int .i64 (W : Int))) ∧ w10.cell? ⟨w.heap.size, 1, none⟩ = some ((.int .i64 (H : Int))) ∧ w10.cell? ⟨w.heap.size, 2, none⟩ = some ((.slice (some ad) (W * H) c)) ∧ w10.cell? ⟨w.heap.size + 1, 0, none⟩ = some ((.int .i64 (QW : Int))) ∧ w10.cell? ⟨w.heap.size + 1, 1, none⟩ = some ((.int .i64 (QH : Int))) ∧ w10.cell? ⟨w.heap.size + 1, 2, none⟩ = some ((.slice (some bd) (QW * QH) d)) := ⟨P_10.out.cell 0, P_10.out.cell 1, P_10.out.cell 2, Q_10.out.cell 0, Q_10.out.cell 1, Q_10.out.cell 2⟩
      refine wpAnyH_take (i := 13) (v := ?_) rfl (by kernel_rfl) (by kernel_rfl) (by kernel_rfl) (fun _ _ _ h => h) (Or.inl ⟨by kernel_rfl, ?_⟩) hHeld ?_
      rotate_left
      · intro w hSw
        (try dsimp only at hSw)
        go_split_ands
        go_simp
        (try with_reducible rfl)
      try simp only [Act.put, List.getElem_toArray, List.getElem_cons_succ, List.getElem_cons_zero, List.setIfInBounds_toArray, List.set_cons_zero, List.set_cons_succ]
      refine wpAnyH_done (by kernel_rfl) ?_ _
      clear hHeld
      (try go_wp2_with fail)
      go_meet
      exact ⟨_, rfl, rfl, X_10, P_10, Q_10, T_10⟩
  case rest =>
    obtain ⟨T, rfl, rfl, X_100, P_100, Q_100, T_100⟩ := hcut
    clear X_4 P_4 Q_4
    go_upto_region 6 with fail
    go_cut [52] (fun s52 wx => s52 = .bool (!goodB X Y m) ∧ Hid (Ext w wx) ∧ Hid (Bk wx w.heap.size #[(.int .i64 (W : Int)), (.int .i64 (H : Int)), (.slice (some ad) (W * H) c)]) ∧ Hid (Bk wx (w.heap.size + 1) #[(.int .i64 (QW : Int)), (.int .i64 (QH : Int)), (.slice (some bd) (QW * QH) d)]) ∧ Hid (Bk wx T #[.int .i64 0, .int .i64 0, .slice none 0 0]))
    case first =>
      go_wp2_with fail
      refine (refNear_any X _).mono ?_
      rintro e w9 ⟨rfl, rfl⟩
      cases n0 : nearB X
      · have NV : Hid (goodB X Y m = false) := Lib.hid (by simp only [goodB, n0]; rfl)
        go_wp2_with fail
        go_meet
        exact ⟨by rw [NV.out]; rfl, X_100, P_100, Q_100, T_100⟩
      · go_wp2_with fail
        refine (refNear_any Y _).mono ?_
        rintro e w9 ⟨rfl, rfl⟩
        cases n1 : nearB Y
        · have NV : Hid (goodB X Y m = false) := Lib.hid (by simp only [goodB, n0, n1]; rfl)
          go_wp2_with fail
          go_meet
          exact ⟨by rw [NV.out]; rfl, X_100, P_100, Q_100, T_100⟩
        · go_wp2_with fail
          refine (isMode_any m _).mono ?_
          rintro e w9 ⟨rfl, rfl⟩
          cases n2 : decide (0 ≤ m ∧ m < 6)
          · have NV : Hid (goodB X Y m = false) := Lib.hid (by simp only [goodB, n0, n1, n2]; rfl)
            go_wp2_with fail
            go_meet
            exact ⟨by rw [NV.out]; rfl, X_100, P_100, Q_100, T_100⟩
          · have NV : Hid (goodB X Y m = true) := Lib.hid (by simp only [goodB, n0, n1, n2]; rfl)
            go_wp2_with fail
            go_meet
            exact ⟨by rw [NV.out]; rfl, X_100, P_100, Q_100, T_100⟩
    case rest =>
      obtain ⟨rfl, X_101, P_101, Q_101, T_101⟩ := hcut
      clear X_100 P_100 Q_100 T_100
      rw [HB.out]
      have k0 := P_101.out.cell 0
      have k1 := P_101.out.cell 1
      have k2 := P_101.out.cell 2
      go_wp2_with fail
      refine (refRight_any _ _ _ _ _ _).mono ?_
      rintro e w102 ⟨rfl, h⟩
      have X_102 := Lib.hid (X_101.out.trans h)
      have P_102 := Lib.hid (P_101.out.ext h)
      have Q_102 := Lib.hid (Q_101.out.ext h)
      have T_102 := Lib.hid (T_101.out.ext h)
      clear h X_101 P_101 Q_101 T_101
      clear k0 k1 k2
      rw [HR.out]
      have k0 := Q_102.out.cell 0
      have k1 := Q_102.out.cell 1
      have k2 := Q_102.out.cell 2
      go_wp2_with fail
      refine (refRight_any _ _ _ _ _ _).mono ?_
      rintro e w103 ⟨rfl, h⟩
      have X_103 := Lib.hid (X_102.out.trans h)
      have P_103 := Lib.hid (P_102.out.ext h)
      have Q_103 := Lib.hid (Q_102.out.ext h)
      have T_103 := Lib.hid (T_102.out.ext h)
      clear h X_102 P_102 Q_102 T_102
      clear k0 k1 k2
      rw [HS.out]
      have k0 := T_103.out.cell 0
      have k1 := T_103.out.cell 1
      have k2 := T_103.out.cell 2
      have k3 := P_103.out.cell 0
      have k4 := P_103.out.cell 1
      have k5 := P_103.out.cell 2
      go_wp2_with fail
      refine (told_err _ 1 _ _ _ _ _ _ E (HE.out.ext X_103.out) (.sent 1 (by decide))).mono ?_
      rintro e w104 ⟨rfl, h⟩
      have X_104 := Lib.hid (X_103.out.trans h)
      have P_104 := Lib.hid (P_103.out.ext h)
      have Q_104 := Lib.hid (Q_103.out.ext h)
      have T_104 := Lib.hid (T_103.out.ext h)
      clear h X_103 P_103 Q_103 T_103
      clear k0 k1 k2 k3 k4 k5
      go_wp2_with fail
      go_ret
      exact ⟨rfl, X_104.out⟩
set_option linter.unusedSimpArgs false in
set_option maxHeartbeats 4000000 in
theorem stamps_ok (W H QW QH : Nat) (X Y m : Int) (ad bd : Addr) (c d : Nat) (px qx : Nat → P4) (w : World) (E : Nat → Addr) (hE : Errs w E) (hx : Pxs w (some ad) (W * H) px) (hy : Pxs w (some bd) (QW * QH) qx) (hn : W * H ≤ 3000) (hk : QW * QH ≤ 3000) (hWH : 1 ≤ W ∧ W ≤ 256 ∧ 1 ≤ H ∧ H ≤ 256) (hQH : 1 ≤ QW ∧ QW ≤ 256 ∧ 1 ≤ QH ∧ QH ≤ 256) (hB : goodB X Y m = true) :
    Calls Tryd.prog 8 #[.agg #[(.int .i64 (W : Int)), (.int .i64 (H : Int)), (.slice (some ad) (W * H) c)], .agg #[(.int .i64 (QW : Int)), (.int .i64 (QH : Int)), (.slice (some bd) (QW * QH) d)], .int .i64 X, .int .i64 Y, .int .i64 m] w fun e w' => e = .returned (.bool true) ∧ Ext w w' := by
  have HE := Lib.hid hE
  have HX := Lib.hid hx
  have HY := Lib.hid hy
  have HD := Lib.hid (decide_eq_true hn)
  have HD2 := Lib.hid (decide_eq_true hk)
  have HB := Lib.hid hB
  have HR : Hid (rightB (W : Int) (H : Int) (W * H) = true) := Lib.hid (right_of ⟨hWH.1, hWH.2.1⟩ hWH.2.2)
  have HS : Hid (rightB (QW : Int) (QH : Int) (QW * QH) = true) := Lib.hid (right_of ⟨hQH.1, hQH.2.1⟩ hQH.2.2)
  have HP1 : Hid (0 < W * H) := Lib.hid (Nat.mul_pos hWH.1 hWH.2.2.1)
  have HP2 : Hid (0 < QW * QH) := Lib.hid (Nat.mul_pos hQH.1 hQH.2.2.1)
  have HWH := Lib.hid hWH
  have HQH := Lib.hid hQH
  clear hE hx hy hB hWH hQH
  go_enter Tryd.func8, Tryd.ntmps8
  go_wp2_with fail
  refine calls_world (fun wz => Ext w wz ∧ wz.heap.size = w.heap.size + 1 + 1 ∧ Bk wz (w.heap.size) #[(.int .i64 (W : Int)), (.int .i64 (H : Int)), (.slice (some ad) (W * H) c)] ∧ Bk wz (w.heap.size + 1) #[(.int .i64 (QW : Int)), (.int .i64 (QH : Int)), (.slice (some bd) (QW * QH) d)]) ⟨by repeat (first | exact Ext.refl _ | refine Ext.alloc ?_ _), by simp, by repeat (first | exact Bk.at (by simp) | refine Bk.old ?_), by repeat (first | exact Bk.at (by simp) | refine Bk.old ?_)⟩ ?_
  rintro w1 ⟨hX, hZ, hB0, hB1⟩
  have X_1 := Lib.hid (hX)
  have P_1 := Lib.hid (hB0)
  have Q_1 := Lib.hid (hB1)
  clear hX hZ hB0 hB1
  refine (plainly_any _).mono ?_
  rintro e w2 ⟨rfl, h⟩
  have X_2 := Lib.hid (X_1.out.trans h)
  have P_2 := Lib.hid (P_1.out.ext h)
  have Q_2 := Lib.hid (Q_1.out.ext h)
  clear h X_1 P_1 Q_1
  have k0 := P_2.out.cell 0
  have k1 := P_2.out.cell 1
  have k2 := P_2.out.cell 2
  go_wp2_with fail
  refine (small_any _ _ _ _ _ _ (by unfold maxLen; omega)).mono ?_
  rintro e w3 ⟨rfl, h⟩
  have X_3 := Lib.hid (X_2.out.trans h)
  have P_3 := Lib.hid (P_2.out.ext h)
  have Q_3 := Lib.hid (Q_2.out.ext h)
  clear h X_2 P_2 Q_2
  clear k0 k1 k2
  rw [HD.out]
  have k0 := Q_3.out.cell 0
  have k1 := Q_3.out.cell 1
  have k2 := Q_3.out.cell 2
  go_wp2_with fail
  refine (small_any _ _ _ _ _ _ (by unfold maxLen; omega)).mono ?_
  rintro e w4 ⟨rfl, h⟩
  have X_4 := Lib.hid (X_3.out.trans h)
  have P_4 := Lib.hid (P_3.out.ext h)
  have Q_4 := Lib.hid (Q_3.out.ext h)
  clear h X_3 P_3 Q_3
  clear k0 k1 k2
  rw [HD2.out]
  go_upto_region 4 with fail
  go_cut [12, 13] (fun s12 s13 wx => ∃ T, s12 = .pointer (some ⟨T, 0, none⟩) ∧ s13 = .nilIface ∧ Hid (Ext w wx) ∧ Hid (Bk wx w.heap.size #[(.int .i64 (W : Int)), (.int .i64 (H : Int)), (.slice (some ad) (W * H) c)]) ∧ Hid (Bk wx (w.heap.size + 1) #[(.int .i64 (QW : Int)), (.int .i64 (QH : Int)), (.slice (some bd) (QW * QH) d)]) ∧ ∃ fx fc, Hid (Bk wx T #[(.int .i64 (W : Int)), (.int .i64 (H : Int)), (.slice fx (W * H) fc)]) ∧ Hid (Pxs wx fx (W * H) (stP W QW QH X Y m px qx (H * W))))
  case first =>
    have k0 := P_4.out.cell 0
    have k1 := P_4.out.cell 1
    have k2 := P_4.out.cell 2
    have k3 := Q_4.out.cell 0
    have k4 := Q_4.out.cell 1
    have k5 := Q_4.out.cell 2
    refine wp_region_held_drew (S := fun w' => w'.cell? ⟨w.heap.size, 0, none⟩ = some ((.int .i64 (W : Int))) ∧ w'.cell? ⟨w.heap.size, 1, none⟩ = some ((.int .i64 (H : Int))) ∧ w'.cell? ⟨w.heap.size, 2, none⟩ = some ((.slice (some ad) (W * H) c)) ∧ w'.cell? ⟨w.heap.size + 1, 0, none⟩ = some ((.int .i64 (QW : Int))) ∧ w'.cell? ⟨w.heap.size + 1, 1, none⟩ = some ((.int .i64 (QH : Int))) ∧ w'.cell? ⟨w.heap.size + 1, 2, none⟩ = some ((.slice (some bd) (QW * QH) d))) (by kernel_rfl) ⟨P_4.out.cell 0, P_4.out.cell 1, P_4.out.cell 2, Q_4.out.cell 0, Q_4.out.cell 1, Q_4.out.cell 2⟩ (fun hHeld => ?_)
    clear hHeld
    clear k0 k1 k2 k3 k4 k5
    refine anyH_world (fun wz => Ext w4 wz) (show Ext w4 w4.drew from Below.drew (Ext.refl w4)) ?_
    rintro w5 h
    have X_5 := Lib.hid (X_4.out.trans h)
    have P_5 := Lib.hid (P_4.out.ext h)
    have Q_5 := Lib.hid (Q_4.out.ext h)
    clear h X_4 P_4 Q_4
    have hHeld : w5.cell? ⟨w.heap.size, 0, none⟩ = some ((.int .i64 (W : Int))) ∧ w5.cell? ⟨w.heap.size, 1, none⟩ = some ((.int .i64 (H : Int))) ∧ w5.cell? ⟨w.heap.size, 2, none⟩ = some ((.slice (some ad) (W * H) c)) ∧ w5.cell? ⟨w.heap.size + 1, 0, none⟩ = some ((.int .i64 (QW : Int))) ∧ w5.cell? ⟨w.heap.size + 1, 1, none⟩ = some ((.int .i64 (QH : Int))) ∧ w5.cell? ⟨w.heap.size + 1, 2, none⟩ = some ((.slice (some bd) (QW * QH) d)) := ⟨P_5.out.cell 0, P_5.out.cell 1, P_5.out.cell 2, Q_5.out.cell 0, Q_5.out.cell 1, Q_5.out.cell 2⟩
    refine wpAnyH_take (i := 0) (v := ?_) rfl (by kernel_rfl) (by kernel_rfl) (by kernel_rfl) (fun _ _ _ h => h) (Or.inl ⟨by kernel_rfl, ?_⟩) hHeld ?_
    rotate_left
    · intro w hSw
      (try dsimp only at hSw)
      go_split_ands
      go_simp
      (try with_reducible rfl)
    try simp only [Act.put, List.getElem_toArray, List.getElem_cons_succ, List.getElem_cons_zero, List.setIfInBounds_toArray, List.set_cons_zero, List.set_cons_succ]
    refine wpAnyH_take (i := 2) (v := ?_) rfl (by kernel_rfl) (by kernel_rfl) (by kernel_rfl) (fun _ _ _ h => h) (Or.inl ⟨by kernel_rfl, ?_⟩) hHeld ?_
    rotate_left
    · intro w hSw
      (try dsimp only at hSw)
      go_split_ands
      go_simp
      (try with_reducible rfl)
    try simp only [Act.put, List.getElem_toArray, List.getElem_cons_succ, List.getElem_cons_zero, List.setIfInBounds_toArray, List.set_cons_zero, List.set_cons_succ]
    refine wpAnyH_take (i := 4) (v := ?_) rfl (by kernel_rfl) (by kernel_rfl) (by kernel_rfl) (fun _ _ _ h => h) (Or.inl ⟨by kernel_rfl, ?_⟩) hHeld ?_
    rotate_left
    · intro w hSw
      (try dsimp only at hSw)
      go_split_ands
      go_simp
      (try with_reducible rfl)
    try simp only [Act.put, List.getElem_toArray, List.getElem_cons_succ, List.getElem_cons_zero, List.setIfInBounds_toArray, List.set_cons_zero, List.set_cons_succ]
    refine wpAnyH_take (i := 5) (v := ?_) rfl (by kernel_rfl) (by kernel_rfl) (by kernel_rfl) (fun _ _ _ h => h) (Or.inl ⟨by kernel_rfl, ?_⟩) hHeld ?_
    rotate_left
    · intro w hSw
      (try dsimp only at hSw)
      go_split_ands
      go_simp
      (try with_reducible rfl)
    try simp only [Act.put, List.getElem_toArray, List.getElem_cons_succ, List.getElem_cons_zero, List.setIfInBounds_toArray, List.set_cons_zero, List.set_cons_succ]
    refine wpAnyH_take (i := 6) (v := ?_) rfl (by kernel_rfl) (by kernel_rfl) (by kernel_rfl) (fun _ _ _ h => h) (Or.inl ⟨by kernel_rfl, ?_⟩) hHeld ?_
    rotate_left
    · intro w hSw
      (try dsimp only at hSw)
      go_split_ands
      go_simp
      (try with_reducible rfl)
    try simp only [Act.put, List.getElem_toArray, List.getElem_cons_succ, List.getElem_cons_zero, List.setIfInBounds_toArray, List.set_cons_zero, List.set_cons_succ]
    refine wpAnyH_ready (rs := [1, 11]) (by kernel_rfl) (by simp) ?_
    refine AllReadyH.cons rfl (fun KK hK => ?_) (AllReadyH.cons rfl (fun KK hK => ?_) AllReadyH.nil)
    · clear hHeld
      go_simp
      refine (own_x _ _ (some ad) (W * H) c px _ (HX.out.ext X_5.out) (fun h => by cases h) (by omega)).mono ?_
      rintro e w6 ⟨⟨xO1, cO1, rfl, hox, _⟩, h⟩
      obtain ⟨aO1, rfl⟩ := hox.isSome HP1.out
      have X_6 := Lib.hid (X_5.out.trans h)
      have P_6 := Lib.hid (P_5.out.ext h)
      have Q_6 := Lib.hid (Q_5.out.ext h)
      clear h X_5 P_5 Q_5
      have O1_6 := Lib.hid (hox)
      clear hox
      go_simp
      refine hK.out _ _ ⟨P_6.out.cell 0, P_6.out.cell 1, P_6.out.cell 2, Q_6.out.cell 0, Q_6.out.cell 1, Q_6.out.cell 2⟩ (fun hHeld => ?_)
      clear hK KK
      try simp only [Act.put, List.getElem_toArray, List.getElem_cons_succ, List.getElem_cons_zero, List.setIfInBounds_toArray, List.set_cons_zero, List.set_cons_succ]
      refine wpAnyH_ready (rs := [3, 11]) (by kernel_rfl) (by simp) ?_
      refine AllReadyH.cons rfl (fun KK hK => ?_) (AllReadyH.cons rfl (fun KK hK => ?_) AllReadyH.nil)
      · clear hHeld
        go_simp
        refine (own_x _ _ (some bd) (QW * QH) d qx _ (HY.out.ext X_6.out) (fun h => by cases h) (by omega)).mono ?_
        rintro e w7 ⟨⟨xO2, cO2, rfl, hox, _⟩, h⟩
        obtain ⟨aO2, rfl⟩ := hox.isSome HP2.out
        have X_7 := Lib.hid (X_6.out.trans h)
        have P_7 := Lib.hid (P_6.out.ext h)
        have Q_7 := Lib.hid (Q_6.out.ext h)
        have O1_7 := Lib.hid (O1_6.out.ext h)
        clear h X_6 P_6 Q_6 O1_6
        have O2_7 := Lib.hid (hox)
        clear hox
        go_simp
        refine hK.out _ _ ⟨P_7.out.cell 0, P_7.out.cell 1, P_7.out.cell 2, Q_7.out.cell 0, Q_7.out.cell 1, Q_7.out.cell 2⟩ (fun hHeld => ?_)
        clear hK KK
        try simp only [Act.put, List.getElem_toArray, List.getElem_cons_succ, List.getElem_cons_zero, List.setIfInBounds_toArray, List.set_cons_zero, List.set_cons_succ]
        refine wpAnyH_ready (rs := [7, 11]) (by kernel_rfl) (by simp) ?_
        refine AllReadyH.cons rfl (fun KK hK => ?_) (AllReadyH.cons rfl (fun KK hK => ?_) AllReadyH.nil)
        · clear hHeld
          go_simp
          refine (stamp_px W H QW QH X Y m aO1 aO2 cO1 cO2 px qx _ HWH.out HQH.out HB.out O1_7.out O2_7.out).mono ?_
          rintro e w8 ⟨⟨fx, fc, rfl, hpx⟩, h⟩
          clear O1_7 O2_7
          obtain ⟨hpx, hge0⟩ := hpx
          have X_8 := Lib.hid (X_7.out.trans h)
          have P_8 := Lib.hid (P_7.out.ext h)
          have Q_8 := Lib.hid (Q_7.out.ext h)
          clear h X_7 P_7 Q_7
          have FP_8 := Lib.hid (hpx)
          clear hpx hge0
          go_simp
          refine hK.out _ _ ⟨P_8.out.cell 0, P_8.out.cell 1, P_8.out.cell 2, Q_8.out.cell 0, Q_8.out.cell 1, Q_8.out.cell 2⟩ (fun hHeld => ?_)
          clear hK KK
          try simp only [Act.put, List.getElem_toArray, List.getElem_cons_succ, List.getElem_cons_zero, List.setIfInBounds_toArray, List.set_cons_zero, List.set_cons_succ]
          refine wpAnyH_take (i := 8) (v := ?_) rfl (by kernel_rfl) (by kernel_rfl) (by kernel_rfl) (fun _ _ _ h => h) (Or.inl ⟨by kernel_rfl, ?_⟩) hHeld ?_
          rotate_left
          · intro w hSw
            (try dsimp only at hSw)
            go_split_ands
            go_simp
            (try with_reducible rfl)
          try simp only [Act.put, List.getElem_toArray, List.getElem_cons_succ, List.getElem_cons_zero, List.setIfInBounds_toArray, List.set_cons_zero, List.set_cons_succ]
          refine wpAnyH_take (i := 9) (v := ?_) rfl (by kernel_rfl) (by kernel_rfl) (by kernel_rfl) (fun _ _ _ h => h) (Or.inl ⟨by kernel_rfl, ?_⟩) hHeld ?_
          rotate_left
          · intro w hSw
            (try dsimp only at hSw)
            go_split_ands
            go_simp
            (try with_reducible rfl)
          try simp only [Act.put, List.getElem_toArray, List.getElem_cons_succ, List.getElem_cons_zero, List.setIfInBounds_toArray, List.set_cons_zero, List.set_cons_succ]
          refine wpAnyH_take (i := 10) (v := ?_) rfl (by kernel_rfl) (by kernel_rfl) (by kernel_rfl) (fun _ _ _ h => h) (Or.inl ⟨by kernel_rfl, ?_⟩) hHeld ?_
          rotate_left
          · intro w hSw
            (try dsimp only at hSw)
            go_split_ands
            go_simp
            (try with_reducible rfl)
          try simp only [Act.put, List.getElem_toArray, List.getElem_cons_succ, List.getElem_cons_zero, List.setIfInBounds_toArray, List.set_cons_zero, List.set_cons_succ]
          refine wpAnyH_ready (rs := [11]) (by kernel_rfl) (by simp) ?_
          refine AllReadyH.cons rfl (fun KK hK => ?_) AllReadyH.nil
          clear hHeld
          have FK : Hid (∀ q : Addr, fx = some q → ¬ q.block = w8.heap.size) := Lib.hid (fun q hq e => by have := Pxs.lt_block FP_8.out HP1.out q hq; omega)
          go_simp
          refine hK.out _ _ ⟨(P_8.out.ext (Ext.alloc (Ext.refl w8) _)).cell 0, (P_8.out.ext (Ext.alloc (Ext.refl w8) _)).cell 1, (P_8.out.ext (Ext.alloc (Ext.refl w8) _)).cell 2, (Q_8.out.ext (Ext.alloc (Ext.refl w8) _)).cell 0, (Q_8.out.ext (Ext.alloc (Ext.refl w8) _)).cell 1, (Q_8.out.ext (Ext.alloc (Ext.refl w8) _)).cell 2⟩ (fun hHeld => ?_)
          clear hK KK hHeld
          try simp only [Act.put, List.getElem_toArray, List.getElem_cons_succ, List.getElem_cons_zero, List.setIfInBounds_toArray, List.set_cons_zero, List.set_cons_succ]
          have NE_P_T := Lib.hid (Nat.ne_of_lt P_8.out.lt)
          have NE_Q_T := Lib.hid (Nat.ne_of_lt Q_8.out.lt)
          have GE_T := Lib.hid X_8.out.size
          refine anyH_world (fun wz => Ext w8 wz ∧ Bk wz w8.heap.size #[.int .i64 0, .int .i64 0, .slice none 0 0]) ⟨Ext.alloc (Ext.refl _) _, Bk.at rfl⟩ ?_
          rintro w9 ⟨h, hB⟩
          have X_9 := Lib.hid (X_8.out.trans h)
          have P_9 := Lib.hid (P_8.out.ext h)
          have Q_9 := Lib.hid (Q_8.out.ext h)
          have FP_9 := Lib.hid (FP_8.out.ext h)
          clear h X_8 P_8 Q_8 FP_8
          have T_9 := Lib.hid (hB)
          clear hB
          have hHeld : w9.cell? ⟨w.heap.size, 0, none⟩ = some ((.int .i64 (W : Int))) ∧ w9.cell? ⟨w.heap.size, 1, none⟩ = some ((.int .i64 (H : Int))) ∧ w9.cell? ⟨w.heap.size, 2, none⟩ = some ((.slice (some ad) (W * H) c)) ∧ w9.cell? ⟨w.heap.size + 1, 0, none⟩ = some ((.int .i64 (QW : Int))) ∧ w9.cell? ⟨w.heap.size + 1, 1, none⟩ = some ((.int .i64 (QH : Int))) ∧ w9.cell? ⟨w.heap.size + 1, 2, none⟩ = some ((.slice (some bd) (QW * QH) d)) := ⟨P_9.out.cell 0, P_9.out.cell 1, P_9.out.cell 2, Q_9.out.cell 0, Q_9.out.cell 1, Q_9.out.cell 2⟩
          refine wpAnyH_ready (rs := [12]) (by kernel_rfl) (by simp) ?_
          refine AllReadyH.cons rfl (fun KK hK => ?_) AllReadyH.nil
          clear hHeld
          have t0 := T_9.out.cell 0
          have f0 := T_9.out.frozen 0
          have t1 := T_9.out.cell 1
          have f1 := T_9.out.frozen 1
          have t2 := T_9.out.cell 2
          have f2 := T_9.out.frozen 2
          have SF := set3_all (x' := (.int .i64 (W : Int))) (y' := (.int .i64 (H : Int))) (z' := (.slice fx (W * H) fc)) X_9.out GE_T.out T_9.out
          have SFH := Lib.hid SF
          clear SF
          go_simp
          clear t0 t1 t2 f0 f1 f2
          refine hK.out _ _ ⟨(P_9.out.keeps SFH.out.2.2 (NE_P_T.out)).cell 0, (P_9.out.keeps SFH.out.2.2 (NE_P_T.out)).cell 1, (P_9.out.keeps SFH.out.2.2 (NE_P_T.out)).cell 2, (Q_9.out.keeps SFH.out.2.2 (NE_Q_T.out)).cell 0, (Q_9.out.keeps SFH.out.2.2 (NE_Q_T.out)).cell 1, (Q_9.out.keeps SFH.out.2.2 (NE_Q_T.out)).cell 2⟩ (fun hHeld => ?_)
          clear hK KK hHeld
          try simp only [Act.put, List.getElem_toArray, List.getElem_cons_succ, List.getElem_cons_zero, List.setIfInBounds_toArray, List.set_cons_zero, List.set_cons_succ]
          refine anyH_world (fun wz => Ext w wz ∧ Bk wz (w8.heap.size) #[(.int .i64 (W : Int)), (.int .i64 (H : Int)), (.slice fx (W * H) fc)] ∧ Keeps (fun k => k = w8.heap.size) w9 wz) SFH.out ?_
          rintro w10 ⟨hX, hB, hKK⟩
          have X_10 := Lib.hid (hX)
          have P_10 := Lib.hid (P_9.out.keeps hKK (NE_P_T.out))
          have Q_10 := Lib.hid (Q_9.out.keeps hKK (NE_Q_T.out))
          have FP_10 := Lib.hid (FP_9.out.keeps hKK (FK.out))
          have T_10 := Lib.hid (hB)
          clear hX hB hKK SFH X_9 P_9 Q_9 FP_9 T_9
          have hHeld : w10.cell? ⟨w.heap.size, 0, none⟩ = some ((.int .i64 (W : Int))) ∧ w10.cell? ⟨w.heap.size, 1, none⟩ = some ((.int .i64 (H : Int))) ∧ w10.cell? ⟨w.heap.size, 2, none⟩ = some ((.slice (some ad) (W * H) c)) ∧ w10.cell? ⟨w.heap.size + 1, 0, none⟩ = some ((.int .i64 (QW : Int))) ∧ w10.cell? ⟨w.heap.size + 1, 1, none⟩ = some ((.int .i64 (QH : Int))) ∧ w10.cell? ⟨w.heap.size + 1, 2, none⟩ = some ((.slice (some bd) (QW * QH) d)) := ⟨P_10.out.cell 0, P_10.out.cell 1, P_10.out.cell 2, Q_10.out.cell 0, Q_10.out.cell 1, Q_10.out.cell 2⟩
          refine wpAnyH_take (i := 13) (v := ?_) rfl (by kernel_rfl) (by kernel_rfl) (by kernel_rfl) (fun _ _ _ h => h) (Or.inl ⟨by kernel_rfl, ?_⟩) hHeld ?_
          rotate_left
          · intro w hSw
            (try dsimp only at hSw)
            go_split_ands
            go_simp
            (try with_reducible rfl)
          try simp only [Act.put, List.getElem_toArray, List.getElem_cons_succ, List.getElem_cons_zero, List.setIfInBounds_toArray, List.set_cons_zero, List.set_cons_succ]
          refine wpAnyH_done (by kernel_rfl) ?_ _
          clear hHeld
          (try go_wp2_with fail)
          go_meet
          exact ⟨_, rfl, rfl, X_10, P_10, Q_10, fx, fc, T_10, FP_10⟩
        · clear hHeld
          go_simp
          refine hK.out _ _ ⟨(P_7.out.ext (Ext.alloc (Ext.refl w7) _)).cell 0, (P_7.out.ext (Ext.alloc (Ext.refl w7) _)).cell 1, (P_7.out.ext (Ext.alloc (Ext.refl w7) _)).cell 2, (Q_7.out.ext (Ext.alloc (Ext.refl w7) _)).cell 0, (Q_7.out.ext (Ext.alloc (Ext.refl w7) _)).cell 1, (Q_7.out.ext (Ext.alloc (Ext.refl w7) _)).cell 2⟩ (fun hHeld => ?_)
          clear hK KK hHeld
          try simp only [Act.put, List.getElem_toArray, List.getElem_cons_succ, List.getElem_cons_zero, List.setIfInBounds_toArray, List.set_cons_zero, List.set_cons_succ]
          have NE_P_T := Lib.hid (Nat.ne_of_lt P_7.out.lt)
          have NE_Q_T := Lib.hid (Nat.ne_of_lt Q_7.out.lt)
          have GE_T := Lib.hid X_7.out.size
          refine anyH_world (fun wz => Ext w7 wz ∧ Bk wz w7.heap.size #[.int .i64 0, .int .i64 0, .slice none 0 0]) ⟨Ext.alloc (Ext.refl _) _, Bk.at rfl⟩ ?_
          rintro w8 ⟨h, hB⟩
          have X_8 := Lib.hid (X_7.out.trans h)
          have P_8 := Lib.hid (P_7.out.ext h)
          have Q_8 := Lib.hid (Q_7.out.ext h)
          have O1_8 := Lib.hid (O1_7.out.ext h)
          have O2_8 := Lib.hid (O2_7.out.ext h)
          clear h X_7 P_7 Q_7 O1_7 O2_7
          have T_8 := Lib.hid (hB)
          clear hB
          have hHeld : w8.cell? ⟨w.heap.size, 0, none⟩ = some ((.int .i64 (W : Int))) ∧ w8.cell? ⟨w.heap.size, 1, none⟩ = some ((.int .i64 (H : Int))) ∧ w8.cell? ⟨w.heap.size, 2, none⟩ = some ((.slice (some ad) (W * H) c)) ∧ w8.cell? ⟨w.heap.size + 1, 0, none⟩ = some ((.int .i64 (QW : Int))) ∧ w8.cell? ⟨w.heap.size + 1, 1, none⟩ = some ((.int .i64 (QH : Int))) ∧ w8.cell? ⟨w.heap.size + 1, 2, none⟩ = some ((.slice (some bd) (QW * QH) d)) := ⟨P_8.out.cell 0, P_8.out.cell 1, P_8.out.cell 2, Q_8.out.cell 0, Q_8.out.cell 1, Q_8.out.cell 2⟩
          refine wpAnyH_ready (rs := [7]) (by kernel_rfl) (by simp) ?_
          refine AllReadyH.cons rfl (fun KK hK => ?_) AllReadyH.nil
          clear hHeld
          go_simp
          refine (stamp_px W H QW QH X Y m aO1 aO2 cO1 cO2 px qx _ HWH.out HQH.out HB.out O1_8.out O2_8.out).mono ?_
          rintro e w9 ⟨⟨fx, fc, rfl, hpx⟩, h⟩
          clear O1_8 O2_8
          have hge : ∀ q : Addr, fx = some q → ¬ q.block = w7.heap.size := fun q hq e => by have h1 := hpx.2 q hq; have h2 := T_8.out.lt; omega
          obtain ⟨hpx, hge0⟩ := hpx
          have FK := Lib.hid hge
          clear hge
          have X_9 := Lib.hid (X_8.out.trans h)
          have P_9 := Lib.hid (P_8.out.ext h)
          have Q_9 := Lib.hid (Q_8.out.ext h)
          have T_9 := Lib.hid (T_8.out.ext h)
          clear h X_8 P_8 Q_8 T_8
          have FP_9 := Lib.hid (hpx)
          clear hpx hge0
          go_simp
          refine hK.out _ _ ⟨P_9.out.cell 0, P_9.out.cell 1, P_9.out.cell 2, Q_9.out.cell 0, Q_9.out.cell 1, Q_9.out.cell 2⟩ (fun hHeld => ?_)
          clear hK KK
          try simp only [Act.put, List.getElem_toArray, List.getElem_cons_succ, List.getElem_cons_zero, List.setIfInBounds_toArray, List.set_cons_zero, List.set_cons_succ]
          refine wpAnyH_take (i := 8) (v := ?_) rfl (by kernel_rfl) (by kernel_rfl) (by kernel_rfl) (fun _ _ _ h => h) (Or.inl ⟨by kernel_rfl, ?_⟩) hHeld ?_
          rotate_left
          · intro w hSw
            (try dsimp only at hSw)
            go_split_ands
            go_simp
            (try with_reducible rfl)
          try simp only [Act.put, List.getElem_toArray, List.getElem_cons_succ, List.getElem_cons_zero, List.setIfInBounds_toArray, List.set_cons_zero, List.set_cons_succ]
          refine wpAnyH_take (i := 9) (v := ?_) rfl (by kernel_rfl) (by kernel_rfl) (by kernel_rfl) (fun _ _ _ h => h) (Or.inl ⟨by kernel_rfl, ?_⟩) hHeld ?_
          rotate_left
          · intro w hSw
            (try dsimp only at hSw)
            go_split_ands
            go_simp
            (try with_reducible rfl)
          try simp only [Act.put, List.getElem_toArray, List.getElem_cons_succ, List.getElem_cons_zero, List.setIfInBounds_toArray, List.set_cons_zero, List.set_cons_succ]
          refine wpAnyH_take (i := 10) (v := ?_) rfl (by kernel_rfl) (by kernel_rfl) (by kernel_rfl) (fun _ _ _ h => h) (Or.inl ⟨by kernel_rfl, ?_⟩) hHeld ?_
          rotate_left
          · intro w hSw
            (try dsimp only at hSw)
            go_split_ands
            go_simp
            (try with_reducible rfl)
          try simp only [Act.put, List.getElem_toArray, List.getElem_cons_succ, List.getElem_cons_zero, List.setIfInBounds_toArray, List.set_cons_zero, List.set_cons_succ]
          refine wpAnyH_ready (rs := [12]) (by kernel_rfl) (by simp) ?_
          refine AllReadyH.cons rfl (fun KK hK => ?_) AllReadyH.nil
          clear hHeld
          have t0 := T_9.out.cell 0
          have f0 := T_9.out.frozen 0
          have t1 := T_9.out.cell 1
          have f1 := T_9.out.frozen 1
          have t2 := T_9.out.cell 2
          have f2 := T_9.out.frozen 2
          have SF := set3_all (x' := (.int .i64 (W : Int))) (y' := (.int .i64 (H : Int))) (z' := (.slice fx (W * H) fc)) X_9.out GE_T.out T_9.out
          have SFH := Lib.hid SF
          clear SF
          go_simp
          clear t0 t1 t2 f0 f1 f2
          refine hK.out _ _ ⟨(P_9.out.keeps SFH.out.2.2 (NE_P_T.out)).cell 0, (P_9.out.keeps SFH.out.2.2 (NE_P_T.out)).cell 1, (P_9.out.keeps SFH.out.2.2 (NE_P_T.out)).cell 2, (Q_9.out.keeps SFH.out.2.2 (NE_Q_T.out)).cell 0, (Q_9.out.keeps SFH.out.2.2 (NE_Q_T.out)).cell 1, (Q_9.out.keeps SFH.out.2.2 (NE_Q_T.out)).cell 2⟩ (fun hHeld => ?_)
          clear hK KK hHeld
          try simp only [Act.put, List.getElem_toArray, List.getElem_cons_succ, List.getElem_cons_zero, List.setIfInBounds_toArray, List.set_cons_zero, List.set_cons_succ]
          refine anyH_world (fun wz => Ext w wz ∧ Bk wz (w7.heap.size) #[(.int .i64 (W : Int)), (.int .i64 (H : Int)), (.slice fx (W * H) fc)] ∧ Keeps (fun k => k = w7.heap.size) w9 wz) SFH.out ?_
          rintro w10 ⟨hX, hB, hKK⟩
          have X_10 := Lib.hid (hX)
          have P_10 := Lib.hid (P_9.out.keeps hKK (NE_P_T.out))
          have Q_10 := Lib.hid (Q_9.out.keeps hKK (NE_Q_T.out))
          have T_10 := Lib.hid (hB)
          have FP_10 := Lib.hid (FP_9.out.keeps hKK (FK.out))
          clear hX hB hKK SFH X_9 P_9 Q_9 T_9 FP_9
          have hHeld : w10.cell? ⟨w.heap.size, 0, none⟩ = some ((.int .i64 (W : Int))) ∧ w10.cell? ⟨w.heap.size, 1, none⟩ = some ((.int .i64 (H : Int))) ∧ w10.cell? ⟨w.heap.size, 2, none⟩ = some ((.slice (some ad) (W * H) c)) ∧ w10.cell? ⟨w.heap.size + 1, 0, none⟩ = some ((.int .i64 (QW : Int))) ∧ w10.cell? ⟨w.heap.size + 1, 1, none⟩ = some ((.int .i64 (QH : Int))) ∧ w10.cell? ⟨w.heap.size + 1, 2, none⟩ = some ((.slice (some bd) (QW * QH) d)) := ⟨P_10.out.cell 0, P_10.out.cell 1, P_10.out.cell 2, Q_10.out.cell 0, Q_10.out.cell 1, Q_10.out.cell 2⟩
          refine wpAnyH_take (i := 13) (v := ?_) rfl (by kernel_rfl) (by kernel_rfl) (by kernel_rfl) (fun _ _ _ h => h) (Or.inl ⟨by kernel_rfl, ?_⟩) hHeld ?_
          rotate_left
          · intro w hSw
            (try dsimp only at hSw)
            go_split_ands
            go_simp
            (try with_reducible rfl)
          try simp only [Act.put, List.getElem_toArray, List.getElem_cons_succ, List.getElem_cons_zero, List.setIfInBounds_toArray, List.set_cons_zero, List.set_cons_succ]
          refine wpAnyH_done (by kernel_rfl) ?_ _
          clear hHeld
          (try go_wp2_with fail)
          go_meet
          exact ⟨_, rfl, rfl, X_10, P_10, Q_10, fx, fc, T_10, FP_10⟩
      · clear hHeld
        go_simp
        refine hK.out _ _ ⟨(P_6.out.ext (Ext.alloc (Ext.refl w6) _)).cell 0, (P_6.out.ext (Ext.alloc (Ext.refl w6) _)).cell 1, (P_6.out.ext (Ext.alloc (Ext.refl w6) _)).cell 2, (Q_6.out.ext (Ext.alloc (Ext.refl w6) _)).cell 0, (Q_6.out.ext (Ext.alloc (Ext.refl w6) _)).cell 1, (Q_6.out.ext (Ext.alloc (Ext.refl w6) _)).cell 2⟩ (fun hHeld => ?_)
        clear hK KK hHeld
        try simp only [Act.put, List.getElem_toArray, List.getElem_cons_succ, List.getElem_cons_zero, List.setIfInBounds_toArray, List.set_cons_zero, List.set_cons_succ]
        have NE_P_T := Lib.hid (Nat.ne_of_lt P_6.out.lt)
        have NE_Q_T := Lib.hid (Nat.ne_of_lt Q_6.out.lt)
        have GE_T := Lib.hid X_6.out.size
        refine anyH_world (fun wz => Ext w6 wz ∧ Bk wz w6.heap.size #[.int .i64 0, .int .i64 0, .slice none 0 0]) ⟨Ext.alloc (Ext.refl _) _, Bk.at rfl⟩ ?_
        rintro w7 ⟨h, hB⟩
        have X_7 := Lib.hid (X_6.out.trans h)
        have P_7 := Lib.hid (P_6.out.ext h)
        have Q_7 := Lib.hid (Q_6.out.ext h)
        have O1_7 := Lib.hid (O1_6.out.ext h)
        clear h X_6 P_6 Q_6 O1_6
        have T_7 := Lib.hid (hB)
        clear hB
        have hHeld : w7.cell? ⟨w.heap.size, 0, none⟩ = some ((.int .i64 (W : Int))) ∧ w7.cell? ⟨w.heap.size, 1, none⟩ = some ((.int .i64 (H : Int))) ∧ w7.cell? ⟨w.heap.size, 2, none⟩ = some ((.slice (some ad) (W * H) c)) ∧ w7.cell? ⟨w.heap.size + 1, 0, none⟩ = some ((.int .i64 (QW : Int))) ∧ w7.cell? ⟨w.heap.size + 1, 1, none⟩ = some ((.int .i64 (QH : Int))) ∧ w7.cell? ⟨w.heap.size + 1, 2, none⟩ = some ((.slice (some bd) (QW * QH) d)) := ⟨P_7.out.cell 0, P_7.out.cell 1, P_7.out.cell 2, Q_7.out.cell 0, Q_7.out.cell 1, Q_7.out.cell 2⟩
        refine wpAnyH_ready (rs := [3]) (by kernel_rfl) (by simp) ?_
        refine AllReadyH.cons rfl (fun KK hK => ?_) AllReadyH.nil
        clear hHeld
        go_simp
        refine (own_x _ _ (some bd) (QW * QH) d qx _ (HY.out.ext X_7.out) (fun h => by cases h) (by omega)).mono ?_
        rintro e w8 ⟨⟨xO2, cO2, rfl, hox, _⟩, h⟩
        obtain ⟨aO2, rfl⟩ := hox.isSome HP2.out
        have X_8 := Lib.hid (X_7.out.trans h)
        have P_8 := Lib.hid (P_7.out.ext h)
        have Q_8 := Lib.hid (Q_7.out.ext h)
        have O1_8 := Lib.hid (O1_7.out.ext h)
        have T_8 := Lib.hid (T_7.out.ext h)
        clear h X_7 P_7 Q_7 O1_7 T_7
        have O2_8 := Lib.hid (hox)
        clear hox
        go_simp
        refine hK.out _ _ ⟨P_8.out.cell 0, P_8.out.cell 1, P_8.out.cell 2, Q_8.out.cell 0, Q_8.out.cell 1, Q_8.out.cell 2⟩ (fun hHeld => ?_)
        clear hK KK
        try simp only [Act.put, List.getElem_toArray, List.getElem_cons_succ, List.getElem_cons_zero, List.setIfInBounds_toArray, List.set_cons_zero, List.set_cons_succ]
        refine wpAnyH_ready (rs := [7]) (by kernel_rfl) (by simp) ?_
        refine AllReadyH.cons rfl (fun KK hK => ?_) AllReadyH.nil
        clear hHeld
        go_simp
        refine (stamp_px W H QW QH X Y m aO1 aO2 cO1 cO2 px qx _ HWH.out HQH.out HB.out O1_8.out O2_8.out).mono ?_
        rintro e w9 ⟨⟨fx, fc, rfl, hpx⟩, h⟩
        clear O1_8 O2_8
        have hge : ∀ q : Addr, fx = some q → ¬ q.block = w6.heap.size := fun q hq e => by have h1 := hpx.2 q hq; have h2 := T_8.out.lt; omega
        obtain ⟨hpx, hge0⟩ := hpx
        have FK := Lib.hid hge
        clear hge
        have X_9 := Lib.hid (X_8.out.trans h)
        have P_9 := Lib.hid (P_8.out.ext h)
        have Q_9 := Lib.hid (Q_8.out.ext h)
        have T_9 := Lib.hid (T_8.out.ext h)
        clear h X_8 P_8 Q_8 T_8
        have FP_9 := Lib.hid (hpx)
        clear hpx hge0
        go_simp
        refine hK.out _ _ ⟨P_9.out.cell 0, P_9.out.cell 1, P_9.out.cell 2, Q_9.out.cell 0, Q_9.out.cell 1, Q_9.out.cell 2⟩ (fun hHeld => ?_)
        clear hK KK
        try simp only [Act.put, List.getElem_toArray, List.getElem_cons_succ, List.getElem_cons_zero, List.setIfInBounds_toArray, List.set_cons_zero, List.set_cons_succ]
        refine wpAnyH_take (i := 8) (v := ?_) rfl (by kernel_rfl) (by kernel_rfl) (by kernel_rfl) (fun _ _ _ h => h) (Or.inl ⟨by kernel_rfl, ?_⟩) hHeld ?_
        rotate_left
        · intro w hSw
          (try dsimp only at hSw)
          go_split_ands
          go_simp
          (try with_reducible rfl)
        try simp only [Act.put, List.getElem_toArray, List.getElem_cons_succ, List.getElem_cons_zero, List.setIfInBounds_toArray, List.set_cons_zero, List.set_cons_succ]
        refine wpAnyH_take (i := 9) (v := ?_) rfl (by kernel_rfl) (by kernel_rfl) (by kernel_rfl) (fun _ _ _ h => h) (Or.inl ⟨by kernel_rfl, ?_⟩) hHeld ?_
        rotate_left
        · intro w hSw
          (try dsimp only at hSw)
          go_split_ands
          go_simp
          (try with_reducible rfl)
        try simp only [Act.put, List.getElem_toArray, List.getElem_cons_succ, List.getElem_cons_zero, List.setIfInBounds_toArray, List.set_cons_zero, List.set_cons_succ]
        refine wpAnyH_take (i := 10) (v := ?_) rfl (by kernel_rfl) (by kernel_rfl) (by kernel_rfl) (fun _ _ _ h => h) (Or.inl ⟨by kernel_rfl, ?_⟩) hHeld ?_
        rotate_left
        · intro w hSw
          (try dsimp only at hSw)
          go_split_ands
          go_simp
          (try with_reducible rfl)
        try simp only [Act.put, List.getElem_toArray, List.getElem_cons_succ, List.getElem_cons_zero, List.setIfInBounds_toArray, List.set_cons_zero, List.set_cons_succ]
        refine wpAnyH_ready (rs := [12]) (by kernel_rfl) (by simp) ?_
        refine AllReadyH.cons rfl (fun KK hK => ?_) AllReadyH.nil
        clear hHeld
        have t0 := T_9.out.cell 0
        have f0 := T_9.out.frozen 0
        have t1 := T_9.out.cell 1
        have f1 := T_9.out.frozen 1
        have t2 := T_9.out.cell 2
        have f2 := T_9.out.frozen 2
        have SF := set3_all (x' := (.int .i64 (W : Int))) (y' := (.int .i64 (H : Int))) (z' := (.slice fx (W * H) fc)) X_9.out GE_T.out T_9.out
        have SFH := Lib.hid SF
        clear SF
        go_simp
        clear t0 t1 t2 f0 f1 f2
        refine hK.out _ _ ⟨(P_9.out.keeps SFH.out.2.2 (NE_P_T.out)).cell 0, (P_9.out.keeps SFH.out.2.2 (NE_P_T.out)).cell 1, (P_9.out.keeps SFH.out.2.2 (NE_P_T.out)).cell 2, (Q_9.out.keeps SFH.out.2.2 (NE_Q_T.out)).cell 0, (Q_9.out.keeps SFH.out.2.2 (NE_Q_T.out)).cell 1, (Q_9.out.keeps SFH.out.2.2 (NE_Q_T.out)).cell 2⟩ (fun hHeld => ?_)
        clear hK KK hHeld
        try simp only [Act.put, List.getElem_toArray, List.getElem_cons_succ, List.getElem_cons_zero, List.setIfInBounds_toArray, List.set_cons_zero, List.set_cons_succ]
        refine anyH_world (fun wz => Ext w wz ∧ Bk wz (w6.heap.size) #[(.int .i64 (W : Int)), (.int .i64 (H : Int)), (.slice fx (W * H) fc)] ∧ Keeps (fun k => k = w6.heap.size) w9 wz) SFH.out ?_
        rintro w10 ⟨hX, hB, hKK⟩
        have X_10 := Lib.hid (hX)
        have P_10 := Lib.hid (P_9.out.keeps hKK (NE_P_T.out))
        have Q_10 := Lib.hid (Q_9.out.keeps hKK (NE_Q_T.out))
        have T_10 := Lib.hid (hB)
        have FP_10 := Lib.hid (FP_9.out.keeps hKK (FK.out))
        clear hX hB hKK SFH X_9 P_9 Q_9 T_9 FP_9
        have hHeld : w10.cell? ⟨w.heap.size, 0, none⟩ = some ((.int .i64 (W : Int))) ∧ w10.cell? ⟨w.heap.size, 1, none⟩ = some ((.int .i64 (H : Int))) ∧ w10.cell? ⟨w.heap.size, 2, none⟩ = some ((.slice (some ad) (W * H) c)) ∧ w10.cell? ⟨w.heap.size + 1, 0, none⟩ = some ((.int .i64 (QW : Int))) ∧ w10.cell? ⟨w.heap.size + 1, 1, none⟩ = some ((.int .i64 (QH : Int))) ∧ w10.cell? ⟨w.heap.size + 1, 2, none⟩ = some ((.slice (some bd) (QW * QH) d)) := ⟨P_10.out.cell 0, P_10.out.cell 1, P_10.out.cell 2, Q_10.out.cell 0, Q_10.out.cell 1, Q_10.out.cell 2⟩
        refine wpAnyH_take (i := 13) (v := ?_) rfl (by kernel_rfl) (by kernel_rfl) (by kernel_rfl) (fun _ _ _ h => h) (Or.inl ⟨by kernel_rfl, ?_⟩) hHeld ?_
        rotate_left
        · intro w hSw
          (try dsimp only at hSw)
          go_split_ands
          go_simp
          (try with_reducible rfl)
        try simp only [Act.put, List.getElem_toArray, List.getElem_cons_succ, List.getElem_cons_zero, List.setIfInBounds_toArray, List.set_cons_zero, List.set_cons_succ]
        refine wpAnyH_done (by kernel_rfl) ?_ _
        clear hHeld
        (try go_wp2_with fail)
        go_meet
        exact ⟨_, rfl, rfl, X_10, P_10, Q_10, fx, fc, T_10, FP_10⟩
    · clear hHeld
      go_simp
      refine hK.out _ _ ⟨(P_5.out.ext (Ext.alloc (Ext.refl w5) _)).cell 0, (P_5.out.ext (Ext.alloc (Ext.refl w5) _)).cell 1, (P_5.out.ext (Ext.alloc (Ext.refl w5) _)).cell 2, (Q_5.out.ext (Ext.alloc (Ext.refl w5) _)).cell 0, (Q_5.out.ext (Ext.alloc (Ext.refl w5) _)).cell 1, (Q_5.out.ext (Ext.alloc (Ext.refl w5) _)).cell 2⟩ (fun hHeld => ?_)
      clear hK KK hHeld
      try simp only [Act.put, List.getElem_toArray, List.getElem_cons_succ, List.getElem_cons_zero, List.setIfInBounds_toArray, List.set_cons_zero, List.set_cons_succ]
      have NE_P_T := Lib.hid (Nat.ne_of_lt P_5.out.lt)
      have NE_Q_T := Lib.hid (Nat.ne_of_lt Q_5.out.lt)
      have GE_T := Lib.hid X_5.out.size
      refine anyH_world (fun wz => Ext w5 wz ∧ Bk wz w5.heap.size #[.int .i64 0, .int .i64 0, .slice none 0 0]) ⟨Ext.alloc (Ext.refl _) _, Bk.at rfl⟩ ?_
      rintro w6 ⟨h, hB⟩
      have X_6 := Lib.hid (X_5.out.trans h)
      have P_6 := Lib.hid (P_5.out.ext h)
      have Q_6 := Lib.hid (Q_5.out.ext h)
      clear h X_5 P_5 Q_5
      have T_6 := Lib.hid (hB)
      clear hB
      have hHeld : w6.cell? ⟨w.heap.size, 0, none⟩ = some ((.int .i64 (W : Int))) ∧ w6.cell? ⟨w.heap.size, 1, none⟩ = some ((.int .i64 (H : Int))) ∧ w6.cell? ⟨w.heap.size, 2, none⟩ = some ((.slice (some ad) (W * H) c)) ∧ w6.cell? ⟨w.heap.size + 1, 0, none⟩ = some ((.int .i64 (QW : Int))) ∧ w6.cell? ⟨w.heap.size + 1, 1, none⟩ = some ((.int .i64 (QH : Int))) ∧ w6.cell? ⟨w.heap.size + 1, 2, none⟩ = some ((.slice (some bd) (QW * QH) d)) := ⟨P_6.out.cell 0, P_6.out.cell 1, P_6.out.cell 2, Q_6.out.cell 0, Q_6.out.cell 1, Q_6.out.cell 2⟩
      refine wpAnyH_ready (rs := [1]) (by kernel_rfl) (by simp) ?_
      refine AllReadyH.cons rfl (fun KK hK => ?_) AllReadyH.nil
      clear hHeld
      go_simp
      refine (own_x _ _ (some ad) (W * H) c px _ (HX.out.ext X_6.out) (fun h => by cases h) (by omega)).mono ?_
      rintro e w7 ⟨⟨xO1, cO1, rfl, hox, _⟩, h⟩
      obtain ⟨aO1, rfl⟩ := hox.isSome HP1.out
      have X_7 := Lib.hid (X_6.out.trans h)
      have P_7 := Lib.hid (P_6.out.ext h)
      have Q_7 := Lib.hid (Q_6.out.ext h)
      have T_7 := Lib.hid (T_6.out.ext h)
      clear h X_6 P_6 Q_6 T_6
      have O1_7 := Lib.hid (hox)
      clear hox
      go_simp
      refine hK.out _ _ ⟨P_7.out.cell 0, P_7.out.cell 1, P_7.out.cell 2, Q_7.out.cell 0, Q_7.out.cell 1, Q_7.out.cell 2⟩ (fun hHeld => ?_)
      clear hK KK
      try simp only [Act.put, List.getElem_toArray, List.getElem_cons_succ, List.getElem_cons_zero, List.setIfInBounds_toArray, List.set_cons_zero, List.set_cons_succ]
      refine wpAnyH_ready (rs := [3]) (by kernel_rfl) (by simp) ?_
      refine AllReadyH.cons rfl (fun KK hK => ?_) AllReadyH.nil
      clear hHeld
      go_simp
      refine (own_x _ _ (some bd) (QW * QH) d qx _ (HY.out.ext X_7.out) (fun h => by cases h) (by omega)).mono ?_
      rintro e w8 ⟨⟨xO2, cO2, rfl, hox, _⟩, h⟩
      obtain ⟨aO2, rfl⟩ := hox.isSome HP2.out
      have X_8 := Lib.hid (X_7.out.trans h)
      have P_8 := Lib.hid (P_7.out.ext h)
      have Q_8 := Lib.hid (Q_7.out.ext h)
      have T_8 := Lib.hid (T_7.out.ext h)
      have O1_8 := Lib.hid (O1_7.out.ext h)
      clear h X_7 P_7 Q_7 T_7 O1_7
      have O2_8 := Lib.hid (hox)
      clear hox
      go_simp
      refine hK.out _ _ ⟨P_8.out.cell 0, P_8.out.cell 1, P_8.out.cell 2, Q_8.out.cell 0, Q_8.out.cell 1, Q_8.out.cell 2⟩ (fun hHeld => ?_)
      clear hK KK
      try simp only [Act.put, List.getElem_toArray, List.getElem_cons_succ, List.getElem_cons_zero, List.setIfInBounds_toArray, List.set_cons_zero, List.set_cons_succ]
      refine wpAnyH_ready (rs := [7]) (by kernel_rfl) (by simp) ?_
      refine AllReadyH.cons rfl (fun KK hK => ?_) AllReadyH.nil
      clear hHeld
      go_simp
      refine (stamp_px W H QW QH X Y m aO1 aO2 cO1 cO2 px qx _ HWH.out HQH.out HB.out O1_8.out O2_8.out).mono ?_
      rintro e w9 ⟨⟨fx, fc, rfl, hpx⟩, h⟩
      clear O1_8 O2_8
      have hge : ∀ q : Addr, fx = some q → ¬ q.block = w5.heap.size := fun q hq e => by have h1 := hpx.2 q hq; have h2 := T_8.out.lt; omega
      obtain ⟨hpx, hge0⟩ := hpx
      have FK := Lib.hid hge
      clear hge
      have X_9 := Lib.hid (X_8.out.trans h)
      have P_9 := Lib.hid (P_8.out.ext h)
      have Q_9 := Lib.hid (Q_8.out.ext h)
      have T_9 := Lib.hid (T_8.out.ext h)
      clear h X_8 P_8 Q_8 T_8
      have FP_9 := Lib.hid (hpx)
      clear hpx hge0
      go_simp
      refine hK.out _ _ ⟨P_9.out.cell 0, P_9.out.cell 1, P_9.out.cell 2, Q_9.out.cell 0, Q_9.out.cell 1, Q_9.out.cell 2⟩ (fun hHeld => ?_)
      clear hK KK
      try simp only [Act.put, List.getElem_toArray, List.getElem_cons_succ, List.getElem_cons_zero, List.setIfInBounds_toArray, List.set_cons_zero, List.set_cons_succ]
      refine wpAnyH_take (i := 8) (v := ?_) rfl (by kernel_rfl) (by kernel_rfl) (by kernel_rfl) (fun _ _ _ h => h) (Or.inl ⟨by kernel_rfl, ?_⟩) hHeld ?_
      rotate_left
      · intro w hSw
        (try dsimp only at hSw)
        go_split_ands
        go_simp
        (try with_reducible rfl)
      try simp only [Act.put, List.getElem_toArray, List.getElem_cons_succ, List.getElem_cons_zero, List.setIfInBounds_toArray, List.set_cons_zero, List.set_cons_succ]
      refine wpAnyH_take (i := 9) (v := ?_) rfl (by kernel_rfl) (by kernel_rfl) (by kernel_rfl) (fun _ _ _ h => h) (Or.inl ⟨by kernel_rfl, ?_⟩) hHeld ?_
      rotate_left
      · intro w hSw
        (try dsimp only at hSw)
        go_split_ands
        go_simp
        (try with_reducible rfl)
      try simp only [Act.put, List.getElem_toArray, List.getElem_cons_succ, List.getElem_cons_zero, List.setIfInBounds_toArray, List.set_cons_zero, List.set_cons_succ]
      refine wpAnyH_take (i := 10) (v := ?_) rfl (by kernel_rfl) (by kernel_rfl) (by kernel_rfl) (fun _ _ _ h => h) (Or.inl ⟨by kernel_rfl, ?_⟩) hHeld ?_
      rotate_left
      · intro w hSw
        (try dsimp only at hSw)
        go_split_ands
        go_simp
        (try with_reducible rfl)
      try simp only [Act.put, List.getElem_toArray, List.getElem_cons_succ, List.getElem_cons_zero, List.setIfInBounds_toArray, List.set_cons_zero, List.set_cons_succ]
      refine wpAnyH_ready (rs := [12]) (by kernel_rfl) (by simp) ?_
      refine AllReadyH.cons rfl (fun KK hK => ?_) AllReadyH.nil
      clear hHeld
      have t0 := T_9.out.cell 0
      have f0 := T_9.out.frozen 0
      have t1 := T_9.out.cell 1
      have f1 := T_9.out.frozen 1
      have t2 := T_9.out.cell 2
      have f2 := T_9.out.frozen 2
      have SF := set3_all (x' := (.int .i64 (W : Int))) (y' := (.int .i64 (H : Int))) (z' := (.slice fx (W * H) fc)) X_9.out GE_T.out T_9.out
      have SFH := Lib.hid SF
      clear SF
      go_simp
      clear t0 t1 t2 f0 f1 f2
      refine hK.out _ _ ⟨(P_9.out.keeps SFH.out.2.2 (NE_P_T.out)).cell 0, (P_9.out.keeps SFH.out.2.2 (NE_P_T.out)).cell 1, (P_9.out.keeps SFH.out.2.2 (NE_P_T.out)).cell 2, (Q_9.out.keeps SFH.out.2.2 (NE_Q_T.out)).cell 0, (Q_9.out.keeps SFH.out.2.2 (NE_Q_T.out)).cell 1, (Q_9.out.keeps SFH.out.2.2 (NE_Q_T.out)).cell 2⟩ (fun hHeld => ?_)
      clear hK KK hHeld
      try simp only [Act.put, List.getElem_toArray, List.getElem_cons_succ, List.getElem_cons_zero, List.setIfInBounds_toArray, List.set_cons_zero, List.set_cons_succ]
      refine anyH_world (fun wz => Ext w wz ∧ Bk wz (w5.heap.size) #[(.int .i64 (W : Int)), (.int .i64 (H : Int)), (.slice fx (W * H) fc)] ∧ Keeps (fun k => k = w5.heap.size) w9 wz) SFH.out ?_
      rintro w10 ⟨hX, hB, hKK⟩
      have X_10 := Lib.hid (hX)
      have P_10 := Lib.hid (P_9.out.keeps hKK (NE_P_T.out))
      have Q_10 := Lib.hid (Q_9.out.keeps hKK (NE_Q_T.out))
      have T_10 := Lib.hid (hB)
      have FP_10 := Lib.hid (FP_9.out.keeps hKK (FK.out))
      clear hX hB hKK SFH X_9 P_9 Q_9 T_9 FP_9
      have hHeld : w10.cell? ⟨w.heap.size, 0, none⟩ = some ((.int .i64 (W : Int))) ∧ w10.cell? ⟨w.heap.size, 1, none⟩ = some ((.int .i64 (H : Int))) ∧ w10.cell? ⟨w.heap.size, 2, none⟩ = some ((.slice (some ad) (W * H) c)) ∧ w10.cell? ⟨w.heap.size + 1, 0, none⟩ = some ((.int .i64 (QW : Int))) ∧ w10.cell? ⟨w.heap.size + 1, 1, none⟩ = some ((.int .i64 (QH : Int))) ∧ w10.cell? ⟨w.heap.size + 1, 2, none⟩ = some ((.slice (some bd) (QW * QH) d)) := ⟨P_10.out.cell 0, P_10.out.cell 1, P_10.out.cell 2, Q_10.out.cell 0, Q_10.out.cell 1, Q_10.out.cell 2⟩
      refine wpAnyH_take (i := 13) (v := ?_) rfl (by kernel_rfl) (by kernel_rfl) (by kernel_rfl) (fun _ _ _ h => h) (Or.inl ⟨by kernel_rfl, ?_⟩) hHeld ?_
      rotate_left
      · intro w hSw
        (try dsimp only at hSw)
        go_split_ands
        go_simp
        (try with_reducible rfl)
      try simp only [Act.put, List.getElem_toArray, List.getElem_cons_succ, List.getElem_cons_zero, List.setIfInBounds_toArray, List.set_cons_zero, List.set_cons_succ]
      refine wpAnyH_done (by kernel_rfl) ?_ _
      clear hHeld
      (try go_wp2_with fail)
      go_meet
      exact ⟨_, rfl, rfl, X_10, P_10, Q_10, fx, fc, T_10, FP_10⟩
  case rest =>
    obtain ⟨T, rfl, rfl, X_100, P_100, Q_100, fx, fc, T_100, FP_100⟩ := hcut
    clear X_4 P_4 Q_4
    go_upto_region 6 with fail
    go_cut [52] (fun s52 wx => s52 = .bool (!goodB X Y m) ∧ Hid (Ext w wx) ∧ Hid (Bk wx w.heap.size #[(.int .i64 (W : Int)), (.int .i64 (H : Int)), (.slice (some ad) (W * H) c)]) ∧ Hid (Bk wx (w.heap.size + 1) #[(.int .i64 (QW : Int)), (.int .i64 (QH : Int)), (.slice (some bd) (QW * QH) d)]) ∧ Hid (Bk wx T #[(.int .i64 (W : Int)), (.int .i64 (H : Int)), (.slice fx (W * H) fc)]) ∧ Hid (Pxs wx fx (W * H) (stP W QW QH X Y m px qx (H * W))))
    case first =>
      go_wp2_with fail
      refine (refNear_any X _).mono ?_
      rintro e w9 ⟨rfl, rfl⟩
      cases n0 : nearB X
      · have NV : Hid (goodB X Y m = false) := Lib.hid (by simp only [goodB, n0]; rfl)
        go_wp2_with fail
        go_meet
        exact ⟨by rw [NV.out]; rfl, X_100, P_100, Q_100, T_100, FP_100⟩
      · go_wp2_with fail
        refine (refNear_any Y _).mono ?_
        rintro e w9 ⟨rfl, rfl⟩
        cases n1 : nearB Y
        · have NV : Hid (goodB X Y m = false) := Lib.hid (by simp only [goodB, n0, n1]; rfl)
          go_wp2_with fail
          go_meet
          exact ⟨by rw [NV.out]; rfl, X_100, P_100, Q_100, T_100, FP_100⟩
        · go_wp2_with fail
          refine (isMode_any m _).mono ?_
          rintro e w9 ⟨rfl, rfl⟩
          cases n2 : decide (0 ≤ m ∧ m < 6)
          · have NV : Hid (goodB X Y m = false) := Lib.hid (by simp only [goodB, n0, n1, n2]; rfl)
            go_wp2_with fail
            go_meet
            exact ⟨by rw [NV.out]; rfl, X_100, P_100, Q_100, T_100, FP_100⟩
          · have NV : Hid (goodB X Y m = true) := Lib.hid (by simp only [goodB, n0, n1, n2]; rfl)
            go_wp2_with fail
            go_meet
            exact ⟨by rw [NV.out]; rfl, X_100, P_100, Q_100, T_100, FP_100⟩
    case rest =>
      obtain ⟨rfl, X_101, P_101, Q_101, T_101, FP_101⟩ := hcut
      clear X_100 P_100 Q_100 T_100 FP_100
      rw [HB.out]
      have k0 := P_101.out.cell 0
      have k1 := P_101.out.cell 1
      have k2 := P_101.out.cell 2
      go_wp2_with fail
      refine (refRight_any _ _ _ _ _ _).mono ?_
      rintro e w102 ⟨rfl, h⟩
      have X_102 := Lib.hid (X_101.out.trans h)
      have P_102 := Lib.hid (P_101.out.ext h)
      have Q_102 := Lib.hid (Q_101.out.ext h)
      have T_102 := Lib.hid (T_101.out.ext h)
      have FP_102 := Lib.hid (FP_101.out.ext h)
      clear h X_101 P_101 Q_101 T_101 FP_101
      clear k0 k1 k2
      rw [HR.out]
      have k0 := Q_102.out.cell 0
      have k1 := Q_102.out.cell 1
      have k2 := Q_102.out.cell 2
      go_wp2_with fail
      refine (refRight_any _ _ _ _ _ _).mono ?_
      rintro e w103 ⟨rfl, h⟩
      have X_103 := Lib.hid (X_102.out.trans h)
      have P_103 := Lib.hid (P_102.out.ext h)
      have Q_103 := Lib.hid (Q_102.out.ext h)
      have T_103 := Lib.hid (T_102.out.ext h)
      have FP_103 := Lib.hid (FP_102.out.ext h)
      clear h X_102 P_102 Q_102 T_102 FP_102
      clear k0 k1 k2
      rw [HS.out]
      have k0 := T_103.out.cell 0
      have k1 := T_103.out.cell 1
      have k2 := T_103.out.cell 2
      have k3 := P_103.out.cell 0
      have k4 := P_103.out.cell 1
      have k5 := P_103.out.cell 2
      have k6 := Q_103.out.cell 0
      have k7 := Q_103.out.cell 1
      have k8 := Q_103.out.cell 2
      go_upto_region 12 with fail
      refine wp_region_held_drew (S := fun w' => w'.cell? ⟨T, 0, none⟩ = some ((.int .i64 (W : Int))) ∧ w'.cell? ⟨T, 1, none⟩ = some ((.int .i64 (H : Int))) ∧ w'.cell? ⟨T, 2, none⟩ = some ((.slice fx (W * H) fc)) ∧ w'.cell? ⟨w.heap.size, 0, none⟩ = some ((.int .i64 (W : Int))) ∧ w'.cell? ⟨w.heap.size, 1, none⟩ = some ((.int .i64 (H : Int))) ∧ w'.cell? ⟨w.heap.size, 2, none⟩ = some ((.slice (some ad) (W * H) c)) ∧ w'.cell? ⟨w.heap.size + 1, 0, none⟩ = some ((.int .i64 (QW : Int))) ∧ w'.cell? ⟨w.heap.size + 1, 1, none⟩ = some ((.int .i64 (QH : Int))) ∧ w'.cell? ⟨w.heap.size + 1, 2, none⟩ = some ((.slice (some bd) (QW * QH) d))) (by kernel_rfl) ⟨T_103.out.cell 0, T_103.out.cell 1, T_103.out.cell 2, P_103.out.cell 0, P_103.out.cell 1, P_103.out.cell 2, Q_103.out.cell 0, Q_103.out.cell 1, Q_103.out.cell 2⟩ (fun hHeld => ?_)
      clear hHeld
      clear k0 k1 k2 k3 k4 k5 k6 k7 k8
      refine anyH_world (fun wz => Ext w103 wz) (show Ext w103 w103.drew from Below.drew (Ext.refl w103)) ?_
      rintro w104 h
      have X_104 := Lib.hid (X_103.out.trans h)
      have P_104 := Lib.hid (P_103.out.ext h)
      have Q_104 := Lib.hid (Q_103.out.ext h)
      have T_104 := Lib.hid (T_103.out.ext h)
      have FP_104 := Lib.hid (FP_103.out.ext h)
      clear h X_103 P_103 Q_103 T_103 FP_103
      have hHeld : w104.cell? ⟨T, 0, none⟩ = some ((.int .i64 (W : Int))) ∧ w104.cell? ⟨T, 1, none⟩ = some ((.int .i64 (H : Int))) ∧ w104.cell? ⟨T, 2, none⟩ = some ((.slice fx (W * H) fc)) ∧ w104.cell? ⟨w.heap.size, 0, none⟩ = some ((.int .i64 (W : Int))) ∧ w104.cell? ⟨w.heap.size, 1, none⟩ = some ((.int .i64 (H : Int))) ∧ w104.cell? ⟨w.heap.size, 2, none⟩ = some ((.slice (some ad) (W * H) c)) ∧ w104.cell? ⟨w.heap.size + 1, 0, none⟩ = some ((.int .i64 (QW : Int))) ∧ w104.cell? ⟨w.heap.size + 1, 1, none⟩ = some ((.int .i64 (QH : Int))) ∧ w104.cell? ⟨w.heap.size + 1, 2, none⟩ = some ((.slice (some bd) (QW * QH) d)) := ⟨T_104.out.cell 0, T_104.out.cell 1, T_104.out.cell 2, P_104.out.cell 0, P_104.out.cell 1, P_104.out.cell 2, Q_104.out.cell 0, Q_104.out.cell 1, Q_104.out.cell 2⟩
      refine wpAnyH_take (i := 0) (v := ?_) rfl (by kernel_rfl) (by kernel_rfl) (by kernel_rfl) (fun _ _ _ h => h) (Or.inl ⟨by kernel_rfl, ?_⟩) hHeld ?_
      rotate_left
      · intro w hSw
        (try dsimp only at hSw)
        go_split_ands
        go_simp
        (try with_reducible rfl)
      try simp only [Act.put, List.getElem_toArray, List.getElem_cons_succ, List.getElem_cons_zero, List.setIfInBounds_toArray, List.set_cons_zero, List.set_cons_succ]
      refine wpAnyH_take (i := 1) (v := ?_) rfl (by kernel_rfl) (by kernel_rfl) (by kernel_rfl) (fun _ _ _ h => h) (Or.inl ⟨by kernel_rfl, ?_⟩) hHeld ?_
      rotate_left
      · intro w hSw
        (try dsimp only at hSw)
        go_split_ands
        go_simp
        (try with_reducible rfl)
      try simp only [Act.put, List.getElem_toArray, List.getElem_cons_succ, List.getElem_cons_zero, List.setIfInBounds_toArray, List.set_cons_zero, List.set_cons_succ]
      refine wpAnyH_take (i := 2) (v := ?_) rfl (by kernel_rfl) (by kernel_rfl) (by kernel_rfl) (fun _ _ _ h => h) (Or.inl ⟨by kernel_rfl, ?_⟩) hHeld ?_
      rotate_left
      · intro w hSw
        (try dsimp only at hSw)
        go_split_ands
        go_simp
        (try with_reducible rfl)
      try simp only [Act.put, List.getElem_toArray, List.getElem_cons_succ, List.getElem_cons_zero, List.setIfInBounds_toArray, List.set_cons_zero, List.set_cons_succ]
      refine wpAnyH_take (i := 3) (v := ?_) rfl (by kernel_rfl) (by kernel_rfl) (by kernel_rfl) (fun _ _ _ h => h) (Or.inl ⟨by kernel_rfl, ?_⟩) hHeld ?_
      rotate_left
      · intro w hSw
        (try dsimp only at hSw)
        go_split_ands
        go_simp
        (try with_reducible rfl)
      try simp only [Act.put, List.getElem_toArray, List.getElem_cons_succ, List.getElem_cons_zero, List.setIfInBounds_toArray, List.set_cons_zero, List.set_cons_succ]
      refine wpAnyH_take (i := 4) (v := ?_) rfl (by kernel_rfl) (by kernel_rfl) (by kernel_rfl) (fun _ _ _ h => h) (Or.inl ⟨by kernel_rfl, ?_⟩) hHeld ?_
      rotate_left
      · intro w hSw
        (try dsimp only at hSw)
        go_split_ands
        go_simp
        (try with_reducible rfl)
      try simp only [Act.put, List.getElem_toArray, List.getElem_cons_succ, List.getElem_cons_zero, List.setIfInBounds_toArray, List.set_cons_zero, List.set_cons_succ]
      refine wpAnyH_take (i := 5) (v := ?_) rfl (by kernel_rfl) (by kernel_rfl) (by kernel_rfl) (fun _ _ _ h => h) (Or.inl ⟨by kernel_rfl, ?_⟩) hHeld ?_
      rotate_left
      · intro w hSw
        (try dsimp only at hSw)
        go_split_ands
        go_simp
        (try with_reducible rfl)
      try simp only [Act.put, List.getElem_toArray, List.getElem_cons_succ, List.getElem_cons_zero, List.setIfInBounds_toArray, List.set_cons_zero, List.set_cons_succ]
      refine wpAnyH_take (i := 6) (v := ?_) rfl (by kernel_rfl) (by kernel_rfl) (by kernel_rfl) (fun _ _ _ h => h) (Or.inl ⟨by kernel_rfl, ?_⟩) hHeld ?_
      rotate_left
      · intro w hSw
        (try dsimp only at hSw)
        go_split_ands
        go_simp
        (try with_reducible rfl)
      try simp only [Act.put, List.getElem_toArray, List.getElem_cons_succ, List.getElem_cons_zero, List.setIfInBounds_toArray, List.set_cons_zero, List.set_cons_succ]
      refine wpAnyH_ready (rs := [7]) (by kernel_rfl) (by simp) ?_
      refine AllReadyH.cons rfl (fun KK hK => ?_) AllReadyH.nil
      clear hHeld
      go_simp
      refine (stampOf_px W H QW QH X Y m ad bd c d px qx _ HWH.out HQH.out HB.out (HX.out.ext X_104.out) (HY.out.ext X_104.out)).mono ?_
      rintro e w105 ⟨⟨hx_, hc_, rfl, hpo⟩, h⟩
      have X_105 := Lib.hid (X_104.out.trans h)
      have P_105 := Lib.hid (P_104.out.ext h)
      have Q_105 := Lib.hid (Q_104.out.ext h)
      have T_105 := Lib.hid (T_104.out.ext h)
      have FP_105 := Lib.hid (FP_104.out.ext h)
      clear h X_104 P_104 Q_104 T_104 FP_104
      have GP_105 := Lib.hid (hpo)
      clear hpo
      go_simp
      refine hK.out _ _ ⟨T_105.out.cell 0, T_105.out.cell 1, T_105.out.cell 2, P_105.out.cell 0, P_105.out.cell 1, P_105.out.cell 2, Q_105.out.cell 0, Q_105.out.cell 1, Q_105.out.cell 2⟩ (fun hHeld => ?_)
      clear hK KK
      try simp only [Act.put, List.getElem_toArray, List.getElem_cons_succ, List.getElem_cons_zero, List.setIfInBounds_toArray, List.set_cons_zero, List.set_cons_succ]
      refine wpAnyH_ready (rs := [8]) (by kernel_rfl) (by simp) ?_
      refine AllReadyH.cons rfl (fun KK hK => ?_) AllReadyH.nil
      clear hHeld
      go_simp
      refine (told_ok _ _ _ _ _ _ _ (stP W QW QH X Y m px qx (H * W)) _ FP_105.out GP_105.out (by omega)).mono ?_
      rintro e w106 ⟨rfl, h⟩
      have X_106 := Lib.hid (X_105.out.trans h)
      have P_106 := Lib.hid (P_105.out.ext h)
      have Q_106 := Lib.hid (Q_105.out.ext h)
      have T_106 := Lib.hid (T_105.out.ext h)
      have FP_106 := Lib.hid (FP_105.out.ext h)
      have GP_106 := Lib.hid (GP_105.out.ext h)
      clear h X_105 P_105 Q_105 T_105 FP_105 GP_105
      go_simp
      refine hK.out _ _ ⟨T_106.out.cell 0, T_106.out.cell 1, T_106.out.cell 2, P_106.out.cell 0, P_106.out.cell 1, P_106.out.cell 2, Q_106.out.cell 0, Q_106.out.cell 1, Q_106.out.cell 2⟩ (fun hHeld => ?_)
      clear hK KK
      try simp only [Act.put, List.getElem_toArray, List.getElem_cons_succ, List.getElem_cons_zero, List.setIfInBounds_toArray, List.set_cons_zero, List.set_cons_succ]
      refine wpAnyH_take (i := 9) (v := ?_) rfl (by kernel_rfl) (by kernel_rfl) (by kernel_rfl) (fun _ _ _ h => h) (Or.inl ⟨by kernel_rfl, ?_⟩) hHeld ?_
      rotate_left
      · intro w hSw
        (try dsimp only at hSw)
        go_split_ands
        go_simp
        (try with_reducible rfl)
      try simp only [Act.put, List.getElem_toArray, List.getElem_cons_succ, List.getElem_cons_zero, List.setIfInBounds_toArray, List.set_cons_zero, List.set_cons_succ]
      refine wpAnyH_done (by kernel_rfl) ?_ _
      clear hHeld
      go_wp2_with fail
      go_ret
      exact ⟨rfl, X_106.out⟩
end Go.Proofs.YtkfjcgcgfdibaaaDoor
