/-
  The document's FlipOf.
  The document's TurnOf.
-/
import Derived.Test.YtkfjcgcgfdibaaaDoorRasterFloodsG4
import Derived.Test.YtkfjcgcgfdibaaaDoorRasterFloodsG3
namespace Go.Proofs.YtkfjcgcgfdibaaaDoor
open Go.RowKit
set_option maxRecDepth 100000
set_option linter.unusedSimpArgs false in
set_option maxHeartbeats 2000000 in
theorem flipOf_F (W H : Nat) (ad : Addr) (cap : Nat) (px : Nat → P4) (w : World) (hx : Pxs w (some ad) (W * H) px) (hW : 1 ≤ W ∧ W ≤ 256) (hH : 1 ≤ H ∧ H ≤ 256) :
    Calls Tryd.prog 43 #[.agg #[.int .i64 (W : Int), .int .i64 (H : Int), .slice (some ad) (W * H) cap], .bool false] w fun e w' => (∃ g c, e = .returned (.agg #[.int .i64 (W : Int), .int .i64 (H : Int), .slice (some ⟨g, 0, none⟩) (W * H) c]) ∧ Po w' g (W * H) (flipP W H false px) ∧ w.heap.size ≤ g) ∧ Ext w w' := by
  obtain ⟨hW1, hW2⟩ := hW
  obtain ⟨hH1, hH2⟩ := hH
  have HX := Lib.hid hx
  obtain ⟨G, hG⟩ := grid_is (A := H) (B := W) (N := W * H) (idx := fun x y => y * W + (W - 1 - x)) (val := fun x y => px (y * W + x)) (s0 := px) (q := flipP W H false px) (fun x y x' y' h1 h2 h3 h4 e => by have := lin_inj (by omega) (by omega) e; omega) (fun i hi => by obtain ⟨x, y, h1, h2, e⟩ := lin_sur hi; exact ⟨W - 1 - x, y, by omega, by omega, by rw [← e]; congr 1; omega⟩) (fun x y h1 h2 => (lin_at W _ _ _ (by omega)).trans (by show px _ = px _; congr 1; simp only [if_true, if_false, Bool.false_eq_true]; congr 1; omega))
  have HG0 := Lib.hid hG
  clear hG
  obtain ⟨q, hq⟩ : ∃ q, flipP W H false px = q := ⟨_, rfl⟩
  rw [hq] at HG0 ⊢
  clear hq
  obtain ⟨N, hN⟩ : ∃ N, W * H = N := ⟨_, rfl⟩
  have hNl : N ≤ 65536 := by rw [← hN]; exact Nat.mul_le_mul (show W ≤ 256 by omega) (show H ≤ 256 by omega)
  have hN0 : 0 < N := by rw [← hN]; exact Nat.mul_pos (by omega) (by omega)
  rw [hN] at HG0 ⊢
  have NN := Lib.hid hN
  have NM := Lib.hid hN
  rw [hN] at HX
  clear hN hx
  go_enter Tryd.func43, Tryd.ntmps43
  go_wp2_with fail
  refine calls_world (fun wz => Ext w wz ∧ wz.heap.size = w.heap.size + 1 + 1 ∧ Bk wz (w.heap.size) #[.int .i64 (W : Int), .int .i64 (H : Int), .slice (some ad) N cap] ∧ Bk wz (w.heap.size + 1) #[.int .i64 0, .int .i64 0, .slice none 0 0]) ⟨by repeat (first | exact Ext.refl _ | refine Ext.alloc ?_ _), by simp, by repeat (first | exact Bk.at (by simp) | refine Bk.old ?_), by repeat (first | exact Bk.at (by simp) | refine Bk.old ?_)⟩ ?_
  rintro w1 ⟨hX, hZ, hB0, hB1⟩
  have X1 := Lib.hid hX
  have SZ := Lib.hid hZ
  have B0 := Lib.hid hB0
  have B3 := Lib.hid hB1
  clear hX hZ hB0 hB1
  refine (own_any _ _ (some ad) N cap px _ (HX.out.ext X1.out) (fun h => by cases h) (by omega)).mono ?_
  rintro e w2 ⟨⟨v, rfl, hown⟩, h⟩
  have X2 := Lib.hid (h)
  have OWN := Lib.hid (hown)
  clear h hown
  obtain ⟨g, c, rfl, _, hg⟩ := ownsRow_some OWN.out hN0
  have HG := Lib.hid (And.intro (ownsRow_ge OWN.out) hg)
  clear hg
  have HP := Lib.hid (Po.of_own OWN.out)
  clear OWN
  go_wp2_with fail
  have E_ := (Ext.refl w2).alloc (.cells #[.int .i64 (W : Int), .int .i64 (H : Int), .slice (some ⟨g, 0, none⟩) N c] 24)
  have FA : Hid (FAt w (w2.alloc (.cells #[.int .i64 (W : Int), .int .i64 (H : Int), .slice (some ⟨g, 0, none⟩) N c] 24)) (w.heap.size + 1) w2.heap.size g (W : Int) (H : Int) N c (G 0 0)) := Lib.hid (by
    rw [HG0.out.start]
    obtain ⟨q1, q2⟩ := HG.out
    have q3 := SZ.out
    exact ⟨X1.out.trans (X2.out.trans E_), (B3.out.ext X2.out).ext E_, Bk.at rfl, HP.out.ext E_, by omega, by omega, by omega⟩)
  have B0' := Lib.hid (B0.out.ext (X2.out.trans E_))
  clear E_
  refine wp_world (fun wz => Hid (FAt w wz (w.heap.size + 1) w2.heap.size g (W : Int) (H : Int) N c (G 0 0)) ∧ Hid (Bk wz w.heap.size #[.int .i64 (W : Int), .int .i64 (H : Int), .slice (some ad) N cap])) ⟨FA, B0'⟩ ?_
  obtain ⟨T, hT⟩ : ∃ T, w2.heap.size = T := ⟨_, rfl⟩
  rw [hT] at *
  have NB : Hid (w.heap.size ≠ g) := Lib.hid (by have := HG.out; have := SZ.out; omega)
  clear FA B0' HP B0 B3 X1 X2 HG SZ hT
  rintro wz ⟨FA, B0⟩
  go_loopw [6] (fun cc wr => ∃ y : Nat, y ≤ H ∧ cc = .int .i64 y ∧ Hid (FAt w wr (w.heap.size + 1) T g (W : Int) (H : Int) N c (G y 0)) ∧ Hid (Bk wr w.heap.size #[.int .i64 (W : Int), .int .i64 (H : Int), .slice (some ad) N cap])) (fun cc _ => H - (intOf cc).toNat)
  case atStart => exact ⟨0, by omega, rfl, FA, B0⟩
  case round =>
    clear FA B0
    obtain ⟨y, hy, rfl, FA, B0⟩ := hrel
    have b3 := B0.out.cell 1
    by_cases hlt : y < H
    · go_wp2_with fail
      clear b3
      go_loopw [7] (fun cc wr => ∃ x : Nat, x ≤ W ∧ cc = .int .i64 x ∧ Hid (FAt w wr (w.heap.size + 1) T g (W : Int) (H : Int) N c (G y x)) ∧ Hid (Bk wr w.heap.size #[.int .i64 (W : Int), .int .i64 (H : Int), .slice (some ad) N cap])) (fun cc _ => W - (intOf cc).toNat)
      case atStart => exact ⟨0, by omega, rfl, FA, B0⟩
      case round =>
        clear FA B0
        obtain ⟨x, hx, rfl, FA, B0⟩ := hrel
        have b2 := B0.out.cell 0
        by_cases hlx : x < W
        · have HPX : Hid (Pxs wr (some ad) (W * H) px) := Lib.hid (by rw [NM.out]; exact HX.out.ext FA.out.ext)
          obtain ⟨P, hP⟩ : ∃ P, px (y * W + x) = P := ⟨_, rfl⟩
          have HQ1 := Lib.hid (HG0.out.more y x)
          simp only [hP] at HQ1
          have hk : y * W + (W - 1 - x) < N := by rw [← NN.out]; exact mul_lt_of hlt (by omega)
          have MI : (y : Int) * (W : Int) = ((y * W : Nat) : Int) := by simp
          obtain ⟨M, hM⟩ : ∃ z : Nat, y * W = z := ⟨_, rfl⟩
          obtain ⟨U, hU⟩ : ∃ z : Nat, W - 1 - x = z := ⟨_, rfl⟩
          obtain ⟨W1_, hW1_⟩ : ∃ z : Nat, W - 1 = z := ⟨_, rfl⟩
          rw [hM, hU] at hk HQ1
          rw [hM] at MI
          have d1 : (W : Int) - 1 = (W1_ : Int) := by omega
          have d2 : (W1_ : Int) - (x : Int) = (U : Int) := by omega
          have MM := Lib.hid (And.intro hM (And.intro hU hW1_))
          clear hM hU hW1_
          have ka : (((M : Int) + (U : Int))).toNat = M + U := by omega
          have kb : ((M : Int) + (U : Int)) < (N : Int) := by omega
          have kd : 0 ≤ ((M : Int) + (U : Int)) := by omega
          have kr0 : (M + U) * 4 < N * 4 := by omega
          have kr1 : (M + U) * 4 + 1 < N * 4 := by omega
          have kr2 : (M + U) * 4 + 2 < N * 4 := by omega
          have kr3 : (M + U) * 4 + 3 < N * 4 := by omega
          obtain ⟨wa0, wb0, wa1, wb1, wa2, wb2, wa3, wb3⟩ : IntKind.i64.wrap (W1_ : Int) = (W1_ : Int) ∧ wrap64 (W1_ : Int) = (W1_ : Int) ∧ IntKind.i64.wrap (U : Int) = (U : Int) ∧ wrap64 (U : Int) = (U : Int) ∧ IntKind.i64.wrap (M : Int) = (M : Int) ∧ wrap64 (M : Int) = (M : Int) ∧ IntKind.i64.wrap ((M : Int) + (U : Int)) = ((M : Int) + (U : Int)) ∧ wrap64 ((M : Int) + (U : Int)) = ((M : Int) + (U : Int)) := ⟨wrap_i (x := (W1_ : Int)) (by omega) (by omega), wrap_6 (x := (W1_ : Int)) (by omega) (by omega), wrap_i (x := (U : Int)) (by omega) (by omega), wrap_6 (x := (U : Int)) (by omega) (by omega), wrap_i (x := (M : Int)) (by omega) (by omega), wrap_6 (x := (M : Int)) (by omega) (by omega), wrap_i (x := ((M : Int) + (U : Int))) (by omega) (by omega), wrap_6 (x := ((M : Int) + (U : Int))) (by omega) (by omega)⟩
          have HAT : Hid (∀ w5, Ext wr w5 → Calls Tryd.prog 67 #[.agg #[.int .i64 (W : Int), .int .i64 (H : Int), .slice (some ad) N cap], .int .i64 (x : Int), .int .i64 (y : Int)] w5 fun e w' => e = .returned (.agg #[.int .u8 P.r, .int .u8 P.g, .int .u8 P.b, .int .u8 P.a]) ∧ Ext w5 w') := Lib.hid (fun w5 h5 => by
            have h := at_any x y W H ad cap px w5 (HPX.out.ext h5) hW2 hH2 hlx hlt
            rw [hP, NM.out] at h
            exact h)
          clear hP HPX
          have p0 := B0.out.cell 0
          have p1 := B0.out.cell 1
          have p2 := B0.out.cell 2
          have k2 := FA.out.bk.cell 2
          go_wp2_with fail
          refine wp_region_held_drew (S := fun w' => w'.cell? ⟨w.heap.size, 0, none⟩ = some (.int .i64 (W : Int)) ∧ w'.cell? ⟨w.heap.size, 1, none⟩ = some (.int .i64 (H : Int)) ∧ w'.cell? ⟨w.heap.size, 2, none⟩ = some (.slice (some ad) N cap) ∧ w'.cell? ⟨T, 2, none⟩ = some (.slice (some ⟨g, 0, none⟩) N c)) (by kernel_rfl) ⟨p0, p1, p2, k2⟩ (fun hHeld => ?_)
          refine wpAnyH_take (i := 0) (v := ?_) rfl (by kernel_rfl) (by kernel_rfl) (by kernel_rfl) (fun _ _ _ h => h) (Or.inl ⟨by kernel_rfl, ?_⟩) hHeld ?_
          rotate_left
          · intro w hSw
            (try dsimp only at hSw)
            go_split_ands
            go_simp
            (try with_reducible rfl)
          try simp only [Act.put, List.setIfInBounds_toArray, List.set_cons_zero, List.set_cons_succ]
          refine wpAnyH_take (i := 1) (v := ?_) rfl (by kernel_rfl) (by kernel_rfl) (by kernel_rfl) (fun _ _ _ h => h) (Or.inl ⟨by kernel_rfl, ?_⟩) hHeld ?_
          rotate_left
          · intro w hSw
            (try dsimp only at hSw)
            go_split_ands
            go_simp
            (try with_reducible rfl)
          try simp only [Act.put, List.setIfInBounds_toArray, List.set_cons_zero, List.set_cons_succ]
          refine wpAnyH_take (i := 2) (v := ?_) rfl (by kernel_rfl) (by kernel_rfl) (by kernel_rfl) (fun _ _ _ h => h) (Or.inl ⟨by kernel_rfl, ?_⟩) hHeld ?_
          rotate_left
          · intro w hSw
            (try dsimp only at hSw)
            go_split_ands
            go_simp
            (try with_reducible rfl)
          try simp only [Act.put, List.setIfInBounds_toArray, List.set_cons_zero, List.set_cons_succ]
          refine wpAnyH_take (i := 3) (v := ?_) rfl (by kernel_rfl) (by kernel_rfl) (by kernel_rfl) (fun _ _ _ h => h) (Or.inl ⟨by kernel_rfl, ?_⟩) hHeld ?_
          rotate_left
          · intro w hSw
            (try dsimp only at hSw)
            go_split_ands
            go_simp
            (try with_reducible rfl)
          try simp only [Act.put, List.setIfInBounds_toArray, List.set_cons_zero, List.set_cons_succ]
          refine wpAnyH_take (i := 4) (v := ?_) rfl (by kernel_rfl) (by kernel_rfl) (by kernel_rfl) (fun _ _ _ h => h) (Or.inl ⟨by kernel_rfl, ?_⟩) hHeld ?_
          rotate_left
          · intro w hSw
            (try dsimp only at hSw)
            go_split_ands
            go_simp
            (try with_reducible rfl)
          try simp only [Act.put, List.setIfInBounds_toArray, List.set_cons_zero, List.set_cons_succ]
          refine wpAnyH_take (i := 5) (v := ?_) rfl (by kernel_rfl) (by kernel_rfl) (by kernel_rfl) (fun _ _ _ h => h) (Or.inl ⟨by kernel_rfl, ?_⟩) hHeld ?_
          rotate_left
          · intro w hSw
            (try dsimp only at hSw)
            go_split_ands
            go_simp
            (try with_reducible rfl)
          try simp only [Act.put, List.setIfInBounds_toArray, List.set_cons_zero, List.set_cons_succ]
          refine wpAnyH_take (i := 6) (v := ?_) rfl (by kernel_rfl) (by kernel_rfl) (by kernel_rfl) (fun _ _ _ h => h) (Or.inl ⟨by kernel_rfl, ?_⟩) hHeld ?_
          rotate_left
          · intro w hSw
            (try dsimp only at hSw)
            go_split_ands
            go_simp
            (try with_reducible rfl)
          try simp only [Act.put, List.setIfInBounds_toArray, List.set_cons_zero, List.set_cons_succ]
          refine wpAnyH_take (i := 7) (v := ?_) rfl (by kernel_rfl) (by kernel_rfl) (by kernel_rfl) (fun _ _ _ h => h) (Or.inl ⟨by kernel_rfl, ?_⟩) hHeld ?_
          rotate_left
          · intro w hSw
            (try dsimp only at hSw)
            go_split_ands
            go_simp
            (try with_reducible rfl)
          try simp only [Act.put, List.setIfInBounds_toArray, List.set_cons_zero, List.set_cons_succ]
          refine wpAnyH_take (i := 8) (v := ?_) rfl (by kernel_rfl) (by kernel_rfl) (by kernel_rfl) (fun _ _ _ h => h) (Or.inl ⟨by kernel_rfl, ?_⟩) hHeld ?_
          rotate_left
          · intro w hSw
            (try dsimp only at hSw)
            go_split_ands
            go_simp
            (try with_reducible rfl)
          try simp only [Act.put, List.setIfInBounds_toArray, List.set_cons_zero, List.set_cons_succ]
          refine wpAnyH_take (i := 9) (v := ?_) rfl (by kernel_rfl) (by kernel_rfl) (by kernel_rfl) (fun _ _ _ h => h) (Or.inl ⟨by kernel_rfl, ?_⟩) hHeld ?_
          rotate_left
          · intro w hSw
            (try dsimp only at hSw)
            go_split_ands
            go_simp
            (try with_reducible rfl)
          try simp only [Act.put, List.setIfInBounds_toArray, List.set_cons_zero, List.set_cons_succ]
          refine wpAnyH_take (i := 10) (v := ?_) rfl (by kernel_rfl) (by kernel_rfl) (by kernel_rfl) (fun _ _ _ h => h) (Or.inl ⟨by kernel_rfl, ?_⟩) hHeld ?_
          rotate_left
          · intro w hSw
            (try dsimp only at hSw)
            go_split_ands
            go_simp
            (try with_reducible rfl)
          try simp only [Act.put, List.setIfInBounds_toArray, List.set_cons_zero, List.set_cons_succ]
          refine wpAnyH_ready (rs := [11]) (by kernel_rfl) (by simp) ?_
          refine AllReadyH.cons rfl (fun K hK => ?_) AllReadyH.nil
          clear hHeld
          go_simp
          refine (HAT.out _ (by first | exact Ext.refl _ | exact Below.drew (Ext.refl wr))).mono ?_
          rintro e w5 ⟨rfl, hx5⟩
          have ha : Ext wr w5 := ⟨hx5.os, hx5.tape, hx5.output, hx5.size, hx5.block⟩
          clear hx5
          go_simp
          refine hK.out _ _ ⟨(B0.out.ext ha).cell 0, (B0.out.ext ha).cell 1, (B0.out.ext ha).cell 2, (FA.out.bk.ext ha).cell 2⟩ (fun hHeld => ?_)
          clear hK K
          try simp only [Act.put, List.setIfInBounds_toArray, List.set_cons_zero, List.set_cons_succ]
          refine wpAnyH_take (i := 12) (v := ?_) rfl (by kernel_rfl) (by kernel_rfl) (by kernel_rfl) (fun _ _ _ h => h) (Or.inl ⟨by kernel_rfl, ?_⟩) hHeld ?_
          rotate_left
          · intro w hSw
            (try dsimp only at hSw)
            go_split_ands
            go_simp
            (try with_reducible rfl)
          try simp only [Act.put, List.setIfInBounds_toArray, List.set_cons_zero, List.set_cons_succ]
          have FA5 := Lib.hid (FA.out.step ha)
          have B05 := Lib.hid (B0.out.ext ha)
          clear ha FA B0
          obtain ⟨c0, f0⟩ := FA5.out.row ((M + U) * 4) kr0
          obtain ⟨c1, f1⟩ := FA5.out.row ((M + U) * 4 + 1) kr1
          obtain ⟨c2, f2⟩ := FA5.out.row ((M + U) * 4 + 2) kr2
          obtain ⟨c3, f3⟩ := FA5.out.row ((M + U) * 4 + 3) kr3
          have FN := Lib.hid ((FA5.out.put (M + U) P).congr fun i _ => congrFun HQ1.out i)
          have K := set4_keeps w5 g (M + U) P
          have B0N := Lib.hid (B05.out.keeps K NB.out)
          clear K
          unfold set4 at FN B0N
          refine wpAnyH_ready (rs := [13]) (by kernel_rfl) (by simp) ?_
          refine AllReadyH.cons rfl (fun K hK => ?_) AllReadyH.nil
          clear hHeld
          go_simp
          refine hK.out _ _ ⟨B0N.out.cell 0, B0N.out.cell 1, B0N.out.cell 2, FN.out.bk.cell 2⟩ (fun hHeld => ?_)
          clear hK K
          try simp only [Act.put, List.setIfInBounds_toArray, List.set_cons_zero, List.set_cons_succ]
          refine wpAnyH_done (by kernel_rfl) ?_ _
          clear hHeld wa0 wb0 wa1 wb1 wa2 wb2 wa3 wb3
          go_wp2_with fail
          go_roundw
          case rel => exact ⟨x + 1, by omega, by go_num, FN, B0N⟩
          case measure => simp [intOf]; omega
        · obtain rfl : x = W := by omega
          have HQ2 := Lib.hid (HG0.out.next y)
          go_wp2_with fail
          go_roundw
          case rel => exact ⟨y + 1, by omega, by go_num, by rw [HQ2.out]; exact FA, B0⟩
          case measure => simp [intOf]; omega
    · obtain rfl : y = H := by omega
      have k0 := FA.out.bk.cell 0
      have k1 := FA.out.bk.cell 1
      have k2 := FA.out.bk.cell 2
      have d0 := FA.out.res.cell 0
      have e0 := FA.out.res.frozen 0
      have d1 := FA.out.res.cell 1
      have e1 := FA.out.res.frozen 1
      have d2 := FA.out.res.cell 2
      have e2 := FA.out.res.frozen 2
      have PC := Lib.hid ((FA.out.congr (qx := q) (fun i hi => HG0.out.fin i hi)).close (by omega : w.heap.size ≤ w.heap.size + 1))
      have GN := Lib.hid FA.out.gn
      clear FA B0
      go_wp2_with fail
      obtain ⟨k0, k1, k2, hP, hX⟩ := PC.out
      exact bodyPost_ret (v := .agg #[.int .i64 (W : Int), .int .i64 (y : Int), .slice (some ⟨g, 0, none⟩) N c]) (by simp [results, Tryd.results43, go_sem, k0, k1, k2]) rfl ⟨⟨g, ⟨c, rfl⟩, hP, GN.out⟩, hX⟩
set_option linter.unusedSimpArgs false in
set_option maxHeartbeats 2000000 in
theorem flipOf_T (W H : Nat) (ad : Addr) (cap : Nat) (px : Nat → P4) (w : World) (hx : Pxs w (some ad) (W * H) px) (hW : 1 ≤ W ∧ W ≤ 256) (hH : 1 ≤ H ∧ H ≤ 256) :
    Calls Tryd.prog 43 #[.agg #[.int .i64 (W : Int), .int .i64 (H : Int), .slice (some ad) (W * H) cap], .bool true] w fun e w' => (∃ g c, e = .returned (.agg #[.int .i64 (W : Int), .int .i64 (H : Int), .slice (some ⟨g, 0, none⟩) (W * H) c]) ∧ Po w' g (W * H) (flipP W H true px) ∧ w.heap.size ≤ g) ∧ Ext w w' := by
  obtain ⟨hW1, hW2⟩ := hW
  obtain ⟨hH1, hH2⟩ := hH
  have HX := Lib.hid hx
  obtain ⟨G, hG⟩ := grid_is (A := H) (B := W) (N := W * H) (idx := fun x y => (H - 1 - y) * W + x) (val := fun x y => px (y * W + x)) (s0 := px) (q := flipP W H true px) (fun x y x' y' h1 h2 h3 h4 e => by have := lin_inj (by omega) (by omega) e; omega) (fun i hi => by obtain ⟨x, y, h1, h2, e⟩ := lin_sur hi; exact ⟨x, H - 1 - y, by omega, by omega, by rw [← e]; congr 1; congr 1; omega⟩) (fun x y h1 h2 => (lin_at W _ _ _ (by omega)).trans (by show px _ = px _; congr 1; simp only [if_true, if_false, Bool.false_eq_true]; congr 1; congr 1; omega))
  have HG0 := Lib.hid hG
  clear hG
  obtain ⟨q, hq⟩ : ∃ q, flipP W H true px = q := ⟨_, rfl⟩
  rw [hq] at HG0 ⊢
  clear hq
  obtain ⟨N, hN⟩ : ∃ N, W * H = N := ⟨_, rfl⟩
  have hNl : N ≤ 65536 := by rw [← hN]; exact Nat.mul_le_mul (show W ≤ 256 by omega) (show H ≤ 256 by omega)
  have hN0 : 0 < N := by rw [← hN]; exact Nat.mul_pos (by omega) (by omega)
  rw [hN] at HG0 ⊢
  have NN := Lib.hid hN
  have NM := Lib.hid hN
  rw [hN] at HX
  clear hN hx
  go_enter Tryd.func43, Tryd.ntmps43
  go_wp2_with fail
  refine calls_world (fun wz => Ext w wz ∧ wz.heap.size = w.heap.size + 1 + 1 ∧ Bk wz (w.heap.size) #[.int .i64 (W : Int), .int .i64 (H : Int), .slice (some ad) N cap] ∧ Bk wz (w.heap.size + 1) #[.int .i64 0, .int .i64 0, .slice none 0 0]) ⟨by repeat (first | exact Ext.refl _ | refine Ext.alloc ?_ _), by simp, by repeat (first | exact Bk.at (by simp) | refine Bk.old ?_), by repeat (first | exact Bk.at (by simp) | refine Bk.old ?_)⟩ ?_
  rintro w1 ⟨hX, hZ, hB0, hB1⟩
  have X1 := Lib.hid hX
  have SZ := Lib.hid hZ
  have B0 := Lib.hid hB0
  have B3 := Lib.hid hB1
  clear hX hZ hB0 hB1
  refine (own_any _ _ (some ad) N cap px _ (HX.out.ext X1.out) (fun h => by cases h) (by omega)).mono ?_
  rintro e w2 ⟨⟨v, rfl, hown⟩, h⟩
  have X2 := Lib.hid (h)
  have OWN := Lib.hid (hown)
  clear h hown
  obtain ⟨g, c, rfl, _, hg⟩ := ownsRow_some OWN.out hN0
  have HG := Lib.hid (And.intro (ownsRow_ge OWN.out) hg)
  clear hg
  have HP := Lib.hid (Po.of_own OWN.out)
  clear OWN
  go_wp2_with fail
  have E_ := (Ext.refl w2).alloc (.cells #[.int .i64 (W : Int), .int .i64 (H : Int), .slice (some ⟨g, 0, none⟩) N c] 24)
  have FA : Hid (FAt w (w2.alloc (.cells #[.int .i64 (W : Int), .int .i64 (H : Int), .slice (some ⟨g, 0, none⟩) N c] 24)) (w.heap.size + 1) w2.heap.size g (W : Int) (H : Int) N c (G 0 0)) := Lib.hid (by
    rw [HG0.out.start]
    obtain ⟨q1, q2⟩ := HG.out
    have q3 := SZ.out
    exact ⟨X1.out.trans (X2.out.trans E_), (B3.out.ext X2.out).ext E_, Bk.at rfl, HP.out.ext E_, by omega, by omega, by omega⟩)
  have B0' := Lib.hid (B0.out.ext (X2.out.trans E_))
  clear E_
  refine wp_world (fun wz => Hid (FAt w wz (w.heap.size + 1) w2.heap.size g (W : Int) (H : Int) N c (G 0 0)) ∧ Hid (Bk wz w.heap.size #[.int .i64 (W : Int), .int .i64 (H : Int), .slice (some ad) N cap])) ⟨FA, B0'⟩ ?_
  obtain ⟨T, hT⟩ : ∃ T, w2.heap.size = T := ⟨_, rfl⟩
  rw [hT] at *
  have NB : Hid (w.heap.size ≠ g) := Lib.hid (by have := HG.out; have := SZ.out; omega)
  clear FA B0' HP B0 B3 X1 X2 HG SZ hT
  rintro wz ⟨FA, B0⟩
  go_loopw [6] (fun cc wr => ∃ y : Nat, y ≤ H ∧ cc = .int .i64 y ∧ Hid (FAt w wr (w.heap.size + 1) T g (W : Int) (H : Int) N c (G y 0)) ∧ Hid (Bk wr w.heap.size #[.int .i64 (W : Int), .int .i64 (H : Int), .slice (some ad) N cap])) (fun cc _ => H - (intOf cc).toNat)
  case atStart => exact ⟨0, by omega, rfl, FA, B0⟩
  case round =>
    clear FA B0
    obtain ⟨y, hy, rfl, FA, B0⟩ := hrel
    have b3 := B0.out.cell 1
    by_cases hlt : y < H
    · go_wp2_with fail
      clear b3
      go_loopw [7] (fun cc wr => ∃ x : Nat, x ≤ W ∧ cc = .int .i64 x ∧ Hid (FAt w wr (w.heap.size + 1) T g (W : Int) (H : Int) N c (G y x)) ∧ Hid (Bk wr w.heap.size #[.int .i64 (W : Int), .int .i64 (H : Int), .slice (some ad) N cap])) (fun cc _ => W - (intOf cc).toNat)
      case atStart => exact ⟨0, by omega, rfl, FA, B0⟩
      case round =>
        clear FA B0
        obtain ⟨x, hx, rfl, FA, B0⟩ := hrel
        have b2 := B0.out.cell 0
        by_cases hlx : x < W
        · have HPX : Hid (Pxs wr (some ad) (W * H) px) := Lib.hid (by rw [NM.out]; exact HX.out.ext FA.out.ext)
          obtain ⟨P, hP⟩ : ∃ P, px (y * W + x) = P := ⟨_, rfl⟩
          have HQ1 := Lib.hid (HG0.out.more y x)
          simp only [hP] at HQ1
          have hk : (H - 1 - y) * W + x < N := by rw [← NN.out]; exact mul_lt_of (by omega) hlx
          have MI : ((H - 1 - y : Nat) : Int) * (W : Int) = (((H - 1 - y) * W : Nat) : Int) := by simp
          obtain ⟨M, hM⟩ : ∃ z : Nat, (H - 1 - y) * W = z := ⟨_, rfl⟩
          obtain ⟨V, hV⟩ : ∃ z : Nat, H - 1 - y = z := ⟨_, rfl⟩
          obtain ⟨H1_, hH1_⟩ : ∃ z : Nat, H - 1 = z := ⟨_, rfl⟩
          obtain ⟨U, hU⟩ : ∃ z : Nat, W - 1 - x = z := ⟨_, rfl⟩
          obtain ⟨W1_, hW1_⟩ : ∃ z : Nat, W - 1 = z := ⟨_, rfl⟩
          have d3 : (W : Int) - 1 = (W1_ : Int) := by omega
          have d4 : (W1_ : Int) - (x : Int) = (U : Int) := by omega
          have MU := Lib.hid (And.intro hU hW1_)
          clear hU hW1_
          rw [hM] at hk HQ1 MI
          rw [hV] at MI
          have d1 : (H : Int) - 1 = (H1_ : Int) := by omega
          have d2 : (H1_ : Int) - (y : Int) = (V : Int) := by omega
          have MM := Lib.hid (And.intro hM (And.intro hV hH1_))
          clear hM hV hH1_
          have ka : (((M : Int) + (x : Int))).toNat = M + x := by omega
          have kb : ((M : Int) + (x : Int)) < (N : Int) := by omega
          have kd : 0 ≤ ((M : Int) + (x : Int)) := by omega
          have kr0 : (M + x) * 4 < N * 4 := by omega
          have kr1 : (M + x) * 4 + 1 < N * 4 := by omega
          have kr2 : (M + x) * 4 + 2 < N * 4 := by omega
          have kr3 : (M + x) * 4 + 3 < N * 4 := by omega
          obtain ⟨wa0, wb0, wa1, wb1, wa2, wb2, wa3, wb3, wa4, wb4, wa5, wb5⟩ : IntKind.i64.wrap (W1_ : Int) = (W1_ : Int) ∧ wrap64 (W1_ : Int) = (W1_ : Int) ∧ IntKind.i64.wrap (U : Int) = (U : Int) ∧ wrap64 (U : Int) = (U : Int) ∧ IntKind.i64.wrap (H1_ : Int) = (H1_ : Int) ∧ wrap64 (H1_ : Int) = (H1_ : Int) ∧ IntKind.i64.wrap (V : Int) = (V : Int) ∧ wrap64 (V : Int) = (V : Int) ∧ IntKind.i64.wrap (M : Int) = (M : Int) ∧ wrap64 (M : Int) = (M : Int) ∧ IntKind.i64.wrap ((M : Int) + (x : Int)) = ((M : Int) + (x : Int)) ∧ wrap64 ((M : Int) + (x : Int)) = ((M : Int) + (x : Int)) := ⟨wrap_i (x := (W1_ : Int)) (by omega) (by omega), wrap_6 (x := (W1_ : Int)) (by omega) (by omega), wrap_i (x := (U : Int)) (by omega) (by omega), wrap_6 (x := (U : Int)) (by omega) (by omega), wrap_i (x := (H1_ : Int)) (by omega) (by omega), wrap_6 (x := (H1_ : Int)) (by omega) (by omega), wrap_i (x := (V : Int)) (by omega) (by omega), wrap_6 (x := (V : Int)) (by omega) (by omega), wrap_i (x := (M : Int)) (by omega) (by omega), wrap_6 (x := (M : Int)) (by omega) (by omega), wrap_i (x := ((M : Int) + (x : Int))) (by omega) (by omega), wrap_6 (x := ((M : Int) + (x : Int))) (by omega) (by omega)⟩
          have HAT : Hid (∀ w5, Ext wr w5 → Calls Tryd.prog 67 #[.agg #[.int .i64 (W : Int), .int .i64 (H : Int), .slice (some ad) N cap], .int .i64 (x : Int), .int .i64 (y : Int)] w5 fun e w' => e = .returned (.agg #[.int .u8 P.r, .int .u8 P.g, .int .u8 P.b, .int .u8 P.a]) ∧ Ext w5 w') := Lib.hid (fun w5 h5 => by
            have h := at_any x y W H ad cap px w5 (HPX.out.ext h5) hW2 hH2 hlx hlt
            rw [hP, NM.out] at h
            exact h)
          clear hP HPX
          have p0 := B0.out.cell 0
          have p1 := B0.out.cell 1
          have p2 := B0.out.cell 2
          have k2 := FA.out.bk.cell 2
          go_wp2_with fail
          refine wp_region_held_drew (S := fun w' => w'.cell? ⟨w.heap.size, 0, none⟩ = some (.int .i64 (W : Int)) ∧ w'.cell? ⟨w.heap.size, 1, none⟩ = some (.int .i64 (H : Int)) ∧ w'.cell? ⟨w.heap.size, 2, none⟩ = some (.slice (some ad) N cap) ∧ w'.cell? ⟨T, 2, none⟩ = some (.slice (some ⟨g, 0, none⟩) N c)) (by kernel_rfl) ⟨p0, p1, p2, k2⟩ (fun hHeld => ?_)
          refine wpAnyH_take (i := 0) (v := ?_) rfl (by kernel_rfl) (by kernel_rfl) (by kernel_rfl) (fun _ _ _ h => h) (Or.inl ⟨by kernel_rfl, ?_⟩) hHeld ?_
          rotate_left
          · intro w hSw
            (try dsimp only at hSw)
            go_split_ands
            go_simp
            (try with_reducible rfl)
          try simp only [Act.put, List.setIfInBounds_toArray, List.set_cons_zero, List.set_cons_succ]
          refine wpAnyH_take (i := 1) (v := ?_) rfl (by kernel_rfl) (by kernel_rfl) (by kernel_rfl) (fun _ _ _ h => h) (Or.inl ⟨by kernel_rfl, ?_⟩) hHeld ?_
          rotate_left
          · intro w hSw
            (try dsimp only at hSw)
            go_split_ands
            go_simp
            (try with_reducible rfl)
          try simp only [Act.put, List.setIfInBounds_toArray, List.set_cons_zero, List.set_cons_succ]
          refine wpAnyH_take (i := 2) (v := ?_) rfl (by kernel_rfl) (by kernel_rfl) (by kernel_rfl) (fun _ _ _ h => h) (Or.inl ⟨by kernel_rfl, ?_⟩) hHeld ?_
          rotate_left
          · intro w hSw
            (try dsimp only at hSw)
            go_split_ands
            go_simp
            (try with_reducible rfl)
          try simp only [Act.put, List.setIfInBounds_toArray, List.set_cons_zero, List.set_cons_succ]
          refine wpAnyH_take (i := 3) (v := ?_) rfl (by kernel_rfl) (by kernel_rfl) (by kernel_rfl) (fun _ _ _ h => h) (Or.inl ⟨by kernel_rfl, ?_⟩) hHeld ?_
          rotate_left
          · intro w hSw
            (try dsimp only at hSw)
            go_split_ands
            go_simp
            (try with_reducible rfl)
          try simp only [Act.put, List.setIfInBounds_toArray, List.set_cons_zero, List.set_cons_succ]
          refine wpAnyH_take (i := 4) (v := ?_) rfl (by kernel_rfl) (by kernel_rfl) (by kernel_rfl) (fun _ _ _ h => h) (Or.inl ⟨by kernel_rfl, ?_⟩) hHeld ?_
          rotate_left
          · intro w hSw
            (try dsimp only at hSw)
            go_split_ands
            go_simp
            (try with_reducible rfl)
          try simp only [Act.put, List.setIfInBounds_toArray, List.set_cons_zero, List.set_cons_succ]
          refine wpAnyH_take (i := 5) (v := ?_) rfl (by kernel_rfl) (by kernel_rfl) (by kernel_rfl) (fun _ _ _ h => h) (Or.inl ⟨by kernel_rfl, ?_⟩) hHeld ?_
          rotate_left
          · intro w hSw
            (try dsimp only at hSw)
            go_split_ands
            go_simp
            (try with_reducible rfl)
          try simp only [Act.put, List.setIfInBounds_toArray, List.set_cons_zero, List.set_cons_succ]
          refine wpAnyH_take (i := 6) (v := ?_) rfl (by kernel_rfl) (by kernel_rfl) (by kernel_rfl) (fun _ _ _ h => h) (Or.inl ⟨by kernel_rfl, ?_⟩) hHeld ?_
          rotate_left
          · intro w hSw
            (try dsimp only at hSw)
            go_split_ands
            go_simp
            (try with_reducible rfl)
          try simp only [Act.put, List.setIfInBounds_toArray, List.set_cons_zero, List.set_cons_succ]
          refine wpAnyH_take (i := 7) (v := ?_) rfl (by kernel_rfl) (by kernel_rfl) (by kernel_rfl) (fun _ _ _ h => h) (Or.inl ⟨by kernel_rfl, ?_⟩) hHeld ?_
          rotate_left
          · intro w hSw
            (try dsimp only at hSw)
            go_split_ands
            go_simp
            (try with_reducible rfl)
          try simp only [Act.put, List.setIfInBounds_toArray, List.set_cons_zero, List.set_cons_succ]
          refine wpAnyH_take (i := 8) (v := ?_) rfl (by kernel_rfl) (by kernel_rfl) (by kernel_rfl) (fun _ _ _ h => h) (Or.inl ⟨by kernel_rfl, ?_⟩) hHeld ?_
          rotate_left
          · intro w hSw
            (try dsimp only at hSw)
            go_split_ands
            go_simp
            (try with_reducible rfl)
          try simp only [Act.put, List.setIfInBounds_toArray, List.set_cons_zero, List.set_cons_succ]
          refine wpAnyH_take (i := 9) (v := ?_) rfl (by kernel_rfl) (by kernel_rfl) (by kernel_rfl) (fun _ _ _ h => h) (Or.inl ⟨by kernel_rfl, ?_⟩) hHeld ?_
          rotate_left
          · intro w hSw
            (try dsimp only at hSw)
            go_split_ands
            go_simp
            (try with_reducible rfl)
          try simp only [Act.put, List.setIfInBounds_toArray, List.set_cons_zero, List.set_cons_succ]
          refine wpAnyH_take (i := 10) (v := ?_) rfl (by kernel_rfl) (by kernel_rfl) (by kernel_rfl) (fun _ _ _ h => h) (Or.inl ⟨by kernel_rfl, ?_⟩) hHeld ?_
          rotate_left
          · intro w hSw
            (try dsimp only at hSw)
            go_split_ands
            go_simp
            (try with_reducible rfl)
          try simp only [Act.put, List.setIfInBounds_toArray, List.set_cons_zero, List.set_cons_succ]
          refine wpAnyH_ready (rs := [11]) (by kernel_rfl) (by simp) ?_
          refine AllReadyH.cons rfl (fun K hK => ?_) AllReadyH.nil
          clear hHeld
          go_simp
          refine (HAT.out _ (by first | exact Ext.refl _ | exact Below.drew (Ext.refl wr))).mono ?_
          rintro e w5 ⟨rfl, hx5⟩
          have ha : Ext wr w5 := ⟨hx5.os, hx5.tape, hx5.output, hx5.size, hx5.block⟩
          clear hx5
          go_simp
          refine hK.out _ _ ⟨(B0.out.ext ha).cell 0, (B0.out.ext ha).cell 1, (B0.out.ext ha).cell 2, (FA.out.bk.ext ha).cell 2⟩ (fun hHeld => ?_)
          clear hK K
          try simp only [Act.put, List.setIfInBounds_toArray, List.set_cons_zero, List.set_cons_succ]
          refine wpAnyH_take (i := 12) (v := ?_) rfl (by kernel_rfl) (by kernel_rfl) (by kernel_rfl) (fun _ _ _ h => h) (Or.inl ⟨by kernel_rfl, ?_⟩) hHeld ?_
          rotate_left
          · intro w hSw
            (try dsimp only at hSw)
            go_split_ands
            go_simp
            (try with_reducible rfl)
          try simp only [Act.put, List.setIfInBounds_toArray, List.set_cons_zero, List.set_cons_succ]
          have FA5 := Lib.hid (FA.out.step ha)
          have B05 := Lib.hid (B0.out.ext ha)
          clear ha FA B0
          obtain ⟨c0, f0⟩ := FA5.out.row ((M + x) * 4) kr0
          obtain ⟨c1, f1⟩ := FA5.out.row ((M + x) * 4 + 1) kr1
          obtain ⟨c2, f2⟩ := FA5.out.row ((M + x) * 4 + 2) kr2
          obtain ⟨c3, f3⟩ := FA5.out.row ((M + x) * 4 + 3) kr3
          have FN := Lib.hid ((FA5.out.put (M + x) P).congr fun i _ => congrFun HQ1.out i)
          have K := set4_keeps w5 g (M + x) P
          have B0N := Lib.hid (B05.out.keeps K NB.out)
          clear K
          unfold set4 at FN B0N
          refine wpAnyH_ready (rs := [13]) (by kernel_rfl) (by simp) ?_
          refine AllReadyH.cons rfl (fun K hK => ?_) AllReadyH.nil
          clear hHeld
          go_simp
          refine hK.out _ _ ⟨B0N.out.cell 0, B0N.out.cell 1, B0N.out.cell 2, FN.out.bk.cell 2⟩ (fun hHeld => ?_)
          clear hK K
          try simp only [Act.put, List.setIfInBounds_toArray, List.set_cons_zero, List.set_cons_succ]
          refine wpAnyH_done (by kernel_rfl) ?_ _
          clear hHeld wa0 wb0 wa1 wb1 wa2 wb2 wa3 wb3 wa4 wb4 wa5 wb5
          go_wp2_with fail
          go_roundw
          case rel => exact ⟨x + 1, by omega, by go_num, FN, B0N⟩
          case measure => simp [intOf]; omega
        · obtain rfl : x = W := by omega
          have HQ2 := Lib.hid (HG0.out.next y)
          go_wp2_with fail
          go_roundw
          case rel => exact ⟨y + 1, by omega, by go_num, by rw [HQ2.out]; exact FA, B0⟩
          case measure => simp [intOf]; omega
    · obtain rfl : y = H := by omega
      have k0 := FA.out.bk.cell 0
      have k1 := FA.out.bk.cell 1
      have k2 := FA.out.bk.cell 2
      have d0 := FA.out.res.cell 0
      have e0 := FA.out.res.frozen 0
      have d1 := FA.out.res.cell 1
      have e1 := FA.out.res.frozen 1
      have d2 := FA.out.res.cell 2
      have e2 := FA.out.res.frozen 2
      have PC := Lib.hid ((FA.out.congr (qx := q) (fun i hi => HG0.out.fin i hi)).close (by omega : w.heap.size ≤ w.heap.size + 1))
      have GN := Lib.hid FA.out.gn
      clear FA B0
      go_wp2_with fail
      obtain ⟨k0, k1, k2, hP, hX⟩ := PC.out
      exact bodyPost_ret (v := .agg #[.int .i64 (W : Int), .int .i64 (y : Int), .slice (some ⟨g, 0, none⟩) N c]) (by simp [results, Tryd.results43, go_sem, k0, k1, k2]) rfl ⟨⟨g, ⟨c, rfl⟩, hP, GN.out⟩, hX⟩
end Go.Proofs.YtkfjcgcgfdibaaaDoor
namespace Go.Proofs.YtkfjcgcgfdibaaaDoor
open Go.RowKit
set_option maxRecDepth 100000
set_option linter.unusedSimpArgs false in
set_option maxHeartbeats 2000000 in
theorem turnOf_any (W H : Nat) (ad : Addr) (cap : Nat) (px : Nat → P4) (w : World) (hx : Pxs w (some ad) (W * H) px) (hW : 1 ≤ W ∧ W ≤ 256) (hH : 1 ≤ H ∧ H ≤ 256) :
    Calls Tryd.prog 42 #[.agg #[.int .i64 (W : Int), .int .i64 (H : Int), .slice (some ad) (W * H) cap]] w fun e w' => (∃ g c, e = .returned (.agg #[.int .i64 (H : Int), .int .i64 (W : Int), .slice (some ⟨g, 0, none⟩) (H * W) c]) ∧ Po w' g (H * W) ((lin H fun x y => px ((H - 1 - x) * W + y))) ∧ w.heap.size ≤ g) ∧ Ext w w' := by
  obtain ⟨hW1, hW2⟩ := hW
  obtain ⟨hH1, hH2⟩ := hH
  have HX := Lib.hid hx
  obtain ⟨G, hG⟩ := grid_is (A := H) (B := W) (N := H * W) (idx := fun x y => x * H + (H - 1 - y)) (val := fun x y => px (y * W + x)) (s0 := fun _ => P4.zero) (q := (lin H fun x y => px ((H - 1 - x) * W + y))) (fun x y x' y' h1 h2 h3 h4 e => by have := lin_inj (by omega) (by omega) e; omega) (fun i hi => by obtain ⟨x, y, h1, h2, e⟩ := lin_sur hi; exact ⟨y, H - 1 - x, by omega, by omega, by rw [← e]; congr 1; omega⟩) (fun x y h1 h2 => (lin_at H _ _ _ (by omega)).trans (by show px _ = px _; congr 1; congr 1; congr 1; omega))
  have HG0 := Lib.hid hG
  clear hG
  obtain ⟨q, hq⟩ : ∃ q, (lin H fun x y => px ((H - 1 - x) * W + y)) = q := ⟨_, rfl⟩
  rw [hq] at HG0 ⊢
  clear hq
  obtain ⟨N, hN⟩ : ∃ N, H * W = N := ⟨_, rfl⟩
  have hNl : N ≤ 65536 := by rw [← hN]; exact Nat.mul_le_mul (show H ≤ 256 by omega) (show W ≤ 256 by omega)
  have hN0 : 0 < N := by rw [← hN]; exact Nat.mul_pos (by omega) (by omega)
  rw [hN] at HG0 ⊢
  have NN := Lib.hid hN
  obtain ⟨M0, hM0⟩ : ∃ M0, W * H = M0 := ⟨_, rfl⟩
  have NM := Lib.hid hM0
  rw [hM0] at HX
  try rw [hM0]
  clear hM0
  clear hN hx
  go_enter Tryd.func42, Tryd.ntmps42
  go_wp2_with fail
  refine calls_world (fun wz => Ext w wz ∧ wz.heap.size = w.heap.size + 1 + 1 ∧ Bk wz (w.heap.size) #[.int .i64 (W : Int), .int .i64 (H : Int), .slice (some ad) M0 cap] ∧ Bk wz (w.heap.size + 1) #[.int .i64 0, .int .i64 0, .slice none 0 0]) ⟨by repeat (first | exact Ext.refl _ | refine Ext.alloc ?_ _), by simp, by repeat (first | exact Bk.at (by simp) | refine Bk.old ?_), by repeat (first | exact Bk.at (by simp) | refine Bk.old ?_)⟩ ?_
  rintro w1 ⟨hX, hZ, hB0, hB1⟩
  have X1 := Lib.hid hX
  have SZ := Lib.hid hZ
  have B0 := Lib.hid hB0
  have B3 := Lib.hid hB1
  clear hX hZ hB0 hB1
  have HBK := Lib.hid (blank_any H W P4.zero w1 (by omega) (by omega))
  rw [NN.out] at HBK
  refine HBK.out.mono ?_
  clear HBK
  rintro e w2 ⟨⟨g, rfl, hpo, hg⟩, h⟩
  have X2 := Lib.hid h
  have HP := Lib.hid hpo
  have HG : Hid (w1.heap.size ≤ g ∧ g < w2.heap.size) := Lib.hid (And.intro hg (World.block_lt_of_cell? _ _ (hpo 0 (by omega)).1))
  clear h hpo hg
  go_wp2_with fail
  have E_ := (Ext.refl w2).alloc (.cells #[.int .i64 (H : Int), .int .i64 (W : Int), .slice (some ⟨g, 0, none⟩) N N] 24)
  have FA : Hid (FAt w (w2.alloc (.cells #[.int .i64 (H : Int), .int .i64 (W : Int), .slice (some ⟨g, 0, none⟩) N N] 24)) (w.heap.size + 1) w2.heap.size g (H : Int) (W : Int) N N (G 0 0)) := Lib.hid (by
    rw [HG0.out.start]
    obtain ⟨q1, q2⟩ := HG.out
    have q3 := SZ.out
    exact ⟨X1.out.trans (X2.out.trans E_), (B3.out.ext X2.out).ext E_, Bk.at rfl, HP.out.ext E_, by omega, by omega, by omega⟩)
  have B0' := Lib.hid (B0.out.ext (X2.out.trans E_))
  clear E_
  refine wp_world (fun wz => Hid (FAt w wz (w.heap.size + 1) w2.heap.size g (H : Int) (W : Int) N N (G 0 0)) ∧ Hid (Bk wz w.heap.size #[.int .i64 (W : Int), .int .i64 (H : Int), .slice (some ad) M0 cap])) ⟨FA, B0'⟩ ?_
  obtain ⟨T, hT⟩ : ∃ T, w2.heap.size = T := ⟨_, rfl⟩
  rw [hT] at *
  have NB : Hid (w.heap.size ≠ g) := Lib.hid (by have := HG.out; have := SZ.out; omega)
  clear FA B0' HP B0 B3 X1 X2 HG SZ hT
  rintro wz ⟨FA, B0⟩
  go_loopw [4] (fun cc wr => ∃ y : Nat, y ≤ H ∧ cc = .int .i64 y ∧ Hid (FAt w wr (w.heap.size + 1) T g (H : Int) (W : Int) N N (G y 0)) ∧ Hid (Bk wr w.heap.size #[.int .i64 (W : Int), .int .i64 (H : Int), .slice (some ad) M0 cap])) (fun cc _ => H - (intOf cc).toNat)
  case atStart => exact ⟨0, by omega, rfl, FA, B0⟩
  case round =>
    clear FA B0
    obtain ⟨y, hy, rfl, FA, B0⟩ := hrel
    have b3 := B0.out.cell 1
    by_cases hlt : y < H
    · go_wp2_with fail
      clear b3
      go_loopw [5] (fun cc wr => ∃ x : Nat, x ≤ W ∧ cc = .int .i64 x ∧ Hid (FAt w wr (w.heap.size + 1) T g (H : Int) (W : Int) N N (G y x)) ∧ Hid (Bk wr w.heap.size #[.int .i64 (W : Int), .int .i64 (H : Int), .slice (some ad) M0 cap])) (fun cc _ => W - (intOf cc).toNat)
      case atStart => exact ⟨0, by omega, rfl, FA, B0⟩
      case round =>
        clear FA B0
        obtain ⟨x, hx, rfl, FA, B0⟩ := hrel
        have b2 := B0.out.cell 0
        by_cases hlx : x < W
        · have HPX : Hid (Pxs wr (some ad) (W * H) px) := Lib.hid (by rw [NM.out]; exact HX.out.ext FA.out.ext)
          obtain ⟨P, hP⟩ : ∃ P, px (y * W + x) = P := ⟨_, rfl⟩
          have HQ1 := Lib.hid (HG0.out.more y x)
          simp only [hP] at HQ1
          have hk : x * H + (H - 1 - y) < N := by rw [← NN.out]; exact mul_lt_of hlx (by omega)
          have MI : (x : Int) * (H : Int) = ((x * H : Nat) : Int) := by simp
          obtain ⟨M, hM⟩ : ∃ z : Nat, x * H = z := ⟨_, rfl⟩
          rw [hM] at hk HQ1 MI
          obtain ⟨M1, hM1⟩ : ∃ z : Nat, M + H = z := ⟨_, rfl⟩
          obtain ⟨M2, hM2⟩ : ∃ z : Nat, M + H - 1 = z := ⟨_, rfl⟩
          obtain ⟨K, hK⟩ : ∃ z : Nat, M + (H - 1 - y) = z := ⟨_, rfl⟩
          rw [hK] at hk HQ1
          have d0 : (M : Int) + (H : Int) = (M1 : Int) := by omega
          have d1 : (M1 : Int) - 1 = (M2 : Int) := by omega
          have d2 : (M2 : Int) - (y : Int) = (K : Int) := by omega
          have MM := Lib.hid (And.intro hM (And.intro hM1 (And.intro hM2 hK)))
          clear hM hM1 hM2 hK
          have ka : ((K : Int)).toNat = K := by omega
          have kb : (K : Int) < (N : Int) := by omega
          have kd : 0 ≤ (K : Int) := by omega
          have kr0 : (K) * 4 < N * 4 := by omega
          have kr1 : (K) * 4 + 1 < N * 4 := by omega
          have kr2 : (K) * 4 + 2 < N * 4 := by omega
          have kr3 : (K) * 4 + 3 < N * 4 := by omega
          obtain ⟨wa0, wb0, wa1, wb1, wa2, wb2, wa3, wb3⟩ : IntKind.i64.wrap (M : Int) = (M : Int) ∧ wrap64 (M : Int) = (M : Int) ∧ IntKind.i64.wrap (M1 : Int) = (M1 : Int) ∧ wrap64 (M1 : Int) = (M1 : Int) ∧ IntKind.i64.wrap (M2 : Int) = (M2 : Int) ∧ wrap64 (M2 : Int) = (M2 : Int) ∧ IntKind.i64.wrap (K : Int) = (K : Int) ∧ wrap64 (K : Int) = (K : Int) := ⟨wrap_i (x := (M : Int)) (by omega) (by omega), wrap_6 (x := (M : Int)) (by omega) (by omega), wrap_i (x := (M1 : Int)) (by omega) (by omega), wrap_6 (x := (M1 : Int)) (by omega) (by omega), wrap_i (x := (M2 : Int)) (by omega) (by omega), wrap_6 (x := (M2 : Int)) (by omega) (by omega), wrap_i (x := (K : Int)) (by omega) (by omega), wrap_6 (x := (K : Int)) (by omega) (by omega)⟩
          have HAT : Hid (∀ w5, Ext wr w5 → Calls Tryd.prog 67 #[.agg #[.int .i64 (W : Int), .int .i64 (H : Int), .slice (some ad) M0 cap], .int .i64 (x : Int), .int .i64 (y : Int)] w5 fun e w' => e = .returned (.agg #[.int .u8 P.r, .int .u8 P.g, .int .u8 P.b, .int .u8 P.a]) ∧ Ext w5 w') := Lib.hid (fun w5 h5 => by
            have h := at_any x y W H ad cap px w5 (HPX.out.ext h5) hW2 hH2 hlx hlt
            rw [hP, NM.out] at h
            exact h)
          clear hP HPX
          have p0 := B0.out.cell 0
          have p1 := B0.out.cell 1
          have p2 := B0.out.cell 2
          have k2 := FA.out.bk.cell 2
          go_wp2_with fail
          refine wp_region_held_drew (S := fun w' => w'.cell? ⟨w.heap.size, 0, none⟩ = some (.int .i64 (W : Int)) ∧ w'.cell? ⟨w.heap.size, 1, none⟩ = some (.int .i64 (H : Int)) ∧ w'.cell? ⟨w.heap.size, 2, none⟩ = some (.slice (some ad) M0 cap) ∧ w'.cell? ⟨T, 2, none⟩ = some (.slice (some ⟨g, 0, none⟩) N N)) (by kernel_rfl) ⟨p0, p1, p2, k2⟩ (fun hHeld => ?_)
          refine wpAnyH_take (i := 0) (v := ?_) rfl (by kernel_rfl) (by kernel_rfl) (by kernel_rfl) (fun _ _ _ h => h) (Or.inl ⟨by kernel_rfl, ?_⟩) hHeld ?_
          rotate_left
          · intro w hSw
            (try dsimp only at hSw)
            go_split_ands
            go_simp
            (try with_reducible rfl)
          try simp only [Act.put, List.setIfInBounds_toArray, List.set_cons_zero, List.set_cons_succ]
          refine wpAnyH_take (i := 1) (v := ?_) rfl (by kernel_rfl) (by kernel_rfl) (by kernel_rfl) (fun _ _ _ h => h) (Or.inl ⟨by kernel_rfl, ?_⟩) hHeld ?_
          rotate_left
          · intro w hSw
            (try dsimp only at hSw)
            go_split_ands
            go_simp
            (try with_reducible rfl)
          try simp only [Act.put, List.setIfInBounds_toArray, List.set_cons_zero, List.set_cons_succ]
          refine wpAnyH_take (i := 2) (v := ?_) rfl (by kernel_rfl) (by kernel_rfl) (by kernel_rfl) (fun _ _ _ h => h) (Or.inl ⟨by kernel_rfl, ?_⟩) hHeld ?_
          rotate_left
          · intro w hSw
            (try dsimp only at hSw)
            go_split_ands
            go_simp
            (try with_reducible rfl)
          try simp only [Act.put, List.setIfInBounds_toArray, List.set_cons_zero, List.set_cons_succ]
          refine wpAnyH_take (i := 3) (v := ?_) rfl (by kernel_rfl) (by kernel_rfl) (by kernel_rfl) (fun _ _ _ h => h) (Or.inl ⟨by kernel_rfl, ?_⟩) hHeld ?_
          rotate_left
          · intro w hSw
            (try dsimp only at hSw)
            go_split_ands
            go_simp
            (try with_reducible rfl)
          try simp only [Act.put, List.setIfInBounds_toArray, List.set_cons_zero, List.set_cons_succ]
          refine wpAnyH_take (i := 4) (v := ?_) rfl (by kernel_rfl) (by kernel_rfl) (by kernel_rfl) (fun _ _ _ h => h) (Or.inl ⟨by kernel_rfl, ?_⟩) hHeld ?_
          rotate_left
          · intro w hSw
            (try dsimp only at hSw)
            go_split_ands
            go_simp
            (try with_reducible rfl)
          try simp only [Act.put, List.setIfInBounds_toArray, List.set_cons_zero, List.set_cons_succ]
          refine wpAnyH_take (i := 5) (v := ?_) rfl (by kernel_rfl) (by kernel_rfl) (by kernel_rfl) (fun _ _ _ h => h) (Or.inl ⟨by kernel_rfl, ?_⟩) hHeld ?_
          rotate_left
          · intro w hSw
            (try dsimp only at hSw)
            go_split_ands
            go_simp
            (try with_reducible rfl)
          try simp only [Act.put, List.setIfInBounds_toArray, List.set_cons_zero, List.set_cons_succ]
          refine wpAnyH_take (i := 6) (v := ?_) rfl (by kernel_rfl) (by kernel_rfl) (by kernel_rfl) (fun _ _ _ h => h) (Or.inl ⟨by kernel_rfl, ?_⟩) hHeld ?_
          rotate_left
          · intro w hSw
            (try dsimp only at hSw)
            go_split_ands
            go_simp
            (try with_reducible rfl)
          try simp only [Act.put, List.setIfInBounds_toArray, List.set_cons_zero, List.set_cons_succ]
          refine wpAnyH_take (i := 7) (v := ?_) rfl (by kernel_rfl) (by kernel_rfl) (by kernel_rfl) (fun _ _ _ h => h) (Or.inl ⟨by kernel_rfl, ?_⟩) hHeld ?_
          rotate_left
          · intro w hSw
            (try dsimp only at hSw)
            go_split_ands
            go_simp
            (try with_reducible rfl)
          try simp only [Act.put, List.setIfInBounds_toArray, List.set_cons_zero, List.set_cons_succ]
          refine wpAnyH_take (i := 8) (v := ?_) rfl (by kernel_rfl) (by kernel_rfl) (by kernel_rfl) (fun _ _ _ h => h) (Or.inl ⟨by kernel_rfl, ?_⟩) hHeld ?_
          rotate_left
          · intro w hSw
            (try dsimp only at hSw)
            go_split_ands
            go_simp
            (try with_reducible rfl)
          try simp only [Act.put, List.setIfInBounds_toArray, List.set_cons_zero, List.set_cons_succ]
          refine wpAnyH_take (i := 9) (v := ?_) rfl (by kernel_rfl) (by kernel_rfl) (by kernel_rfl) (fun _ _ _ h => h) (Or.inl ⟨by kernel_rfl, ?_⟩) hHeld ?_
          rotate_left
          · intro w hSw
            (try dsimp only at hSw)
            go_split_ands
            go_simp
            (try with_reducible rfl)
          try simp only [Act.put, List.setIfInBounds_toArray, List.set_cons_zero, List.set_cons_succ]
          refine wpAnyH_take (i := 10) (v := ?_) rfl (by kernel_rfl) (by kernel_rfl) (by kernel_rfl) (fun _ _ _ h => h) (Or.inl ⟨by kernel_rfl, ?_⟩) hHeld ?_
          rotate_left
          · intro w hSw
            (try dsimp only at hSw)
            go_split_ands
            go_simp
            (try with_reducible rfl)
          try simp only [Act.put, List.setIfInBounds_toArray, List.set_cons_zero, List.set_cons_succ]
          refine wpAnyH_take (i := 11) (v := ?_) rfl (by kernel_rfl) (by kernel_rfl) (by kernel_rfl) (fun _ _ _ h => h) (Or.inl ⟨by kernel_rfl, ?_⟩) hHeld ?_
          rotate_left
          · intro w hSw
            (try dsimp only at hSw)
            go_split_ands
            go_simp
            (try with_reducible rfl)
          try simp only [Act.put, List.setIfInBounds_toArray, List.set_cons_zero, List.set_cons_succ]
          refine wpAnyH_take (i := 12) (v := ?_) rfl (by kernel_rfl) (by kernel_rfl) (by kernel_rfl) (fun _ _ _ h => h) (Or.inl ⟨by kernel_rfl, ?_⟩) hHeld ?_
          rotate_left
          · intro w hSw
            (try dsimp only at hSw)
            go_split_ands
            go_simp
            (try with_reducible rfl)
          try simp only [Act.put, List.setIfInBounds_toArray, List.set_cons_zero, List.set_cons_succ]
          refine wpAnyH_take (i := 13) (v := ?_) rfl (by kernel_rfl) (by kernel_rfl) (by kernel_rfl) (fun _ _ _ h => h) (Or.inl ⟨by kernel_rfl, ?_⟩) hHeld ?_
          rotate_left
          · intro w hSw
            (try dsimp only at hSw)
            go_split_ands
            go_simp
            (try with_reducible rfl)
          try simp only [Act.put, List.setIfInBounds_toArray, List.set_cons_zero, List.set_cons_succ]
          refine wpAnyH_take (i := 14) (v := ?_) rfl (by kernel_rfl) (by kernel_rfl) (by kernel_rfl) (fun _ _ _ h => h) (Or.inl ⟨by kernel_rfl, ?_⟩) hHeld ?_
          rotate_left
          · intro w hSw
            (try dsimp only at hSw)
            go_split_ands
            go_simp
            (try with_reducible rfl)
          try simp only [Act.put, List.setIfInBounds_toArray, List.set_cons_zero, List.set_cons_succ]
          refine wpAnyH_ready (rs := [15]) (by kernel_rfl) (by simp) ?_
          refine AllReadyH.cons rfl (fun K hK => ?_) AllReadyH.nil
          clear hHeld
          go_simp
          refine (HAT.out _ (by first | exact Ext.refl _ | exact Below.drew (Ext.refl wr))).mono ?_
          rintro e w5 ⟨rfl, hx5⟩
          have ha : Ext wr w5 := ⟨hx5.os, hx5.tape, hx5.output, hx5.size, hx5.block⟩
          clear hx5
          go_simp
          refine hK.out _ _ ⟨(B0.out.ext ha).cell 0, (B0.out.ext ha).cell 1, (B0.out.ext ha).cell 2, (FA.out.bk.ext ha).cell 2⟩ (fun hHeld => ?_)
          clear hK K
          try simp only [Act.put, List.setIfInBounds_toArray, List.set_cons_zero, List.set_cons_succ]
          refine wpAnyH_take (i := 16) (v := ?_) rfl (by kernel_rfl) (by kernel_rfl) (by kernel_rfl) (fun _ _ _ h => h) (Or.inl ⟨by kernel_rfl, ?_⟩) hHeld ?_
          rotate_left
          · intro w hSw
            (try dsimp only at hSw)
            go_split_ands
            go_simp
            (try with_reducible rfl)
          try simp only [Act.put, List.setIfInBounds_toArray, List.set_cons_zero, List.set_cons_succ]
          have FA5 := Lib.hid (FA.out.step ha)
          have B05 := Lib.hid (B0.out.ext ha)
          clear ha FA B0
          obtain ⟨c0, f0⟩ := FA5.out.row ((K) * 4) kr0
          obtain ⟨c1, f1⟩ := FA5.out.row ((K) * 4 + 1) kr1
          obtain ⟨c2, f2⟩ := FA5.out.row ((K) * 4 + 2) kr2
          obtain ⟨c3, f3⟩ := FA5.out.row ((K) * 4 + 3) kr3
          have FN := Lib.hid ((FA5.out.put (K) P).congr fun i _ => congrFun HQ1.out i)
          have K := set4_keeps w5 g (K) P
          have B0N := Lib.hid (B05.out.keeps K NB.out)
          clear K
          unfold set4 at FN B0N
          refine wpAnyH_ready (rs := [17]) (by kernel_rfl) (by simp) ?_
          refine AllReadyH.cons rfl (fun K hK => ?_) AllReadyH.nil
          clear hHeld
          go_simp
          refine hK.out _ _ ⟨B0N.out.cell 0, B0N.out.cell 1, B0N.out.cell 2, FN.out.bk.cell 2⟩ (fun hHeld => ?_)
          clear hK K
          try simp only [Act.put, List.setIfInBounds_toArray, List.set_cons_zero, List.set_cons_succ]
          refine wpAnyH_done (by kernel_rfl) ?_ _
          clear hHeld wa0 wb0 wa1 wb1 wa2 wb2 wa3 wb3
          go_wp2_with fail
          go_roundw
          case rel => exact ⟨x + 1, by omega, by go_num, FN, B0N⟩
          case measure => simp [intOf]; omega
        · obtain rfl : x = W := by omega
          have HQ2 := Lib.hid (HG0.out.next y)
          go_wp2_with fail
          go_roundw
          case rel => exact ⟨y + 1, by omega, by go_num, by rw [HQ2.out]; exact FA, B0⟩
          case measure => simp [intOf]; omega
    · obtain rfl : y = H := by omega
      have k0 := FA.out.bk.cell 0
      have k1 := FA.out.bk.cell 1
      have k2 := FA.out.bk.cell 2
      have d0 := FA.out.res.cell 0
      have e0 := FA.out.res.frozen 0
      have d1 := FA.out.res.cell 1
      have e1 := FA.out.res.frozen 1
      have d2 := FA.out.res.cell 2
      have e2 := FA.out.res.frozen 2
      have PC := Lib.hid ((FA.out.congr (qx := q) (fun i hi => HG0.out.fin i hi)).close (by omega : w.heap.size ≤ w.heap.size + 1))
      have GN := Lib.hid FA.out.gn
      clear FA B0
      go_wp2_with fail
      obtain ⟨k0, k1, k2, hP, hX⟩ := PC.out
      exact bodyPost_ret (v := .agg #[.int .i64 (y : Int), .int .i64 (W : Int), .slice (some ⟨g, 0, none⟩) N N]) (by simp [results, Tryd.results42, go_sem, k0, k1, k2]) rfl ⟨⟨g, ⟨N, rfl⟩, hP, GN.out⟩, hX⟩
end Go.Proofs.YtkfjcgcgfdibaaaDoor
