/-
  The document's ScaleOf.
  pixel.Mix.
  The document's MixOf.
  raster.Half.
  raster.Half where it can.
-/
import Derived.Test.YtkfjcgcgfdibaaaDoorRasterFloodsG4
import Derived.Test.YtkfjcgcgfdibaaaDoorRasterFloodsG12
import Derived.Test.YtkfjcgcgfdibaaaDoorRasterFloodsG11
import Derived.Test.YtkfjcgcgfdibaaaDoorRasterFloodsG5
import Derived.StillTailTactics
import Derived.Test.YtkfjcgcgfdibaaaDoorRasterFloodsG3
namespace Go.Proofs.YtkfjcgcgfdibaaaDoor
open Go.RowKit
set_option maxRecDepth 100000
set_option linter.unusedSimpArgs false in
set_option maxHeartbeats 2000000 in
theorem scaleOf_any (W H ww hh : Nat) (ad : Addr) (cap : Nat) (px : Nat → P4) (w : World) (hx : Pxs w (some ad) (W * H) px) (hW : 1 ≤ W ∧ W ≤ 256) (hH : 1 ≤ H ∧ H ≤ 256) (hww : 1 ≤ ww ∧ ww ≤ 256) (hhh : 1 ≤ hh ∧ hh ≤ 256) :
    Calls Tryd.prog 45 #[.agg #[.int .i64 (W : Int), .int .i64 (H : Int), .slice (some ad) (W * H) cap], .int .i64 (ww : Int), .int .i64 (hh : Int)] w fun e w' => (∃ g c, e = .returned (.agg #[.int .i64 (ww : Int), .int .i64 (hh : Int), .slice (some ⟨g, 0, none⟩) (ww * hh) c]) ∧ Po w' g (ww * hh) (scaleP W H ww hh px) ∧ w.heap.size ≤ g) ∧ Ext w w' := by
  obtain ⟨hW1, hW2⟩ := hW
  obtain ⟨hH1, hH2⟩ := hH
  obtain ⟨hw1, hw2⟩ := hww
  obtain ⟨hh1, hh2⟩ := hhh
  have HX := Lib.hid hx
  obtain ⟨G, hG⟩ := grid_is (A := hh) (B := ww) (N := ww * hh) (idx := fun x y => y * ww + x) (val := fun x y => px (y * H / hh * W + x * W / ww)) (s0 := fun _ => P4.zero) (q := scaleP W H ww hh px) (fun x y x' y' h1 h2 h3 h4 e => lin_inj h1 h3 e) (fun i hi => lin_sur hi) (fun x y h1 h2 => lin_at ww _ x y h1)
  have HG0 := Lib.hid hG
  clear hG
  obtain ⟨q, hq⟩ : ∃ q, scaleP W H ww hh px = q := ⟨_, rfl⟩
  rw [hq] at HG0 ⊢
  clear hq
  obtain ⟨N, hN⟩ : ∃ N, ww * hh = N := ⟨_, rfl⟩
  have hNl : N ≤ 65536 := by rw [← hN]; exact Nat.mul_le_mul (show ww ≤ 256 by omega) (show hh ≤ 256 by omega)
  have hN0 : 0 < N := by rw [← hN]; exact Nat.mul_pos (by omega) (by omega)
  rw [hN] at HG0 ⊢
  have NN := Lib.hid hN
  obtain ⟨M0, hM0⟩ : ∃ M0, W * H = M0 := ⟨_, rfl⟩
  have NM := Lib.hid hM0
  rw [hM0] at HX
  try rw [hM0]
  clear hM0
  clear hN hx
  go_enter Tryd.func45, Tryd.ntmps45
  go_wp2_with fail
  refine calls_world (fun wz => Ext w wz ∧ wz.heap.size = w.heap.size + 1 + 1 ∧ Bk wz (w.heap.size) #[.int .i64 (W : Int), .int .i64 (H : Int), .slice (some ad) M0 cap] ∧ Bk wz (w.heap.size + 1) #[.int .i64 0, .int .i64 0, .slice none 0 0]) ⟨by repeat (first | exact Ext.refl _ | refine Ext.alloc ?_ _), by simp, by repeat (first | exact Bk.at (by simp) | refine Bk.old ?_), by repeat (first | exact Bk.at (by simp) | refine Bk.old ?_)⟩ ?_
  rintro w1 ⟨hX, hZ, hB0, hB1⟩
  have X1 := Lib.hid hX
  have SZ := Lib.hid hZ
  have B0 := Lib.hid hB0
  have B3 := Lib.hid hB1
  clear hX hZ hB0 hB1
  have HBK := Lib.hid (blank_any ww hh P4.zero w1 (by omega) (by omega))
  rw [NN.out] at HBK
  refine HBK.out.mono ?_
  clear HBK
  rintro e w2 ⟨⟨g, rfl, hpo, hg⟩, h⟩
  have X2 := Lib.hid h
  have HP := Lib.hid hpo
  have HG : Hid (w1.heap.size ≤ g ∧ g < w2.heap.size) := Lib.hid (And.intro hg (World.block_lt_of_cell? _ _ (hpo 0 (by omega)).1))
  clear h hpo hg
  go_wp2_with fail
  have E_ := (Ext.refl w2).alloc (.cells #[.int .i64 (ww : Int), .int .i64 (hh : Int), .slice (some ⟨g, 0, none⟩) N N] 24)
  have FA : Hid (FAt w (w2.alloc (.cells #[.int .i64 (ww : Int), .int .i64 (hh : Int), .slice (some ⟨g, 0, none⟩) N N] 24)) (w.heap.size + 1) w2.heap.size g (ww : Int) (hh : Int) N N (G 0 0)) := Lib.hid (by
    rw [HG0.out.start]
    obtain ⟨q1, q2⟩ := HG.out
    have q3 := SZ.out
    exact ⟨X1.out.trans (X2.out.trans E_), (B3.out.ext X2.out).ext E_, Bk.at rfl, HP.out.ext E_, by omega, by omega, by omega⟩)
  have B0' := Lib.hid (B0.out.ext (X2.out.trans E_))
  clear E_
  refine wp_world (fun wz => Hid (FAt w wz (w.heap.size + 1) w2.heap.size g (ww : Int) (hh : Int) N N (G 0 0)) ∧ Hid (Bk wz w.heap.size #[.int .i64 (W : Int), .int .i64 (H : Int), .slice (some ad) M0 cap])) ⟨FA, B0'⟩ ?_
  obtain ⟨T, hT⟩ : ∃ T, w2.heap.size = T := ⟨_, rfl⟩
  rw [hT] at *
  have NB : Hid (w.heap.size ≠ g) := Lib.hid (by have := HG.out; have := SZ.out; omega)
  clear FA B0' HP B0 B3 X1 X2 HG SZ hT
  rintro wz ⟨FA, B0⟩
  go_loopw [8] (fun cc wr => ∃ y : Nat, y ≤ hh ∧ cc = .int .i64 y ∧ Hid (FAt w wr (w.heap.size + 1) T g (ww : Int) (hh : Int) N N (G y 0)) ∧ Hid (Bk wr w.heap.size #[.int .i64 (W : Int), .int .i64 (H : Int), .slice (some ad) M0 cap])) (fun cc _ => hh - (intOf cc).toNat)
  case atStart => exact ⟨0, by omega, rfl, FA, B0⟩
  case round =>
    clear FA B0
    obtain ⟨y, hy, rfl, FA, B0⟩ := hrel
    by_cases hlt : y < hh
    · go_wp2_with fail
      go_loopw [9] (fun cc wr => ∃ x : Nat, x ≤ ww ∧ cc = .int .i64 x ∧ Hid (FAt w wr (w.heap.size + 1) T g (ww : Int) (hh : Int) N N (G y x)) ∧ Hid (Bk wr w.heap.size #[.int .i64 (W : Int), .int .i64 (H : Int), .slice (some ad) M0 cap])) (fun cc _ => ww - (intOf cc).toNat)
      case atStart => exact ⟨0, by omega, rfl, FA, B0⟩
      case round =>
        clear FA B0
        obtain ⟨x, hx, rfl, FA, B0⟩ := hrel
        by_cases hlx : x < ww
        · have HPX : Hid (Pxs wr (some ad) (W * H) px) := Lib.hid (by rw [NM.out]; exact HX.out.ext FA.out.ext)
          obtain ⟨P, hP⟩ : ∃ P, px (y * H / hh * W + x * W / ww) = P := ⟨_, rfl⟩
          have HQ1 := Lib.hid (HG0.out.more y x)
          simp only [hP] at HQ1
          have hk : y * ww + x < N := by rw [← NN.out]; exact mul_lt_of hlt hlx
          have MI : (y : Int) * (ww : Int) = ((y * ww : Nat) : Int) := by simp
          have AI : (x : Int) * (W : Int) = ((x * W : Nat) : Int) := by simp
          have BI : (y : Int) * (H : Int) = ((y * H : Nat) : Int) := by simp
          have hA_ : x * W / ww < W := by rcases scale_in (W := W) hlx with h | h <;> omega
          have hB_ : y * H / hh < H := by rcases scale_in (W := H) hlt with h | h <;> omega
          have bA : x * W ≤ 65536 := Nat.mul_le_mul (show x ≤ 256 by omega) hW2
          have bB : y * H ≤ 65536 := Nat.mul_le_mul (show y ≤ 256 by omega) hH2
          obtain ⟨M, hM⟩ : ∃ z : Nat, y * ww = z := ⟨_, rfl⟩
          rw [hM] at hk HQ1 MI
          obtain ⟨A1, hA1⟩ : ∃ z : Nat, x * W = z := ⟨_, rfl⟩
          rw [hA1] at hA_ AI hP bA
          obtain ⟨B1_, hB1_⟩ : ∃ z : Nat, y * H = z := ⟨_, rfl⟩
          rw [hB1_] at hB_ BI hP bB
          have d1 : (A1 : Int) / (ww : Int) = ((A1 / ww : Nat) : Int) := by simp
          have d3 : (B1_ : Int) / (hh : Int) = ((B1_ / hh : Nat) : Int) := by simp
          obtain ⟨A_, hA_x⟩ : ∃ z : Nat, A1 / ww = z := ⟨_, rfl⟩
          rw [hA_x] at hA_ hP d1
          obtain ⟨B_, hB_x⟩ : ∃ z : Nat, B1_ / hh = z := ⟨_, rfl⟩
          rw [hB_x] at hB_ hP d3
          have t1 : (A1 : Int).tdiv (ww : Int) = (A_ : Int) := by rw [Int.tdiv_eq_ediv_of_nonneg (by omega)]; exact d1
          have t3 : (B1_ : Int).tdiv (hh : Int) = (B_ : Int) := by rw [Int.tdiv_eq_ediv_of_nonneg (by omega)]; exact d3
          have n1 : ¬ hh = 0 := by omega
          have n3 : ¬ ww = 0 := by omega
          have MM := Lib.hid (And.intro hM (And.intro hA1 (And.intro hB1_ (And.intro hA_x hB_x))))
          clear hM hA1 hB1_ hA_x hB_x d1 d3
          have ka : (((M : Int) + (x : Int))).toNat = M + x := by omega
          have kb : ((M : Int) + (x : Int)) < (N : Int) := by omega
          have kd : 0 ≤ ((M : Int) + (x : Int)) := by omega
          have kr0 : (M + x) * 4 < N * 4 := by omega
          have kr1 : (M + x) * 4 + 1 < N * 4 := by omega
          have kr2 : (M + x) * 4 + 2 < N * 4 := by omega
          have kr3 : (M + x) * 4 + 3 < N * 4 := by omega
          obtain ⟨wa0, wb0, wa1, wb1, wa2, wb2, wa3, wb3, wa4, wb4, wa5, wb5⟩ : IntKind.i64.wrap (M : Int) = (M : Int) ∧ wrap64 (M : Int) = (M : Int) ∧ IntKind.i64.wrap (A1 : Int) = (A1 : Int) ∧ wrap64 (A1 : Int) = (A1 : Int) ∧ IntKind.i64.wrap (B1_ : Int) = (B1_ : Int) ∧ wrap64 (B1_ : Int) = (B1_ : Int) ∧ IntKind.i64.wrap (A_ : Int) = (A_ : Int) ∧ wrap64 (A_ : Int) = (A_ : Int) ∧ IntKind.i64.wrap (B_ : Int) = (B_ : Int) ∧ wrap64 (B_ : Int) = (B_ : Int) ∧ IntKind.i64.wrap ((M : Int) + (x : Int)) = ((M : Int) + (x : Int)) ∧ wrap64 ((M : Int) + (x : Int)) = ((M : Int) + (x : Int)) := ⟨wrap_i (x := (M : Int)) (by omega) (by omega), wrap_6 (x := (M : Int)) (by omega) (by omega), wrap_i (x := (A1 : Int)) (by omega) (by omega), wrap_6 (x := (A1 : Int)) (by omega) (by omega), wrap_i (x := (B1_ : Int)) (by omega) (by omega), wrap_6 (x := (B1_ : Int)) (by omega) (by omega), wrap_i (x := (A_ : Int)) (by omega) (by omega), wrap_6 (x := (A_ : Int)) (by omega) (by omega), wrap_i (x := (B_ : Int)) (by omega) (by omega), wrap_6 (x := (B_ : Int)) (by omega) (by omega), wrap_i (x := ((M : Int) + (x : Int))) (by omega) (by omega), wrap_6 (x := ((M : Int) + (x : Int))) (by omega) (by omega)⟩
          have HAT : Hid (∀ w5, Ext wr w5 → Calls Tryd.prog 67 #[.agg #[.int .i64 (W : Int), .int .i64 (H : Int), .slice (some ad) M0 cap], .int .i64 (A_ : Int), .int .i64 (B_ : Int)] w5 fun e w' => e = .returned (.agg #[.int .u8 P.r, .int .u8 P.g, .int .u8 P.b, .int .u8 P.a]) ∧ Ext w5 w') := Lib.hid (fun w5 h5 => by
            have h := at_any A_ B_ W H ad cap px w5 (HPX.out.ext h5) hW2 hH2 hA_ hB_
            rw [hP, NM.out] at h
            exact h)
          clear hP HPX
          have p0 := B0.out.cell 0
          have p1 := B0.out.cell 1
          have p2 := B0.out.cell 2
          have k2 := FA.out.bk.cell 2
          go_wp2_with fail
          refine wp_region_held_drew (S := fun w' => w'.cell? ⟨w.heap.size, 0, none⟩ = some (.int .i64 (W : Int)) ∧ w'.cell? ⟨w.heap.size, 1, none⟩ = some (.int .i64 (H : Int)) ∧ w'.cell? ⟨w.heap.size, 2, none⟩ = some (.slice (some ad) M0 cap) ∧ w'.cell? ⟨T, 2, none⟩ = some (.slice (some ⟨g, 0, none⟩) N N)) (by kernel_rfl) ⟨p0, p1, p2, k2⟩ (fun hHeld => ?_)
          refine wpAnyH_take (i := 0) (v := ?_) rfl (by kernel_rfl) (by kernel_rfl) (by kernel_rfl) (fun _ _ _ h => h) (Or.inl ⟨by kernel_rfl, ?_⟩) hHeld ?_
          rotate_left
          · intro w hSw
            (try dsimp only at hSw)
            go_split_ands
            go_simp
            (try with_reducible rfl)
          try simp only [Act.put, List.setIfInBounds_toArray, List.set_cons_zero, List.set_cons_succ]
          refine wpAnyH_take (i := 1) (v := ?_) rfl (by kernel_rfl) (by kernel_rfl) (by kernel_rfl) (fun _ _ _ h => h) (Or.inl ⟨by kernel_rfl, ?_⟩) hHeld ?_
          rotate_left
          · intro w hSw
            (try dsimp only at hSw)
            go_split_ands
            go_simp
            (try with_reducible rfl)
          try simp only [Act.put, List.setIfInBounds_toArray, List.set_cons_zero, List.set_cons_succ]
          refine wpAnyH_take (i := 2) (v := ?_) rfl (by kernel_rfl) (by kernel_rfl) (by kernel_rfl) (fun _ _ _ h => h) (Or.inl ⟨by kernel_rfl, ?_⟩) hHeld ?_
          rotate_left
          · intro w hSw
            (try dsimp only at hSw)
            go_split_ands
            go_simp
            (try with_reducible rfl)
          try simp only [Act.put, List.setIfInBounds_toArray, List.set_cons_zero, List.set_cons_succ]
          refine wpAnyH_take (i := 3) (v := ?_) rfl (by kernel_rfl) (by kernel_rfl) (by kernel_rfl) (fun _ _ _ h => h) (Or.inl ⟨by kernel_rfl, ?_⟩) hHeld ?_
          rotate_left
          · intro w hSw
            (try dsimp only at hSw)
            go_split_ands
            go_simp
            (try with_reducible rfl)
          try simp only [Act.put, List.setIfInBounds_toArray, List.set_cons_zero, List.set_cons_succ]
          refine wpAnyH_take (i := 4) (v := ?_) rfl (by kernel_rfl) (by kernel_rfl) (by kernel_rfl) (fun _ _ _ h => h) (Or.inl ⟨by kernel_rfl, ?_⟩) hHeld ?_
          rotate_left
          · intro w hSw
            (try dsimp only at hSw)
            go_split_ands
            go_simp
            (try with_reducible rfl)
          try simp only [Act.put, List.setIfInBounds_toArray, List.set_cons_zero, List.set_cons_succ]
          refine wpAnyH_take (i := 5) (v := ?_) rfl (by kernel_rfl) (by kernel_rfl) (by kernel_rfl) (fun _ _ _ h => h) (Or.inl ⟨by kernel_rfl, ?_⟩) hHeld ?_
          rotate_left
          · intro w hSw
            (try dsimp only at hSw)
            go_split_ands
            go_simp
            (try with_reducible rfl)
          try simp only [Act.put, List.setIfInBounds_toArray, List.set_cons_zero, List.set_cons_succ]
          refine wpAnyH_take (i := 6) (v := ?_) rfl (by kernel_rfl) (by kernel_rfl) (by kernel_rfl) (fun _ _ _ h => h) (Or.inl ⟨by kernel_rfl, ?_⟩) hHeld ?_
          rotate_left
          · intro w hSw
            (try dsimp only at hSw)
            go_split_ands
            go_simp
            (try with_reducible rfl)
          try simp only [Act.put, List.setIfInBounds_toArray, List.set_cons_zero, List.set_cons_succ]
          refine wpAnyH_take (i := 7) (v := ?_) rfl (by kernel_rfl) (by kernel_rfl) (by kernel_rfl) (fun _ _ _ h => h) (Or.inl ⟨by kernel_rfl, ?_⟩) hHeld ?_
          rotate_left
          · intro w hSw
            (try dsimp only at hSw)
            go_split_ands
            go_simp
            (try with_reducible rfl)
          try simp only [Act.put, List.setIfInBounds_toArray, List.set_cons_zero, List.set_cons_succ]
          refine wpAnyH_take (i := 8) (v := ?_) rfl (by kernel_rfl) (by kernel_rfl) (by kernel_rfl) (fun _ _ _ h => h) (Or.inl ⟨by kernel_rfl, ?_⟩) hHeld ?_
          rotate_left
          · intro w hSw
            (try dsimp only at hSw)
            go_split_ands
            go_simp
            (try with_reducible rfl)
          try simp only [Act.put, List.setIfInBounds_toArray, List.set_cons_zero, List.set_cons_succ]
          refine wpAnyH_take (i := 9) (v := ?_) rfl (by kernel_rfl) (by kernel_rfl) (by kernel_rfl) (fun _ _ _ h => h) (Or.inl ⟨by kernel_rfl, ?_⟩) hHeld ?_
          rotate_left
          · intro w hSw
            (try dsimp only at hSw)
            go_split_ands
            go_simp
            (try with_reducible rfl)
          try simp only [Act.put, List.setIfInBounds_toArray, List.set_cons_zero, List.set_cons_succ]
          refine wpAnyH_take (i := 10) (v := ?_) rfl (by kernel_rfl) (by kernel_rfl) (by kernel_rfl) (fun _ _ _ h => h) (Or.inl ⟨by kernel_rfl, ?_⟩) hHeld ?_
          rotate_left
          · intro w hSw
            (try dsimp only at hSw)
            go_split_ands
            go_simp
            (try with_reducible rfl)
          try simp only [Act.put, List.setIfInBounds_toArray, List.set_cons_zero, List.set_cons_succ]
          refine wpAnyH_take (i := 11) (v := ?_) rfl (by kernel_rfl) (by kernel_rfl) (by kernel_rfl) (fun _ _ _ h => h) (Or.inl ⟨by kernel_rfl, ?_⟩) hHeld ?_
          rotate_left
          · intro w hSw
            (try dsimp only at hSw)
            go_split_ands
            go_simp
            (try with_reducible rfl)
          try simp only [Act.put, List.setIfInBounds_toArray, List.set_cons_zero, List.set_cons_succ]
          refine wpAnyH_take (i := 12) (v := ?_) rfl (by kernel_rfl) (by kernel_rfl) (by kernel_rfl) (fun _ _ _ h => h) (Or.inl ⟨by kernel_rfl, ?_⟩) hHeld ?_
          rotate_left
          · intro w hSw
            (try dsimp only at hSw)
            go_split_ands
            go_simp
            (try with_reducible rfl)
          try simp only [Act.put, List.setIfInBounds_toArray, List.set_cons_zero, List.set_cons_succ]
          refine wpAnyH_take (i := 13) (v := ?_) rfl (by kernel_rfl) (by kernel_rfl) (by kernel_rfl) (fun _ _ _ h => h) (Or.inl ⟨by kernel_rfl, ?_⟩) hHeld ?_
          rotate_left
          · intro w hSw
            (try dsimp only at hSw)
            go_split_ands
            go_simp
            (try with_reducible rfl)
          try simp only [Act.put, List.setIfInBounds_toArray, List.set_cons_zero, List.set_cons_succ]
          refine wpAnyH_take (i := 14) (v := ?_) rfl (by kernel_rfl) (by kernel_rfl) (by kernel_rfl) (fun _ _ _ h => h) (Or.inl ⟨by kernel_rfl, ?_⟩) hHeld ?_
          rotate_left
          · intro w hSw
            (try dsimp only at hSw)
            go_split_ands
            go_simp
            (try with_reducible rfl)
          try simp only [Act.put, List.setIfInBounds_toArray, List.set_cons_zero, List.set_cons_succ]
          refine wpAnyH_take (i := 15) (v := ?_) rfl (by kernel_rfl) (by kernel_rfl) (by kernel_rfl) (fun _ _ _ h => h) (Or.inl ⟨by kernel_rfl, ?_⟩) hHeld ?_
          rotate_left
          · intro w hSw
            (try dsimp only at hSw)
            go_split_ands
            go_simp
            (try with_reducible rfl)
          try simp only [Act.put, List.setIfInBounds_toArray, List.set_cons_zero, List.set_cons_succ]
          refine wpAnyH_take (i := 16) (v := ?_) rfl (by kernel_rfl) (by kernel_rfl) (by kernel_rfl) (fun _ _ _ h => h) (Or.inl ⟨by kernel_rfl, ?_⟩) hHeld ?_
          rotate_left
          · intro w hSw
            (try dsimp only at hSw)
            go_split_ands
            go_simp
            (try with_reducible rfl)
          try simp only [Act.put, List.setIfInBounds_toArray, List.set_cons_zero, List.set_cons_succ]
          refine wpAnyH_take (i := 17) (v := ?_) rfl (by kernel_rfl) (by kernel_rfl) (by kernel_rfl) (fun _ _ _ h => h) (Or.inl ⟨by kernel_rfl, ?_⟩) hHeld ?_
          rotate_left
          · intro w hSw
            (try dsimp only at hSw)
            go_split_ands
            go_simp
            (try with_reducible rfl)
          try simp only [Act.put, List.setIfInBounds_toArray, List.set_cons_zero, List.set_cons_succ]
          refine wpAnyH_take (i := 18) (v := ?_) rfl (by kernel_rfl) (by kernel_rfl) (by kernel_rfl) (fun _ _ _ h => h) (Or.inl ⟨by kernel_rfl, ?_⟩) hHeld ?_
          rotate_left
          · intro w hSw
            (try dsimp only at hSw)
            go_split_ands
            go_simp
            (try with_reducible rfl)
          try simp only [Act.put, List.setIfInBounds_toArray, List.set_cons_zero, List.set_cons_succ]
          refine wpAnyH_take (i := 19) (v := ?_) rfl (by kernel_rfl) (by kernel_rfl) (by kernel_rfl) (fun _ _ _ h => h) (Or.inl ⟨by kernel_rfl, ?_⟩) hHeld ?_
          rotate_left
          · intro w hSw
            (try dsimp only at hSw)
            go_split_ands
            go_simp
            (try with_reducible rfl)
          try simp only [Act.put, List.setIfInBounds_toArray, List.set_cons_zero, List.set_cons_succ]
          refine wpAnyH_ready (rs := [20]) (by kernel_rfl) (by simp) ?_
          refine AllReadyH.cons rfl (fun K hK => ?_) AllReadyH.nil
          clear hHeld
          go_simp
          refine (HAT.out _ (by first | exact Ext.refl _ | exact Below.drew (Ext.refl wr))).mono ?_
          rintro e w5 ⟨rfl, hx5⟩
          have ha : Ext wr w5 := ⟨hx5.os, hx5.tape, hx5.output, hx5.size, hx5.block⟩
          clear hx5
          go_simp
          refine hK.out _ _ ⟨(B0.out.ext ha).cell 0, (B0.out.ext ha).cell 1, (B0.out.ext ha).cell 2, (FA.out.bk.ext ha).cell 2⟩ (fun hHeld => ?_)
          clear hK K
          try simp only [Act.put, List.setIfInBounds_toArray, List.set_cons_zero, List.set_cons_succ]
          refine wpAnyH_take (i := 21) (v := ?_) rfl (by kernel_rfl) (by kernel_rfl) (by kernel_rfl) (fun _ _ _ h => h) (Or.inl ⟨by kernel_rfl, ?_⟩) hHeld ?_
          rotate_left
          · intro w hSw
            (try dsimp only at hSw)
            go_split_ands
            go_simp
            (try with_reducible rfl)
          try simp only [Act.put, List.setIfInBounds_toArray, List.set_cons_zero, List.set_cons_succ]
          have FA5 := Lib.hid (FA.out.step ha)
          have B05 := Lib.hid (B0.out.ext ha)
          clear ha FA B0
          obtain ⟨c0, f0⟩ := FA5.out.row ((M + x) * 4) kr0
          obtain ⟨c1, f1⟩ := FA5.out.row ((M + x) * 4 + 1) kr1
          obtain ⟨c2, f2⟩ := FA5.out.row ((M + x) * 4 + 2) kr2
          obtain ⟨c3, f3⟩ := FA5.out.row ((M + x) * 4 + 3) kr3
          have FN := Lib.hid ((FA5.out.put (M + x) P).congr fun i _ => congrFun HQ1.out i)
          have K := set4_keeps w5 g (M + x) P
          have B0N := Lib.hid (B05.out.keeps K NB.out)
          clear K
          unfold set4 at FN B0N
          refine wpAnyH_ready (rs := [22]) (by kernel_rfl) (by simp) ?_
          refine AllReadyH.cons rfl (fun K hK => ?_) AllReadyH.nil
          clear hHeld
          go_simp
          refine hK.out _ _ ⟨B0N.out.cell 0, B0N.out.cell 1, B0N.out.cell 2, FN.out.bk.cell 2⟩ (fun hHeld => ?_)
          clear hK K
          try simp only [Act.put, List.setIfInBounds_toArray, List.set_cons_zero, List.set_cons_succ]
          refine wpAnyH_done (by kernel_rfl) ?_ _
          clear hHeld wa0 wb0 wa1 wb1 wa2 wb2 wa3 wb3 wa4 wb4 wa5 wb5
          go_wp2_with fail
          go_roundw
          case rel => exact ⟨x + 1, by omega, by go_num, FN, B0N⟩
          case measure => simp [intOf]; omega
        · obtain rfl : x = ww := by omega
          have HQ2 := Lib.hid (HG0.out.next y)
          go_wp2_with fail
          go_roundw
          case rel => exact ⟨y + 1, by omega, by go_num, by rw [HQ2.out]; exact FA, B0⟩
          case measure => simp [intOf]; omega
    · obtain rfl : y = hh := by omega
      have k0 := FA.out.bk.cell 0
      have k1 := FA.out.bk.cell 1
      have k2 := FA.out.bk.cell 2
      have d0 := FA.out.res.cell 0
      have e0 := FA.out.res.frozen 0
      have d1 := FA.out.res.cell 1
      have e1 := FA.out.res.frozen 1
      have d2 := FA.out.res.cell 2
      have e2 := FA.out.res.frozen 2
      have PC := Lib.hid ((FA.out.congr (qx := q) (fun i hi => HG0.out.fin i hi)).close (by omega : w.heap.size ≤ w.heap.size + 1))
      have GN := Lib.hid FA.out.gn
      clear FA B0
      go_wp2_with fail
      obtain ⟨k0, k1, k2, hP, hX⟩ := PC.out
      exact bodyPost_ret (v := .agg #[.int .i64 (ww : Int), .int .i64 (y : Int), .slice (some ⟨g, 0, none⟩) N N]) (by simp [results, Tryd.results45, go_sem, k0, k1, k2]) rfl ⟨⟨g, ⟨N, rfl⟩, hP, GN.out⟩, hX⟩
end Go.Proofs.YtkfjcgcgfdibaaaDoor
namespace Go.Proofs.YtkfjcgcgfdibaaaDoor
open Go.RowKit
set_option maxRecDepth 100000
def smP (px : Nat → P4) (f : P4 → Int) : Nat → Int
  | 0 => 0
  | k + 1 => smP px f k + (px k).a * f (px k)
def saP (px : Nat → P4) : Nat → Int
  | 0 => 0
  | k + 1 => saP px k + (px k).a
theorem saP_bd (px : Nat → P4) : ∀ n, (∀ i, i < n → (px i).Ok) → 0 ≤ saP px n ∧ saP px n ≤ 255 * n := by
  intro n
  induction n with
  | zero => intro _; exact ⟨by simp [saP], by simp [saP]⟩
  | succ n ih =>
    intro h
    obtain ⟨h1, h2⟩ := ih (fun i hi => h i (by omega))
    obtain ⟨b1, b2⟩ := (h n (by omega)).a
    simp only [saP]; omega
theorem mulb {a b : Int} (ha : 0 ≤ a ∧ a ≤ 255) (hb : 0 ≤ b ∧ b ≤ 255) : 0 ≤ a * b ∧ a * b ≤ 65025 := by
  refine ⟨Int.mul_nonneg ha.1 hb.1, ?_⟩
  have : a * b ≤ 255 * 255 := Int.mul_le_mul ha.2 hb.2 hb.1 (by decide)
  omega
theorem smP_bd (px : Nat → P4) (f : P4 → Int) : ∀ n, (∀ i, i < n → (px i).Ok ∧ 0 ≤ f (px i) ∧ f (px i) ≤ 255) → 0 ≤ smP px f n ∧ smP px f n ≤ 65025 * n := by
  intro n
  induction n with
  | zero => intro _; exact ⟨by simp [smP], by simp [smP]⟩
  | succ n ih =>
    intro h
    obtain ⟨h1, h2⟩ := ih (fun i hi => h i (by omega))
    obtain ⟨hk, b1, b2⟩ := h n (by omega)
    obtain ⟨m1, m2⟩ := mulb hk.a ⟨b1, b2⟩
    simp only [smP]; omega
def mixP (px : Nat → P4) (n : Nat) : P4 :=
  if saP px n = 0 then P4.zero else ⟨Pix.rnd (smP px P4.r n) (saP px n), Pix.rnd (smP px P4.g n) (saP px n), Pix.rnd (smP px P4.b n) (saP px n), Pix.rnd (saP px n) n⟩
theorem wrap_k {x : Int} (h0 : 0 ≤ x) (h1 : x ≤ 9000000000) : IntKind.i64.wrap x = x := by unfold IntKind.wrap; simp [IntKind.bits, IntKind.signed]; omega
theorem Pxs.bd {w : World} {x : Option Addr} {n : Nat} {px : Nat → P4} (h : Pxs w x n px) : ∀ i, i < n → (px i).Ok := by
  intro i hi
  obtain ⟨a, rfl⟩ := h.isSome hi
  exact (h.2 a rfl i hi).2.2.2.2
set_option linter.unusedSimpArgs false in
set_option maxHeartbeats 4000000 in
theorem mix_any (x : Option Addr) (n cap : Nat) (px : Nat → P4) (w : World) (hx : Pxs w x n px) (hn : n ≤ 1000) :
    Calls Tryd.prog 75 #[.slice x n cap] w fun e w' => e = .returned (.agg #[.int .u8 (mixP px n).r, .int .u8 (mixP px n).g, .int .u8 (mixP px n).b, .int .u8 (mixP px n).a]) ∧ Ext w w' := by
  have HX := Lib.hid hx
  clear hx
  go_enter Tryd.func75, Tryd.ntmps75
  go_wp2_with fail
  refine wp_world (fun wz => Ext w wz ∧ Bk wz w.heap.size #[.int .u8 0, .int .u8 0, .int .u8 0, .int .u8 0]) ⟨(Ext.refl w).alloc _, Bk.at rfl⟩ ?_
  rintro w0 ⟨hX, hB⟩
  have X0 := Lib.hid hX
  have B0 := Lib.hid hB
  clear hX hB
  go_loopw [3, 4, 5, 6, 12] (fun r g b a i wr => ∃ k : Nat, k ≤ n ∧ i = .int .i64 (k : Int) ∧ r = .int .i64 (smP px P4.r k) ∧ g = .int .i64 (smP px P4.g k) ∧ b = .int .i64 (smP px P4.b k) ∧ a = .int .i64 (saP px k) ∧ Hid (Ext w wr) ∧ Hid (Bk wr w.heap.size #[.int .u8 0, .int .u8 0, .int .u8 0, .int .u8 0])) (fun _ _ _ _ i _ => n - (intOf i).toNat)
  case atStart => exact ⟨0, by omega, rfl, rfl, rfl, rfl, rfl, X0, B0⟩
  case round =>
    clear X0 B0
    obtain ⟨k, hk, rfl, rfl, rfl, rfl, rfl, XR, BR⟩ := hrel
    obtain ⟨sr1, sr2⟩ := smP_bd px P4.r k (fun i hi => ⟨HX.out.bd i (by omega), (HX.out.bd i (by omega)).r⟩)
    obtain ⟨sg1, sg2⟩ := smP_bd px P4.g k (fun i hi => ⟨HX.out.bd i (by omega), (HX.out.bd i (by omega)).g⟩)
    obtain ⟨sb1, sb2⟩ := smP_bd px P4.b k (fun i hi => ⟨HX.out.bd i (by omega), (HX.out.bd i (by omega)).b⟩)
    obtain ⟨sa1, sa2⟩ := saP_bd px k (fun i hi => HX.out.bd i (by omega))
    by_cases hlt : k < n
    · have Sr : Hid (smP px P4.r (k + 1) = smP px P4.r k + (px k).a * (px k).r) := Lib.hid rfl
      have Sg : Hid (smP px P4.g (k + 1) = smP px P4.g k + (px k).a * (px k).g) := Lib.hid rfl
      have Sb : Hid (smP px P4.b (k + 1) = smP px P4.b k + (px k).a * (px k).b) := Lib.hid rfl
      have Sa : Hid (saP px (k + 1) = saP px k + (px k).a) := Lib.hid rfl
      obtain ⟨ad, rfl⟩ := HX.out.isSome hlt
      obtain ⟨c0, c1, c2, c3, ok⟩ := (HX.out.ext XR.out).2 ad rfl k hlt
      obtain ⟨or1, or2⟩ := ok.r
      obtain ⟨og1, og2⟩ := ok.g
      obtain ⟨ob1, ob2⟩ := ok.b
      obtain ⟨oa1, oa2⟩ := ok.a
      obtain ⟨mr1, mr2⟩ := mulb ok.a ok.r
      obtain ⟨mg1, mg2⟩ := mulb ok.a ok.g
      obtain ⟨mb1, mb2⟩ := mulb ok.a ok.b
      clear ok
      obtain ⟨pr, hr⟩ : ∃ z, (px k).r = z := ⟨_, rfl⟩
      obtain ⟨pg, hg⟩ : ∃ z, (px k).g = z := ⟨_, rfl⟩
      obtain ⟨pb, hb⟩ : ∃ z, (px k).b = z := ⟨_, rfl⟩
      obtain ⟨pa, ha⟩ : ∃ z, (px k).a = z := ⟨_, rfl⟩
      rw [hr] at c0 or1 or2 mr1 mr2 Sr
      rw [hg] at c1 og1 og2 mg1 mg2 Sg
      rw [hb] at c2 ob1 ob2 mb1 mb2 Sb
      rw [ha] at c3 oa1 oa2 mr1 mr2 mg1 mg2 mb1 mb2 Sr Sg Sb Sa
      clear hr hg hb ha
      obtain ⟨qr, er⟩ : ∃ z, pa * pr = z := ⟨_, rfl⟩
      rw [er] at mr1 mr2 Sr
      obtain ⟨qg, eg⟩ : ∃ z, pa * pg = z := ⟨_, rfl⟩
      rw [eg] at mg1 mg2 Sg
      obtain ⟨qb, eb⟩ : ∃ z, pa * pb = z := ⟨_, rfl⟩
      rw [eb] at mb1 mb2 Sb
      obtain ⟨tr, fr⟩ : ∃ z, smP px P4.r k = z := ⟨_, rfl⟩
      rw [fr] at sr1 sr2 Sr ⊢
      clear fr
      obtain ⟨tg, fg⟩ : ∃ z, smP px P4.g k = z := ⟨_, rfl⟩
      rw [fg] at sg1 sg2 Sg ⊢
      clear fg
      obtain ⟨tb, fb⟩ : ∃ z, smP px P4.b k = z := ⟨_, rfl⟩
      rw [fb] at sb1 sb2 Sb ⊢
      clear fb
      obtain ⟨ta, fa⟩ : ∃ z, saP px k = z := ⟨_, rfl⟩
      rw [fa] at sa1 sa2 Sa ⊢
      clear fa
      have wr := wrap_k (x := pr) (by omega) (by omega)
      have wg := wrap_k (x := pg) (by omega) (by omega)
      have wb := wrap_k (x := pb) (by omega) (by omega)
      have wa := wrap_k (x := pa) (by omega) (by omega)
      have vr := wrap_k (x := qr) (by omega) (by omega)
      have ur := wrap_k (x := tr + qr) (by omega) (by omega)
      have vg := wrap_k (x := qg) (by omega) (by omega)
      have ug := wrap_k (x := tg + qg) (by omega) (by omega)
      have vb := wrap_k (x := qb) (by omega) (by omega)
      have ub := wrap_k (x := tb + qb) (by omega) (by omega)
      have ua := wrap_k (x := ta + pa) (by omega) (by omega)
      have hki : (k : Int) < (n : Int) := by omega
      go_wp2_with fail
      go_quiet (fail)
      go_wp2_with fail
      go_roundw
      case rel => exact ⟨k + 1, by omega, by go_num, by rw [Sr.out], by rw [Sg.out], by rw [Sb.out], by rw [Sa.out], Lib.hid (by repeat (first | exact XR.out | refine Ext.drewN ?_ _ | refine Ext.alloc ?_ _)), Lib.hid (by repeat (first | exact BR.out | refine Bk.drewN ?_ _ | refine Bk.old ?_))⟩
      case measure => simp [intOf]; omega
    · obtain rfl : n = k := by omega
      clear hlt hk
      obtain ⟨tr, fr⟩ : ∃ z, smP px P4.r n = z := ⟨_, rfl⟩
      have Fr := Lib.hid fr
      rw [fr] at sr1 sr2 ⊢
      clear fr
      obtain ⟨tg, fg⟩ : ∃ z, smP px P4.g n = z := ⟨_, rfl⟩
      have Fg := Lib.hid fg
      rw [fg] at sg1 sg2 ⊢
      clear fg
      obtain ⟨tb, fb⟩ : ∃ z, smP px P4.b n = z := ⟨_, rfl⟩
      have Fb := Lib.hid fb
      rw [fb] at sb1 sb2 ⊢
      clear fb
      obtain ⟨ta, fa⟩ : ∃ z, saP px n = z := ⟨_, rfl⟩
      have Fa := Lib.hid fa
      rw [fa] at sa1 sa2 ⊢
      clear fa
      have b0 := BR.out.cell 0
      have f0 := BR.out.frozen 0
      have b1 := BR.out.cell 1
      have f1 := BR.out.frozen 1
      have b2 := BR.out.cell 2
      have f2 := BR.out.frozen 2
      have b3 := BR.out.cell 3
      have f3 := BR.out.frozen 3
      by_cases h0 : ta = 0
      · have hm : Hid (mixP px n = P4.zero) := Lib.hid (by unfold mixP; rw [Fa.out, if_pos h0])
        have t0 : (ta == 0) = true := beq_iff_eq.2 h0
        have SF := Lib.hid (set4b (x' := .int .u8 0) (y' := .int .u8 0) (z' := .int .u8 0) (u' := .int .u8 0) XR.out (Nat.le_refl _) BR.out)
        clear h0
        go_wp2_with fail
        obtain ⟨hX9, hB9, _⟩ := SF.out
        have z0 := hB9.cell 0
        have z1 := hB9.cell 1
        have z2 := hB9.cell 2
        have z3 := hB9.cell 3
        exact bodyPost_ret (v := .agg #[.int .u8 0, .int .u8 0, .int .u8 0, .int .u8 0]) (by simp [results, Tryd.results75, go_sem, z0, z1, z2, z3]) rfl ⟨by rw [hm.out]; rfl, hX9⟩
      · have hn0 : 1 ≤ n := by rcases Nat.eq_zero_or_pos n with q | q; (subst q; exact absurd (Fa.out.symm.trans rfl) h0); exact q
        have t0 : (ta == 0) = false := beq_eq_false_iff_ne.2 h0
        have hta : 1 ≤ ta := by omega
        have hm : Hid (mixP px n = ⟨Pix.rnd tr ta, Pix.rnd tg ta, Pix.rnd tb ta, Pix.rnd ta n⟩) := Lib.hid (by unfold mixP; rw [Fa.out, if_neg h0, Fr.out, Fg.out, Fb.out])
        clear h0
        go_wp2_with fail
        refine (round_any tr ta _ (by omega) (by omega) (by omega) (by omega)).mono ?_
        rintro e w9 ⟨rfl, rfl⟩
        go_wp2_with fail
        refine (round_any tg ta _ (by omega) (by omega) (by omega) (by omega)).mono ?_
        rintro e w9 ⟨rfl, rfl⟩
        go_wp2_with fail
        refine (round_any tb ta _ (by omega) (by omega) (by omega) (by omega)).mono ?_
        rintro e w9 ⟨rfl, rfl⟩
        go_wp2_with fail
        refine (round_any ta (n : Int) _ (by omega) (by omega) (by omega) (by omega)).mono ?_
        rintro e w9 ⟨rfl, rfl⟩
        have SF := Lib.hid (set4b (x' := .int .u8 (Pix.rnd tr ta)) (y' := .int .u8 (Pix.rnd tg ta)) (z' := .int .u8 (Pix.rnd tb ta)) (u' := .int .u8 (Pix.rnd ta n)) XR.out (Nat.le_refl _) BR.out)
        go_wp2_with fail
        obtain ⟨hX9, hB9, _⟩ := SF.out
        have z0 := hB9.cell 0
        have z1 := hB9.cell 1
        have z2 := hB9.cell 2
        have z3 := hB9.cell 3
        exact bodyPost_ret (v := .agg #[.int .u8 (Pix.rnd tr ta), .int .u8 (Pix.rnd tg ta), .int .u8 (Pix.rnd tb ta), .int .u8 (Pix.rnd ta n)]) (by simp [results, Tryd.results75, go_sem, z0, z1, z2, z3]) rfl ⟨by rw [hm.out], hX9⟩
end Go.Proofs.YtkfjcgcgfdibaaaDoor
namespace Go.Proofs.YtkfjcgcgfdibaaaDoor
open Go.RowKit
set_option maxRecDepth 100000
theorem rounded_b (n d q : Int) (hq : (2 * n + d) / (2 * d) = q) (h0 : 0 ≤ n) (h1 : n ≤ 1000000000000) (d0 : 1 ≤ d) (d1 : d ≤ 1000000000000) (w : World) :
    Calls Tryd.prog 103 #[.int .i64 n, .int .i64 d] w fun e w' => e = .returned (.int .i64 q) ∧ w' = w :=
  (rounded_any n d w h0 h1 d0 d1).mono fun _ _ ⟨he, hw⟩ => ⟨by rw [he, hq], hw.symm⟩
theorem u8_rnd (n d q : Int) (hq : (2 * n + d) / (2 * d) = q) : IntKind.u8.wrap q = Pix.rnd n d := by
  unfold Pix.rnd; rw [hq]; unfold IntKind.wrap; simp [IntKind.bits, IntKind.signed]
theorem i64info4 : (Tryd.prog.info? 3).map (fun i => (i.zero, i.size, i.bytes)) = some (some (.int .i64 0), 1, 8) := by kernel_rfl
set_option linter.unusedSimpArgs false in
set_option maxHeartbeats 4000000 in
theorem mixOf_any (x : Option Addr) (n cap : Nat) (px : Nat → P4) (w : World) (hx : Pxs w x n px) (hn : n ≤ 1000) :
    Calls Tryd.prog 77 #[.slice x n cap] w fun e w' => e = .returned (.agg #[.int .u8 (mixP px n).r, .int .u8 (mixP px n).g, .int .u8 (mixP px n).b, .int .u8 (mixP px n).a]) ∧ Ext w w' := by
  have HX := Lib.hid hx
  clear hx
  have hmk : ∀ w, (Instr.makeSlice 127 (.int .i64 4) (.int .i64 4)).run Tryd.prog w = .ok (.slice (some ⟨w.heap.size, 0, none⟩) 4 4) (w.alloc (.cells #[.int .i64 0, .int .i64 0, .int .i64 0, .int .i64 0] 3)) := fun _ => by kernel_rfl
  go_enter Tryd.func77, Tryd.ntmps77
  go_wp2_with fail
  clear hmk
  refine wp_world (fun wz => Ext w wz ∧ Bk wz w.heap.size #[.int .u8 0, .int .u8 0, .int .u8 0, .int .u8 0] ∧ Bk wz (w.heap.size + 1) #[.int .i64 0, .int .i64 0, .int .i64 0, .int .i64 0]) ⟨((Ext.refl w).alloc _).alloc _, Bk.old (Bk.at rfl), Bk.at (by simp)⟩ ?_
  rintro w0 ⟨hX, hB, hS⟩
  have X0 := Lib.hid hX
  have B0 := Lib.hid hB
  have S0 := Lib.hid hS
  clear hX hB hS
  obtain ⟨S, hS⟩ : ∃ S, w.heap.size + 1 = S := ⟨_, rfl⟩
  have hSg : w.heap.size < S := by omega
  rw [hS] at S0 ⊢
  clear hS
  go_loopw [4] (fun i wr => ∃ k : Nat, k ≤ n ∧ i = .int .i64 (k : Int) ∧ Hid (Ext w wr) ∧ Hid (Bk wr w.heap.size #[.int .u8 0, .int .u8 0, .int .u8 0, .int .u8 0]) ∧ Hid (Bk wr S #[.int .i64 (smP px P4.r k), .int .i64 (smP px P4.g k), .int .i64 (smP px P4.b k), .int .i64 (saP px k)])) (fun i _ => n - (intOf i).toNat)
  case atStart => exact ⟨0, by omega, rfl, X0, B0, S0⟩
  case round =>
    clear X0 B0 S0
    obtain ⟨k, hk, rfl, XR, BR, SR⟩ := hrel
    obtain ⟨sr1, sr2⟩ := smP_bd px P4.r k (fun i hi => ⟨HX.out.bd i (by omega), (HX.out.bd i (by omega)).r⟩)
    obtain ⟨sg1, sg2⟩ := smP_bd px P4.g k (fun i hi => ⟨HX.out.bd i (by omega), (HX.out.bd i (by omega)).g⟩)
    obtain ⟨sb1, sb2⟩ := smP_bd px P4.b k (fun i hi => ⟨HX.out.bd i (by omega), (HX.out.bd i (by omega)).b⟩)
    obtain ⟨sa1, sa2⟩ := saP_bd px k (fun i hi => HX.out.bd i (by omega))
    by_cases hlt : k < n
    · have Sr : Hid (smP px P4.r (k + 1) = smP px P4.r k + (px k).a * (px k).r) := Lib.hid rfl
      have Sg : Hid (smP px P4.g (k + 1) = smP px P4.g k + (px k).a * (px k).g) := Lib.hid rfl
      have Sb : Hid (smP px P4.b (k + 1) = smP px P4.b k + (px k).a * (px k).b) := Lib.hid rfl
      have Sa : Hid (saP px (k + 1) = saP px k + (px k).a) := Lib.hid rfl
      obtain ⟨ad, rfl⟩ := HX.out.isSome hlt
      have HPX := Lib.hid (fun wz (hz : Ext w wz) => (HX.out.ext hz).2 ad rfl k hlt)
      have ok := (HPX.out _ XR.out).2.2.2.2
      obtain ⟨or1, or2⟩ := ok.r
      obtain ⟨og1, og2⟩ := ok.g
      obtain ⟨ob1, ob2⟩ := ok.b
      obtain ⟨oa1, oa2⟩ := ok.a
      obtain ⟨mr1, mr2⟩ := mulb ok.a ok.r
      obtain ⟨mg1, mg2⟩ := mulb ok.a ok.g
      obtain ⟨mb1, mb2⟩ := mulb ok.a ok.b
      clear ok
      obtain ⟨pr, hr⟩ : ∃ z, (px k).r = z := ⟨_, rfl⟩
      obtain ⟨pg, hg⟩ : ∃ z, (px k).g = z := ⟨_, rfl⟩
      obtain ⟨pb, hb⟩ : ∃ z, (px k).b = z := ⟨_, rfl⟩
      obtain ⟨pa, ha⟩ : ∃ z, (px k).a = z := ⟨_, rfl⟩
      rw [hr] at HPX or1 or2 mr1 mr2 Sr
      rw [hg] at HPX og1 og2 mg1 mg2 Sg
      rw [hb] at HPX ob1 ob2 mb1 mb2 Sb
      rw [ha] at HPX oa1 oa2 mr1 mr2 mg1 mg2 mb1 mb2 Sr Sg Sb Sa
      clear hr hg hb ha
      obtain ⟨qr, er⟩ : ∃ z, pa * pr = z := ⟨_, rfl⟩
      rw [er] at mr1 mr2 Sr
      obtain ⟨qg, eg⟩ : ∃ z, pa * pg = z := ⟨_, rfl⟩
      rw [eg] at mg1 mg2 Sg
      obtain ⟨qb, eb⟩ : ∃ z, pa * pb = z := ⟨_, rfl⟩
      rw [eb] at mb1 mb2 Sb
      obtain ⟨tr, fr⟩ : ∃ z, smP px P4.r k = z := ⟨_, rfl⟩
      rw [fr] at sr1 sr2 Sr SR
      clear fr
      obtain ⟨tg, fg⟩ : ∃ z, smP px P4.g k = z := ⟨_, rfl⟩
      rw [fg] at sg1 sg2 Sg SR
      clear fg
      obtain ⟨tb, fb⟩ : ∃ z, smP px P4.b k = z := ⟨_, rfl⟩
      rw [fb] at sb1 sb2 Sb SR
      clear fb
      obtain ⟨ta, fa⟩ : ∃ z, saP px k = z := ⟨_, rfl⟩
      rw [fa] at sa1 sa2 Sa SR
      clear fa
      have wpr := wrap_k (x := pr) (by omega) (by omega)
      have wpg := wrap_k (x := pg) (by omega) (by omega)
      have wpb := wrap_k (x := pb) (by omega) (by omega)
      have wpa := wrap_k (x := pa) (by omega) (by omega)
      have w6r : wrap64 pr = pr := by unfold wrap64; omega
      have w6g : wrap64 pg = pg := by unfold wrap64; omega
      have w6b : wrap64 pb = pb := by unfold wrap64; omega
      have w6a : wrap64 pa = pa := by unfold wrap64; omega
      have v6r : wrap64 qr = qr := by unfold wrap64; omega
      have u6r : wrap64 (tr + qr) = tr + qr := by unfold wrap64; omega
      have v6g : wrap64 qg = qg := by unfold wrap64; omega
      have u6g : wrap64 (tg + qg) = tg + qg := by unfold wrap64; omega
      have v6b : wrap64 qb = qb := by unfold wrap64; omega
      have u6b : wrap64 (tb + qb) = tb + qb := by unfold wrap64; omega
      have vr := wrap_k (x := qr) (by omega) (by omega)
      have ur := wrap_k (x := tr + qr) (by omega) (by omega)
      have vg := wrap_k (x := qg) (by omega) (by omega)
      have ug := wrap_k (x := tg + qg) (by omega) (by omega)
      have vb := wrap_k (x := qb) (by omega) (by omega)
      have ub := wrap_k (x := tb + qb) (by omega) (by omega)
      have ua := wrap_k (x := ta + pa) (by omega) (by omega)
      have hki : (k : Int) < (n : Int) := by omega
      have hk0 : (0 : Int) ≤ (k : Int) := by omega
      obtain ⟨c0, c1, c2, c3, _⟩ := HPX.out _ XR.out
      have b0 := SR.out.cell 0
      have f0 := SR.out.frozen 0
      have b1 := SR.out.cell 1
      have f1 := SR.out.frozen 1
      have b2 := SR.out.cell 2
      have f2 := SR.out.frozen 2
      have b3 := SR.out.cell 3
      have f3 := SR.out.frozen 3
      go_wp2_with fail
      refine wp_region_still_tail 14 (by kernel_rfl) (by kernel_rfl) ?_
      simp only [List.take_succ_cons, List.take_zero, List.drop_succ_cons, List.drop_zero]
      repeat still_step
      refine wpStill_nil ?_
      change wpList _ _ _ _ _ wr.drew
      go_wp2_with fail
      clear c0 c1 c2 c3 b0 b1 b2 b3 f0 f1 f2 f3
      try simp only [w6r, w6a, er, v6r, u6r]
      refine wp_world (fun wz => Ext w wz ∧ Bk wz w.heap.size #[.int .u8 0, .int .u8 0, .int .u8 0, .int .u8 0] ∧ Bk wz S #[.int .i64 (tr + qr), .int .i64 tg, .int .i64 tb, .int .i64 ta]) ⟨Below.drew (Below.setCell XR.out (p := ⟨S, 0, none⟩) (Nat.le_of_lt hSg) _), Bk.drew (Bk.far BR.out (p := ⟨S, 0, none⟩) (Nat.ne_of_lt hSg) _), Bk.drew (SR.out.set_ 0 (.int .i64 (tr + qr)))⟩ ?_
      rintro y0 ⟨hX, hB, hS⟩
      have Xy0 := Lib.hid hX
      have By0 := Lib.hid hB
      have Sy0 := Lib.hid hS
      clear hX hB hS XR BR SR
      obtain ⟨c0, c1, c2, c3, _⟩ := HPX.out _ Xy0.out
      have b0 := Sy0.out.cell 0
      have f0 := Sy0.out.frozen 0
      have b1 := Sy0.out.cell 1
      have f1 := Sy0.out.frozen 1
      have b2 := Sy0.out.cell 2
      have f2 := Sy0.out.frozen 2
      have b3 := Sy0.out.cell 3
      have f3 := Sy0.out.frozen 3
      refine wp_region_still_tail 14 (by kernel_rfl) (by kernel_rfl) ?_
      simp only [List.take_succ_cons, List.take_zero, List.drop_succ_cons, List.drop_zero]
      repeat still_step
      refine wpStill_nil ?_
      change wpList _ _ _ _ _ y0.drew
      go_wp2_with fail
      clear c0 c1 c2 c3 b0 b1 b2 b3 f0 f1 f2 f3
      try simp only [w6g, w6a, eg, v6g, u6g]
      refine wp_world (fun wz => Ext w wz ∧ Bk wz w.heap.size #[.int .u8 0, .int .u8 0, .int .u8 0, .int .u8 0] ∧ Bk wz S #[.int .i64 (tr + qr), .int .i64 (tg + qg), .int .i64 tb, .int .i64 ta]) ⟨Below.drew (Below.setCell Xy0.out (p := ⟨S, 1, none⟩) (Nat.le_of_lt hSg) _), Bk.drew (Bk.far By0.out (p := ⟨S, 1, none⟩) (Nat.ne_of_lt hSg) _), Bk.drew (Sy0.out.set_ 1 (.int .i64 (tg + qg)))⟩ ?_
      rintro y1 ⟨hX, hB, hS⟩
      have Xy1 := Lib.hid hX
      have By1 := Lib.hid hB
      have Sy1 := Lib.hid hS
      clear hX hB hS Xy0 By0 Sy0
      obtain ⟨c0, c1, c2, c3, _⟩ := HPX.out _ Xy1.out
      have b0 := Sy1.out.cell 0
      have f0 := Sy1.out.frozen 0
      have b1 := Sy1.out.cell 1
      have f1 := Sy1.out.frozen 1
      have b2 := Sy1.out.cell 2
      have f2 := Sy1.out.frozen 2
      have b3 := Sy1.out.cell 3
      have f3 := Sy1.out.frozen 3
      refine wp_region_still_tail 14 (by kernel_rfl) (by kernel_rfl) ?_
      simp only [List.take_succ_cons, List.take_zero, List.drop_succ_cons, List.drop_zero]
      repeat still_step
      refine wpStill_nil ?_
      change wpList _ _ _ _ _ y1.drew
      go_wp2_with fail
      clear c0 c1 c2 c3 b0 b1 b2 b3 f0 f1 f2 f3
      try simp only [w6b, w6a, eb, v6b, u6b]
      have QS := Lib.hid ((Sy1.out.set_ 2 (.int .i64 (tb + qb))).set_ 3 (.int .i64 (ta + pa)))
      have QB := Lib.hid (Bk.far (Bk.far By1.out (p := ⟨S, 2, none⟩) (Nat.ne_of_lt hSg) (.int .i64 (tb + qb))) (p := ⟨S, 3, none⟩) (Nat.ne_of_lt hSg) (.int .i64 (ta + pa)))
      have QX := Lib.hid (show Ext w _ from Below.setCell (Below.setCell Xy1.out (p := ⟨S, 2, none⟩) (Nat.le_of_lt hSg) (.int .i64 (tb + qb))) (p := ⟨S, 3, none⟩) (Nat.le_of_lt hSg) (.int .i64 (ta + pa)))
      go_roundw
      case rel => exact ⟨k + 1, by omega, by go_num, Lib.hid (Below.drew QX.out), Lib.hid (Bk.drew QB.out), by rw [Sr.out, Sg.out, Sb.out, Sa.out]; exact Lib.hid (Bk.drew QS.out)⟩
      case measure => simp [intOf]; omega
    · obtain rfl : n = k := by omega
      clear hlt hk
      obtain ⟨tr, fr⟩ : ∃ z, smP px P4.r n = z := ⟨_, rfl⟩
      have Fr := Lib.hid fr
      rw [fr] at sr1 sr2 SR
      clear fr
      obtain ⟨tg, fg⟩ : ∃ z, smP px P4.g n = z := ⟨_, rfl⟩
      have Fg := Lib.hid fg
      rw [fg] at sg1 sg2 SR
      clear fg
      obtain ⟨tb, fb⟩ : ∃ z, smP px P4.b n = z := ⟨_, rfl⟩
      have Fb := Lib.hid fb
      rw [fb] at sb1 sb2 SR
      clear fb
      obtain ⟨ta, fa⟩ : ∃ z, saP px n = z := ⟨_, rfl⟩
      have Fa := Lib.hid fa
      rw [fa] at sa1 sa2 SR
      clear fa
      have b0 := SR.out.cell 0
      have d0 := BR.out.cell 0
      have f0 := BR.out.frozen 0
      have b1 := SR.out.cell 1
      have d1 := BR.out.cell 1
      have f1 := BR.out.frozen 1
      have b2 := SR.out.cell 2
      have d2 := BR.out.cell 2
      have f2 := BR.out.frozen 2
      have b3 := SR.out.cell 3
      have d3 := BR.out.cell 3
      have f3 := BR.out.frozen 3
      by_cases h0 : ta = 0
      · have hm : Hid (mixP px n = P4.zero) := Lib.hid (by unfold mixP; rw [Fa.out, if_pos h0])
        have t0 : (ta == 0) = true := beq_iff_eq.2 h0
        have SF := Lib.hid (set4b (x' := .int .u8 0) (y' := .int .u8 0) (z' := .int .u8 0) (u' := .int .u8 0) XR.out (Nat.le_refl _) BR.out)
        clear h0
        go_wp2_with fail
        obtain ⟨hX9, hB9, _⟩ := SF.out
        have z0 := hB9.cell 0
        have z1 := hB9.cell 1
        have z2 := hB9.cell 2
        have z3 := hB9.cell 3
        exact bodyPost_ret (v := .agg #[.int .u8 0, .int .u8 0, .int .u8 0, .int .u8 0]) (by simp [results, Tryd.results77, go_sem, z0, z1, z2, z3]) rfl ⟨by rw [hm.out]; rfl, hX9⟩
      · have hn0 : 1 ≤ n := by rcases Nat.eq_zero_or_pos n with q | q; (subst q; exact absurd (Fa.out.symm.trans rfl) h0); exact q
        have t0 : (ta == 0) = false := beq_eq_false_iff_ne.2 h0
        have hta : 1 ≤ ta := by omega
        have hm : Hid (mixP px n = ⟨Pix.rnd tr ta, Pix.rnd tg ta, Pix.rnd tb ta, Pix.rnd ta n⟩) := Lib.hid (by unfold mixP; rw [Fa.out, if_neg h0, Fr.out, Fg.out, Fb.out])
        clear h0
        obtain ⟨k0, hk0⟩ : ∃ z, (2 * tr + ta) / (2 * ta) = z := ⟨_, rfl⟩
        have HA0 := Lib.hid (rounded_b tr ta k0 hk0 (by omega) (by omega) (by omega) (by omega))
        obtain ⟨x0, hx0⟩ : ∃ z, Pix.rnd tr ta = z := ⟨_, rfl⟩
        have hw0 : IntKind.u8.wrap k0 = x0 := (u8_rnd tr ta k0 hk0).trans hx0
        rw [hx0] at hm
        clear hk0 hx0
        obtain ⟨k1, hk1⟩ : ∃ z, (2 * tg + ta) / (2 * ta) = z := ⟨_, rfl⟩
        have HA1 := Lib.hid (rounded_b tg ta k1 hk1 (by omega) (by omega) (by omega) (by omega))
        obtain ⟨x1, hx1⟩ : ∃ z, Pix.rnd tg ta = z := ⟨_, rfl⟩
        have hw1 : IntKind.u8.wrap k1 = x1 := (u8_rnd tg ta k1 hk1).trans hx1
        rw [hx1] at hm
        clear hk1 hx1
        obtain ⟨k2, hk2⟩ : ∃ z, (2 * tb + ta) / (2 * ta) = z := ⟨_, rfl⟩
        have HA2 := Lib.hid (rounded_b tb ta k2 hk2 (by omega) (by omega) (by omega) (by omega))
        obtain ⟨x2, hx2⟩ : ∃ z, Pix.rnd tb ta = z := ⟨_, rfl⟩
        have hw2 : IntKind.u8.wrap k2 = x2 := (u8_rnd tb ta k2 hk2).trans hx2
        rw [hx2] at hm
        clear hk2 hx2
        obtain ⟨k3, hk3⟩ : ∃ z, (2 * ta + (n : Int)) / (2 * (n : Int)) = z := ⟨_, rfl⟩
        have HA3 := Lib.hid (rounded_b ta (n : Int) k3 hk3 (by omega) (by omega) (by omega) (by omega))
        obtain ⟨x3, hx3⟩ : ∃ z, Pix.rnd ta (n : Int) = z := ⟨_, rfl⟩
        have hw3 : IntKind.u8.wrap k3 = x3 := (u8_rnd ta (n : Int) k3 hk3).trans hx3
        rw [hx3] at hm
        clear hk3 hx3
        have SF := Lib.hid (set4b (x' := .int .u8 x0) (y' := .int .u8 x1) (z' := .int .u8 x2) (u' := .int .u8 x3) XR.out (Nat.le_refl _) BR.out)
        go_wp2_with fail
        refine wp_region_still_tail 24 (by kernel_rfl) (by kernel_rfl) ?_
        simp only [List.take_succ_cons, List.take_zero, List.drop_succ_cons, List.drop_zero]
        repeat still_step
        still_call (HA0.out _)
        repeat still_step
        still_call (HA1.out _)
        repeat still_step
        still_call (HA2.out _)
        repeat still_step
        still_call (HA3.out _)
        repeat still_step
        refine wpStill_nil ?_
        change wpList _ _ _ _ _ wr.drew
        go_wp2_with fail
        obtain ⟨hX9, hB9, _⟩ := SF.out
        have z0 := hB9.cell 0
        have z1 := hB9.cell 1
        have z2 := hB9.cell 2
        have z3 := hB9.cell 3
        exact bodyPost_ret (v := .agg #[.int .u8 x0, .int .u8 x1, .int .u8 x2, .int .u8 x3]) (by simp [results, Tryd.results77, go_sem, z0, z1, z2, z3]) rfl ⟨by rw [hm.out], (show Ext w _ from Below.drew hX9)⟩
end Go.Proofs.YtkfjcgcgfdibaaaDoor
namespace Go.Proofs.YtkfjcgcgfdibaaaDoor
open Go.RowKit
set_option maxRecDepth 100000
/-- the pixels of a square of two times two that lie in the picture, the first k looked at -/
def hlP (W H : Nat) (px : Nat → P4) (x y : Nat) : Nat → List P4
  | 0 => []
  | k + 1 => if 2 * x + k % 2 < W ∧ 2 * y + k / 2 < H then hlP W H px x y k ++ [px ((2 * y + k / 2) * W + (2 * x + k % 2))] else hlP W H px x y k
def pxl (l : List P4) (i : Nat) : P4 := l.getD i P4.zero
theorem pxl_push (l : List P4) (p : P4) : pxV (l ++ [p]).length (pxl (l ++ [p])) = pxV l.length (pxl l) ++ [.int .u8 p.r, .int .u8 p.g, .int .u8 p.b, .int .u8 p.a] := by
  rw [List.length_append, List.length_singleton, pxV_succ, pxV_ext l.length (pxl (l ++ [p])) (pxl l) (fun i hi => by unfold pxl; rw [List.getD, List.getD, List.getElem?_append_left hi])]
  have e : pxl (l ++ [p]) l.length = p := by unfold pxl; rw [List.getD, List.getElem?_append_right (Nat.le_refl _), Nat.sub_self]; rfl
  rw [e]
theorem hlP_len (W H : Nat) (px : Nat → P4) (x y k : Nat) : (hlP W H px x y k).length ≤ k := by
  induction k with
  | zero => exact Nat.le_refl _
  | succ k ih => simp only [hlP]; split
                 · rw [List.length_append, List.length_singleton]; omega
                 · omega
theorem hlP_ok (W H : Nat) (px : Nat → P4) (x y : Nat) (h : ∀ i, i < W * H → (px i).Ok) (k : Nat) : ∀ p ∈ hlP W H px x y k, p.Ok := by
  induction k with
  | zero => intro p hp; cases hp
  | succ k ih =>
    simp only [hlP]
    split
    · rename_i q
      intro p hp
      rcases List.mem_append.1 hp with hp | hp
      · exact ih p hp
      · rw [List.mem_singleton.1 hp]; exact h _ (mul_lt_of q.2 q.1)
    · exact ih
def halfP (W H : Nat) (px : Nat → P4) (x y : Nat) : P4 := mixP (pxl (hlP W H px x y 4)) (hlP W H px x y 4).length
set_option linter.unusedSimpArgs false in
set_option maxHeartbeats 4000000 in
theorem half1_any (x y W H : Nat) (a : Addr) (c P : Nat) (px : Nat → P4) (w : World) (hP : PicAt w P (W : Int) (H : Int) (.slice (some a) (W * H) c)) (hx : Pxs w (some a) (W * H) px) (hW : 1 ≤ W ∧ W ≤ 256) (hH : 1 ≤ H ∧ H ≤ 256) (hx1 : x ≤ 200) (hy1 : y ≤ 200) :
    Calls Tryd.prog 74 #[.int .i64 (x : Int), .int .i64 (y : Int), .pointer (some ⟨P, 0, none⟩)] w fun e w' => e = .returned (.agg #[.int .u8 (halfP W H px x y).r, .int .u8 (halfP W H px x y).g, .int .u8 (halfP W H px x y).b, .int .u8 (halfP W H px x y).a]) ∧ Ext w w' := by
  obtain ⟨i0, hi0, hz0, hz1, hz2⟩ := info_parts pixinfo
  have HX := Lib.hid hx
  have HP := Lib.hid hP
  obtain ⟨N, hN⟩ : ∃ N, W * H = N := ⟨_, rfl⟩
  have NN := Lib.hid hN
  have hNl : N ≤ 65536 := by rw [← hN]; exact Nat.mul_le_mul hW.2 hH.2
  obtain ⟨hW1, hW2⟩ := hW
  obtain ⟨hH1, hH2⟩ := hH
  rw [hN] at HP HX
  clear hx hP hN
  go_enter Tryd.func74, Tryd.ntmps74
  go_wp2_with fail
  refine wp_world (fun wz => Ext w wz ∧ Bk wz w.heap.size #[.int .u8 0, .int .u8 0, .int .u8 0, .int .u8 0]) ⟨(Ext.refl w).alloc _, Bk.at rfl⟩ ?_
  rintro w0 ⟨hX, hB⟩
  have X0 := Lib.hid hX
  have B0 := Lib.hid hB
  clear hX hB
  go_loopw [6, 10] (fun v i wr => ∃ k : Nat, k ≤ 4 ∧ i = .int .i64 (k : Int) ∧ Hid (wr.ownsRow (w.heap.size + 1) 36 4 v (hlP W H px x y k).length (pxV (hlP W H px x y k).length (pxl (hlP W H px x y k)))) ∧ Hid (Ext w wr) ∧ Hid (Bk wr w.heap.size #[.int .u8 0, .int .u8 0, .int .u8 0, .int .u8 0])) (fun _ i _ => 4 - (intOf i).toNat)
  case atStart => exact ⟨0, by omega, rfl, Lib.hid (World.ownsRow_nil _ _ _ _), X0, B0⟩
  case round =>
    clear X0 B0
    obtain ⟨k, hk, rfl, OW, XR, BR⟩ := hrel
    have hll := hlP_len W H px x y k
    obtain ⟨l, hl⟩ : ∃ l, hlP W H px x y k = l := ⟨_, rfl⟩
    rw [hl] at OW hll
    have HL := Lib.hid hl
    clear hl
    obtain ⟨L, hL⟩ : ∃ L, l.length = L := ⟨_, rfl⟩
    have HLL := Lib.hid hL
    rw [hL] at OW hll
    clear hL
    obtain ⟨xo, co, rfl⟩ := own_slice OW.out
    by_cases hlt : k < 4
    · obtain ⟨U, hU⟩ : ∃ U, 2 * x + k % 2 = U := ⟨_, rfl⟩
      obtain ⟨V, hV⟩ : ∃ V, 2 * y + k / 2 = V := ⟨_, rfl⟩
      have hUI : 2 * (x : Int) + (k : Int) % 2 = (U : Int) := by omega
      have hVI : 2 * (y : Int) + (k : Int) / 2 = (V : Int) := by omega
      have hUl : U ≤ 600 := by omega
      have hVl : V ≤ 600 := by omega
      have HUV := Lib.hid (And.intro hU hV)
      clear hU hV
      have PQ := HP.out.ext XR.out
      have c0 := PQ.c0
      have c1 := PQ.c1
      have c2 := PQ.c2
      clear PQ
      go_wp2_with fail
      refine (in_any (W : Int) (H : Int) _ (U : Int) (V : Int) _ ⟨_, _, _, rfl⟩).mono ?_
      rintro e w5 ⟨rfl, h5⟩
      have X5 := Lib.hid (XR.out.trans h5)
      have B5 := Lib.hid (BR.out.ext h5)
      have O5 := Lib.hid (ownsRow_kept OW.out (h5.keeps (S := fun _ => False)) (fun _ _ q => q))
      clear h5 c0 c1 c2 OW XR BR
      by_cases hin : U < W ∧ V < H
      · have hb : inB (W : Int) (H : Int) (U : Int) (V : Int) = true := by unfold inB; exact decide_eq_true ⟨by omega, by omega, by omega, by omega⟩
        rw [hb]
        obtain ⟨hin1, hin2⟩ := hin
        have hid : V * W + U < N := by rw [← NN.out]; exact mul_lt_of hin2 hin1
        obtain ⟨M, hM⟩ : ∃ M, V * W = M := ⟨_, rfl⟩
        have hMI : (V : Int) * (W : Int) = (M : Int) := by rw [← hM]; simp
        rw [hM] at hid
        have HM := Lib.hid hM
        clear hM hb
        have HST : Hid (hlP W H px x y (k + 1) = l ++ [px (M + U)]) := Lib.hid (by simp only [hlP]; rw [HUV.out.1, HUV.out.2, if_pos ⟨hin1, hin2⟩, HL.out, HM.out])
        have PQ := HP.out.ext X5.out
        have c0 := PQ.c0
        have c1 := PQ.c1
        have c2 := PQ.c2
        clear PQ
        obtain ⟨d0, d1, d2, d3, _⟩ := (HX.out.ext X5.out).2 a rfl (M + U) hid
        obtain ⟨pp, hpp⟩ : ∃ q, px (M + U) = q := ⟨_, rfl⟩
        rw [hpp] at d0 d1 d2 d3 HST
        clear hpp
        have hidI : (M : Int) + (U : Int) < (N : Int) := by omega
        have hnn : ((M : Int) + (U : Int)).toNat = M + U := by omega
        have hzb : w.heap.size + 1 ≤ w5.heap.size := B5.out.lt
        go_wp2_with (at_builtin; refine wpList_append_own_at _ rfl _ _ 22 rfl (w.heap.size + 1) 36 i0 _ 4 4 Tryd.underlying22 hi0 hz0 hz1 hz2 rfl (by decide) _ _ _ rfl (O5.out.alloc _) ⟨w5.heap.size, 0, none⟩ 1 1 [.int .u8 pp.r, .int .u8 pp.g, .int .u8 pp.b, .int .u8 pp.a] rfl rfl ?c1 ?c2 ?c3 ?c4 ?c5 ?_)
        case c1 =>
          intro j u hu
          rw [add_plain]
          exact (Bk.at (w := w5) rfl).cell j |>.trans (by simpa using hu)
        case c2 => intro u hu; simp at hu; rcases hu with hu | hu | hu | hu <;> (subst hu; rfl)
        case c3 => unfold maxLen; omega
        case c4 => omega
        case c5 => rw [World.size_alloc]; omega
        intro v6 w6 hown hgrow _ hat
        have O6 : Hid (w6.ownsRow (w.heap.size + 1) 36 4 v6 (l ++ [pp]).length (pxV (l ++ [pp]).length (pxl (l ++ [pp])))) := Lib.hid (by rw [pxl_push, List.length_append, List.length_singleton, HLL.out]; exact hown)
        have hne : (Value.slice xo L co).ownBlock ≠ some w.heap.size := fun e => by have := (O5.out.lt _ e).1; omega
        have K6 := (Keeps.alloc (Ext.keeps (S := fun i => (Value.slice xo L co).ownBlock = some i) (Ext.refl w5)) (.cells #[.int .u8 pp.r, .int .u8 pp.g, .int .u8 pp.b, .int .u8 pp.a] 36)).trans (Keeps.grown hgrow) (fun _ _ q => q)
        have B6 := Lib.hid (B5.out.keeps K6 hne)
        have X6 := Lib.hid (show Ext w w6 from Below.trans X5.out (K6.below X5.out.size (fun i hi e => by have := (O5.out.lt i e).1; omega)))
        rw [← HST.out] at O6
        clear hown hgrow hat K6 hne
        go_wp2_with fail
        go_roundw
        case rel => exact ⟨k + 1, by omega, by go_num, O6, X6, B6⟩
        case measure => simp [intOf]; omega
      · have hb : inB (W : Int) (H : Int) (U : Int) (V : Int) = false := by unfold inB; exact decide_eq_false (fun h => hin ⟨by omega, by omega⟩)
        rw [hb]
        have HST : Hid (hlP W H px x y (k + 1) = l) := Lib.hid (by simp only [hlP]; rw [HUV.out.1, HUV.out.2, if_neg hin, HL.out])
        have O6 : Hid (w5.ownsRow (w.heap.size + 1) 36 4 (.slice xo L co) (hlP W H px x y (k + 1)).length (pxV (hlP W H px x y (k + 1)).length (pxl (hlP W H px x y (k + 1))))) := Lib.hid (by rw [HST.out, HLL.out]; exact O5.out)
        clear hin hb
        go_wp2_with fail
        go_roundw
        case rel => exact ⟨k + 1, by omega, by go_num, O6, X5, B5⟩
        case measure => simp [intOf]; omega
    · obtain rfl : k = 4 := by omega
      have hok := hlP_ok W H px x y (by rw [NN.out]; exact HX.out.bd) 4
      rw [HL.out] at hok
      obtain ⟨ax, ac, hv, hpx, _⟩ := Pxs.of_own OW.out (fun i hi => by unfold pxl; rw [List.getD, List.getElem?_eq_getElem (by rw [HLL.out]; exact hi)]; exact hok _ (List.getElem_mem _))
      have HPX := Lib.hid hpx
      have HV := Lib.hid hv
      clear hpx hok hv
      have MX : Hid (∀ wz, Ext wr wz → Calls Tryd.prog 75 #[.slice xo L co] wz fun e w' => e = .returned (.agg #[.int .u8 (mixP (pxl l) L).r, .int .u8 (mixP (pxl l) L).g, .int .u8 (mixP (pxl l) L).b, .int .u8 (mixP (pxl l) L).a]) ∧ Ext wz w') := Lib.hid (fun wz hz => by rw [HV.out]; exact mix_any ax L ac (pxl l) wz (HPX.out.ext hz) (by omega))
      obtain ⟨pp, hpp⟩ : ∃ q, mixP (pxl l) L = q := ⟨_, rfl⟩
      rw [hpp] at MX
      have HH : Hid (halfP W H px x y = pp) := Lib.hid (by unfold halfP; rw [HL.out, HLL.out, hpp])
      clear hpp
      go_wp2_with fail
      refine (MX.out _ (Ext.refl _)).mono ?_
      rintro e w7 ⟨rfl, h7⟩
      have X7 := Lib.hid (XR.out.trans h7)
      have B7 := Lib.hid (BR.out.ext h7)
      clear h7
      have b0 := B7.out.cell 0
      have f0 := B7.out.frozen 0
      have b1 := B7.out.cell 1
      have f1 := B7.out.frozen 1
      have b2 := B7.out.cell 2
      have f2 := B7.out.frozen 2
      have b3 := B7.out.cell 3
      have f3 := B7.out.frozen 3
      have SF := Lib.hid (set4b (x' := .int .u8 pp.r) (y' := .int .u8 pp.g) (z' := .int .u8 pp.b) (u' := .int .u8 pp.a) X7.out (Nat.le_refl _) B7.out)
      go_wp2_with fail
      obtain ⟨hX9, hB9, _⟩ := SF.out
      have z0 := hB9.cell 0
      have z1 := hB9.cell 1
      have z2 := hB9.cell 2
      have z3 := hB9.cell 3
      exact bodyPost_ret (v := .agg #[.int .u8 pp.r, .int .u8 pp.g, .int .u8 pp.b, .int .u8 pp.a]) (by simp [results, Tryd.results74, go_sem, z0, z1, z2, z3]) rfl ⟨by rw [HH.out], hX9⟩
end Go.Proofs.YtkfjcgcgfdibaaaDoor
namespace Go.Proofs.YtkfjcgcgfdibaaaDoor
open Go.RowKit
set_option maxRecDepth 100000
theorem enters_half1 : ∀ (args : Array Value) (w : World), (callFunc 74 args).run Tryd.prog w = .ok (.enter 74 args) w := enters_fn Tryd.func74 (by kernel_rfl) rfl
def halfQ (W H : Nat) (px : Nat → P4) : Nat → P4 := lin ((W + 1) / 2) (halfP W H px)
set_option maxHeartbeats 4000000 in
theorem half_good (W H : Nat) (a : Addr) (c : Nat) (px : Nat → P4) (w : World) (hW : 1 ≤ W ∧ W ≤ 256) (hH : 1 ≤ H ∧ H ≤ 256) (hx : Pxs w (some a) (W * H) px) :
    Calls Tryd.prog 40 #[.agg #[.int .i64 (W : Int), .int .i64 (H : Int), .slice (some a) (W * H) c]] w fun e w' => (∃ v, e = .returned (.tuple #[.agg #[.int .i64 (((W + 1) / 2 : Nat) : Int), .int .i64 (((H + 1) / 2 : Nat) : Int), v], .nilIface]) ∧ w'.ownsRow w.heap.size 36 4 v ((W + 1) / 2 * ((H + 1) / 2)) (pxV ((W + 1) / 2 * ((H + 1) / 2)) (halfQ W H px))) ∧ Ext w w' := by
  have HR := Lib.hid (right_of hW hH)
  have HX := Lib.hid hx
  have HWH := Lib.hid (And.intro hW hH)
  obtain ⟨W2, hW2⟩ : ∃ q, (W + 1) / 2 = q := ⟨_, rfl⟩
  obtain ⟨H2, hH2⟩ : ∃ q, (H + 1) / 2 = q := ⟨_, rfl⟩
  have i1 : ((W : Int) + 1) / 2 = (W2 : Int) := by omega
  have i2 : ((H : Int) + 1) / 2 = (H2 : Int) := by omega
  have l1 : W2 ≤ 128 := by omega
  have l2 : H2 ≤ 128 := by omega
  obtain ⟨hQ, hhQ⟩ : ∃ q, halfQ W H px = q := ⟨_, rfl⟩
  have HQ : Hid (hQ = lin W2 (halfP W H px)) := Lib.hid (by rw [← hhQ, ← hW2]; rfl)
  rw [hW2, hH2, hhQ]
  clear hx hW2 hH2 hhQ
  obtain ⟨hW1, hW3⟩ := hW
  obtain ⟨hH1, hH3⟩ := hH
  go_enter Tryd.func40, Tryd.ntmps40
  go_wp2_with fail
  refine calls_world (fun wz => Ext w wz ∧ wz.heap.size = w.heap.size + 1 + 1 ∧ Bk wz (w.heap.size) #[.int .i64 (W : Int), .int .i64 (H : Int), .slice (some a) (W * H) c] ∧ Bk wz (w.heap.size + 1) #[.int .i64 0, .int .i64 0, .slice none 0 0]) ⟨by repeat (first | exact Ext.refl _ | refine Ext.alloc ?_ _), by simp, by repeat (first | exact Bk.at (by simp) | refine Bk.old ?_), by repeat (first | exact Bk.at (by simp) | refine Bk.old ?_)⟩ ?_
  rintro wa ⟨hX, hZ, hB0, hB1⟩
  have B0 := Lib.hid hB0
  have B2 := Lib.hid hB1
  have XA := Lib.hid hX
  have ZA := Lib.hid hZ
  clear hB0 hB1 hX hZ
  refine (check_ok _ _ _ _ _ _ HR.out).mono ?_
  rintro e wb ⟨rfl, h2⟩
  have X2 := Lib.hid (h2)
  clear h2
  have c0 := (B0.out.ext X2.out).cell 0
  have c1 := (B0.out.ext X2.out).cell 1
  have hzb : w.heap.size + 1 < wb.heap.size := by have := X2.out.size; have := ZA.out; omega
  go_wp2_with fail
  refine (each_any 74 #[.pointer (some ⟨w.heap.size, 0, none⟩)] W2 H2 (halfP W H px) wb (by omega) (by omega) enters_half1 (fun x y w1 h1 hxW hyH => half1_any x y W H a c w.heap.size px w1 (B0.out.ext (X2.out.trans h1)).pic (HX.out.ext ((XA.out.trans X2.out).trans h1)) HWH.out.1 HWH.out.2 (by omega) (by omega))).mono ?_
  rintro e w3 ⟨⟨v, rfl, hown⟩, h3⟩
  have OWN := Lib.hid (hown)
  have X3 := Lib.hid (h3)
  clear h3 hown
  obtain ⟨x, c', rfl⟩ := own_slice OWN.out
  have B3 := B2.out.ext (X2.out.trans X3.out)
  have d0 := B3.cell 0
  have d1 := B3.cell 1
  have d2 := B3.cell 2
  have e0 := B3.frozen 0
  have e1 := B3.frozen 1
  have e2 := B3.frozen 2
  have FR := Lib.hid (fill_res (W := (W2 : Int)) (H := (H2 : Int)) ((XA.out.trans X2.out).trans X3.out) (by omega : w.heap.size ≤ w.heap.size + 1) B3.pic OWN.out hzb)
  clear B3 c0 c1
  go_wp2_with fail
  obtain ⟨P, own, hX⟩ := FR.out
  have k0 := P.c0
  have k1 := P.c1
  have k2 := P.c2
  exact bodyPost_ret (v := .tuple #[.agg #[.int .i64 (W2 : Int), .int .i64 (H2 : Int), .slice x (W2 * H2) c'], .nilIface]) (by simp [results, Tryd.results40, go_sem, k0, k1, k2]) rfl ⟨⟨_, rfl, by rw [HQ.out]; exact owns_based own (by omega)⟩, hX⟩
end Go.Proofs.YtkfjcgcgfdibaaaDoor
