/- The document's Crop. -/
import Derived.Test.YtkfjcgcgfdibaaaDoorFillOf
import Derived.Deep.RegionHeld3
namespace Go.Proofs.YtkfjcgcgfdibaaaDoor
open Go.RowKit
set_option maxRecDepth 100000
/-- a row of pixels, known up to k -/
def upP (q : Nat → P4) (k i : Nat) : P4 := if i < k then q i else P4.zero
theorem upP_put (q : Nat → P4) (k i : Nat) : upP q (k + 1) i = upd (upP q k) k (q k) i := by
  unfold upP upd
  by_cases e : i = k
  · subst e; simp
  · have : (i < k + 1) ↔ (i < k) := by omega
    simp only [this, if_neg e]
theorem at_sum (x y W H X Y : Nat) (a : Addr) (c : Nat) (px : Nat → P4) (w : World) (hx : Pxs w (some a) (W * H) px) (hW : W ≤ 256) (hH : H ≤ 256) (hxW : X + x < W) (hyH : Y + y < H) :
    Calls Tryd.prog 67 #[.agg #[.int .i64 (W : Int), .int .i64 (H : Int), .slice (some a) (W * H) c], .int .i64 ((X : Int) + (x : Int)), .int .i64 ((Y : Int) + (y : Int))] w fun e w' => e = .returned (.agg #[.int .u8 (px ((y + Y) * W + (X + x))).r, .int .u8 (px ((y + Y) * W + (X + x))).g, .int .u8 (px ((y + Y) * W + (X + x))).b, .int .u8 (px ((y + Y) * W + (X + x))).a]) ∧ Ext w w' := by
  have h := at_any (X + x) (Y + y) W H a c px w hx hW hH hxW hyH
  rw [Int.natCast_add, Int.natCast_add, Nat.add_comm Y y] at h
  exact h
set_option linter.unusedSimpArgs false in
set_option maxHeartbeats 2000000 in
theorem cropOf_any (X Y RW RH W H : Nat) (ad : Addr) (cap : Nat) (px : Nat → P4) (w : World) (hx : Pxs w (some ad) (W * H) px) (hW : 1 ≤ W ∧ W ≤ 256) (hH : 1 ≤ H ∧ H ≤ 256) (h1 : 1 ≤ RW) (h2 : 1 ≤ RH) (h3 : X + RW ≤ W) (h4 : Y + RH ≤ H) :
    Calls Tryd.prog 32 #[.agg #[.int .i64 (W : Int), .int .i64 (H : Int), .slice (some ad) (W * H) cap], .agg #[.int .i64 (X : Int), .int .i64 (Y : Int), .int .i64 (RW : Int), .int .i64 (RH : Int)]] w fun e w' => (∃ g c, e = .returned (.agg #[.int .i64 (RW : Int), .int .i64 (RH : Int), .slice (some ⟨g, 0, none⟩) (RW * RH) c]) ∧ Po w' g (RW * RH) (lin RW fun x y => px ((y + Y) * W + (X + x))) ∧ w.heap.size ≤ g) ∧ Ext w w' := by
  obtain ⟨hW1, hW2⟩ := hW
  obtain ⟨hH1, hH2⟩ := hH
  have HX := Lib.hid hx
  obtain ⟨N, hN⟩ : ∃ N, RW * RH = N := ⟨_, rfl⟩
  have hNl : N ≤ 65536 := by rw [← hN]; exact Nat.mul_le_mul (show RW ≤ 256 by omega) (show RH ≤ 256 by omega)
  obtain ⟨M0, hM0⟩ : ∃ M0, W * H = M0 := ⟨_, rfl⟩
  have NM := Lib.hid hM0
  rw [hN, hM0]
  rw [hM0] at HX
  obtain ⟨q, hq⟩ : ∃ q, lin RW (fun x y => px ((y + Y) * W + (X + x))) = q := ⟨_, rfl⟩
  rw [hq]
  have HQ : Hid (∀ x y, x < RW → q (y * RW + x) = px ((y + Y) * W + (X + x))) := Lib.hid (fun x y h => by rw [← hq, lin_at RW _ x y h])
  have NN := Lib.hid hN
  clear hN hM0 hx hq
  go_enter Tryd.func32, Tryd.ntmps32
  go_wp2_with fail
  refine calls_world (fun wz => Ext w wz ∧ wz.heap.size = w.heap.size + 1 + 1 + 1 ∧ Bk wz (w.heap.size) #[.int .i64 (W : Int), .int .i64 (H : Int), .slice (some ad) M0 cap] ∧ Bk wz (w.heap.size + 1) #[.int .i64 (X : Int), .int .i64 (Y : Int), .int .i64 (RW : Int), .int .i64 (RH : Int)] ∧ Bk wz (w.heap.size + 1 + 1) #[.int .i64 0, .int .i64 0, .slice none 0 0]) ⟨by repeat (first | exact Ext.refl _ | refine Ext.alloc ?_ _), by simp, by repeat (first | exact Bk.at (by simp) | refine Bk.old ?_), by repeat (first | exact Bk.at (by simp) | refine Bk.old ?_), by repeat (first | exact Bk.at (by simp) | refine Bk.old ?_)⟩ ?_
  rintro w1 ⟨hX, hZ, hB0, hB1, hB2⟩
  have X1 := Lib.hid hX
  have SZ := Lib.hid hZ
  have B0 := Lib.hid hB0
  have B1 := Lib.hid hB1
  have B3 := Lib.hid hB2
  clear hX hZ hB0 hB1 hB2
  have HWH := Lib.hid (show (1 ≤ RW ∧ RW ≤ 256) ∧ (1 ≤ RH ∧ RH ≤ 256) from ⟨⟨h1, by omega⟩, h2, by omega⟩)
  have HBK := Lib.hid (blank_any RW RH P4.zero w1 HWH.out.1 HWH.out.2)
  rw [NN.out] at HBK
  refine HBK.out.mono ?_
  clear HBK
  rintro e w2 ⟨⟨g, rfl, hpo, hg⟩, h⟩
  have X2 := Lib.hid h
  have HP := Lib.hid hpo
  have HG : Hid (w1.heap.size ≤ g ∧ g < w2.heap.size) := Lib.hid (And.intro hg (World.block_lt_of_cell? _ _ (hpo 0 (by
    rw [← NN.out]
    have : 0 < RW * RH := Nat.mul_pos h1 h2
    omega)).1))
  clear h hpo hg
  go_wp2_with fail
  have E_ := (Ext.refl w2).alloc (.cells #[.int .i64 (RW : Int), .int .i64 (RH : Int), .slice (some ⟨g, 0, none⟩) N N] 24)
  have FA : Hid (FAt w (w2.alloc (.cells #[.int .i64 (RW : Int), .int .i64 (RH : Int), .slice (some ⟨g, 0, none⟩) N N] 24)) (w.heap.size + 1 + 1) w2.heap.size g (RW : Int) (RH : Int) N N (upP q (0 * RW))) := Lib.hid (by
    obtain ⟨q1, q2⟩ := HG.out
    have q3 := SZ.out
    refine FAt.congr (px := fun _ => P4.zero) ⟨X1.out.trans (X2.out.trans E_), (B3.out.ext X2.out).ext E_, Bk.at rfl, HP.out.ext E_, by omega, by omega, by omega⟩ (fun i _ => ?_)
    unfold upP; rw [if_neg (by omega)])
  have B0' := Lib.hid (B0.out.ext (X2.out.trans E_))
  have B1' := Lib.hid (B1.out.ext (X2.out.trans E_))
  clear E_
  refine wp_world (fun wz => Hid (FAt w wz (w.heap.size + 1 + 1) w2.heap.size g (RW : Int) (RH : Int) N N (upP q (0 * RW))) ∧ Hid (Bk wz w.heap.size #[.int .i64 (W : Int), .int .i64 (H : Int), .slice (some ad) M0 cap]) ∧ Hid (Bk wz (w.heap.size + 1) #[.int .i64 (X : Int), .int .i64 (Y : Int), .int .i64 (RW : Int), .int .i64 (RH : Int)])) ⟨FA, B0', B1'⟩ ?_
  obtain ⟨T, hT⟩ : ∃ T, w2.heap.size = T := ⟨_, rfl⟩
  rw [hT] at *
  have NB : Hid (w.heap.size ≠ g ∧ w.heap.size + 1 ≠ g) := Lib.hid (by have := HG.out; have := SZ.out; omega)
  clear FA B0' B1' HP B0 B1 B3 X1 X2 HG SZ hT HWH
  rintro wz ⟨FA, B0, B1⟩
  go_loopw [6] (fun cc wr => ∃ y : Nat, y ≤ RH ∧ cc = .int .i64 y ∧ Hid (FAt w wr (w.heap.size + 1 + 1) T g (RW : Int) (RH : Int) N N (upP q (y * RW))) ∧ Hid (Bk wr w.heap.size #[.int .i64 (W : Int), .int .i64 (H : Int), .slice (some ad) M0 cap]) ∧ Hid (Bk wr (w.heap.size + 1) #[.int .i64 (X : Int), .int .i64 (Y : Int), .int .i64 (RW : Int), .int .i64 (RH : Int)])) (fun cc _ => RH - (intOf cc).toNat)
  case atStart => exact ⟨0, by omega, rfl, FA, B0, B1⟩
  case round =>
    clear FA B0 B1
    obtain ⟨y, hy, rfl, FA, B0, B1⟩ := hrel
    have b3 := B1.out.cell 3
    by_cases hlt : y < RH
    · go_wp2_with fail
      clear b3
      go_loopw [7] (fun cc wr => ∃ x : Nat, x ≤ RW ∧ cc = .int .i64 x ∧ Hid (FAt w wr (w.heap.size + 1 + 1) T g (RW : Int) (RH : Int) N N (upP q (y * RW + x))) ∧ Hid (Bk wr w.heap.size #[.int .i64 (W : Int), .int .i64 (H : Int), .slice (some ad) M0 cap]) ∧ Hid (Bk wr (w.heap.size + 1) #[.int .i64 (X : Int), .int .i64 (Y : Int), .int .i64 (RW : Int), .int .i64 (RH : Int)])) (fun cc _ => RW - (intOf cc).toNat)
      case atStart => exact ⟨0, by omega, rfl, FA, B0, B1⟩
      case round =>
        clear FA B0 B1
        obtain ⟨x, hx, rfl, FA, B0, B1⟩ := hrel
        have b2 := B1.out.cell 2
        by_cases hlx : x < RW
        · have HPX : Hid (Pxs wr (some ad) (W * H) px) := Lib.hid (by rw [NM.out]; exact HX.out.ext FA.out.ext)
          obtain ⟨P, hP⟩ : ∃ P, px ((y + Y) * W + (X + x)) = P := ⟨_, rfl⟩
          have HQ1 : Hid (q (y * RW + x) = P) := Lib.hid ((HQ.out x y hlx).trans hP)
          have HAT : Hid (∀ w5, Ext wr w5 → Calls Tryd.prog 67 #[.agg #[.int .i64 (W : Int), .int .i64 (H : Int), .slice (some ad) M0 cap], .int .i64 ((X : Int) + (x : Int)), .int .i64 ((Y : Int) + (y : Int))] w5 fun e w' => e = .returned (.agg #[.int .u8 P.r, .int .u8 P.g, .int .u8 P.b, .int .u8 P.a]) ∧ Ext w5 w') := Lib.hid (fun w5 h5 => by
            have h := at_sum x y W H X Y ad cap px w5 (HPX.out.ext h5) hW2 hH2 (by omega) (by omega)
            rw [hP, NM.out] at h
            exact h)
          clear hP
          have hk : y * RW + x < N := by rw [← NN.out]; exact mul_lt_of hlt hlx
          have hMI : (y : Int) * (RW : Int) = ((y * RW : Nat) : Int) := by simp
          obtain ⟨M, hM⟩ : ∃ M, y * RW = M := ⟨_, rfl⟩
          rw [hM] at FA hk hMI HQ1
          have MM := Lib.hid hM
          have b0 := B1.out.cell 0
          have b1 := B1.out.cell 1
          have p0 := B0.out.cell 0
          have p1 := B0.out.cell 1
          have p2 := B0.out.cell 2
          have k2 := FA.out.bk.cell 2
          clear hM HPX
          have w1_ : IntKind.i64.wrap (M : Int) = (M : Int) := by unfold IntKind.wrap; simp [IntKind.bits, IntKind.signed]; omega
          have w2_ : IntKind.i64.wrap ((M : Int) + (x : Int)) = (M : Int) + (x : Int) := by unfold IntKind.wrap; simp [IntKind.bits, IntKind.signed]; omega
          have w3_ : IntKind.i64.wrap ((X : Int) + (x : Int)) = (X : Int) + (x : Int) := by unfold IntKind.wrap; simp [IntKind.bits, IntKind.signed]; omega
          have w4_ : IntKind.i64.wrap ((Y : Int) + (y : Int)) = (Y : Int) + (y : Int) := by unfold IntKind.wrap; simp [IntKind.bits, IntKind.signed]; omega
          have w5_ : ((M : Int) + (x : Int)).toNat = M + x := by omega
          have w6_ : ((M : Int) + (x : Int) < (N : Int)) := by omega
          have w7_ : 0 ≤ (M : Int) + (x : Int) := by omega
          go_wp2_with fail

          refine wp_region_held_drew (S := fun w' => w'.cell? ⟨w.heap.size, 0, none⟩ = some (.int .i64 (W : Int)) ∧ w'.cell? ⟨w.heap.size, 1, none⟩ = some (.int .i64 (H : Int)) ∧ w'.cell? ⟨w.heap.size, 2, none⟩ = some (.slice (some ad) M0 cap) ∧ w'.cell? ⟨w.heap.size + 1, 0, none⟩ = some (.int .i64 (X : Int)) ∧ w'.cell? ⟨w.heap.size + 1, 1, none⟩ = some (.int .i64 (Y : Int)) ∧ w'.cell? ⟨w.heap.size + 1, 2, none⟩ = some (.int .i64 (RW : Int)) ∧ w'.cell? ⟨T, 2, none⟩ = some (.slice (some ⟨g, 0, none⟩) N N)) (by kernel_rfl) ⟨p0, p1, p2, b0, b1, b2, k2⟩ (fun hHeld => ?_)
          refine wpAnyH_take (i := 0) (v := ?_) rfl (by kernel_rfl) (by kernel_rfl) (by kernel_rfl) (fun _ _ _ h => h) (Or.inl ⟨by kernel_rfl, ?_⟩) hHeld ?_
          rotate_left
          · intro w hSw
            (try dsimp only at hSw)
            go_split_ands
            go_simp
            (try with_reducible rfl)
          try simp only [Act.put, List.setIfInBounds_toArray, List.set_cons_zero, List.set_cons_succ]
          refine wpAnyH_take (i := 1) (v := ?_) rfl (by kernel_rfl) (by kernel_rfl) (by kernel_rfl) (fun _ _ _ h => h) (Or.inl ⟨by kernel_rfl, ?_⟩) hHeld ?_
          rotate_left
          · intro w hSw
            (try dsimp only at hSw)
            go_split_ands
            go_simp
            (try with_reducible rfl)
          try simp only [Act.put, List.setIfInBounds_toArray, List.set_cons_zero, List.set_cons_succ]
          refine wpAnyH_take (i := 2) (v := ?_) rfl (by kernel_rfl) (by kernel_rfl) (by kernel_rfl) (fun _ _ _ h => h) (Or.inl ⟨by kernel_rfl, ?_⟩) hHeld ?_
          rotate_left
          · intro w hSw
            (try dsimp only at hSw)
            go_split_ands
            go_simp
            (try with_reducible rfl)
          try simp only [Act.put, List.setIfInBounds_toArray, List.set_cons_zero, List.set_cons_succ]
          refine wpAnyH_take (i := 3) (v := ?_) rfl (by kernel_rfl) (by kernel_rfl) (by kernel_rfl) (fun _ _ _ h => h) (Or.inl ⟨by kernel_rfl, ?_⟩) hHeld ?_
          rotate_left
          · intro w hSw
            (try dsimp only at hSw)
            go_split_ands
            go_simp
            (try with_reducible rfl)
          try simp only [Act.put, List.setIfInBounds_toArray, List.set_cons_zero, List.set_cons_succ]
          refine wpAnyH_take (i := 4) (v := ?_) rfl (by kernel_rfl) (by kernel_rfl) (by kernel_rfl) (fun _ _ _ h => h) (Or.inl ⟨by kernel_rfl, ?_⟩) hHeld ?_
          rotate_left
          · intro w hSw
            (try dsimp only at hSw)
            go_split_ands
            go_simp
            (try with_reducible rfl)
          try simp only [Act.put, List.setIfInBounds_toArray, List.set_cons_zero, List.set_cons_succ]
          refine wpAnyH_take (i := 5) (v := ?_) rfl (by kernel_rfl) (by kernel_rfl) (by kernel_rfl) (fun _ _ _ h => h) (Or.inl ⟨by kernel_rfl, ?_⟩) hHeld ?_
          rotate_left
          · intro w hSw
            (try dsimp only at hSw)
            go_split_ands
            go_simp
            (try with_reducible rfl)
          try simp only [Act.put, List.setIfInBounds_toArray, List.set_cons_zero, List.set_cons_succ]
          refine wpAnyH_take (i := 6) (v := ?_) rfl (by kernel_rfl) (by kernel_rfl) (by kernel_rfl) (fun _ _ _ h => h) (Or.inl ⟨by kernel_rfl, ?_⟩) hHeld ?_
          rotate_left
          · intro w hSw
            (try dsimp only at hSw)
            go_split_ands
            go_simp
            (try with_reducible rfl)
          try simp only [Act.put, List.setIfInBounds_toArray, List.set_cons_zero, List.set_cons_succ]
          refine wpAnyH_take (i := 7) (v := ?_) rfl (by kernel_rfl) (by kernel_rfl) (by kernel_rfl) (fun _ _ _ h => h) (Or.inl ⟨by kernel_rfl, ?_⟩) hHeld ?_
          rotate_left
          · intro w hSw
            (try dsimp only at hSw)
            go_split_ands
            go_simp
            (try with_reducible rfl)
          try simp only [Act.put, List.setIfInBounds_toArray, List.set_cons_zero, List.set_cons_succ]
          refine wpAnyH_take (i := 8) (v := ?_) rfl (by kernel_rfl) (by kernel_rfl) (by kernel_rfl) (fun _ _ _ h => h) (Or.inl ⟨by kernel_rfl, ?_⟩) hHeld ?_
          rotate_left
          · intro w hSw
            (try dsimp only at hSw)
            go_split_ands
            go_simp
            (try with_reducible rfl)
          try simp only [Act.put, List.setIfInBounds_toArray, List.set_cons_zero, List.set_cons_succ]
          refine wpAnyH_take (i := 9) (v := ?_) rfl (by kernel_rfl) (by kernel_rfl) (by kernel_rfl) (fun _ _ _ h => h) (Or.inl ⟨by kernel_rfl, ?_⟩) hHeld ?_
          rotate_left
          · intro w hSw
            (try dsimp only at hSw)
            go_split_ands
            go_simp
            (try with_reducible rfl)
          try simp only [Act.put, List.setIfInBounds_toArray, List.set_cons_zero, List.set_cons_succ]
          refine wpAnyH_take (i := 10) (v := ?_) rfl (by kernel_rfl) (by kernel_rfl) (by kernel_rfl) (fun _ _ _ h => h) (Or.inl ⟨by kernel_rfl, ?_⟩) hHeld ?_
          rotate_left
          · intro w hSw
            (try dsimp only at hSw)
            go_split_ands
            go_simp
            (try with_reducible rfl)
          try simp only [Act.put, List.setIfInBounds_toArray, List.set_cons_zero, List.set_cons_succ]
          refine wpAnyH_take (i := 11) (v := ?_) rfl (by kernel_rfl) (by kernel_rfl) (by kernel_rfl) (fun _ _ _ h => h) (Or.inl ⟨by kernel_rfl, ?_⟩) hHeld ?_
          rotate_left
          · intro w hSw
            (try dsimp only at hSw)
            go_split_ands
            go_simp
            (try with_reducible rfl)
          try simp only [Act.put, List.setIfInBounds_toArray, List.set_cons_zero, List.set_cons_succ]
          refine wpAnyH_take (i := 12) (v := ?_) rfl (by kernel_rfl) (by kernel_rfl) (by kernel_rfl) (fun _ _ _ h => h) (Or.inl ⟨by kernel_rfl, ?_⟩) hHeld ?_
          rotate_left
          · intro w hSw
            (try dsimp only at hSw)
            go_split_ands
            go_simp
            (try with_reducible rfl)
          try simp only [Act.put, List.setIfInBounds_toArray, List.set_cons_zero, List.set_cons_succ]
          refine wpAnyH_take (i := 13) (v := ?_) rfl (by kernel_rfl) (by kernel_rfl) (by kernel_rfl) (fun _ _ _ h => h) (Or.inl ⟨by kernel_rfl, ?_⟩) hHeld ?_
          rotate_left
          · intro w hSw
            (try dsimp only at hSw)
            go_split_ands
            go_simp
            (try with_reducible rfl)
          try simp only [Act.put, List.setIfInBounds_toArray, List.set_cons_zero, List.set_cons_succ]
          refine wpAnyH_take (i := 14) (v := ?_) rfl (by kernel_rfl) (by kernel_rfl) (by kernel_rfl) (fun _ _ _ h => h) (Or.inl ⟨by kernel_rfl, ?_⟩) hHeld ?_
          rotate_left
          · intro w hSw
            (try dsimp only at hSw)
            go_split_ands
            go_simp
            (try with_reducible rfl)
          try simp only [Act.put, List.setIfInBounds_toArray, List.set_cons_zero, List.set_cons_succ]
          refine wpAnyH_take (i := 15) (v := ?_) rfl (by kernel_rfl) (by kernel_rfl) (by kernel_rfl) (fun _ _ _ h => h) (Or.inl ⟨by kernel_rfl, ?_⟩) hHeld ?_
          rotate_left
          · intro w hSw
            (try dsimp only at hSw)
            go_split_ands
            go_simp
            (try with_reducible rfl)
          try simp only [Act.put, List.setIfInBounds_toArray, List.set_cons_zero, List.set_cons_succ]
          refine wpAnyH_take (i := 16) (v := ?_) rfl (by kernel_rfl) (by kernel_rfl) (by kernel_rfl) (fun _ _ _ h => h) (Or.inl ⟨by kernel_rfl, ?_⟩) hHeld ?_
          rotate_left
          · intro w hSw
            (try dsimp only at hSw)
            go_split_ands
            go_simp
            (try with_reducible rfl)
          try simp only [Act.put, List.setIfInBounds_toArray, List.set_cons_zero, List.set_cons_succ]
          refine wpAnyH_ready (rs := [17]) (by kernel_rfl) (by simp) ?_
          refine AllReadyH.cons rfl (fun K hK => ?_) AllReadyH.nil
          clear hHeld
          go_simp
          refine (HAT.out _ (by first | exact Ext.refl _ | exact Below.drew (Ext.refl wr))).mono ?_
          rintro e w5 ⟨rfl, hx5⟩
          have ha : Ext wr w5 := ⟨hx5.os, hx5.tape, hx5.output, hx5.size, hx5.block⟩
          clear hx5
          go_simp
          refine hK.out _ _ ⟨(B0.out.ext ha).cell 0, (B0.out.ext ha).cell 1, (B0.out.ext ha).cell 2, (B1.out.ext ha).cell 0, (B1.out.ext ha).cell 1, (B1.out.ext ha).cell 2, (FA.out.bk.ext ha).cell 2⟩ (fun hHeld => ?_)
          clear hK K
          try simp only [Act.put, List.setIfInBounds_toArray, List.set_cons_zero, List.set_cons_succ]
          refine wpAnyH_take (i := 18) (v := ?_) rfl (by kernel_rfl) (by kernel_rfl) (by kernel_rfl) (fun _ _ _ h => h) (Or.inl ⟨by kernel_rfl, ?_⟩) hHeld ?_
          rotate_left
          · intro w hSw
            (try dsimp only at hSw)
            go_split_ands
            go_simp
            (try with_reducible rfl)
          try simp only [Act.put, List.setIfInBounds_toArray, List.set_cons_zero, List.set_cons_succ]
          have FA5 := Lib.hid (FA.out.step ha)
          have B05 := Lib.hid (B0.out.ext ha)
          have B15 := Lib.hid (B1.out.ext ha)
          clear ha FA B0 B1
          obtain ⟨c0, f0⟩ := FA5.out.row ((M + x) * 4) (by omega)
          obtain ⟨c1, f1⟩ := FA5.out.row ((M + x) * 4 + 1) (by omega)
          obtain ⟨c2, f2⟩ := FA5.out.row ((M + x) * 4 + 2) (by omega)
          obtain ⟨c3, f3⟩ := FA5.out.row ((M + x) * 4 + 3) (by omega)
          have FN := Lib.hid ((FA5.out.put (M + x) P).congr fun i _ => (upP_put q (M + x) i).trans (by rw [HQ1.out]))
          have K := set4_keeps w5 g (M + x) P
          have B0N := Lib.hid (B05.out.keeps K NB.out.1)
          have B1N := Lib.hid (B15.out.keeps K NB.out.2)
          clear K
          unfold set4 at FN B0N B1N
          refine wpAnyH_ready (rs := [19]) (by kernel_rfl) (by simp) ?_
          refine AllReadyH.cons rfl (fun K hK => ?_) AllReadyH.nil
          clear hHeld
          go_simp
          refine hK.out _ _ ⟨B0N.out.cell 0, B0N.out.cell 1, B0N.out.cell 2, B1N.out.cell 0, B1N.out.cell 1, B1N.out.cell 2, FN.out.bk.cell 2⟩ (fun hHeld => ?_)
          clear hK K
          try simp only [Act.put, List.setIfInBounds_toArray, List.set_cons_zero, List.set_cons_succ]
          refine wpAnyH_done (by kernel_rfl) ?_ _
          clear hHeld
          go_wp2_with fail
          go_roundw
          case rel => exact ⟨x + 1, by omega, by go_num, by rw [MM.out]; exact FN, B0N, B1N⟩
          case measure => simp [intOf]; omega
        · obtain rfl : x = RW := by omega
          go_wp2_with fail
          go_roundw
          case rel => exact ⟨y + 1, by omega, by go_num, by rw [Nat.succ_mul]; exact FA, B0, B1⟩
          case measure => simp [intOf]; omega
    · obtain rfl : y = RH := by omega
      have k0 := FA.out.bk.cell 0
      have k1 := FA.out.bk.cell 1
      have k2 := FA.out.bk.cell 2
      have d0 := FA.out.res.cell 0
      have d1 := FA.out.res.cell 1
      have d2 := FA.out.res.cell 2
      have e0 := FA.out.res.frozen 0
      have e1 := FA.out.res.frozen 1
      have e2 := FA.out.res.frozen 2
      have hyn : y * RW = N := by rw [Nat.mul_comm]; exact NN.out
      rw [hyn] at FA
      have PC := Lib.hid ((FA.out.congr (qx := q) (fun i hi => by unfold upP; rw [if_pos hi])).close (by omega : w.heap.size ≤ w.heap.size + 1 + 1))
      have GN := Lib.hid FA.out.gn
      clear FA B0 B1 hyn
      go_wp2_with fail
      obtain ⟨k0, k1, k2, hP, hX⟩ := PC.out
      exact bodyPost_ret (v := .agg #[.int .i64 (RW : Int), .int .i64 (y : Int), .slice (some ⟨g, 0, none⟩) N N]) (by simp [results, Tryd.results32, go_sem, k0, k1, k2]) rfl ⟨⟨g, ⟨N, rfl⟩, hP, GN.out⟩, hX⟩
end Go.Proofs.YtkfjcgcgfdibaaaDoor
