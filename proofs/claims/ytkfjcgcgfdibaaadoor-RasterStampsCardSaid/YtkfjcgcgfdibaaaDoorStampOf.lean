/- The document's stamp. -/
import Derived.Test.YtkfjcgcgfdibaaaDoorStampBad
import Derived.Test.YtkfjcgcgfdibaaaDoorPixOverOf
namespace Go.Proofs.YtkfjcgcgfdibaaaDoor
open Go.RowKit
set_option maxRecDepth 100000
set_option linter.unusedSimpArgs false in
set_option maxHeartbeats 4000000 in
theorem stampOf_any (W H QW QH : Nat) (X Y m : Int) (ad bd : Addr) (c d : Nat) (px qx : Nat → P4) (w : World) (hWH : 1 ≤ W ∧ W ≤ 256 ∧ 1 ≤ H ∧ H ≤ 256) (hQH : 1 ≤ QW ∧ QW ≤ 256 ∧ 1 ≤ QH ∧ QH ≤ 256) (hxy : (-10000 ≤ X ∧ X ≤ 10000) ∧ -10000 ≤ Y ∧ Y ≤ 10000) (hm : 0 ≤ m ∧ m < 6) (hx : Pxs w (some ad) (W * H) px) (hy : Pxs w (some bd) (QW * QH) qx) :
    Calls Tryd.prog 39 #[.agg #[.int .i64 (W : Int), .int .i64 (H : Int), .slice (some ad) (W * H) c], .agg #[.int .i64 (QW : Int), .int .i64 (QH : Int), .slice (some bd) (QW * QH) d], .int .i64 X, .int .i64 Y, .int .i64 m] w fun e w' => (∃ g c', e = .returned (.agg #[.int .i64 (W : Int), .int .i64 (H : Int), .slice (some ⟨g, 0, none⟩) (W * H) c']) ∧ Po w' g (W * H) (stP W QW QH X Y m px qx (H * W)) ∧ w.heap.size ≤ g) ∧ Ext w w' := by
  obtain ⟨hW1, hW2, hH1, hH2⟩ := hWH
  obtain ⟨hQ1, hQ2, hK1, hK2⟩ := hQH
  obtain ⟨⟨n1, n2⟩, n3, n4⟩ := hxy
  obtain ⟨m0, m1⟩ := hm
  have HX := Lib.hid hx
  have HY := Lib.hid hy
  clear hx hy
  obtain ⟨N, hN⟩ : ∃ N, W * H = N := ⟨_, rfl⟩
  have hNl : N ≤ 65536 := by rw [← hN]; exact Nat.mul_le_mul hW2 hH2
  have hN0 : 0 < N := by rw [← hN]; exact Nat.mul_pos hW1 hH1
  obtain ⟨M, hM⟩ : ∃ M, QW * QH = M := ⟨_, rfl⟩
  have hMl : M ≤ 65536 := by rw [← hM]; exact Nat.mul_le_mul hQ2 hK2
  have hM0 : 0 < M := by rw [← hM]; exact Nat.mul_pos hQ1 hK1
  rw [hN] at HX
  rw [hM] at HY
  rw [hN, hM]
  have NN := Lib.hid hN
  have NM := Lib.hid hM
  have hadl : ad.block < w.heap.size := World.block_lt_of_cell? w _ (HX.out.2 ad rfl 0 hN0).1
  clear hN hM
  have hbdl : bd.block < w.heap.size := World.block_lt_of_cell? w _ (HY.out.2 bd rfl 0 hM0).1
  go_enter Tryd.func39, Tryd.ntmps39
  go_wp2_with fail
  refine calls_world (fun wz => Ext w wz ∧ wz.heap.size = w.heap.size + 1 + 1 + 1 ∧ Bk wz (w.heap.size) #[(.int .i64 (W : Int)), (.int .i64 (H : Int)), (.slice (some ad) N c)] ∧ Bk wz (w.heap.size + 1) #[(.int .i64 (QW : Int)), (.int .i64 (QH : Int)), (.slice (some bd) M d)] ∧ Bk wz (w.heap.size + 1 + 1) #[.int .i64 0, .int .i64 0, .slice none 0 0]) ⟨by repeat (first | exact Ext.refl _ | refine Ext.alloc ?_ _), by simp, by repeat (first | exact Bk.at (by simp) | refine Bk.old ?_), by repeat (first | exact Bk.at (by simp) | refine Bk.old ?_), by repeat (first | exact Bk.at (by simp) | refine Bk.old ?_)⟩ ?_
  rintro w1 ⟨hX, hZ, hB0, hB1, hB2⟩
  have X_1 := Lib.hid (hX)
  have P_1 := Lib.hid (hB0)
  have Q_1 := Lib.hid (hB1)
  have R_1 := Lib.hid (hB2)
  have SZ := Lib.hid hZ
  clear hX hZ hB0 hB1 hB2
  refine (own_any _ _ (some ad) N c px _ (HX.out.ext X_1.out) (fun h => by cases h) (by omega)).mono ?_
  rintro e w2 ⟨⟨v, rfl, hown⟩, h⟩
  have ZS := Lib.hid R_1.out.lt
  have OWN := Lib.hid hown
  clear hown
  have X_2 := Lib.hid (X_1.out.trans h)
  have P_2 := Lib.hid (P_1.out.ext h)
  have Q_2 := Lib.hid (Q_1.out.ext h)
  have R_2 := Lib.hid (R_1.out.ext h)
  clear h X_1 P_1 Q_1 R_1
  obtain ⟨g, cc, rfl, _, hg⟩ := ownsRow_some OWN.out hN0
  have HG := Lib.hid (And.intro (ownsRow_ge OWN.out) hg)
  clear hg
  have E_ := (Ext.refl w2).alloc (.cells #[.int .i64 (W : Int), .int .i64 (H : Int), .slice (some ⟨g, 0, none⟩) N cc] 24)
  go_wp2_with fail
  have FA : Hid (FAt w (w2.alloc (.cells #[.int .i64 (W : Int), .int .i64 (H : Int), .slice (some ⟨g, 0, none⟩) N cc] 24)) (w.heap.size + 1 + 1) w2.heap.size g (W : Int) (H : Int) N cc (stP W QW QH X Y m px qx (0 * W))) := Lib.hid (by
    obtain ⟨z1, z2⟩ := HG.out
    have z3 := ZS.out
    refine FAt.congr (px := px) ⟨X_2.out.trans E_, R_2.out.ext E_, Bk.at rfl, (Po.of_own OWN.out).ext E_, by omega, by omega, by omega⟩ (fun i _ => ?_)
    unfold stP; rw [if_neg (by omega)])
  have B0' := Lib.hid (P_2.out.ext E_)
  have B1' := Lib.hid (Q_2.out.ext E_)
  clear E_
  refine wp_world (fun wz => Hid (FAt w wz (w.heap.size + 1 + 1) w2.heap.size g (W : Int) (H : Int) N cc (stP W QW QH X Y m px qx (0 * W))) ∧ Hid (Bk wz w.heap.size #[(.int .i64 (W : Int)), (.int .i64 (H : Int)), (.slice (some ad) N c)]) ∧ Hid (Bk wz (w.heap.size + 1) #[(.int .i64 (QW : Int)), (.int .i64 (QH : Int)), (.slice (some bd) M d)])) ⟨FA, B0', B1'⟩ ?_
  obtain ⟨T, hT⟩ : ∃ T, w2.heap.size = T := ⟨_, rfl⟩
  rw [hT] at *
  have NBL : Hid (w.heap.size ≠ g ∧ w.heap.size + 1 ≠ g ∧ ad.block ≠ g ∧ bd.block ≠ g) := Lib.hid (by obtain ⟨z1, z2⟩ := HG.out; have z3 := ZS.out; omega)
  clear FA B0' B1' OWN HG ZS hT X_2 P_2 Q_2 R_2
  rintro wz ⟨FA, B0, B1⟩
  go_loopw [12] (fun c_ wr => ∃ v : Nat, v ≤ H ∧ c_ = .int .i64 v ∧ Hid (FAt w wr (w.heap.size + 1 + 1) T g (W : Int) (H : Int) N cc (stP W QW QH X Y m px qx (v * W))) ∧ Hid (Bk wr w.heap.size #[(.int .i64 (W : Int)), (.int .i64 (H : Int)), (.slice (some ad) N c)]) ∧ Hid (Bk wr (w.heap.size + 1) #[(.int .i64 (QW : Int)), (.int .i64 (QH : Int)), (.slice (some bd) M d)])) (fun c_ _ => H - (intOf c_).toNat)
  case atStart => exact ⟨0, by omega, rfl, FA, B0, B1⟩
  case round =>
    clear FA B0 B1
    obtain ⟨v, hv, rfl, FA, B0, B1⟩ := hrel
    by_cases hlt : v < H
    · have k1 := B0.out.cell 1
      go_wp2_with fail
      clear k1
      go_loopw [13] (fun c_ wr => ∃ u : Nat, u ≤ W ∧ c_ = .int .i64 u ∧ Hid (FAt w wr (w.heap.size + 1 + 1) T g (W : Int) (H : Int) N cc (stP W QW QH X Y m px qx (v * W + u))) ∧ Hid (Bk wr w.heap.size #[(.int .i64 (W : Int)), (.int .i64 (H : Int)), (.slice (some ad) N c)]) ∧ Hid (Bk wr (w.heap.size + 1) #[(.int .i64 (QW : Int)), (.int .i64 (QH : Int)), (.slice (some bd) M d)])) (fun c_ _ => W - (intOf c_).toNat)
      case atStart => exact ⟨0, by omega, rfl, FA, B0, B1⟩
      case round =>
        clear FA B0 B1
        obtain ⟨u, hu, rfl, FA, B0, B1⟩ := hrel
        by_cases hlu : u < W
        · have k0 := B1.out.cell 0
          have k1 := B1.out.cell 1
          have k2 := B1.out.cell 2
          have q0 := B0.out.cell 0
          go_wp2_with fail
          refine (refIn_any _ _ _ ((u : Int) - X) ((v : Int) - Y) _ ⟨_, _, _, rfl⟩).mono ?_
          rintro e w9 ⟨rfl, h9⟩
          have FA9 := Lib.hid (FA.out.step h9)
          have B09 := Lib.hid (B0.out.ext h9)
          have B19 := Lib.hid (B1.out.ext h9)
          clear h9 FA B0 B1 k0 k1 k2 q0
          cases hi : inB (QW : Int) (QH : Int) ((u : Int) - X) ((v : Int) - Y)
          · have FN := Lib.hid (FA9.out.congr fun i _ => stP_no hlu hi i)
            clear hi
            go_wp2_with fail
            go_roundw
            case rel => exact ⟨u + 1, by omega, by go_num, FN, B09, B19⟩
            case measure => simp [intOf]; omega
          · obtain ⟨i1, i2, i3, i4⟩ := of_decide_eq_true hi
            obtain ⟨a, ha⟩ : ∃ a : Nat, (u : Int) - X = a := ⟨((u : Int) - X).toNat, by omega⟩
            obtain ⟨b, hb⟩ : ∃ b : Nat, (v : Int) - Y = b := ⟨((v : Int) - Y).toNat, by omega⟩
            have HAB := Lib.hid (And.intro ha hb)
            obtain ⟨K, hK_⟩ : ∃ K, v * W + u = K := ⟨_, rfl⟩
            obtain ⟨J, hJ_⟩ : ∃ J, b * QW + a = J := ⟨_, rfl⟩
            have hKN : K < N := by rw [← NN.out, ← hK_]; exact mul_lt_of (by omega) (by omega)
            have hJM : J < M := by rw [← NM.out, ← hJ_]; exact mul_lt_of (by omega) (by omega)
            obtain ⟨O, hO⟩ : ∃ O, P4.over m (qx J) (px K) = O := ⟨_, rfl⟩
            rw [ha, hb] at hi
            have HST : Hid (∀ i, i < N → stP W QW QH X Y m px qx (v * W + u + 1) i = upd (stP W QW QH X Y m px qx (v * W + u)) K O i) := Lib.hid (fun i _ => by rw [stP_yes hlu ha hb hi i, hJ_, hK_, hO])
            have HO := Lib.hid hO
            clear hO hi
            have HJK := Lib.hid (And.intro hK_ hJ_)
            obtain ⟨okx, oky⟩ : (qx J).Ok ∧ (px K).Ok := ⟨(HY.out.2 bd rfl J hJM).2.2.2.2, (HX.out.2 ad rfl K hKN).2.2.2.2⟩
            have OKS := Lib.hid (And.intro okx oky)
            clear okx oky
            have HAT1 : Hid (∀ w5, Ext w w5 → Calls Tryd.prog 67 #[.agg #[(.int .i64 (QW : Int)), (.int .i64 (QH : Int)), (.slice (some bd) M d)], .int .i64 (a : Int), .int .i64 (b : Int)] w5 fun e w' => e = .returned (.agg #[.int .u8 (qx J).r, .int .u8 (qx J).g, .int .u8 (qx J).b, .int .u8 (qx J).a]) ∧ Ext w5 w') := Lib.hid (fun w5 h5 => by
              have h := at_any a b QW QH bd d qx w5 (by rw [NM.out]; exact HY.out.ext h5) hQ2 hK2 (by omega) (by omega)
              rw [HJK.out.2, NM.out] at h
              exact h)
            have HAT2 : Hid (∀ w5, Ext w w5 → Calls Tryd.prog 67 #[.agg #[(.int .i64 (W : Int)), (.int .i64 (H : Int)), (.slice (some ad) N c)], .int .i64 (u : Int), .int .i64 (v : Int)] w5 fun e w' => e = .returned (.agg #[.int .u8 (px K).r, .int .u8 (px K).g, .int .u8 (px K).b, .int .u8 (px K).a]) ∧ Ext w5 w') := Lib.hid (fun w5 h5 => by
              have h := at_any u v W H ad c px w5 (by rw [NN.out]; exact HX.out.ext h5) hW2 hH2 (by omega) (by omega)
              rw [HJK.out.1, NN.out] at h
              exact h)
            have HOV : Hid (∀ w5, Calls Tryd.prog 73 #[.int .i64 m, .agg #[.int .u8 (qx J).r, .int .u8 (qx J).g, .int .u8 (qx J).b, .int .u8 (qx J).a], .agg #[.int .u8 (px K).r, .int .u8 (px K).g, .int .u8 (px K).b, .int .u8 (px K).a]] w5 fun e w' => e = .returned (.agg #[.int .u8 O.r, .int .u8 O.g, .int .u8 O.b, .int .u8 O.a]) ∧ Ext w5 w') := Lib.hid (fun w5 => by
              have h := overOf_any m (qx J) (px K) w5 ⟨m0, m1⟩ OKS.out.1 OKS.out.2
              rw [HO.out] at h
              exact h)
            have hMI : (v : Int) * (W : Int) = ((v * W : Nat) : Int) := by simp
            obtain ⟨V, hV⟩ : ∃ V, v * W = V := ⟨_, rfl⟩
            rw [hV] at hMI hK_
            have VV := Lib.hid hV
            have w1_ : IntKind.i64.wrap (V : Int) = (V : Int) := by unfold IntKind.wrap; simp [IntKind.bits, IntKind.signed]; omega
            have w2_ : IntKind.i64.wrap ((V : Int) + (u : Int)) = (K : Int) := by unfold IntKind.wrap; simp [IntKind.bits, IntKind.signed]; omega
            have w3_ : IntKind.i64.wrap ((u : Int) - X) = (a : Int) := by rw [ha]; unfold IntKind.wrap; simp [IntKind.bits, IntKind.signed]; omega
            have w4_ : IntKind.i64.wrap ((v : Int) - Y) = (b : Int) := by rw [hb]; unfold IntKind.wrap; simp [IntKind.bits, IntKind.signed]; omega
            clear hK_ hJ_ hV ha hb
            clear i1 i2 i3 i4
            have X_0 := Lib.hid FA9.out.ext
            have P_0 := B09
            have Q_0 := B19
            have A_0 := FA9
            clear FA9 B09 B19
            have k0 := P_0.out.cell 0
            have q0 := Q_0.out.cell 0
            have k1 := P_0.out.cell 1
            have q1 := Q_0.out.cell 1
            have k2 := P_0.out.cell 2
            have q2 := Q_0.out.cell 2
            go_wp2_with fail
            clear k0 k1 k2 q0 q1 q2
            refine wp_region_held_drew (S := fun w' => w'.cell? ⟨w.heap.size, 0, none⟩ = some ((.int .i64 (W : Int))) ∧ w'.cell? ⟨w.heap.size, 1, none⟩ = some ((.int .i64 (H : Int))) ∧ w'.cell? ⟨w.heap.size, 2, none⟩ = some ((.slice (some ad) N c)) ∧ w'.cell? ⟨w.heap.size + 1, 0, none⟩ = some ((.int .i64 (QW : Int))) ∧ w'.cell? ⟨w.heap.size + 1, 1, none⟩ = some ((.int .i64 (QH : Int))) ∧ w'.cell? ⟨w.heap.size + 1, 2, none⟩ = some ((.slice (some bd) M d)) ∧ w'.cell? ⟨T, 2, none⟩ = some (.slice (some ⟨g, 0, none⟩) N cc)) (by kernel_rfl) ⟨P_0.out.cell 0, P_0.out.cell 1, P_0.out.cell 2, Q_0.out.cell 0, Q_0.out.cell 1, Q_0.out.cell 2, A_0.out.bk.cell 2⟩ (fun hHeld => ?_)
            clear hHeld
            refine anyH_world (fun wz => Ext w9 wz) (show Ext w9 w9.drew from Below.drew (Ext.refl w9)) ?_
            rintro w1 h
            have X_1 := Lib.hid (X_0.out.trans h)
            have P_1 := Lib.hid (P_0.out.ext h)
            have Q_1 := Lib.hid (Q_0.out.ext h)
            have A_1 := Lib.hid (A_0.out.step h)
            clear h X_0 P_0 Q_0 A_0
            have hHeld : w1.cell? ⟨w.heap.size, 0, none⟩ = some ((.int .i64 (W : Int))) ∧ w1.cell? ⟨w.heap.size, 1, none⟩ = some ((.int .i64 (H : Int))) ∧ w1.cell? ⟨w.heap.size, 2, none⟩ = some ((.slice (some ad) N c)) ∧ w1.cell? ⟨w.heap.size + 1, 0, none⟩ = some ((.int .i64 (QW : Int))) ∧ w1.cell? ⟨w.heap.size + 1, 1, none⟩ = some ((.int .i64 (QH : Int))) ∧ w1.cell? ⟨w.heap.size + 1, 2, none⟩ = some ((.slice (some bd) M d)) ∧ w1.cell? ⟨T, 2, none⟩ = some (.slice (some ⟨g, 0, none⟩) N cc) := ⟨P_1.out.cell 0, P_1.out.cell 1, P_1.out.cell 2, Q_1.out.cell 0, Q_1.out.cell 1, Q_1.out.cell 2, A_1.out.bk.cell 2⟩
            refine wpAnyH_take (i := 0) (v := ?_) rfl (by kernel_rfl) (by kernel_rfl) (by kernel_rfl) (fun _ _ _ h => h) (Or.inl ⟨by kernel_rfl, ?_⟩) hHeld ?_
            rotate_left
            · intro w hSw
              (try dsimp only at hSw)
              go_split_ands
              go_simp
              (try with_reducible rfl)
            try simp only [Act.put, List.setIfInBounds_toArray, List.set_cons_zero, List.set_cons_succ]
            refine wpAnyH_take (i := 1) (v := ?_) rfl (by kernel_rfl) (by kernel_rfl) (by kernel_rfl) (fun _ _ _ h => h) (Or.inl ⟨by kernel_rfl, ?_⟩) hHeld ?_
            rotate_left
            · intro w hSw
              (try dsimp only at hSw)
              go_split_ands
              go_simp
              (try with_reducible rfl)
            try simp only [Act.put, List.setIfInBounds_toArray, List.set_cons_zero, List.set_cons_succ]
            refine wpAnyH_take (i := 2) (v := ?_) rfl (by kernel_rfl) (by kernel_rfl) (by kernel_rfl) (fun _ _ _ h => h) (Or.inl ⟨by kernel_rfl, ?_⟩) hHeld ?_
            rotate_left
            · intro w hSw
              (try dsimp only at hSw)
              go_split_ands
              go_simp
              (try with_reducible rfl)
            try simp only [Act.put, List.setIfInBounds_toArray, List.set_cons_zero, List.set_cons_succ]
            refine wpAnyH_take (i := 3) (v := ?_) rfl (by kernel_rfl) (by kernel_rfl) (by kernel_rfl) (fun _ _ _ h => h) (Or.inl ⟨by kernel_rfl, ?_⟩) hHeld ?_
            rotate_left
            · intro w hSw
              (try dsimp only at hSw)
              go_split_ands
              go_simp
              (try with_reducible rfl)
            try simp only [Act.put, List.setIfInBounds_toArray, List.set_cons_zero, List.set_cons_succ]
            refine wpAnyH_take (i := 4) (v := ?_) rfl (by kernel_rfl) (by kernel_rfl) (by kernel_rfl) (fun _ _ _ h => h) (Or.inl ⟨by kernel_rfl, ?_⟩) hHeld ?_
            rotate_left
            · intro w hSw
              (try dsimp only at hSw)
              go_split_ands
              go_simp
              (try with_reducible rfl)
            try simp only [Act.put, List.setIfInBounds_toArray, List.set_cons_zero, List.set_cons_succ]
            refine wpAnyH_take (i := 5) (v := ?_) rfl (by kernel_rfl) (by kernel_rfl) (by kernel_rfl) (fun _ _ _ h => h) (Or.inl ⟨by kernel_rfl, ?_⟩) hHeld ?_
            rotate_left
            · intro w hSw
              (try dsimp only at hSw)
              go_split_ands
              go_simp
              (try with_reducible rfl)
            try simp only [Act.put, List.setIfInBounds_toArray, List.set_cons_zero, List.set_cons_succ]
            refine wpAnyH_take (i := 6) (v := ?_) rfl (by kernel_rfl) (by kernel_rfl) (by kernel_rfl) (fun _ _ _ h => h) (Or.inl ⟨by kernel_rfl, ?_⟩) hHeld ?_
            rotate_left
            · intro w hSw
              (try dsimp only at hSw)
              go_split_ands
              go_simp
              (try with_reducible rfl)
            try simp only [Act.put, List.setIfInBounds_toArray, List.set_cons_zero, List.set_cons_succ]
            refine wpAnyH_take (i := 7) (v := ?_) rfl (by kernel_rfl) (by kernel_rfl) (by kernel_rfl) (fun _ _ _ h => h) (Or.inl ⟨by kernel_rfl, ?_⟩) hHeld ?_
            rotate_left
            · intro w hSw
              (try dsimp only at hSw)
              go_split_ands
              go_simp
              (try with_reducible rfl)
            try simp only [Act.put, List.setIfInBounds_toArray, List.set_cons_zero, List.set_cons_succ]
            refine wpAnyH_take (i := 8) (v := ?_) rfl (by kernel_rfl) (by kernel_rfl) (by kernel_rfl) (fun _ _ _ h => h) (Or.inl ⟨by kernel_rfl, ?_⟩) hHeld ?_
            rotate_left
            · intro w hSw
              (try dsimp only at hSw)
              go_split_ands
              go_simp
              (try with_reducible rfl)
            try simp only [Act.put, List.setIfInBounds_toArray, List.set_cons_zero, List.set_cons_succ]
            refine wpAnyH_take (i := 9) (v := ?_) rfl (by kernel_rfl) (by kernel_rfl) (by kernel_rfl) (fun _ _ _ h => h) (Or.inl ⟨by kernel_rfl, ?_⟩) hHeld ?_
            rotate_left
            · intro w hSw
              (try dsimp only at hSw)
              go_split_ands
              go_simp
              (try with_reducible rfl)
            try simp only [Act.put, List.setIfInBounds_toArray, List.set_cons_zero, List.set_cons_succ]
            refine wpAnyH_take (i := 10) (v := ?_) rfl (by kernel_rfl) (by kernel_rfl) (by kernel_rfl) (fun _ _ _ h => h) (Or.inl ⟨by kernel_rfl, ?_⟩) hHeld ?_
            rotate_left
            · intro w hSw
              (try dsimp only at hSw)
              go_split_ands
              go_simp
              (try with_reducible rfl)
            try simp only [Act.put, List.setIfInBounds_toArray, List.set_cons_zero, List.set_cons_succ]
            refine wpAnyH_take (i := 11) (v := ?_) rfl (by kernel_rfl) (by kernel_rfl) (by kernel_rfl) (fun _ _ _ h => h) (Or.inl ⟨by kernel_rfl, ?_⟩) hHeld ?_
            rotate_left
            · intro w hSw
              (try dsimp only at hSw)
              go_split_ands
              go_simp
              (try with_reducible rfl)
            try simp only [Act.put, List.setIfInBounds_toArray, List.set_cons_zero, List.set_cons_succ]
            refine wpAnyH_take (i := 12) (v := ?_) rfl (by kernel_rfl) (by kernel_rfl) (by kernel_rfl) (fun _ _ _ h => h) (Or.inl ⟨by kernel_rfl, ?_⟩) hHeld ?_
            rotate_left
            · intro w hSw
              (try dsimp only at hSw)
              go_split_ands
              go_simp
              (try with_reducible rfl)
            try simp only [Act.put, List.setIfInBounds_toArray, List.set_cons_zero, List.set_cons_succ]
            refine wpAnyH_take (i := 13) (v := ?_) rfl (by kernel_rfl) (by kernel_rfl) (by kernel_rfl) (fun _ _ _ h => h) (Or.inl ⟨by kernel_rfl, ?_⟩) hHeld ?_
            rotate_left
            · intro w hSw
              (try dsimp only at hSw)
              go_split_ands
              go_simp
              (try with_reducible rfl)
            try simp only [Act.put, List.setIfInBounds_toArray, List.set_cons_zero, List.set_cons_succ]
            refine wpAnyH_take (i := 14) (v := ?_) rfl (by kernel_rfl) (by kernel_rfl) (by kernel_rfl) (fun _ _ _ h => h) (Or.inl ⟨by kernel_rfl, ?_⟩) hHeld ?_
            rotate_left
            · intro w hSw
              (try dsimp only at hSw)
              go_split_ands
              go_simp
              (try with_reducible rfl)
            try simp only [Act.put, List.setIfInBounds_toArray, List.set_cons_zero, List.set_cons_succ]
            refine wpAnyH_take (i := 15) (v := ?_) rfl (by kernel_rfl) (by kernel_rfl) (by kernel_rfl) (fun _ _ _ h => h) (Or.inl ⟨by kernel_rfl, ?_⟩) hHeld ?_
            rotate_left
            · intro w hSw
              (try dsimp only at hSw)
              go_split_ands
              go_simp
              (try with_reducible rfl)
            try simp only [Act.put, List.setIfInBounds_toArray, List.set_cons_zero, List.set_cons_succ]
            refine wpAnyH_take (i := 17) (v := ?_) rfl (by kernel_rfl) (by kernel_rfl) (by kernel_rfl) (fun _ _ _ h => h) (Or.inl ⟨by kernel_rfl, ?_⟩) hHeld ?_
            rotate_left
            · intro w hSw
              (try dsimp only at hSw)
              go_split_ands
              go_simp
              (try with_reducible rfl)
            try simp only [Act.put, List.setIfInBounds_toArray, List.set_cons_zero, List.set_cons_succ]
            refine wpAnyH_take (i := 18) (v := ?_) rfl (by kernel_rfl) (by kernel_rfl) (by kernel_rfl) (fun _ _ _ h => h) (Or.inl ⟨by kernel_rfl, ?_⟩) hHeld ?_
            rotate_left
            · intro w hSw
              (try dsimp only at hSw)
              go_split_ands
              go_simp
              (try with_reducible rfl)
            try simp only [Act.put, List.setIfInBounds_toArray, List.set_cons_zero, List.set_cons_succ]
            refine wpAnyH_take (i := 19) (v := ?_) rfl (by kernel_rfl) (by kernel_rfl) (by kernel_rfl) (fun _ _ _ h => h) (Or.inl ⟨by kernel_rfl, ?_⟩) hHeld ?_
            rotate_left
            · intro w hSw
              (try dsimp only at hSw)
              go_split_ands
              go_simp
              (try with_reducible rfl)
            try simp only [Act.put, List.setIfInBounds_toArray, List.set_cons_zero, List.set_cons_succ]
            refine wpAnyH_ready (rs := [16]) (by kernel_rfl) (by simp) ?_
            refine AllReadyH.cons rfl (fun KK hK => ?_) AllReadyH.nil
            clear hHeld
            go_simp
            refine (HAT1.out _ X_1.out).mono ?_
            rintro e w2 ⟨rfl, h⟩
            have X_2 := Lib.hid (X_1.out.trans h)
            have P_2 := Lib.hid (P_1.out.ext h)
            have Q_2 := Lib.hid (Q_1.out.ext h)
            have A_2 := Lib.hid (A_1.out.step h)
            clear h X_1 P_1 Q_1 A_1
            go_simp
            refine hK.out _ _ ⟨P_2.out.cell 0, P_2.out.cell 1, P_2.out.cell 2, Q_2.out.cell 0, Q_2.out.cell 1, Q_2.out.cell 2, A_2.out.bk.cell 2⟩ (fun hHeld => ?_)
            clear hK KK
            try simp only [Act.put, List.setIfInBounds_toArray, List.set_cons_zero, List.set_cons_succ]
            refine wpAnyH_ready (rs := [20]) (by kernel_rfl) (by simp) ?_
            refine AllReadyH.cons rfl (fun KK hK => ?_) AllReadyH.nil
            clear hHeld
            go_simp
            refine (HAT2.out _ X_2.out).mono ?_
            rintro e w3 ⟨rfl, h⟩
            have X_3 := Lib.hid (X_2.out.trans h)
            have P_3 := Lib.hid (P_2.out.ext h)
            have Q_3 := Lib.hid (Q_2.out.ext h)
            have A_3 := Lib.hid (A_2.out.step h)
            clear h X_2 P_2 Q_2 A_2
            go_simp
            refine hK.out _ _ ⟨P_3.out.cell 0, P_3.out.cell 1, P_3.out.cell 2, Q_3.out.cell 0, Q_3.out.cell 1, Q_3.out.cell 2, A_3.out.bk.cell 2⟩ (fun hHeld => ?_)
            clear hK KK
            try simp only [Act.put, List.setIfInBounds_toArray, List.set_cons_zero, List.set_cons_succ]
            refine wpAnyH_ready (rs := [21]) (by kernel_rfl) (by simp) ?_
            refine AllReadyH.cons rfl (fun KK hK => ?_) AllReadyH.nil
            clear hHeld
            go_simp
            refine (HOV.out _).mono ?_
            rintro e w4 ⟨rfl, h⟩
            have X_4 := Lib.hid (X_3.out.trans h)
            have P_4 := Lib.hid (P_3.out.ext h)
            have Q_4 := Lib.hid (Q_3.out.ext h)
            have A_4 := Lib.hid (A_3.out.step h)
            clear h X_3 P_3 Q_3 A_3
            go_simp
            refine hK.out _ _ ⟨P_4.out.cell 0, P_4.out.cell 1, P_4.out.cell 2, Q_4.out.cell 0, Q_4.out.cell 1, Q_4.out.cell 2, A_4.out.bk.cell 2⟩ (fun hHeld => ?_)
            clear hK KK
            try simp only [Act.put, List.setIfInBounds_toArray, List.set_cons_zero, List.set_cons_succ]
            refine wpAnyH_take (i := 22) (v := ?_) rfl (by kernel_rfl) (by kernel_rfl) (by kernel_rfl) (fun _ _ _ h => h) (Or.inl ⟨by kernel_rfl, ?_⟩) hHeld ?_
            rotate_left
            · intro w hSw
              (try dsimp only at hSw)
              go_split_ands
              go_simp
              (try with_reducible rfl)
            try simp only [Act.put, List.setIfInBounds_toArray, List.set_cons_zero, List.set_cons_succ]
            refine wpAnyH_ready (rs := [23]) (by kernel_rfl) (by simp) ?_
            refine AllReadyH.cons rfl (fun KK hK => ?_) AllReadyH.nil
            clear hHeld
            obtain ⟨c0, f0⟩ := A_4.out.row (K * 4) (by omega)
            obtain ⟨c1, f1⟩ := A_4.out.row (K * 4 + 1) (by omega)
            obtain ⟨c2, f2⟩ := A_4.out.row (K * 4 + 2) (by omega)
            obtain ⟨c3, f3⟩ := A_4.out.row (K * 4 + 3) (by omega)
            have ANH := Lib.hid ((A_4.out.put K O).congr fun i hi_ => HST.out i hi_)
            have KH := Lib.hid (set4_keeps w4 g K O)
            unfold set4 at ANH KH
            go_simp
            refine hK.out _ _ ⟨(P_4.out.keeps KH.out (NBL.out.1)).cell 0, (P_4.out.keeps KH.out (NBL.out.1)).cell 1, (P_4.out.keeps KH.out (NBL.out.1)).cell 2, (Q_4.out.keeps KH.out (NBL.out.2.1)).cell 0, (Q_4.out.keeps KH.out (NBL.out.2.1)).cell 1, (Q_4.out.keeps KH.out (NBL.out.2.1)).cell 2, ANH.out.bk.cell 2⟩ (fun hHeld => ?_)
            clear hK KK
            try simp only [Act.put, List.setIfInBounds_toArray, List.set_cons_zero, List.set_cons_succ]
            clear hHeld c0 f0 c1 f1 c2 f2 c3 f3
            have PN := Lib.hid (P_4.out.keeps KH.out NBL.out.1)
            have QN := Lib.hid (Q_4.out.keeps KH.out NBL.out.2.1)
            clear KH X_4 P_4 Q_4 A_4
            have hHeld : True := trivial
            refine wpAnyH_done (by kernel_rfl) ?_ _
            clear hHeld
            go_wp2_with fail
            go_roundw
            case rel => exact ⟨u + 1, by omega, by go_num, ANH, PN, QN⟩
            case measure => simp [intOf]; omega
        · obtain rfl : u = W := by omega
          have k0 := B0.out.cell 0
          go_wp2_with fail
          go_roundw
          case rel => exact ⟨v + 1, by omega, by go_num, by rw [Nat.succ_mul]; exact FA, B0, B1⟩
          case measure => simp [intOf]; omega
    · obtain rfl : v = H := by omega
      have k1_ := B0.out.cell 1
      have k0 := FA.out.bk.cell 0
      have d0 := FA.out.res.cell 0
      have e0 := FA.out.res.frozen 0
      have k1 := FA.out.bk.cell 1
      have d1 := FA.out.res.cell 1
      have e1 := FA.out.res.frozen 1
      have k2 := FA.out.bk.cell 2
      have d2 := FA.out.res.cell 2
      have e2 := FA.out.res.frozen 2
      have FA2 := FA
      have PC := Lib.hid (FA2.out.close (by omega : w.heap.size ≤ w.heap.size + 1 + 1))
      have GN := Lib.hid FA.out.gn
      clear FA FA2 B0 B1
      go_wp2_with fail
      obtain ⟨k0, k1, k2, hP, hX⟩ := PC.out
      exact bodyPost_ret (v := .agg #[.int .i64 (W : Int), .int .i64 (v : Int), .slice (some ⟨g, 0, none⟩) N cc]) (by simp [results, Tryd.results39, go_sem, k0, k1, k2]) rfl ⟨⟨g, ⟨cc, rfl⟩, hP, GN.out⟩, hX⟩
end Go.Proofs.YtkfjcgcgfdibaaaDoor
