/- raster.Stamp. -/
import Derived.Test.YtkfjcgcgfdibaaaDoorStampBad
namespace Go.Proofs.YtkfjcgcgfdibaaaDoor
open Go.RowKit
set_option maxRecDepth 100000
set_option linter.unusedSimpArgs false in
set_option maxHeartbeats 4000000 in
theorem stamp_ok (W H QW QH : Nat) (X Y m : Int) (ad bd : Addr) (c d : Nat) (px qx : Nat → P4) (w : World) (hWH : 1 ≤ W ∧ W ≤ 256 ∧ 1 ≤ H ∧ H ≤ 256) (hQH : 1 ≤ QW ∧ QW ≤ 256 ∧ 1 ≤ QH ∧ QH ≤ 256) (hxy : (-10000 ≤ X ∧ X ≤ 10000) ∧ -10000 ≤ Y ∧ Y ≤ 10000) (hm : 0 ≤ m ∧ m < 6) (hx : Pxs w (some ad) (W * H) px) (hy : Pxs w (some bd) (QW * QH) qx) :
    Calls Tryd.prog 37 #[.agg #[.int .i64 (W : Int), .int .i64 (H : Int), .slice (some ad) (W * H) c], .agg #[.int .i64 (QW : Int), .int .i64 (QH : Int), .slice (some bd) (QW * QH) d], .int .i64 X, .int .i64 Y, .int .i64 m] w fun e w' => (∃ g c', e = .returned (.tuple #[.agg #[.int .i64 (W : Int), .int .i64 (H : Int), .slice (some ⟨g, 0, none⟩) (W * H) c'], .nilIface]) ∧ Po w' g (W * H) (stP W QW QH X Y m px qx (H * W)) ∧ w.heap.size ≤ g) ∧ Ext w w' := by
  obtain ⟨hW1, hW2, hH1, hH2⟩ := hWH
  obtain ⟨hQ1, hQ2, hK1, hK2⟩ := hQH
  obtain ⟨⟨n1, n2⟩, n3, n4⟩ := hxy
  obtain ⟨m0, m1⟩ := hm
  have HX := Lib.hid hx
  have HY := Lib.hid hy
  clear hx hy
  obtain ⟨N, hN⟩ : ∃ N, W * H = N := ⟨_, rfl⟩
  have hNl : N ≤ 65536 := by rw [← hN]; exact Nat.mul_le_mul hW2 hH2
  have hN0 : 0 < N := by rw [← hN]; exact Nat.mul_pos hW1 hH1
  obtain ⟨M, hM⟩ : ∃ M, QW * QH = M := ⟨_, rfl⟩
  have hMl : M ≤ 65536 := by rw [← hM]; exact Nat.mul_le_mul hQ2 hK2
  have hM0 : 0 < M := by rw [← hM]; exact Nat.mul_pos hQ1 hK1
  rw [hN] at HX
  rw [hM] at HY
  rw [hN, hM]
  have NN := Lib.hid hN
  have NM := Lib.hid hM
  have hadl : ad.block < w.heap.size := World.block_lt_of_cell? w _ (HX.out.2 ad rfl 0 hN0).1
  clear hN hM
  have hbdl : bd.block < w.heap.size := World.block_lt_of_cell? w _ (HY.out.2 bd rfl 0 hM0).1
  have HR : Hid (rightB (W : Int) (H : Int) N = true) := Lib.hid (by rw [← NN.out]; exact right_of ⟨hW1, hW2⟩ ⟨hH1, hH2⟩)
  have HS : Hid (rightB (QW : Int) (QH : Int) M = true) := Lib.hid (by rw [← NM.out]; exact right_of ⟨hQ1, hQ2⟩ ⟨hK1, hK2⟩)
  have HN : Hid (nearAll (rn X Y) 2 = true) := Lib.hid (rn_near ⟨n1, n2⟩ ⟨n3, n4⟩)
  have HM : Hid ((decide (0 ≤ m) && decide (m < 6)) = true) := Lib.hid (by simp; omega)
  go_enter Tryd.func37, Tryd.ntmps37
  go_wp2_with fail
  refine calls_world (fun wz => Ext w wz ∧ wz.heap.size = w.heap.size + 1 + 1 + 1 ∧ Bk wz (w.heap.size) #[(.int .i64 (W : Int)), (.int .i64 (H : Int)), (.slice (some ad) N c)] ∧ Bk wz (w.heap.size + 1) #[(.int .i64 (QW : Int)), (.int .i64 (QH : Int)), (.slice (some bd) M d)] ∧ Bk wz (w.heap.size + 1 + 1) #[.int .i64 0, .int .i64 0, .slice none 0 0]) ⟨by repeat (first | exact Ext.refl _ | refine Ext.alloc ?_ _), by simp, by repeat (first | exact Bk.at (by simp) | refine Bk.old ?_), by repeat (first | exact Bk.at (by simp) | refine Bk.old ?_), by repeat (first | exact Bk.at (by simp) | refine Bk.old ?_)⟩ ?_
  rintro w1 ⟨hX, hZ, hB0, hB1, hB2⟩
  have X_1 := Lib.hid (hX)
  have P_1 := Lib.hid (hB0)
  have Q_1 := Lib.hid (hB1)
  have R_1 := Lib.hid (hB2)
  have SZ := Lib.hid hZ
  clear hX hZ hB0 hB1 hB2
  refine (right_any _ _ _ _ _ _).mono ?_
  rintro e w2 ⟨rfl, h⟩
  have X_2 := Lib.hid (X_1.out.trans h)
  have P_2 := Lib.hid (P_1.out.ext h)
  have Q_2 := Lib.hid (Q_1.out.ext h)
  have R_2 := Lib.hid (R_1.out.ext h)
  clear h X_1 P_1 Q_1 R_1
  rw [HR.out]
  have k0 := Q_2.out.cell 0
  have k1 := Q_2.out.cell 1
  have k2 := Q_2.out.cell 2
  go_wp2_with fail
  refine (right_any _ _ _ _ _ _).mono ?_
  rintro e w3 ⟨rfl, h⟩
  have X_3 := Lib.hid (X_2.out.trans h)
  have P_3 := Lib.hid (P_2.out.ext h)
  have Q_3 := Lib.hid (Q_2.out.ext h)
  have R_3 := Lib.hid (R_2.out.ext h)
  clear h X_2 P_2 Q_2 R_2
  clear k0 k1 k2
  rw [HS.out]
  go_wp2_with fail
  refine (near_any _ 2 2 (rn X Y) _ (rn_born w3 X Y _) (by decide)).mono ?_
  rintro e w4 ⟨rfl, hw⟩
  have h : Ext w3 w4 := by rw [← hw]; exact Ext.alloc (Ext.refl _) _
  have X_4 := Lib.hid (X_3.out.trans h)
  have P_4 := Lib.hid (P_3.out.ext h)
  have Q_4 := Lib.hid (Q_3.out.ext h)
  have R_4 := Lib.hid (R_3.out.ext h)
  clear h hw X_3 P_3 Q_3 R_3
  rw [HN.out]
  go_wp2_with fail
  refine (mode_any m _).mono ?_
  rintro e w9 ⟨rfl, rfl⟩
  rw [HM.out]
  have k0 := P_4.out.cell 0
  have k1 := P_4.out.cell 1
  have k2 := P_4.out.cell 2
  go_wp2_with fail
  refine (rown_any _ _ (some ad) N c px _ (HX.out.ext X_4.out) (fun h => by cases h) (by omega)).mono ?_
  rintro e w5 ⟨⟨v, rfl, hown⟩, h⟩
  have ZS := Lib.hid R_4.out.lt
  have OWN := Lib.hid hown
  clear hown
  have X_5 := Lib.hid (X_4.out.trans h)
  have P_5 := Lib.hid (P_4.out.ext h)
  have Q_5 := Lib.hid (Q_4.out.ext h)
  have R_5 := Lib.hid (R_4.out.ext h)
  clear h X_4 P_4 Q_4 R_4
  clear k0 k1 k2
  obtain ⟨g, cc, rfl, _, hg⟩ := ownsRow_some OWN.out hN0
  have HG := Lib.hid (And.intro (ownsRow_ge OWN.out) hg)
  clear hg
  have E_ := (Ext.refl w5).alloc (.cells #[.int .i64 (W : Int), .int .i64 (H : Int), .slice (some ⟨g, 0, none⟩) N cc] 24)
  have k1 := (Q_5.out.ext E_).cell 1
  go_wp2_with fail
  clear k1
  have FA : Hid (FAt w (w5.alloc (.cells #[.int .i64 (W : Int), .int .i64 (H : Int), .slice (some ⟨g, 0, none⟩) N cc] 24)) (w.heap.size + 1 + 1) w5.heap.size g (W : Int) (H : Int) N cc (stQ W QW QH X Y m px qx (0 * QW))) := Lib.hid (by
    obtain ⟨z1, z2⟩ := HG.out
    have z3 := ZS.out
    refine FAt.congr (px := px) ⟨X_5.out.trans E_, R_5.out.ext E_, Bk.at rfl, (Po.of_own OWN.out).ext E_, by omega, by omega, by omega⟩ (fun i _ => ?_)
    unfold stQ; rw [if_neg (by omega)])
  have B0' := Lib.hid (P_5.out.ext E_)
  have B1' := Lib.hid (Q_5.out.ext E_)
  clear E_
  refine wp_world (fun wz => Hid (FAt w wz (w.heap.size + 1 + 1) w5.heap.size g (W : Int) (H : Int) N cc (stQ W QW QH X Y m px qx (0 * QW))) ∧ Hid (Bk wz w.heap.size #[(.int .i64 (W : Int)), (.int .i64 (H : Int)), (.slice (some ad) N c)]) ∧ Hid (Bk wz (w.heap.size + 1) #[(.int .i64 (QW : Int)), (.int .i64 (QH : Int)), (.slice (some bd) M d)])) ⟨FA, B0', B1'⟩ ?_
  obtain ⟨T, hT⟩ : ∃ T, w5.heap.size = T := ⟨_, rfl⟩
  rw [hT] at *
  have NBL : Hid (w.heap.size ≠ g ∧ w.heap.size + 1 ≠ g ∧ ad.block ≠ g ∧ bd.block ≠ g) := Lib.hid (by obtain ⟨z1, z2⟩ := HG.out; have z3 := ZS.out; omega)
  clear FA B0' B1' OWN HG ZS hT X_5 P_5 Q_5 R_5
  rintro wz ⟨FA, B0, B1⟩
  go_loopw [42] (fun c_ wr => ∃ v : Nat, v ≤ QH ∧ c_ = .int .i64 v ∧ Hid (FAt w wr (w.heap.size + 1 + 1) T g (W : Int) (H : Int) N cc (stQ W QW QH X Y m px qx (v * QW))) ∧ Hid (Bk wr w.heap.size #[(.int .i64 (W : Int)), (.int .i64 (H : Int)), (.slice (some ad) N c)]) ∧ Hid (Bk wr (w.heap.size + 1) #[(.int .i64 (QW : Int)), (.int .i64 (QH : Int)), (.slice (some bd) M d)])) (fun c_ _ => QH - (intOf c_).toNat)
  case atStart => exact ⟨0, by omega, rfl, FA, B0, B1⟩
  case round =>
    clear FA B0 B1
    obtain ⟨v, hv, rfl, FA, B0, B1⟩ := hrel
    by_cases hlt : v < QH
    · have k0 := B1.out.cell 0
      have k1 := B1.out.cell 1
      go_wp2_with fail
      clear k1
      go_loopw [47] (fun c_ wr => ∃ u : Nat, u ≤ QW ∧ c_ = .int .i64 u ∧ Hid (FAt w wr (w.heap.size + 1 + 1) T g (W : Int) (H : Int) N cc (stQ W QW QH X Y m px qx (v * QW + u))) ∧ Hid (Bk wr w.heap.size #[(.int .i64 (W : Int)), (.int .i64 (H : Int)), (.slice (some ad) N c)]) ∧ Hid (Bk wr (w.heap.size + 1) #[(.int .i64 (QW : Int)), (.int .i64 (QH : Int)), (.slice (some bd) M d)])) (fun c_ _ => QW - (intOf c_).toNat)
      case atStart => exact ⟨0, by omega, rfl, FA, B0, B1⟩
      case round =>
        clear FA B0 B1
        obtain ⟨u, hu, rfl, FA, B0, B1⟩ := hrel
        by_cases hlu : u < QW
        · have k0 := B0.out.cell 0
          have k1 := B0.out.cell 1
          have k2 := B0.out.cell 2
          go_wp2_with fail
          refine (in_any _ _ _ ((u : Int) + X) ((v : Int) + Y) _ ⟨_, _, _, rfl⟩).mono ?_
          rintro e w9 ⟨rfl, h9⟩
          have FA9 := Lib.hid (FA.out.step h9)
          have B09 := Lib.hid (B0.out.ext h9)
          have B19 := Lib.hid (B1.out.ext h9)
          clear h9 FA B0 B1 k0 k1 k2
          cases hi : inB (W : Int) (H : Int) ((u : Int) + X) ((v : Int) + Y)
          · have FN := Lib.hid (FA9.out.congr fun i hi_ => stQ_no hlu hi i (by rw [NN.out]; exact hi_))
            clear hi
            go_wp2_with fail
            go_roundw
            case rel => exact ⟨u + 1, by omega, by go_num, FN, B09, B19⟩
            case measure => simp [intOf]; omega
          · obtain ⟨i1, i2, i3, i4⟩ := of_decide_eq_true hi
            obtain ⟨a, ha⟩ : ∃ a : Nat, (u : Int) + X = a := ⟨((u : Int) + X).toNat, by omega⟩
            obtain ⟨b, hb⟩ : ∃ b : Nat, (v : Int) + Y = b := ⟨((v : Int) + Y).toNat, by omega⟩
            have HAB := Lib.hid (And.intro ha hb)
            obtain ⟨K, hK_⟩ : ∃ K, b * W + a = K := ⟨_, rfl⟩
            obtain ⟨J, hJ_⟩ : ∃ J, v * QW + u = J := ⟨_, rfl⟩
            have hKN : K < N := by rw [← NN.out, ← hK_]; exact mul_lt_of (by omega) (by omega)
            have hJM : J < M := by rw [← NM.out, ← hJ_]; exact mul_lt_of (by omega) (by omega)
            obtain ⟨O, hO⟩ : ∃ O, P4.over m (qx J) (px K) = O := ⟨_, rfl⟩
            have HST : Hid (∀ i, i < N → stQ W QW QH X Y m px qx (v * QW + u + 1) i = upd (stQ W QW QH X Y m px qx (v * QW + u)) K O i) := Lib.hid (fun i hi_ => by rw [stQ_yes hlu hlt ha hb (by omega) i (by rw [NN.out]; exact hi_), hJ_, hK_, hO])
            have HO := Lib.hid hO
            clear hO hi
            have HJK := Lib.hid (And.intro hK_ hJ_)
            obtain ⟨okx, oky⟩ : (qx J).Ok ∧ (px K).Ok := ⟨(HY.out.2 bd rfl J hJM).2.2.2.2, (HX.out.2 ad rfl K hKN).2.2.2.2⟩
            have OKS := Lib.hid (And.intro okx oky)
            clear okx oky
            have HOV : Hid (∀ w5, Calls Tryd.prog 72 #[.int .i64 m, .agg #[.int .u8 (qx J).r, .int .u8 (qx J).g, .int .u8 (qx J).b, .int .u8 (qx J).a], .agg #[.int .u8 (px K).r, .int .u8 (px K).g, .int .u8 (px K).b, .int .u8 (px K).a]] w5 fun e w' => e = .returned (.tuple #[.agg #[.int .u8 O.r, .int .u8 O.g, .int .u8 O.b, .int .u8 O.a], .nilIface]) ∧ Ext w5 w') := Lib.hid (fun w5 => by
              have h := over_any m (qx J) (px K) w5 ⟨m0, m1⟩ OKS.out.1 OKS.out.2
              rw [HO.out] at h
              exact h)
            have hMI : ((v : Int) + Y) * (W : Int) = ((b * W : Nat) : Int) := by rw [hb]; simp
            obtain ⟨V, hV⟩ : ∃ V, b * W = V := ⟨_, rfl⟩
            rw [hV] at hMI hK_
            have hKI : (V : Int) + (u : Int) + X = (K : Int) := by omega
            have hMJ : (v : Int) * (QW : Int) = ((v * QW : Nat) : Int) := by simp
            obtain ⟨U, hU⟩ : ∃ U, v * QW = U := ⟨_, rfl⟩
            rw [hU] at hMJ hJ_
            have w1_ : IntKind.i64.wrap (U : Int) = (U : Int) := by unfold IntKind.wrap; simp [IntKind.bits, IntKind.signed]; omega
            have w2_ : IntKind.i64.wrap ((U : Int) + (u : Int)) = (J : Int) := by unfold IntKind.wrap; simp [IntKind.bits, IntKind.signed]; omega
            have b1_ : 0 ≤ (V : Int) + (u : Int) := by omega
            have b2_ : (V : Int) ≤ 65536 := by omega
            clear hK_ hJ_ hV hU ha hb
            clear i1 i2 i3 i4
            have X_0 := Lib.hid FA9.out.ext
            have P_0 := B09
            have Q_0 := B19
            have A_0 := FA9
            clear FA9 B09 B19
            have HXP := Lib.hid HX.out
            have XP_0 := Lib.hid (HX.out.ext X_0.out)
            have YP_0 := Lib.hid (HY.out.ext X_0.out)
            clear HXP
            have k0 := P_0.out.cell 0
            have q0 := Q_0.out.cell 0
            have k1 := P_0.out.cell 1
            have q1 := Q_0.out.cell 1
            have k2 := P_0.out.cell 2
            have q2 := Q_0.out.cell 2
            have t2 := A_0.out.bk.cell 2
            go_wp2_with fail
            clear k0 k1 k2 q0 q1 q2 t2
            clear hMI hKI b1_ b2_
            refine wp_region_held_drew (S := fun w' => w'.cell? ⟨w.heap.size, 0, none⟩ = some ((.int .i64 (W : Int))) ∧ w'.cell? ⟨w.heap.size, 1, none⟩ = some ((.int .i64 (H : Int))) ∧ w'.cell? ⟨w.heap.size, 2, none⟩ = some ((.slice (some ad) N c)) ∧ w'.cell? ⟨w.heap.size + 1, 0, none⟩ = some ((.int .i64 (QW : Int))) ∧ w'.cell? ⟨w.heap.size + 1, 1, none⟩ = some ((.int .i64 (QH : Int))) ∧ w'.cell? ⟨w.heap.size + 1, 2, none⟩ = some ((.slice (some bd) M d)) ∧ w'.cell? ⟨T, 2, none⟩ = some (.slice (some ⟨g, 0, none⟩) N cc) ∧ w'.cell? (ad.add (K * 4)) = some (.int .u8 (px K).r) ∧ w'.cell? ⟨(ad.add (K * 4)).block, (ad.add (K * 4)).off + 1, none⟩ = some (.int .u8 (px K).g) ∧ w'.cell? ⟨(ad.add (K * 4)).block, (ad.add (K * 4)).off + 2, none⟩ = some (.int .u8 (px K).b) ∧ w'.cell? ⟨(ad.add (K * 4)).block, (ad.add (K * 4)).off + 3, none⟩ = some (.int .u8 (px K).a) ∧ w'.cell? (bd.add (J * 4)) = some (.int .u8 (qx J).r) ∧ w'.cell? ⟨(bd.add (J * 4)).block, (bd.add (J * 4)).off + 1, none⟩ = some (.int .u8 (qx J).g) ∧ w'.cell? ⟨(bd.add (J * 4)).block, (bd.add (J * 4)).off + 2, none⟩ = some (.int .u8 (qx J).b) ∧ w'.cell? ⟨(bd.add (J * 4)).block, (bd.add (J * 4)).off + 3, none⟩ = some (.int .u8 (qx J).a)) (by kernel_rfl) ⟨P_0.out.cell 0, P_0.out.cell 1, P_0.out.cell 2, Q_0.out.cell 0, Q_0.out.cell 1, Q_0.out.cell 2, A_0.out.bk.cell 2, (XP_0.out.2 ad rfl K hKN).1, (XP_0.out.2 ad rfl K hKN).2.1, (XP_0.out.2 ad rfl K hKN).2.2.1, (XP_0.out.2 ad rfl K hKN).2.2.2.1, (YP_0.out.2 bd rfl J hJM).1, (YP_0.out.2 bd rfl J hJM).2.1, (YP_0.out.2 bd rfl J hJM).2.2.1, (YP_0.out.2 bd rfl J hJM).2.2.2.1⟩ (fun hHeld => ?_)
            clear hHeld
            refine anyH_world (fun wz => Ext w9 wz) (show Ext w9 w9.drew from Below.drew (Ext.refl w9)) ?_
            rintro w1 h
            have X_1 := Lib.hid (X_0.out.trans h)
            have P_1 := Lib.hid (P_0.out.ext h)
            have Q_1 := Lib.hid (Q_0.out.ext h)
            have A_1 := Lib.hid (A_0.out.step h)
            have XP_1 := Lib.hid (XP_0.out.ext h)
            have YP_1 := Lib.hid (YP_0.out.ext h)
            clear h X_0 P_0 Q_0 A_0 XP_0 YP_0
            have hHeld : w1.cell? ⟨w.heap.size, 0, none⟩ = some ((.int .i64 (W : Int))) ∧ w1.cell? ⟨w.heap.size, 1, none⟩ = some ((.int .i64 (H : Int))) ∧ w1.cell? ⟨w.heap.size, 2, none⟩ = some ((.slice (some ad) N c)) ∧ w1.cell? ⟨w.heap.size + 1, 0, none⟩ = some ((.int .i64 (QW : Int))) ∧ w1.cell? ⟨w.heap.size + 1, 1, none⟩ = some ((.int .i64 (QH : Int))) ∧ w1.cell? ⟨w.heap.size + 1, 2, none⟩ = some ((.slice (some bd) M d)) ∧ w1.cell? ⟨T, 2, none⟩ = some (.slice (some ⟨g, 0, none⟩) N cc) ∧ w1.cell? (ad.add (K * 4)) = some (.int .u8 (px K).r) ∧ w1.cell? ⟨(ad.add (K * 4)).block, (ad.add (K * 4)).off + 1, none⟩ = some (.int .u8 (px K).g) ∧ w1.cell? ⟨(ad.add (K * 4)).block, (ad.add (K * 4)).off + 2, none⟩ = some (.int .u8 (px K).b) ∧ w1.cell? ⟨(ad.add (K * 4)).block, (ad.add (K * 4)).off + 3, none⟩ = some (.int .u8 (px K).a) ∧ w1.cell? (bd.add (J * 4)) = some (.int .u8 (qx J).r) ∧ w1.cell? ⟨(bd.add (J * 4)).block, (bd.add (J * 4)).off + 1, none⟩ = some (.int .u8 (qx J).g) ∧ w1.cell? ⟨(bd.add (J * 4)).block, (bd.add (J * 4)).off + 2, none⟩ = some (.int .u8 (qx J).b) ∧ w1.cell? ⟨(bd.add (J * 4)).block, (bd.add (J * 4)).off + 3, none⟩ = some (.int .u8 (qx J).a) := ⟨P_1.out.cell 0, P_1.out.cell 1, P_1.out.cell 2, Q_1.out.cell 0, Q_1.out.cell 1, Q_1.out.cell 2, A_1.out.bk.cell 2, (XP_1.out.2 ad rfl K hKN).1, (XP_1.out.2 ad rfl K hKN).2.1, (XP_1.out.2 ad rfl K hKN).2.2.1, (XP_1.out.2 ad rfl K hKN).2.2.2.1, (YP_1.out.2 bd rfl J hJM).1, (YP_1.out.2 bd rfl J hJM).2.1, (YP_1.out.2 bd rfl J hJM).2.2.1, (YP_1.out.2 bd rfl J hJM).2.2.2.1⟩
            refine wpAnyH_take (i := 0) (v := ?_) rfl (by kernel_rfl) (by kernel_rfl) (by kernel_rfl) (fun _ _ _ h => h) (Or.inl ⟨by kernel_rfl, ?_⟩) hHeld ?_
            rotate_left
            · intro w hSw
              (try dsimp only at hSw)
              go_split_ands
              go_simp
              (try with_reducible rfl)
            try simp only [Act.put, List.setIfInBounds_toArray, List.set_cons_zero, List.set_cons_succ]
            refine wpAnyH_take (i := 1) (v := ?_) rfl (by kernel_rfl) (by kernel_rfl) (by kernel_rfl) (fun _ _ _ h => h) (Or.inl ⟨by kernel_rfl, ?_⟩) hHeld ?_
            rotate_left
            · intro w hSw
              (try dsimp only at hSw)
              go_split_ands
              go_simp
              (try with_reducible rfl)
            try simp only [Act.put, List.setIfInBounds_toArray, List.set_cons_zero, List.set_cons_succ]
            refine wpAnyH_take (i := 2) (v := ?_) rfl (by kernel_rfl) (by kernel_rfl) (by kernel_rfl) (fun _ _ _ h => h) (Or.inl ⟨by kernel_rfl, ?_⟩) hHeld ?_
            rotate_left
            · intro w hSw
              (try dsimp only at hSw)
              go_split_ands
              go_simp
              (try with_reducible rfl)
            try simp only [Act.put, List.setIfInBounds_toArray, List.set_cons_zero, List.set_cons_succ]
            refine wpAnyH_take (i := 3) (v := ?_) rfl (by kernel_rfl) (by kernel_rfl) (by kernel_rfl) (fun _ _ _ h => h) (Or.inl ⟨by kernel_rfl, ?_⟩) hHeld ?_
            rotate_left
            · intro w hSw
              (try dsimp only at hSw)
              go_split_ands
              go_simp
              (try with_reducible rfl)
            try simp only [Act.put, List.setIfInBounds_toArray, List.set_cons_zero, List.set_cons_succ]
            refine wpAnyH_take (i := 4) (v := ?_) rfl (by kernel_rfl) (by kernel_rfl) (by kernel_rfl) (fun _ _ _ h => h) (Or.inl ⟨by kernel_rfl, ?_⟩) hHeld ?_
            rotate_left
            · intro w hSw
              (try dsimp only at hSw)
              go_split_ands
              go_simp
              (try with_reducible rfl)
            try simp only [Act.put, List.setIfInBounds_toArray, List.set_cons_zero, List.set_cons_succ]
            refine wpAnyH_take (i := 5) (v := ?_) rfl (by kernel_rfl) (by kernel_rfl) (by kernel_rfl) (fun _ _ _ h => h) (Or.inl ⟨by kernel_rfl, ?_⟩) hHeld ?_
            rotate_left
            · intro w hSw
              (try dsimp only at hSw)
              go_split_ands
              go_simp
              (try with_reducible rfl)
            try simp only [Act.put, List.setIfInBounds_toArray, List.set_cons_zero, List.set_cons_succ]
            refine wpAnyH_take (i := 6) (v := ?_) rfl (by kernel_rfl) (by kernel_rfl) (by kernel_rfl) (fun _ _ _ h => h) (Or.inl ⟨by kernel_rfl, ?_⟩) hHeld ?_
            rotate_left
            · intro w hSw
              (try dsimp only at hSw)
              go_split_ands
              go_simp
              (try with_reducible rfl)
            try simp only [Act.put, List.setIfInBounds_toArray, List.set_cons_zero, List.set_cons_succ]
            refine wpAnyH_take (i := 7) (v := ?_) rfl (by kernel_rfl) (by kernel_rfl) (by kernel_rfl) (fun _ _ _ h => h) (Or.inl ⟨by kernel_rfl, ?_⟩) hHeld ?_
            rotate_left
            · intro w hSw
              (try dsimp only at hSw)
              go_split_ands
              go_simp
              (try with_reducible rfl)
            try simp only [Act.put, List.setIfInBounds_toArray, List.set_cons_zero, List.set_cons_succ]
            refine wpAnyH_take (i := 8) (v := ?_) rfl (by kernel_rfl) (by kernel_rfl) (by kernel_rfl) (fun _ _ _ h => h) (Or.inl ⟨by kernel_rfl, ?_⟩) hHeld ?_
            rotate_left
            · intro w hSw
              (try dsimp only at hSw)
              go_split_ands
              go_simp
              (try with_reducible rfl)
            try simp only [Act.put, List.setIfInBounds_toArray, List.set_cons_zero, List.set_cons_succ]
            refine wpAnyH_take (i := 9) (v := ?_) rfl (by kernel_rfl) (by kernel_rfl) (by kernel_rfl) (fun _ _ _ h => h) (Or.inl ⟨by kernel_rfl, ?_⟩) hHeld ?_
            rotate_left
            · intro w hSw
              (try dsimp only at hSw)
              go_split_ands
              go_simp
              (try with_reducible rfl)
            try simp only [Act.put, List.setIfInBounds_toArray, List.set_cons_zero, List.set_cons_succ]
            refine wpAnyH_take (i := 10) (v := ?_) rfl (by kernel_rfl) (by kernel_rfl) (by kernel_rfl) (fun _ _ _ h => h) (Or.inl ⟨by kernel_rfl, ?_⟩) hHeld ?_
            rotate_left
            · intro w hSw
              (try dsimp only at hSw)
              go_split_ands
              go_simp
              (try with_reducible rfl)
            try simp only [Act.put, List.setIfInBounds_toArray, List.set_cons_zero, List.set_cons_succ]
            refine wpAnyH_take (i := 11) (v := ?_) rfl (by kernel_rfl) (by kernel_rfl) (by kernel_rfl) (fun _ _ _ h => h) (Or.inl ⟨by kernel_rfl, ?_⟩) hHeld ?_
            rotate_left
            · intro w hSw
              (try dsimp only at hSw)
              go_split_ands
              go_simp
              (try with_reducible rfl)
            try simp only [Act.put, List.setIfInBounds_toArray, List.set_cons_zero, List.set_cons_succ]
            refine wpAnyH_take (i := 12) (v := ?_) rfl (by kernel_rfl) (by kernel_rfl) (by kernel_rfl) (fun _ _ _ h => h) (Or.inl ⟨by kernel_rfl, ?_⟩) hHeld ?_
            rotate_left
            · intro w hSw
              (try dsimp only at hSw)
              go_split_ands
              go_simp
              (try with_reducible rfl)
            try simp only [Act.put, List.setIfInBounds_toArray, List.set_cons_zero, List.set_cons_succ]
            refine wpAnyH_take (i := 13) (v := ?_) rfl (by kernel_rfl) (by kernel_rfl) (by kernel_rfl) (fun _ _ _ h => h) (Or.inl ⟨by kernel_rfl, ?_⟩) hHeld ?_
            rotate_left
            · intro w hSw
              (try dsimp only at hSw)
              go_split_ands
              go_simp
              (try with_reducible rfl)
            try simp only [Act.put, List.setIfInBounds_toArray, List.set_cons_zero, List.set_cons_succ]
            refine wpAnyH_take (i := 14) (v := ?_) rfl (by kernel_rfl) (by kernel_rfl) (by kernel_rfl) (fun _ _ _ h => h) (Or.inl ⟨by kernel_rfl, ?_⟩) hHeld ?_
            rotate_left
            · intro w hSw
              (try dsimp only at hSw)
              go_split_ands
              go_simp
              (try with_reducible rfl)
            try simp only [Act.put, List.setIfInBounds_toArray, List.set_cons_zero, List.set_cons_succ]
            refine wpAnyH_take (i := 15) (v := ?_) rfl (by kernel_rfl) (by kernel_rfl) (by kernel_rfl) (fun _ _ _ h => h) (Or.inl ⟨by kernel_rfl, ?_⟩) hHeld ?_
            rotate_left
            · intro w hSw
              (try dsimp only at hSw)
              go_split_ands
              go_simp
              (try with_reducible rfl)
            try simp only [Act.put, List.setIfInBounds_toArray, List.set_cons_zero, List.set_cons_succ]
            refine wpAnyH_take (i := 16) (v := ?_) rfl (by kernel_rfl) (by kernel_rfl) (by kernel_rfl) (fun _ _ _ h => h) (Or.inl ⟨by kernel_rfl, ?_⟩) hHeld ?_
            rotate_left
            · intro w hSw
              (try dsimp only at hSw)
              go_split_ands
              go_simp
              (try with_reducible rfl)
            try simp only [Act.put, List.setIfInBounds_toArray, List.set_cons_zero, List.set_cons_succ]
            refine wpAnyH_take (i := 17) (v := ?_) rfl (by kernel_rfl) (by kernel_rfl) (by kernel_rfl) (fun _ _ _ h => h) (Or.inl ⟨by kernel_rfl, ?_⟩) hHeld ?_
            rotate_left
            · intro w hSw
              (try dsimp only at hSw)
              go_split_ands
              go_simp
              (try with_reducible rfl)
            try simp only [Act.put, List.setIfInBounds_toArray, List.set_cons_zero, List.set_cons_succ]
            refine wpAnyH_take (i := 18) (v := ?_) rfl (by kernel_rfl) (by kernel_rfl) (by kernel_rfl) (fun _ _ _ h => h) (Or.inl ⟨by kernel_rfl, ?_⟩) hHeld ?_
            rotate_left
            · intro w hSw
              (try dsimp only at hSw)
              go_split_ands
              go_simp
              (try with_reducible rfl)
            try simp only [Act.put, List.setIfInBounds_toArray, List.set_cons_zero, List.set_cons_succ]
            refine wpAnyH_ready (rs := [19]) (by kernel_rfl) (by simp) ?_
            refine AllReadyH.cons rfl (fun KK hK => ?_) AllReadyH.nil
            clear hHeld
            go_simp
            refine (HOV.out _).mono ?_
            rintro e w2 ⟨rfl, h⟩
            have X_2 := Lib.hid (X_1.out.trans h)
            have P_2 := Lib.hid (P_1.out.ext h)
            have Q_2 := Lib.hid (Q_1.out.ext h)
            have A_2 := Lib.hid (A_1.out.step h)
            have XP_2 := Lib.hid (XP_1.out.ext h)
            have YP_2 := Lib.hid (YP_1.out.ext h)
            clear h X_1 P_1 Q_1 A_1 XP_1 YP_1
            go_simp
            refine hK.out _ _ ⟨P_2.out.cell 0, P_2.out.cell 1, P_2.out.cell 2, Q_2.out.cell 0, Q_2.out.cell 1, Q_2.out.cell 2, A_2.out.bk.cell 2, (XP_2.out.2 ad rfl K hKN).1, (XP_2.out.2 ad rfl K hKN).2.1, (XP_2.out.2 ad rfl K hKN).2.2.1, (XP_2.out.2 ad rfl K hKN).2.2.2.1, (YP_2.out.2 bd rfl J hJM).1, (YP_2.out.2 bd rfl J hJM).2.1, (YP_2.out.2 bd rfl J hJM).2.2.1, (YP_2.out.2 bd rfl J hJM).2.2.2.1⟩ (fun hHeld => ?_)
            clear hK KK
            try simp only [Act.put, List.setIfInBounds_toArray, List.set_cons_zero, List.set_cons_succ]
            refine wpAnyH_take (i := 20) (v := ?_) rfl (by kernel_rfl) (by kernel_rfl) (by kernel_rfl) (fun _ _ _ h => h) (Or.inl ⟨by kernel_rfl, ?_⟩) hHeld ?_
            rotate_left
            · intro w hSw
              (try dsimp only at hSw)
              go_split_ands
              go_simp
              (try with_reducible rfl)
            try simp only [Act.put, List.setIfInBounds_toArray, List.set_cons_zero, List.set_cons_succ]
            refine wpAnyH_take (i := 21) (v := ?_) rfl (by kernel_rfl) (by kernel_rfl) (by kernel_rfl) (fun _ _ _ h => h) (Or.inl ⟨by kernel_rfl, ?_⟩) hHeld ?_
            rotate_left
            · intro w hSw
              (try dsimp only at hSw)
              go_split_ands
              go_simp
              (try with_reducible rfl)
            try simp only [Act.put, List.setIfInBounds_toArray, List.set_cons_zero, List.set_cons_succ]
            refine wpAnyH_take (i := 22) (v := ?_) rfl (by kernel_rfl) (by kernel_rfl) (by kernel_rfl) (fun _ _ _ h => h) (Or.inl ⟨by kernel_rfl, ?_⟩) hHeld ?_
            rotate_left
            · intro w hSw
              (try dsimp only at hSw)
              go_split_ands
              go_simp
              (try with_reducible rfl)
            try simp only [Act.put, List.setIfInBounds_toArray, List.set_cons_zero, List.set_cons_succ]
            refine wpAnyH_take (i := 23) (v := ?_) rfl (by kernel_rfl) (by kernel_rfl) (by kernel_rfl) (fun _ _ _ h => h) (Or.inl ⟨by kernel_rfl, ?_⟩) hHeld ?_
            rotate_left
            · intro w hSw
              (try dsimp only at hSw)
              go_split_ands
              go_simp
              (try with_reducible rfl)
            try simp only [Act.put, List.setIfInBounds_toArray, List.set_cons_zero, List.set_cons_succ]
            refine wpAnyH_ready (rs := [24]) (by kernel_rfl) (by simp) ?_
            refine AllReadyH.cons rfl (fun KK hK => ?_) AllReadyH.nil
            clear hHeld
            obtain ⟨c0, f0⟩ := A_2.out.row (K * 4) (by omega)
            obtain ⟨c1, f1⟩ := A_2.out.row (K * 4 + 1) (by omega)
            obtain ⟨c2, f2⟩ := A_2.out.row (K * 4 + 2) (by omega)
            obtain ⟨c3, f3⟩ := A_2.out.row (K * 4 + 3) (by omega)
            have ANH := Lib.hid ((A_2.out.put K O).congr fun i hi_ => HST.out i hi_)
            have KH := Lib.hid (set4_keeps w2 g K O)
            unfold set4 at ANH KH
            go_simp
            refine hK.out _ _ ⟨(P_2.out.keeps KH.out (NBL.out.1)).cell 0, (P_2.out.keeps KH.out (NBL.out.1)).cell 1, (P_2.out.keeps KH.out (NBL.out.1)).cell 2, (Q_2.out.keeps KH.out (NBL.out.2.1)).cell 0, (Q_2.out.keeps KH.out (NBL.out.2.1)).cell 1, (Q_2.out.keeps KH.out (NBL.out.2.1)).cell 2, ANH.out.bk.cell 2, ((XP_2.out.keeps KH.out (fun q hq => by injection hq with hq; subst hq; exact NBL.out.2.2.1)).2 ad rfl K hKN).1, ((XP_2.out.keeps KH.out (fun q hq => by injection hq with hq; subst hq; exact NBL.out.2.2.1)).2 ad rfl K hKN).2.1, ((XP_2.out.keeps KH.out (fun q hq => by injection hq with hq; subst hq; exact NBL.out.2.2.1)).2 ad rfl K hKN).2.2.1, ((XP_2.out.keeps KH.out (fun q hq => by injection hq with hq; subst hq; exact NBL.out.2.2.1)).2 ad rfl K hKN).2.2.2.1, ((YP_2.out.keeps KH.out (fun q hq => by injection hq with hq; subst hq; exact NBL.out.2.2.2)).2 bd rfl J hJM).1, ((YP_2.out.keeps KH.out (fun q hq => by injection hq with hq; subst hq; exact NBL.out.2.2.2)).2 bd rfl J hJM).2.1, ((YP_2.out.keeps KH.out (fun q hq => by injection hq with hq; subst hq; exact NBL.out.2.2.2)).2 bd rfl J hJM).2.2.1, ((YP_2.out.keeps KH.out (fun q hq => by injection hq with hq; subst hq; exact NBL.out.2.2.2)).2 bd rfl J hJM).2.2.2.1⟩ (fun hHeld => ?_)
            clear hK KK
            try simp only [Act.put, List.setIfInBounds_toArray, List.set_cons_zero, List.set_cons_succ]
            clear hHeld c0 f0 c1 f1 c2 f2 c3 f3
            have PN := Lib.hid (P_2.out.keeps KH.out NBL.out.1)
            have QN := Lib.hid (Q_2.out.keeps KH.out NBL.out.2.1)
            clear KH X_2 P_2 Q_2 A_2 XP_2 YP_2
            have hHeld : True := trivial
            refine wpAnyH_done (by kernel_rfl) ?_ _
            clear hHeld
            go_wp2_with fail
            go_roundw
            case rel => exact ⟨u + 1, by omega, by go_num, ANH, PN, QN⟩
            case measure => simp [intOf]; omega
        · obtain rfl : u = QW := by omega
          have k0 := B1.out.cell 0
          go_wp2_with fail
          go_roundw
          case rel => exact ⟨v + 1, by omega, by go_num, by rw [Nat.succ_mul]; exact FA, B0, B1⟩
          case measure => simp [intOf]; omega
    · obtain rfl : v = QH := by omega
      have k0 := FA.out.bk.cell 0
      have d0 := FA.out.res.cell 0
      have e0 := FA.out.res.frozen 0
      have k1 := FA.out.bk.cell 1
      have d1 := FA.out.res.cell 1
      have e1 := FA.out.res.frozen 1
      have k2 := FA.out.bk.cell 2
      have d2 := FA.out.res.cell 2
      have e2 := FA.out.res.frozen 2
      have FA2 := Lib.hid (FA.out.congr (qx := stP W QW v X Y m px qx (H * W)) fun i hi_ => (st_same (W := W) (H := H) i (by rw [NN.out]; exact hi_)).symm)
      have PC := Lib.hid (FA2.out.close (by omega : w.heap.size ≤ w.heap.size + 1 + 1))
      have GN := Lib.hid FA.out.gn
      clear FA FA2 B0 B1
      go_wp2_with fail
      obtain ⟨k0, k1, k2, hP, hX⟩ := PC.out
      exact bodyPost_ret (v := .tuple #[.agg #[.int .i64 (W : Int), .int .i64 (H : Int), .slice (some ⟨g, 0, none⟩) N cc], .nilIface]) (by simp [results, Tryd.results37, go_sem, k0, k1, k2]) rfl ⟨⟨g, ⟨cc, rfl⟩, hP, GN.out⟩, hX⟩
end Go.Proofs.YtkfjcgcgfdibaaaDoor
