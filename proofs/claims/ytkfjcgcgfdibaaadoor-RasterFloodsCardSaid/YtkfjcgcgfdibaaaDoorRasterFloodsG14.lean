/-
  The document's HalfOf.
  raster.Flip, Turn, Half: a picture that is not right.
  raster.Scale: a picture that is not right; a size that is none.
-/
import Derived.Test.YtkfjcgcgfdibaaaDoorRasterFloodsG4
import Derived.Test.YtkfjcgcgfdibaaaDoorRasterFloodsG13
import Derived.Test.YtkfjcgcgfdibaaaDoorRasterFloodsG12
namespace Go.Proofs.YtkfjcgcgfdibaaaDoor
open Go.RowKit
set_option maxRecDepth 100000
set_option linter.unusedSimpArgs false in
set_option maxHeartbeats 4000000 in
theorem halfOf_any (W H : Nat) (ad : Addr) (cap : Nat) (px : Nat → P4) (w : World) (hx : Pxs w (some ad) (W * H) px) (hW : 1 ≤ W ∧ W ≤ 256) (hH : 1 ≤ H ∧ H ≤ 256) :
    Calls Tryd.prog 44 #[.agg #[.int .i64 (W : Int), .int .i64 (H : Int), .slice (some ad) (W * H) cap]] w fun e w' => (∃ g c, e = .returned (.agg #[.int .i64 (((W + 1) / 2 : Nat) : Int), .int .i64 (((H + 1) / 2 : Nat) : Int), .slice (some ⟨g, 0, none⟩) ((W + 1) / 2 * ((H + 1) / 2)) c]) ∧ Po w' g ((W + 1) / 2 * ((H + 1) / 2)) (halfQ W H px) ∧ w.heap.size ≤ g) ∧ Ext w w' := by
  obtain ⟨i0, hi0, hz0, hz1, hz2⟩ := info_parts pixinfo
  obtain ⟨hW1, hW2⟩ := hW
  obtain ⟨hH1, hH2⟩ := hH
  have HX := Lib.hid hx
  obtain ⟨W2, hW2_⟩ : ∃ q, (W + 1) / 2 = q := ⟨_, rfl⟩
  obtain ⟨H2, hH2_⟩ : ∃ q, (H + 1) / 2 = q := ⟨_, rfl⟩
  have i1 : ((W : Int) + 1) / 2 = (W2 : Int) := by omega
  have i2 : ((H : Int) + 1) / 2 = (H2 : Int) := by omega
  have l1 : W2 ≤ 128 := by omega
  have l2 : H2 ≤ 128 := by omega
  have l3 : 1 ≤ W2 := by omega
  have l4 : 1 ≤ H2 := by omega
  obtain ⟨q, hhQ⟩ : ∃ q, halfQ W H px = q := ⟨_, rfl⟩
  obtain ⟨G, hG⟩ := grid_is (A := H2) (B := W2) (N := W2 * H2) (idx := fun x y => y * W2 + x) (val := fun x y => halfP W H px x y) (s0 := fun _ => P4.zero) (q := q) (fun x y x' y' h1 h2 h3 h4 e => lin_inj h1 h3 e) (fun i hi => lin_sur hi) (fun x y h1 h2 => by rw [← hhQ]; unfold halfQ; rw [hW2_]; exact lin_at W2 _ x y h1)
  have HG0 := Lib.hid hG
  clear hG
  rw [hW2_, hH2_, hhQ]
  clear hW2_ hH2_ hhQ
  obtain ⟨N, hN⟩ : ∃ N, W2 * H2 = N := ⟨_, rfl⟩
  have hNl : N ≤ 65536 := by rw [← hN]; exact Nat.mul_le_mul (show W2 ≤ 256 by omega) (show H2 ≤ 256 by omega)
  have hN0 : 0 < N := by rw [← hN]; exact Nat.mul_pos (by omega) (by omega)
  rw [hN] at HG0 ⊢
  have NN := Lib.hid hN
  obtain ⟨M0, hM0⟩ : ∃ M0, W * H = M0 := ⟨_, rfl⟩
  have NM := Lib.hid hM0
  rw [hM0] at HX ⊢
  have HWH := Lib.hid (show (1 ≤ W2 ∧ W2 ≤ 256) ∧ (1 ≤ H2 ∧ H2 ≤ 256) from ⟨⟨l3, by omega⟩, l4, by omega⟩)
  clear hM0 hN hx
  go_enter Tryd.func44, Tryd.ntmps44
  go_wp2_with fail
  refine calls_world (fun wz => Ext w wz ∧ wz.heap.size = w.heap.size + 1 + 1 ∧ Bk wz (w.heap.size) #[.int .i64 (W : Int), .int .i64 (H : Int), .slice (some ad) M0 cap] ∧ Bk wz (w.heap.size + 1) #[.int .i64 0, .int .i64 0, .slice none 0 0]) ⟨by repeat (first | exact Ext.refl _ | refine Ext.alloc ?_ _), by simp, by repeat (first | exact Bk.at (by simp) | refine Bk.old ?_), by repeat (first | exact Bk.at (by simp) | refine Bk.old ?_)⟩ ?_
  rintro w1 ⟨hX, hZ, hB0, hB1⟩
  have X1 := Lib.hid hX
  have SZ := Lib.hid hZ
  have B0 := Lib.hid hB0
  have B3 := Lib.hid hB1
  clear hX hZ hB0 hB1
  have HBK := Lib.hid (blank_any W2 H2 P4.zero w1 HWH.out.1 HWH.out.2)
  rw [NN.out] at HBK
  refine HBK.out.mono ?_
  clear HBK
  rintro e w2 ⟨⟨g, rfl, hpo, hg⟩, h⟩
  have X2 := Lib.hid h
  have HP := Lib.hid hpo
  have HG : Hid (w1.heap.size ≤ g ∧ g < w2.heap.size) := Lib.hid (And.intro hg (World.block_lt_of_cell? _ _ (hpo 0 (by omega)).1))
  clear h hpo hg
  go_wp2_with fail
  have E_ := (Ext.refl w2).alloc (.cells #[.int .i64 (W2 : Int), .int .i64 (H2 : Int), .slice (some ⟨g, 0, none⟩) N N] 24)
  have FA : Hid (FAt w (w2.alloc (.cells #[.int .i64 (W2 : Int), .int .i64 (H2 : Int), .slice (some ⟨g, 0, none⟩) N N] 24)) (w.heap.size + 1) w2.heap.size g (W2 : Int) (H2 : Int) N N (G 0 0)) := Lib.hid (by
    rw [HG0.out.start]
    obtain ⟨q1, q2⟩ := HG.out
    have q3 := SZ.out
    exact ⟨X1.out.trans (X2.out.trans E_), (B3.out.ext X2.out).ext E_, Bk.at rfl, HP.out.ext E_, by omega, by omega, by omega⟩)
  have B0' := Lib.hid (B0.out.ext (X2.out.trans E_))
  clear E_
  refine wp_world (fun wz => Hid (FAt w wz (w.heap.size + 1) w2.heap.size g (W2 : Int) (H2 : Int) N N (G 0 0)) ∧ Hid (Bk wz w.heap.size #[.int .i64 (W : Int), .int .i64 (H : Int), .slice (some ad) M0 cap])) ⟨FA, B0'⟩ ?_
  obtain ⟨T, hT⟩ : ∃ T, w2.heap.size = T := ⟨_, rfl⟩
  rw [hT] at *
  have NB : Hid (w.heap.size ≠ g) := Lib.hid (by have := HG.out; have := SZ.out; omega)
  clear FA B0' HP B0 B3 X1 X2 HG SZ hT i1 i2
  rintro wz ⟨FA, B0⟩
  go_loopw [4] (fun cc wr => ∃ y : Nat, y ≤ H2 ∧ cc = .int .i64 y ∧ Hid (FAt w wr (w.heap.size + 1) T g (W2 : Int) (H2 : Int) N N (G y 0)) ∧ Hid (Bk wr w.heap.size #[.int .i64 (W : Int), .int .i64 (H : Int), .slice (some ad) M0 cap])) (fun cc _ => H2 - (intOf cc).toNat)
  case atStart => exact ⟨0, by omega, rfl, FA, B0⟩
  case round =>
    clear FA B0
    obtain ⟨y, hy, rfl, FA, B0⟩ := hrel
    have b3 := FA.out.bk.cell 1
    by_cases hlt : y < H2
    · go_wp2_with fail
      clear b3
      go_loopw [5] (fun cc wr => ∃ x : Nat, x ≤ W2 ∧ cc = .int .i64 x ∧ Hid (FAt w wr (w.heap.size + 1) T g (W2 : Int) (H2 : Int) N N (G y x)) ∧ Hid (Bk wr w.heap.size #[.int .i64 (W : Int), .int .i64 (H : Int), .slice (some ad) M0 cap])) (fun cc _ => W2 - (intOf cc).toNat)
      case atStart => exact ⟨0, by omega, rfl, FA, B0⟩
      case round =>
        clear FA B0
        obtain ⟨x, hx, rfl, FA, B0⟩ := hrel
        have b3 := FA.out.bk.cell 0
        by_cases hlx : x < W2
        · obtain ⟨wx, hwx⟩ : ∃ z, z = wr := ⟨_, rfl⟩
          subst hwx
          go_wp2_with fail
          clear b3
          go_loopw [6, 7] (fun l v wr => ∃ j V : Nat, j ≤ 2 ∧ V = 2 * y + j ∧ v = .int .i64 (V : Int) ∧ Hid (wr.ownsRow wx.heap.size 36 4 l (hlP W H px x y (2 * j)).length (pxV (hlP W H px x y (2 * j)).length (pxl (hlP W H px x y (2 * j))))) ∧ Hid (Ext wx wr)) (fun _ v _ => 2 * y + 2 - (intOf v).toNat)
          case atStart => exact ⟨0, 2 * y, by omega, rfl, by go_num, Lib.hid (World.ownsRow_nil _ _ _ _), Lib.hid (Ext.refl _)⟩
          case round =>
            obtain ⟨j, V, hj, hV, rfl, OW, XR⟩ := hrel
            have hVl : V ≤ 600 := by omega
            have HV := Lib.hid hV
            have hVt' : j < 2 → (V : Int) < 2 * (y : Int) + 2 := fun _ => by omega
            have hVn' : ¬ j < 2 → ¬ ((V : Int) < 2 * (y : Int) + 2) := fun _ => by omega
            clear hV
            by_cases hlj : j < 2
            · have hVt := hVt' hlj
              clear hVt' hVn'
              go_wp2_with fail
              clear hVt
              go_loopw [6, 8] (fun l v wr => ∃ i U : Nat, i ≤ 2 ∧ U = 2 * x + i ∧ v = .int .i64 (U : Int) ∧ Hid (wr.ownsRow wx.heap.size 36 4 l (hlP W H px x y (2 * j + i)).length (pxV (hlP W H px x y (2 * j + i)).length (pxl (hlP W H px x y (2 * j + i))))) ∧ Hid (Ext wx wr)) (fun _ v _ => 2 * x + 2 - (intOf v).toNat)
              case atStart => exact ⟨0, 2 * x, by omega, rfl, by go_num, OW, XR⟩
              case round =>
                clear OW XR
                obtain ⟨i, U, hi, hU, rfl, OW, XR⟩ := hrel
                have hll := hlP_len W H px x y (2 * j + i)
                have hUl : U ≤ 600 := by omega
                have HU := Lib.hid hU
                have hUt' : i < 2 → (U : Int) < 2 * (x : Int) + 2 := fun _ => by omega
                have hUn' : ¬ i < 2 → ¬ ((U : Int) < 2 * (x : Int) + 2) := fun _ => by omega
                clear hU
                by_cases hli : i < 2
                · have hUt := hUt' hli
                  clear hUt' hUn'
                  have HST0 : Hid (hlP W H px x y (2 * j + i + 1) = if U < W ∧ V < H then hlP W H px x y (2 * j + i) ++ [px (V * W + U)] else hlP W H px x y (2 * j + i)) := Lib.hid (by simp only [hlP]; rw [show 2 * x + (2 * j + i) % 2 = U by have := HU.out; omega, show 2 * y + (2 * j + i) / 2 = V by have := HV.out; omega])
                  obtain ⟨l, hl⟩ : ∃ l, hlP W H px x y (2 * j + i) = l := ⟨_, rfl⟩
                  rw [hl] at OW hll HST0
                  have HL := Lib.hid hl
                  clear hl
                  obtain ⟨L, hL⟩ : ∃ L, l.length = L := ⟨_, rfl⟩
                  have HLL := Lib.hid hL
                  rw [hL] at OW hll
                  clear hL
                  obtain ⟨xo, co, rfl⟩ := own_slice OW.out
                  have BR := B0.out.ext XR.out
                  have c0 := BR.cell 0
                  have c1 := BR.cell 1
                  have c2 := BR.cell 2
                  clear BR
                  go_wp2_with fail
                  refine (refIn_any (W : Int) (H : Int) _ (U : Int) (V : Int) _ ⟨_, _, _, rfl⟩).mono ?_
                  rintro e w5 ⟨rfl, h5⟩
                  have X5 := Lib.hid (XR.out.trans h5)
                  have O5 := Lib.hid (ownsRow_kept OW.out (h5.keeps (S := fun _ => False)) (fun _ _ q => q))
                  clear h5 c0 c1 c2 OW XR
                  by_cases hin : U < W ∧ V < H
                  · have hb : inB (W : Int) (H : Int) (U : Int) (V : Int) = true := by unfold inB; exact decide_eq_true ⟨by omega, by omega, by omega, by omega⟩
                    rw [hb]
                    have HST : Hid (hlP W H px x y (2 * j + (i + 1)) = l ++ [px (V * W + U)]) := Lib.hid (by rw [← Nat.add_assoc, HST0.out, if_pos hin])
                    obtain ⟨hin1, hin2⟩ := hin
                    have HAT := Lib.hid (at_any U V W H ad cap px w5 (by rw [NM.out]; exact HX.out.ext (FA.out.ext.trans X5.out)) hW2 hH2 hin1 hin2)
                    obtain ⟨pp, hpp⟩ : ∃ q, px (V * W + U) = q := ⟨_, rfl⟩
                    rw [hpp] at HST HAT
                    rw [NM.out] at HAT
                    clear hpp hb hin1 hin2
                    have BR := B0.out.ext X5.out
                    have c0 := BR.cell 0
                    have c1 := BR.cell 1
                    have c2 := BR.cell 2
                    clear BR
                    go_wp2_with fail
                    refine HAT.out.mono ?_
                    rintro e w6 ⟨rfl, h6⟩
                    have X6 := Lib.hid (X5.out.trans h6)
                    have O6 := Lib.hid (ownsRow_kept O5.out (h6.keeps (S := fun _ => False)) (fun _ _ q => q))
                    clear h6 c0 c1 c2 O5 X5 HAT
                    have hzb : wx.heap.size ≤ w6.heap.size := X6.out.size
                    go_wp2_with (at_builtin; refine wpList_append_own_at _ rfl _ _ 22 rfl (wx.heap.size) 36 i0 _ 4 4 Tryd.underlying22 hi0 hz0 hz1 hz2 rfl (by decide) _ _ _ rfl (O6.out.alloc _) ⟨w6.heap.size, 0, none⟩ 1 1 [.int .u8 pp.r, .int .u8 pp.g, .int .u8 pp.b, .int .u8 pp.a] rfl rfl ?c1 ?c2 ?c3 ?c4 ?c5 ?_)
                    case c1 =>
                      intro j u hu
                      rw [add_plain]
                      exact (Bk.at (w := w6) rfl).cell j |>.trans (by simpa using hu)
                    case c2 => intro u hu; simp at hu; rcases hu with hu | hu | hu | hu <;> (subst hu; rfl)
                    case c3 => unfold maxLen; omega
                    case c4 => omega
                    case c5 => rw [World.size_alloc]; omega
                    intro v7 w7 hown hgrow _ hat
                    have O7 : Hid (w7.ownsRow wx.heap.size 36 4 v7 (l ++ [pp]).length (pxV (l ++ [pp]).length (pxl (l ++ [pp])))) := Lib.hid (by rw [pxl_push, List.length_append, List.length_singleton, HLL.out]; exact hown)
                    have K7 := (Keeps.alloc (Ext.keeps (S := fun i => (Value.slice xo L co).ownBlock = some i) (Ext.refl w6)) (.cells #[.int .u8 pp.r, .int .u8 pp.g, .int .u8 pp.b, .int .u8 pp.a] 36)).trans (Keeps.grown hgrow) (fun _ _ q => q)
                    have X7 := Lib.hid (show Ext wx w7 from Below.trans X6.out (K7.below X6.out.size (fun i hi e => by have := (O6.out.lt i e).1; omega)))
                    rw [← HST.out] at O7
                    clear hown hgrow hat K7
                    go_wp2_with fail
                    go_roundw
                    case rel => exact ⟨i + 1, U + 1, by omega, by have := HU.out; omega, by go_num, O7, X7⟩
                    case measure => have := HU.out; simp [intOf]; omega
                  · have hb : inB (W : Int) (H : Int) (U : Int) (V : Int) = false := by unfold inB; exact decide_eq_false (fun h => hin ⟨by omega, by omega⟩)
                    rw [hb]
                    have HST : Hid (hlP W H px x y (2 * j + (i + 1)) = l) := Lib.hid (by rw [← Nat.add_assoc, HST0.out, if_neg hin])
                    have O6 : Hid (w5.ownsRow wx.heap.size 36 4 (.slice xo L co) (hlP W H px x y (2 * j + (i + 1))).length (pxV (hlP W H px x y (2 * j + (i + 1))).length (pxl (hlP W H px x y (2 * j + (i + 1)))))) := Lib.hid (by rw [HST.out, HLL.out]; exact O5.out)
                    clear hin hb
                    go_wp2_with fail
                    go_roundw
                    case rel => exact ⟨i + 1, U + 1, by omega, by have := HU.out; omega, by go_num, O6, X5⟩
                    case measure => have := HU.out; simp [intOf]; omega
                · have hUt := hUn' hli
                  clear hUt' hUn'
                  obtain rfl : i = 2 := by omega
                  go_wp2_with fail
                  go_roundw
                  case rel => exact ⟨j + 1, V + 1, by omega, by have := HV.out; omega, by go_num, OW, XR⟩
                  case measure => have := HV.out; simp [intOf]; omega
            · have hVt := hVn' hlj
              clear hVt' hVn'
              obtain rfl : j = 2 := by omega
              have hll := hlP_len W H px x y (2 * 2)
              have HL : Hid (halfP W H px x y = mixP (pxl (hlP W H px x y (2 * 2))) (hlP W H px x y (2 * 2)).length) := Lib.hid rfl
              have hok := hlP_ok W H px x y (by rw [NM.out]; exact HX.out.bd) (2 * 2)
              obtain ⟨l, hl⟩ : ∃ l, hlP W H px x y (2 * 2) = l := ⟨_, rfl⟩
              rw [hl] at OW hll HL hok
              clear hl
              obtain ⟨Ln, hL⟩ : ∃ L, l.length = L := ⟨_, rfl⟩
              rw [hL] at OW hll HL
              obtain ⟨ax, ac, hv, hpx, _⟩ := Pxs.of_own OW.out (fun i hi => by unfold pxl; rw [List.getD, List.getElem?_eq_getElem (by rw [hL]; exact hi)]; exact hok _ (List.getElem_mem _))
              have HPX := Lib.hid hpx
              have MX : Hid (∀ wz, Ext wr wz → Calls Tryd.prog 77 #[.slice ax Ln ac] wz fun e w' => e = .returned (.agg #[.int .u8 (mixP (pxl l) Ln).r, .int .u8 (mixP (pxl l) Ln).g, .int .u8 (mixP (pxl l) Ln).b, .int .u8 (mixP (pxl l) Ln).a]) ∧ Ext wz w') := Lib.hid (fun wz hz => mixOf_any ax Ln ac (pxl l) wz (HPX.out.ext hz) (by omega))
              subst hv
              obtain ⟨P, hP⟩ : ∃ q, mixP (pxl l) Ln = q := ⟨_, rfl⟩
              rw [hP] at MX HL
              clear hP hpx hok hL hll
              have FR := Lib.hid (FA.out.step XR.out)
              have BR := Lib.hid (B0.out.ext XR.out)
              clear FA B0 OW HPX XR
              have HQ1 := Lib.hid (HG0.out.more y x)
              simp only [HL.out] at HQ1
              have hk : y * W2 + x < N := by rw [← NN.out]; exact mul_lt_of hlt hlx
              have MI : (y : Int) * (W2 : Int) = ((y * W2 : Nat) : Int) := by simp
              obtain ⟨M, hM⟩ : ∃ z : Nat, y * W2 = z := ⟨_, rfl⟩
              rw [hM] at hk HQ1 MI
              clear hM
              have ka : ((M : Int) + (x : Int)).toNat = M + x := by omega
              have kb : ((M : Int) + (x : Int)) < (N : Int) := by omega
              have kd : 0 ≤ ((M : Int) + (x : Int)) := by omega
              have kr0 : (M + x) * 4 < N * 4 := by omega
              have kr1 : (M + x) * 4 + 1 < N * 4 := by omega
              have kr2 : (M + x) * 4 + 2 < N * 4 := by omega
              have kr3 : (M + x) * 4 + 3 < N * 4 := by omega
              obtain ⟨wa0, wb0, wa1, wb1⟩ : IntKind.i64.wrap (M : Int) = (M : Int) ∧ wrap64 (M : Int) = (M : Int) ∧ IntKind.i64.wrap ((M : Int) + (x : Int)) = ((M : Int) + (x : Int)) ∧ wrap64 ((M : Int) + (x : Int)) = ((M : Int) + (x : Int)) := ⟨wrap_i (by omega) (by omega), wrap_6 (by omega) (by omega), wrap_i (by omega) (by omega), wrap_6 (by omega) (by omega)⟩
              have k0 := FR.out.bk.cell 0
              have k2 := FR.out.bk.cell 2
              go_wp2_with fail
              refine wp_region_held_drew (S := fun w' => w'.cell? ⟨T, 0, none⟩ = some (.int .i64 (W2 : Int)) ∧ w'.cell? ⟨T, 2, none⟩ = some (.slice (some ⟨g, 0, none⟩) N N)) (by kernel_rfl) ⟨k0, k2⟩ (fun hHeld => ?_)
              refine wpAnyH_take (i := 0) (v := ?_) rfl (by kernel_rfl) (by kernel_rfl) (by kernel_rfl) (fun _ _ _ h => h) (Or.inl ⟨by kernel_rfl, ?_⟩) hHeld ?_
              rotate_left
              · intro w hSw
                (try dsimp only at hSw)
                go_split_ands
                go_simp
                (try with_reducible rfl)
              try simp only [Act.put, List.setIfInBounds_toArray, List.set_cons_zero, List.set_cons_succ]
              refine wpAnyH_take (i := 1) (v := ?_) rfl (by kernel_rfl) (by kernel_rfl) (by kernel_rfl) (fun _ _ _ h => h) (Or.inl ⟨by kernel_rfl, ?_⟩) hHeld ?_
              rotate_left
              · intro w hSw
                (try dsimp only at hSw)
                go_split_ands
                go_simp
                (try with_reducible rfl)
              try simp only [Act.put, List.setIfInBounds_toArray, List.set_cons_zero, List.set_cons_succ]
              refine wpAnyH_take (i := 2) (v := ?_) rfl (by kernel_rfl) (by kernel_rfl) (by kernel_rfl) (fun _ _ _ h => h) (Or.inl ⟨by kernel_rfl, ?_⟩) hHeld ?_
              rotate_left
              · intro w hSw
                (try dsimp only at hSw)
                go_split_ands
                go_simp
                (try with_reducible rfl)
              try simp only [Act.put, List.setIfInBounds_toArray, List.set_cons_zero, List.set_cons_succ]
              refine wpAnyH_take (i := 3) (v := ?_) rfl (by kernel_rfl) (by kernel_rfl) (by kernel_rfl) (fun _ _ _ h => h) (Or.inl ⟨by kernel_rfl, ?_⟩) hHeld ?_
              rotate_left
              · intro w hSw
                (try dsimp only at hSw)
                go_split_ands
                go_simp
                (try with_reducible rfl)
              try simp only [Act.put, List.setIfInBounds_toArray, List.set_cons_zero, List.set_cons_succ]
              refine wpAnyH_take (i := 4) (v := ?_) rfl (by kernel_rfl) (by kernel_rfl) (by kernel_rfl) (fun _ _ _ h => h) (Or.inl ⟨by kernel_rfl, ?_⟩) hHeld ?_
              rotate_left
              · intro w hSw
                (try dsimp only at hSw)
                go_split_ands
                go_simp
                (try with_reducible rfl)
              try simp only [Act.put, List.setIfInBounds_toArray, List.set_cons_zero, List.set_cons_succ]
              refine wpAnyH_take (i := 5) (v := ?_) rfl (by kernel_rfl) (by kernel_rfl) (by kernel_rfl) (fun _ _ _ h => h) (Or.inl ⟨by kernel_rfl, ?_⟩) hHeld ?_
              rotate_left
              · intro w hSw
                (try dsimp only at hSw)
                go_split_ands
                go_simp
                (try with_reducible rfl)
              try simp only [Act.put, List.setIfInBounds_toArray, List.set_cons_zero, List.set_cons_succ]
              refine wpAnyH_take (i := 6) (v := ?_) rfl (by kernel_rfl) (by kernel_rfl) (by kernel_rfl) (fun _ _ _ h => h) (Or.inl ⟨by kernel_rfl, ?_⟩) hHeld ?_
              rotate_left
              · intro w hSw
                (try dsimp only at hSw)
                go_split_ands
                go_simp
                (try with_reducible rfl)
              try simp only [Act.put, List.setIfInBounds_toArray, List.set_cons_zero, List.set_cons_succ]
              refine wpAnyH_take (i := 7) (v := ?_) rfl (by kernel_rfl) (by kernel_rfl) (by kernel_rfl) (fun _ _ _ h => h) (Or.inl ⟨by kernel_rfl, ?_⟩) hHeld ?_
              rotate_left
              · intro w hSw
                (try dsimp only at hSw)
                go_split_ands
                go_simp
                (try with_reducible rfl)
              try simp only [Act.put, List.setIfInBounds_toArray, List.set_cons_zero, List.set_cons_succ]
              refine wpAnyH_take (i := 8) (v := ?_) rfl (by kernel_rfl) (by kernel_rfl) (by kernel_rfl) (fun _ _ _ h => h) (Or.inl ⟨by kernel_rfl, ?_⟩) hHeld ?_
              rotate_left
              · intro w hSw
                (try dsimp only at hSw)
                go_split_ands
                go_simp
                (try with_reducible rfl)
              try simp only [Act.put, List.setIfInBounds_toArray, List.set_cons_zero, List.set_cons_succ]
              refine wpAnyH_ready (rs := [9]) (by kernel_rfl) (by simp) ?_
              refine AllReadyH.cons rfl (fun K hK => ?_) AllReadyH.nil
              clear hHeld
              go_simp
              refine (MX.out _ (by first | exact Ext.refl _ | exact Below.drew (Ext.refl wr))).mono ?_
              rintro e w5 ⟨rfl, hx5⟩
              have ha : Ext wr w5 := ⟨hx5.os, hx5.tape, hx5.output, hx5.size, hx5.block⟩
              clear hx5
              go_simp
              refine hK.out _ _ ⟨(FR.out.bk.ext ha).cell 0, (FR.out.bk.ext ha).cell 2⟩ (fun hHeld => ?_)
              clear hK K
              try simp only [Act.put, List.setIfInBounds_toArray, List.set_cons_zero, List.set_cons_succ]
              refine wpAnyH_take (i := 10) (v := ?_) rfl (by kernel_rfl) (by kernel_rfl) (by kernel_rfl) (fun _ _ _ h => h) (Or.inl ⟨by kernel_rfl, ?_⟩) hHeld ?_
              rotate_left
              · intro w hSw
                (try dsimp only at hSw)
                go_split_ands
                go_simp
                (try with_reducible rfl)
              try simp only [Act.put, List.setIfInBounds_toArray, List.set_cons_zero, List.set_cons_succ]
              have FA5 := Lib.hid (FR.out.step ha)
              have B05 := Lib.hid (BR.out.ext ha)
              clear ha FR BR
              obtain ⟨c0, f0⟩ := FA5.out.row ((M + x) * 4) kr0
              obtain ⟨c1, f1⟩ := FA5.out.row ((M + x) * 4 + 1) kr1
              obtain ⟨c2, f2⟩ := FA5.out.row ((M + x) * 4 + 2) kr2
              obtain ⟨c3, f3⟩ := FA5.out.row ((M + x) * 4 + 3) kr3
              have FN := Lib.hid ((FA5.out.put (M + x) P).congr fun i _ => congrFun HQ1.out i)
              have K := set4_keeps w5 g (M + x) P
              have B0N := Lib.hid (B05.out.keeps K NB.out)
              clear K
              unfold set4 at FN B0N
              refine wpAnyH_ready (rs := [11]) (by kernel_rfl) (by simp) ?_
              refine AllReadyH.cons rfl (fun K hK => ?_) AllReadyH.nil
              clear hHeld
              go_simp
              refine hK.out _ _ ⟨FN.out.bk.cell 0, FN.out.bk.cell 2⟩ (fun hHeld => ?_)
              clear hK K
              try simp only [Act.put, List.setIfInBounds_toArray, List.set_cons_zero, List.set_cons_succ]
              refine wpAnyH_done (by kernel_rfl) ?_ _
              clear hHeld wa0 wb0 wa1 wb1
              go_wp2_with fail
              go_roundw
              case rel => exact ⟨x + 1, by omega, by go_num, FN, B0N⟩
              case measure => simp [intOf]; omega
        · obtain rfl : x = W2 := by omega
          have HQ2 := Lib.hid (HG0.out.next y)
          go_wp2_with fail
          go_roundw
          case rel => exact ⟨y + 1, by omega, by go_num, by rw [HQ2.out]; exact FA, B0⟩
          case measure => simp [intOf]; omega
    · obtain rfl : y = H2 := by omega
      have k0 := FA.out.bk.cell 0
      have k2 := FA.out.bk.cell 2
      have d0 := FA.out.res.cell 0
      have e0 := FA.out.res.frozen 0
      have d1 := FA.out.res.cell 1
      have e1 := FA.out.res.frozen 1
      have d2 := FA.out.res.cell 2
      have e2 := FA.out.res.frozen 2
      have PC := Lib.hid ((FA.out.congr (qx := q) (fun i hi => HG0.out.fin i hi)).close (by omega : w.heap.size ≤ w.heap.size + 1))
      have GN := Lib.hid FA.out.gn
      clear FA B0
      go_wp2_with fail
      obtain ⟨k0, k1, k2, hP, hX⟩ := PC.out
      exact bodyPost_ret (v := .agg #[.int .i64 (W2 : Int), .int .i64 (y : Int), .slice (some ⟨g, 0, none⟩) N N]) (by simp [results, Tryd.results44, go_sem, k0, k1, k2]) rfl ⟨⟨g, ⟨N, rfl⟩, hP, GN.out⟩, hX⟩
end Go.Proofs.YtkfjcgcgfdibaaaDoor
namespace Go.Proofs.YtkfjcgcgfdibaaaDoor
open Go.RowKit
set_option maxRecDepth 100000
theorem flip_shape (d : Bool) (W H : Int) (x : Option Addr) (n c : Nat) (E : Nat → Addr) (w : World) (hE : Errs w E) (hr : rightB W H n = false) :
    Calls Tryd.prog 16 #[.agg #[.int .i64 W, .int .i64 H, .slice x n c], .bool d] w fun e w' => e = .returned (.tuple #[.agg #[.int .i64 0, .int .i64 0, .slice none 0 0], .iface 171 (.pointer (some (E 2)))]) ∧ Ext w w' := by
  have HR := Lib.hid hr
  have HE := Lib.hid hE
  clear hE hr
  go_enter Tryd.func16, Tryd.ntmps16
  go_wp2_with fail
  refine calls_world (fun wz => Ext w wz ∧ wz.heap.size = w.heap.size + 1 + 1 + 1 ∧ Bk wz (w.heap.size) #[.int .i64 W, .int .i64 H, .slice x n c] ∧ Bk wz (w.heap.size + 1) #[.bool d] ∧ Bk wz (w.heap.size + 1 + 1) #[.int .i64 0, .int .i64 0, .slice none 0 0]) ⟨by repeat (first | exact Ext.refl _ | refine Ext.alloc ?_ _), by simp, by repeat (first | exact Bk.at (by simp) | refine Bk.old ?_), by repeat (first | exact Bk.at (by simp) | refine Bk.old ?_), by repeat (first | exact Bk.at (by simp) | refine Bk.old ?_)⟩ ?_
  rintro wr ⟨hX, hZ, hB0, hB1, hB2⟩
  have B0 := Lib.hid hB0
  have B1 := Lib.hid hB1
  have B2 := Lib.hid hB2
  have XR := Lib.hid hX
  have SZ := Lib.hid hZ
  clear hX hZ hB0 hB1 hB2
  refine (check_shape _ _ _ _ _ _ _ E (HE.out.ext XR.out) HR.out).mono ?_
  rintro e w6 ⟨rfl, hx⟩
  have XS := Lib.hid (Ext.trans XR.out hx)
  have B2S := Lib.hid (B2.out.ext hx)
  clear hx
  have d0 := B2S.out.cell 0
  have e0 := B2S.out.frozen 0
  have d1 := B2S.out.cell 1
  have e1 := B2S.out.frozen 1
  have d2 := B2S.out.cell 2
  have e2 := B2S.out.frozen 2
  have FR := Lib.hid (show Ext w _ from XS.out.set3 (b := w.heap.size + 1 + 1) (by omega) (.int .i64 0) (.int .i64 0) (.slice none 0 0))
  have PR := Lib.hid (B2S.out.pic.set (W' := 0) (H' := 0) (v' := .slice none 0 0))
  go_wp2_with fail
  obtain ⟨k0, k1, k2⟩ := PR.out
  exact bodyPost_ret (v := .tuple #[.agg #[.int .i64 0, .int .i64 0, .slice none 0 0], .iface 171 (.pointer (some (E 2)))]) (by simp [results, Tryd.results16, go_sem, k0, k1, k2]) rfl ⟨rfl, FR.out⟩
theorem turn_shape (q : Int) (W H : Int) (x : Option Addr) (n c : Nat) (E : Nat → Addr) (w : World) (hE : Errs w E) (hr : rightB W H n = false) :
    Calls Tryd.prog 18 #[.agg #[.int .i64 W, .int .i64 H, .slice x n c], .int .i64 q] w fun e w' => e = .returned (.tuple #[.agg #[.int .i64 0, .int .i64 0, .slice none 0 0], .iface 171 (.pointer (some (E 2)))]) ∧ Ext w w' := by
  have HR := Lib.hid hr
  have HE := Lib.hid hE
  clear hE hr
  go_enter Tryd.func18, Tryd.ntmps18
  go_wp2_with fail
  refine calls_world (fun wz => Ext w wz ∧ wz.heap.size = w.heap.size + 1 + 1 ∧ Bk wz (w.heap.size) #[.int .i64 W, .int .i64 H, .slice x n c] ∧ Bk wz (w.heap.size + 1) #[.int .i64 0, .int .i64 0, .slice none 0 0]) ⟨by repeat (first | exact Ext.refl _ | refine Ext.alloc ?_ _), by simp, by repeat (first | exact Bk.at (by simp) | refine Bk.old ?_), by repeat (first | exact Bk.at (by simp) | refine Bk.old ?_)⟩ ?_
  rintro wr ⟨hX, hZ, hB0, hB1⟩
  have B0 := Lib.hid hB0
  have B1 := Lib.hid hB1
  have XR := Lib.hid hX
  have SZ := Lib.hid hZ
  clear hX hZ hB0 hB1
  refine (check_shape _ _ _ _ _ _ _ E (HE.out.ext XR.out) HR.out).mono ?_
  rintro e w6 ⟨rfl, hx⟩
  have XS := Lib.hid (Ext.trans XR.out hx)
  have B2S := Lib.hid (B1.out.ext hx)
  clear hx
  have d0 := B2S.out.cell 0
  have e0 := B2S.out.frozen 0
  have d1 := B2S.out.cell 1
  have e1 := B2S.out.frozen 1
  have d2 := B2S.out.cell 2
  have e2 := B2S.out.frozen 2
  have FR := Lib.hid (show Ext w _ from XS.out.set3 (b := w.heap.size + 1) (by omega) (.int .i64 0) (.int .i64 0) (.slice none 0 0))
  have PR := Lib.hid (B2S.out.pic.set (W' := 0) (H' := 0) (v' := .slice none 0 0))
  go_wp2_with fail
  obtain ⟨k0, k1, k2⟩ := PR.out
  exact bodyPost_ret (v := .tuple #[.agg #[.int .i64 0, .int .i64 0, .slice none 0 0], .iface 171 (.pointer (some (E 2)))]) (by simp [results, Tryd.results18, go_sem, k0, k1, k2]) rfl ⟨rfl, FR.out⟩
theorem half_shape (W H : Int) (x : Option Addr) (n c : Nat) (E : Nat → Addr) (w : World) (hE : Errs w E) (hr : rightB W H n = false) :
    Calls Tryd.prog 40 #[.agg #[.int .i64 W, .int .i64 H, .slice x n c]] w fun e w' => e = .returned (.tuple #[.agg #[.int .i64 0, .int .i64 0, .slice none 0 0], .iface 171 (.pointer (some (E 2)))]) ∧ Ext w w' := by
  have HR := Lib.hid hr
  have HE := Lib.hid hE
  clear hE hr
  go_enter Tryd.func40, Tryd.ntmps40
  go_wp2_with fail
  refine calls_world (fun wz => Ext w wz ∧ wz.heap.size = w.heap.size + 1 + 1 ∧ Bk wz (w.heap.size) #[.int .i64 W, .int .i64 H, .slice x n c] ∧ Bk wz (w.heap.size + 1) #[.int .i64 0, .int .i64 0, .slice none 0 0]) ⟨by repeat (first | exact Ext.refl _ | refine Ext.alloc ?_ _), by simp, by repeat (first | exact Bk.at (by simp) | refine Bk.old ?_), by repeat (first | exact Bk.at (by simp) | refine Bk.old ?_)⟩ ?_
  rintro wr ⟨hX, hZ, hB0, hB1⟩
  have B0 := Lib.hid hB0
  have B1 := Lib.hid hB1
  have XR := Lib.hid hX
  have SZ := Lib.hid hZ
  clear hX hZ hB0 hB1
  refine (check_shape _ _ _ _ _ _ _ E (HE.out.ext XR.out) HR.out).mono ?_
  rintro e w6 ⟨rfl, hx⟩
  have XS := Lib.hid (Ext.trans XR.out hx)
  have B2S := Lib.hid (B1.out.ext hx)
  clear hx
  have d0 := B2S.out.cell 0
  have e0 := B2S.out.frozen 0
  have d1 := B2S.out.cell 1
  have e1 := B2S.out.frozen 1
  have d2 := B2S.out.cell 2
  have e2 := B2S.out.frozen 2
  have FR := Lib.hid (show Ext w _ from XS.out.set3 (b := w.heap.size + 1) (by omega) (.int .i64 0) (.int .i64 0) (.slice none 0 0))
  have PR := Lib.hid (B2S.out.pic.set (W' := 0) (H' := 0) (v' := .slice none 0 0))
  go_wp2_with fail
  obtain ⟨k0, k1, k2⟩ := PR.out
  exact bodyPost_ret (v := .tuple #[.agg #[.int .i64 0, .int .i64 0, .slice none 0 0], .iface 171 (.pointer (some (E 2)))]) (by simp [results, Tryd.results40, go_sem, k0, k1, k2]) rfl ⟨rfl, FR.out⟩
end Go.Proofs.YtkfjcgcgfdibaaaDoor
namespace Go.Proofs.YtkfjcgcgfdibaaaDoor
open Go.RowKit
set_option maxRecDepth 100000
set_option linter.unusedSimpArgs false in
set_option maxHeartbeats 4000000 in
theorem scale_shape_N (ww hh W H : Int) (x : Option Addr) (n c : Nat) (E : Nat → Addr) (w : World) (hE : Errs w E) (hr : rightB W H n = false) (hw : sideB ww = false) :
    Calls Tryd.prog 41 #[.agg #[.int .i64 W, .int .i64 H, .slice x n c], .int .i64 ww, .int .i64 hh] w fun e w' => e = .returned (.tuple #[.agg #[.int .i64 0, .int .i64 0, .slice none 0 0], .iface 171 (.pointer (some (E 2)))]) ∧ Ext w w' := by
  have HR := Lib.hid hr
  have HE := Lib.hid hE
  have HS := Lib.hid hw
  clear hE hr hw
  go_enter Tryd.func41, Tryd.ntmps41
  go_wp2_with fail
  refine wp_world (fun wz => Ext w wz ∧ wz.heap.size = w.heap.size + 1 + 1 + 1 + 1 ∧ Bk wz (w.heap.size) #[.int .i64 W, .int .i64 H, .slice x n c] ∧ Bk wz (w.heap.size + 1) #[.int .i64 ww] ∧ Bk wz (w.heap.size + 1 + 1) #[.int .i64 hh] ∧ Bk wz (w.heap.size + 1 + 1 + 1) #[.int .i64 0, .int .i64 0, .slice none 0 0]) ⟨by repeat (first | exact Ext.refl _ | refine Ext.alloc ?_ _), by simp, by repeat (first | exact Bk.at (by simp) | refine Bk.old ?_), by repeat (first | exact Bk.at (by simp) | refine Bk.old ?_), by repeat (first | exact Bk.at (by simp) | refine Bk.old ?_), by repeat (first | exact Bk.at (by simp) | refine Bk.old ?_)⟩ ?_
  rintro wr ⟨hX, hZ, hB0, hB1, hB2, hB3⟩
  have X_0 := Lib.hid hX
  have P_0 := Lib.hid hB0
  have A_0 := Lib.hid hB1
  have B_0 := Lib.hid hB2
  have Z_0 := Lib.hid hB3
  clear hX hZ hB0 hB1 hB2 hB3
  refine wp_region_held_drew (S := fun w' => w'.cell? ⟨w.heap.size, 0, none⟩ = some (.int .i64 W) ∧ w'.cell? ⟨w.heap.size, 1, none⟩ = some (.int .i64 H) ∧ w'.cell? ⟨w.heap.size, 2, none⟩ = some (.slice x n c) ∧ w'.cell? ⟨w.heap.size + 1, 0, none⟩ = some (.int .i64 ww) ∧ w'.cell? ⟨w.heap.size + 1 + 1, 0, none⟩ = some (.int .i64 hh)) (by kernel_rfl) ⟨P_0.out.cell 0, P_0.out.cell 1, P_0.out.cell 2, A_0.out.cell 0, B_0.out.cell 0⟩ (fun hHeld => ?_)
  clear hHeld
  refine anyH_world (fun wz => Ext wr wz) (show Ext wr wr.drew from Below.drew (Ext.refl wr)) ?_
  rintro v1 h
  have X_1 := Lib.hid (X_0.out.trans h)
  have P_1 := Lib.hid (P_0.out.ext h)
  have A_1 := Lib.hid (A_0.out.ext h)
  have B_1 := Lib.hid (B_0.out.ext h)
  have Z_1 := Lib.hid (Z_0.out.ext h)
  clear h X_0 P_0 A_0 B_0 Z_0
  have hHeld : v1.cell? ⟨w.heap.size, 0, none⟩ = some (.int .i64 W) ∧ v1.cell? ⟨w.heap.size, 1, none⟩ = some (.int .i64 H) ∧ v1.cell? ⟨w.heap.size, 2, none⟩ = some (.slice x n c) ∧ v1.cell? ⟨w.heap.size + 1, 0, none⟩ = some (.int .i64 ww) ∧ v1.cell? ⟨w.heap.size + 1 + 1, 0, none⟩ = some (.int .i64 hh) := ⟨P_1.out.cell 0, P_1.out.cell 1, P_1.out.cell 2, A_1.out.cell 0, B_1.out.cell 0⟩
  refine wpAnyH_take (i := 0) (v := ?_) rfl (by kernel_rfl) (by kernel_rfl) (by kernel_rfl) (fun _ _ _ h => h) (Or.inl ⟨by kernel_rfl, ?_⟩) hHeld ?_
  rotate_left
  · intro w hSw
    (try dsimp only at hSw)
    go_split_ands
    go_simp
    (try with_reducible rfl)
  try simp only [Act.put, List.getElem_toArray, List.getElem_cons_succ, List.getElem_cons_zero, List.setIfInBounds_toArray, List.set_cons_zero, List.set_cons_succ]
  refine wpAnyH_take (i := 1) (v := ?_) rfl (by kernel_rfl) (by kernel_rfl) (by kernel_rfl) (fun _ _ _ h => h) (Or.inl ⟨by kernel_rfl, ?_⟩) hHeld ?_
  rotate_left
  · intro w hSw
    (try dsimp only at hSw)
    go_split_ands
    go_simp
    (try with_reducible rfl)
  try simp only [Act.put, List.getElem_toArray, List.getElem_cons_succ, List.getElem_cons_zero, List.setIfInBounds_toArray, List.set_cons_zero, List.set_cons_succ]
  refine wpAnyH_ready (rs := [2]) (by kernel_rfl) (by simp) ?_
  refine AllReadyH.cons rfl (fun KK hK => ?_) AllReadyH.nil
  clear hHeld
  go_simp
  refine (side_any ww _).mono ?_
  rintro e w9 ⟨rfl, rfl⟩
  rw [HS.out]
  go_simp
  refine hK.out _ _ ⟨P_1.out.cell 0, P_1.out.cell 1, P_1.out.cell 2, A_1.out.cell 0, B_1.out.cell 0⟩ (fun hHeld => ?_)
  clear hK KK
  try simp only [Act.put, List.getElem_toArray, List.getElem_cons_succ, List.getElem_cons_zero, List.setIfInBounds_toArray, List.set_cons_zero, List.set_cons_succ]
  refine wpAnyH_take (i := 3) (v := ?_) rfl (by kernel_rfl) (by kernel_rfl) (by kernel_rfl) (fun _ _ _ h => h) (Or.inl ⟨by kernel_rfl, ?_⟩) hHeld ?_
  rotate_left
  · intro w hSw
    (try dsimp only at hSw)
    go_split_ands
    go_simp
    (try with_reducible rfl)
  try simp only [Act.put, List.getElem_toArray, List.getElem_cons_succ, List.getElem_cons_zero, List.setIfInBounds_toArray, List.set_cons_zero, List.set_cons_succ]
  refine wpAnyH_take (i := 4) (v := undef) rfl (by kernel_rfl) (by kernel_rfl) (by kernel_rfl) (fun _ _ _ h => h) (Or.inr ⟨by kernel_rfl, rfl⟩) hHeld ?_
  try simp only [Act.put, List.getElem_toArray, List.getElem_cons_succ, List.getElem_cons_zero, List.setIfInBounds_toArray, List.set_cons_zero, List.set_cons_succ]
  refine wpAnyH_take (i := 5) (v := undef) rfl (by kernel_rfl) (by kernel_rfl) (by kernel_rfl) (fun _ _ _ h => h) (Or.inr ⟨by kernel_rfl, rfl⟩) hHeld ?_
  try simp only [Act.put, List.getElem_toArray, List.getElem_cons_succ, List.getElem_cons_zero, List.setIfInBounds_toArray, List.set_cons_zero, List.set_cons_succ]
  refine wpAnyH_take (i := 6) (v := ?_) rfl (by kernel_rfl) (by kernel_rfl) (by kernel_rfl) (fun _ _ _ h => h) (Or.inl ⟨by kernel_rfl, ?_⟩) hHeld ?_
  rotate_left
  · intro w hSw
    (try dsimp only at hSw)
    go_split_ands
    go_simp
    (try with_reducible rfl)
  try simp only [Act.put, List.getElem_toArray, List.getElem_cons_succ, List.getElem_cons_zero, List.setIfInBounds_toArray, List.set_cons_zero, List.set_cons_succ]
  refine wpAnyH_ready (rs := [7]) (by kernel_rfl) (by simp) ?_
  refine AllReadyH.cons rfl (fun KK hK => ?_) AllReadyH.nil
  clear hHeld
  go_simp
  refine (check_shape _ _ _ _ _ _ _ E (HE.out.ext X_1.out) HR.out).mono ?_
  rintro e v2 ⟨rfl, h⟩
  have X_2 := Lib.hid (X_1.out.trans h)
  have P_2 := Lib.hid (P_1.out.ext h)
  have A_2 := Lib.hid (A_1.out.ext h)
  have B_2 := Lib.hid (B_1.out.ext h)
  have Z_2 := Lib.hid (Z_1.out.ext h)
  clear h X_1 P_1 A_1 B_1 Z_1
  go_simp
  refine hK.out _ _ ⟨P_2.out.cell 0, P_2.out.cell 1, P_2.out.cell 2, A_2.out.cell 0, B_2.out.cell 0⟩ (fun hHeld => ?_)
  clear hK KK
  try simp only [Act.put, List.getElem_toArray, List.getElem_cons_succ, List.getElem_cons_zero, List.setIfInBounds_toArray, List.set_cons_zero, List.set_cons_succ]
  refine wpAnyH_take (i := 8) (v := ?_) rfl (by kernel_rfl) (by kernel_rfl) (by kernel_rfl) (fun _ _ _ h => h) (Or.inl ⟨by kernel_rfl, ?_⟩) hHeld ?_
  rotate_left
  · intro w hSw
    (try dsimp only at hSw)
    go_split_ands
    go_simp
    (try with_reducible rfl)
  try simp only [Act.put, List.getElem_toArray, List.getElem_cons_succ, List.getElem_cons_zero, List.setIfInBounds_toArray, List.set_cons_zero, List.set_cons_succ]
  refine wpAnyH_done (by kernel_rfl) ?_ _
  clear hHeld
  have d0 := Z_2.out.cell 0
  have e0 := Z_2.out.frozen 0
  have d1 := Z_2.out.cell 1
  have e1 := Z_2.out.frozen 1
  have d2 := Z_2.out.cell 2
  have e2 := Z_2.out.frozen 2
  have FR := Lib.hid (show Ext w _ from X_2.out.set3 (b := w.heap.size + 1 + 1 + 1) (by omega) (.int .i64 0) (.int .i64 0) (.slice none 0 0))
  have PR := Lib.hid (Z_2.out.pic.set (W' := 0) (H' := 0) (v' := .slice none 0 0))
  go_wp2_with fail
  obtain ⟨k0, k1, k2⟩ := PR.out
  exact bodyPost_ret (v := .tuple #[.agg #[.int .i64 0, .int .i64 0, .slice none 0 0], .iface 171 (.pointer (some (E 2)))]) (by simp [results, Tryd.results41, go_sem, k0, k1, k2]) rfl ⟨rfl, FR.out⟩
set_option linter.unusedSimpArgs false in
set_option maxHeartbeats 4000000 in
theorem scale_shape_Y (ww hh W H : Int) (x : Option Addr) (n c : Nat) (E : Nat → Addr) (w : World) (hE : Errs w E) (hr : rightB W H n = false) (hw : sideB ww = true) :
    Calls Tryd.prog 41 #[.agg #[.int .i64 W, .int .i64 H, .slice x n c], .int .i64 ww, .int .i64 hh] w fun e w' => e = .returned (.tuple #[.agg #[.int .i64 0, .int .i64 0, .slice none 0 0], .iface 171 (.pointer (some (E 2)))]) ∧ Ext w w' := by
  have HR := Lib.hid hr
  have HE := Lib.hid hE
  have HS := Lib.hid hw
  clear hE hr hw
  go_enter Tryd.func41, Tryd.ntmps41
  go_wp2_with fail
  refine wp_world (fun wz => Ext w wz ∧ wz.heap.size = w.heap.size + 1 + 1 + 1 + 1 ∧ Bk wz (w.heap.size) #[.int .i64 W, .int .i64 H, .slice x n c] ∧ Bk wz (w.heap.size + 1) #[.int .i64 ww] ∧ Bk wz (w.heap.size + 1 + 1) #[.int .i64 hh] ∧ Bk wz (w.heap.size + 1 + 1 + 1) #[.int .i64 0, .int .i64 0, .slice none 0 0]) ⟨by repeat (first | exact Ext.refl _ | refine Ext.alloc ?_ _), by simp, by repeat (first | exact Bk.at (by simp) | refine Bk.old ?_), by repeat (first | exact Bk.at (by simp) | refine Bk.old ?_), by repeat (first | exact Bk.at (by simp) | refine Bk.old ?_), by repeat (first | exact Bk.at (by simp) | refine Bk.old ?_)⟩ ?_
  rintro wr ⟨hX, hZ, hB0, hB1, hB2, hB3⟩
  have X_0 := Lib.hid hX
  have P_0 := Lib.hid hB0
  have A_0 := Lib.hid hB1
  have B_0 := Lib.hid hB2
  have Z_0 := Lib.hid hB3
  clear hX hZ hB0 hB1 hB2 hB3
  refine wp_region_held_drew (S := fun w' => w'.cell? ⟨w.heap.size, 0, none⟩ = some (.int .i64 W) ∧ w'.cell? ⟨w.heap.size, 1, none⟩ = some (.int .i64 H) ∧ w'.cell? ⟨w.heap.size, 2, none⟩ = some (.slice x n c) ∧ w'.cell? ⟨w.heap.size + 1, 0, none⟩ = some (.int .i64 ww) ∧ w'.cell? ⟨w.heap.size + 1 + 1, 0, none⟩ = some (.int .i64 hh)) (by kernel_rfl) ⟨P_0.out.cell 0, P_0.out.cell 1, P_0.out.cell 2, A_0.out.cell 0, B_0.out.cell 0⟩ (fun hHeld => ?_)
  clear hHeld
  refine anyH_world (fun wz => Ext wr wz) (show Ext wr wr.drew from Below.drew (Ext.refl wr)) ?_
  rintro v1 h
  have X_1 := Lib.hid (X_0.out.trans h)
  have P_1 := Lib.hid (P_0.out.ext h)
  have A_1 := Lib.hid (A_0.out.ext h)
  have B_1 := Lib.hid (B_0.out.ext h)
  have Z_1 := Lib.hid (Z_0.out.ext h)
  clear h X_0 P_0 A_0 B_0 Z_0
  have hHeld : v1.cell? ⟨w.heap.size, 0, none⟩ = some (.int .i64 W) ∧ v1.cell? ⟨w.heap.size, 1, none⟩ = some (.int .i64 H) ∧ v1.cell? ⟨w.heap.size, 2, none⟩ = some (.slice x n c) ∧ v1.cell? ⟨w.heap.size + 1, 0, none⟩ = some (.int .i64 ww) ∧ v1.cell? ⟨w.heap.size + 1 + 1, 0, none⟩ = some (.int .i64 hh) := ⟨P_1.out.cell 0, P_1.out.cell 1, P_1.out.cell 2, A_1.out.cell 0, B_1.out.cell 0⟩
  refine wpAnyH_take (i := 0) (v := ?_) rfl (by kernel_rfl) (by kernel_rfl) (by kernel_rfl) (fun _ _ _ h => h) (Or.inl ⟨by kernel_rfl, ?_⟩) hHeld ?_
  rotate_left
  · intro w hSw
    (try dsimp only at hSw)
    go_split_ands
    go_simp
    (try with_reducible rfl)
  try simp only [Act.put, List.getElem_toArray, List.getElem_cons_succ, List.getElem_cons_zero, List.setIfInBounds_toArray, List.set_cons_zero, List.set_cons_succ]
  refine wpAnyH_take (i := 1) (v := ?_) rfl (by kernel_rfl) (by kernel_rfl) (by kernel_rfl) (fun _ _ _ h => h) (Or.inl ⟨by kernel_rfl, ?_⟩) hHeld ?_
  rotate_left
  · intro w hSw
    (try dsimp only at hSw)
    go_split_ands
    go_simp
    (try with_reducible rfl)
  try simp only [Act.put, List.getElem_toArray, List.getElem_cons_succ, List.getElem_cons_zero, List.setIfInBounds_toArray, List.set_cons_zero, List.set_cons_succ]
  refine wpAnyH_ready (rs := [2]) (by kernel_rfl) (by simp) ?_
  refine AllReadyH.cons rfl (fun KK hK => ?_) AllReadyH.nil
  clear hHeld
  go_simp
  refine (side_any ww _).mono ?_
  rintro e w9 ⟨rfl, rfl⟩
  rw [HS.out]
  go_simp
  refine hK.out _ _ ⟨P_1.out.cell 0, P_1.out.cell 1, P_1.out.cell 2, A_1.out.cell 0, B_1.out.cell 0⟩ (fun hHeld => ?_)
  clear hK KK
  try simp only [Act.put, List.getElem_toArray, List.getElem_cons_succ, List.getElem_cons_zero, List.setIfInBounds_toArray, List.set_cons_zero, List.set_cons_succ]
  refine wpAnyH_take (i := 3) (v := ?_) rfl (by kernel_rfl) (by kernel_rfl) (by kernel_rfl) (fun _ _ _ h => h) (Or.inl ⟨by kernel_rfl, ?_⟩) hHeld ?_
  rotate_left
  · intro w hSw
    (try dsimp only at hSw)
    go_split_ands
    go_simp
    (try with_reducible rfl)
  try simp only [Act.put, List.getElem_toArray, List.getElem_cons_succ, List.getElem_cons_zero, List.setIfInBounds_toArray, List.set_cons_zero, List.set_cons_succ]
  refine wpAnyH_take (i := 4) (v := ?_) rfl (by kernel_rfl) (by kernel_rfl) (by kernel_rfl) (fun _ _ _ h => h) (Or.inl ⟨by kernel_rfl, ?_⟩) hHeld ?_
  rotate_left
  · intro w hSw
    (try dsimp only at hSw)
    go_split_ands
    go_simp
    (try with_reducible rfl)
  try simp only [Act.put, List.getElem_toArray, List.getElem_cons_succ, List.getElem_cons_zero, List.setIfInBounds_toArray, List.set_cons_zero, List.set_cons_succ]
  refine wpAnyH_ready (rs := [5]) (by kernel_rfl) (by simp) ?_
  refine AllReadyH.cons rfl (fun KK hK => ?_) AllReadyH.nil
  clear hHeld
  go_simp
  refine (side_any hh _).mono ?_
  rintro e w9 ⟨rfl, rfl⟩
  go_simp
  refine hK.out _ _ ⟨P_1.out.cell 0, P_1.out.cell 1, P_1.out.cell 2, A_1.out.cell 0, B_1.out.cell 0⟩ (fun hHeld => ?_)
  clear hK KK
  try simp only [Act.put, List.getElem_toArray, List.getElem_cons_succ, List.getElem_cons_zero, List.setIfInBounds_toArray, List.set_cons_zero, List.set_cons_succ]
  refine wpAnyH_take (i := 6) (v := ?_) rfl (by kernel_rfl) (by kernel_rfl) (by kernel_rfl) (fun _ _ _ h => h) (Or.inl ⟨by kernel_rfl, ?_⟩) hHeld ?_
  rotate_left
  · intro w hSw
    (try dsimp only at hSw)
    go_split_ands
    go_simp
    (try with_reducible rfl)
  try simp only [Act.put, List.getElem_toArray, List.getElem_cons_succ, List.getElem_cons_zero, List.setIfInBounds_toArray, List.set_cons_zero, List.set_cons_succ]
  refine wpAnyH_ready (rs := [7]) (by kernel_rfl) (by simp) ?_
  refine AllReadyH.cons rfl (fun KK hK => ?_) AllReadyH.nil
  clear hHeld
  go_simp
  refine (check_shape _ _ _ _ _ _ _ E (HE.out.ext X_1.out) HR.out).mono ?_
  rintro e v2 ⟨rfl, h⟩
  have X_2 := Lib.hid (X_1.out.trans h)
  have P_2 := Lib.hid (P_1.out.ext h)
  have A_2 := Lib.hid (A_1.out.ext h)
  have B_2 := Lib.hid (B_1.out.ext h)
  have Z_2 := Lib.hid (Z_1.out.ext h)
  clear h X_1 P_1 A_1 B_1 Z_1
  go_simp
  refine hK.out _ _ ⟨P_2.out.cell 0, P_2.out.cell 1, P_2.out.cell 2, A_2.out.cell 0, B_2.out.cell 0⟩ (fun hHeld => ?_)
  clear hK KK
  try simp only [Act.put, List.getElem_toArray, List.getElem_cons_succ, List.getElem_cons_zero, List.setIfInBounds_toArray, List.set_cons_zero, List.set_cons_succ]
  refine wpAnyH_take (i := 8) (v := ?_) rfl (by kernel_rfl) (by kernel_rfl) (by kernel_rfl) (fun _ _ _ h => h) (Or.inl ⟨by kernel_rfl, ?_⟩) hHeld ?_
  rotate_left
  · intro w hSw
    (try dsimp only at hSw)
    go_split_ands
    go_simp
    (try with_reducible rfl)
  try simp only [Act.put, List.getElem_toArray, List.getElem_cons_succ, List.getElem_cons_zero, List.setIfInBounds_toArray, List.set_cons_zero, List.set_cons_succ]
  refine wpAnyH_done (by kernel_rfl) ?_ _
  clear hHeld
  have d0 := Z_2.out.cell 0
  have e0 := Z_2.out.frozen 0
  have d1 := Z_2.out.cell 1
  have e1 := Z_2.out.frozen 1
  have d2 := Z_2.out.cell 2
  have e2 := Z_2.out.frozen 2
  have FR := Lib.hid (show Ext w _ from X_2.out.set3 (b := w.heap.size + 1 + 1 + 1) (by omega) (.int .i64 0) (.int .i64 0) (.slice none 0 0))
  have PR := Lib.hid (Z_2.out.pic.set (W' := 0) (H' := 0) (v' := .slice none 0 0))
  go_wp2_with fail
  obtain ⟨k0, k1, k2⟩ := PR.out
  exact bodyPost_ret (v := .tuple #[.agg #[.int .i64 0, .int .i64 0, .slice none 0 0], .iface 171 (.pointer (some (E 2)))]) (by simp [results, Tryd.results41, go_sem, k0, k1, k2]) rfl ⟨rfl, FR.out⟩
set_option linter.unusedSimpArgs false in
set_option maxHeartbeats 4000000 in
theorem scale_bound_N (ww hh W H : Int) (x : Option Addr) (n c : Nat) (E : Nat → Addr) (w : World) (hE : Errs w E) (hr : rightB W H n = true) (hw : sideB ww = false) (_hs : (sideB ww && sideB hh) = false) :
    Calls Tryd.prog 41 #[.agg #[.int .i64 W, .int .i64 H, .slice x n c], .int .i64 ww, .int .i64 hh] w fun e w' => e = .returned (.tuple #[.agg #[.int .i64 0, .int .i64 0, .slice none 0 0], .iface 171 (.pointer (some (E 1)))]) ∧ Ext w w' := by
  have HR := Lib.hid hr
  have HE := Lib.hid hE
  have HS := Lib.hid hw
  clear hE hr hw
  clear _hs
  go_enter Tryd.func41, Tryd.ntmps41
  go_wp2_with fail
  refine wp_world (fun wz => Ext w wz ∧ wz.heap.size = w.heap.size + 1 + 1 + 1 + 1 ∧ Bk wz (w.heap.size) #[.int .i64 W, .int .i64 H, .slice x n c] ∧ Bk wz (w.heap.size + 1) #[.int .i64 ww] ∧ Bk wz (w.heap.size + 1 + 1) #[.int .i64 hh] ∧ Bk wz (w.heap.size + 1 + 1 + 1) #[.int .i64 0, .int .i64 0, .slice none 0 0]) ⟨by repeat (first | exact Ext.refl _ | refine Ext.alloc ?_ _), by simp, by repeat (first | exact Bk.at (by simp) | refine Bk.old ?_), by repeat (first | exact Bk.at (by simp) | refine Bk.old ?_), by repeat (first | exact Bk.at (by simp) | refine Bk.old ?_), by repeat (first | exact Bk.at (by simp) | refine Bk.old ?_)⟩ ?_
  rintro wr ⟨hX, hZ, hB0, hB1, hB2, hB3⟩
  have X_0 := Lib.hid hX
  have P_0 := Lib.hid hB0
  have A_0 := Lib.hid hB1
  have B_0 := Lib.hid hB2
  have Z_0 := Lib.hid hB3
  clear hX hZ hB0 hB1 hB2 hB3
  refine wp_region_held_drew (S := fun w' => w'.cell? ⟨w.heap.size, 0, none⟩ = some (.int .i64 W) ∧ w'.cell? ⟨w.heap.size, 1, none⟩ = some (.int .i64 H) ∧ w'.cell? ⟨w.heap.size, 2, none⟩ = some (.slice x n c) ∧ w'.cell? ⟨w.heap.size + 1, 0, none⟩ = some (.int .i64 ww) ∧ w'.cell? ⟨w.heap.size + 1 + 1, 0, none⟩ = some (.int .i64 hh)) (by kernel_rfl) ⟨P_0.out.cell 0, P_0.out.cell 1, P_0.out.cell 2, A_0.out.cell 0, B_0.out.cell 0⟩ (fun hHeld => ?_)
  clear hHeld
  refine anyH_world (fun wz => Ext wr wz) (show Ext wr wr.drew from Below.drew (Ext.refl wr)) ?_
  rintro v1 h
  have X_1 := Lib.hid (X_0.out.trans h)
  have P_1 := Lib.hid (P_0.out.ext h)
  have A_1 := Lib.hid (A_0.out.ext h)
  have B_1 := Lib.hid (B_0.out.ext h)
  have Z_1 := Lib.hid (Z_0.out.ext h)
  clear h X_0 P_0 A_0 B_0 Z_0
  have hHeld : v1.cell? ⟨w.heap.size, 0, none⟩ = some (.int .i64 W) ∧ v1.cell? ⟨w.heap.size, 1, none⟩ = some (.int .i64 H) ∧ v1.cell? ⟨w.heap.size, 2, none⟩ = some (.slice x n c) ∧ v1.cell? ⟨w.heap.size + 1, 0, none⟩ = some (.int .i64 ww) ∧ v1.cell? ⟨w.heap.size + 1 + 1, 0, none⟩ = some (.int .i64 hh) := ⟨P_1.out.cell 0, P_1.out.cell 1, P_1.out.cell 2, A_1.out.cell 0, B_1.out.cell 0⟩
  refine wpAnyH_take (i := 0) (v := ?_) rfl (by kernel_rfl) (by kernel_rfl) (by kernel_rfl) (fun _ _ _ h => h) (Or.inl ⟨by kernel_rfl, ?_⟩) hHeld ?_
  rotate_left
  · intro w hSw
    (try dsimp only at hSw)
    go_split_ands
    go_simp
    (try with_reducible rfl)
  try simp only [Act.put, List.getElem_toArray, List.getElem_cons_succ, List.getElem_cons_zero, List.setIfInBounds_toArray, List.set_cons_zero, List.set_cons_succ]
  refine wpAnyH_take (i := 1) (v := ?_) rfl (by kernel_rfl) (by kernel_rfl) (by kernel_rfl) (fun _ _ _ h => h) (Or.inl ⟨by kernel_rfl, ?_⟩) hHeld ?_
  rotate_left
  · intro w hSw
    (try dsimp only at hSw)
    go_split_ands
    go_simp
    (try with_reducible rfl)
  try simp only [Act.put, List.getElem_toArray, List.getElem_cons_succ, List.getElem_cons_zero, List.setIfInBounds_toArray, List.set_cons_zero, List.set_cons_succ]
  refine wpAnyH_ready (rs := [2]) (by kernel_rfl) (by simp) ?_
  refine AllReadyH.cons rfl (fun KK hK => ?_) AllReadyH.nil
  clear hHeld
  go_simp
  refine (side_any ww _).mono ?_
  rintro e w9 ⟨rfl, rfl⟩
  rw [HS.out]
  go_simp
  refine hK.out _ _ ⟨P_1.out.cell 0, P_1.out.cell 1, P_1.out.cell 2, A_1.out.cell 0, B_1.out.cell 0⟩ (fun hHeld => ?_)
  clear hK KK
  try simp only [Act.put, List.getElem_toArray, List.getElem_cons_succ, List.getElem_cons_zero, List.setIfInBounds_toArray, List.set_cons_zero, List.set_cons_succ]
  refine wpAnyH_take (i := 3) (v := ?_) rfl (by kernel_rfl) (by kernel_rfl) (by kernel_rfl) (fun _ _ _ h => h) (Or.inl ⟨by kernel_rfl, ?_⟩) hHeld ?_
  rotate_left
  · intro w hSw
    (try dsimp only at hSw)
    go_split_ands
    go_simp
    (try with_reducible rfl)
  try simp only [Act.put, List.getElem_toArray, List.getElem_cons_succ, List.getElem_cons_zero, List.setIfInBounds_toArray, List.set_cons_zero, List.set_cons_succ]
  refine wpAnyH_take (i := 4) (v := undef) rfl (by kernel_rfl) (by kernel_rfl) (by kernel_rfl) (fun _ _ _ h => h) (Or.inr ⟨by kernel_rfl, rfl⟩) hHeld ?_
  try simp only [Act.put, List.getElem_toArray, List.getElem_cons_succ, List.getElem_cons_zero, List.setIfInBounds_toArray, List.set_cons_zero, List.set_cons_succ]
  refine wpAnyH_take (i := 5) (v := undef) rfl (by kernel_rfl) (by kernel_rfl) (by kernel_rfl) (fun _ _ _ h => h) (Or.inr ⟨by kernel_rfl, rfl⟩) hHeld ?_
  try simp only [Act.put, List.getElem_toArray, List.getElem_cons_succ, List.getElem_cons_zero, List.setIfInBounds_toArray, List.set_cons_zero, List.set_cons_succ]
  refine wpAnyH_take (i := 6) (v := ?_) rfl (by kernel_rfl) (by kernel_rfl) (by kernel_rfl) (fun _ _ _ h => h) (Or.inl ⟨by kernel_rfl, ?_⟩) hHeld ?_
  rotate_left
  · intro w hSw
    (try dsimp only at hSw)
    go_split_ands
    go_simp
    (try with_reducible rfl)
  try simp only [Act.put, List.getElem_toArray, List.getElem_cons_succ, List.getElem_cons_zero, List.setIfInBounds_toArray, List.set_cons_zero, List.set_cons_succ]
  refine wpAnyH_ready (rs := [7]) (by kernel_rfl) (by simp) ?_
  refine AllReadyH.cons rfl (fun KK hK => ?_) AllReadyH.nil
  clear hHeld
  go_simp
  refine (check_bound _ _ _ _ _ _ E (HE.out.ext X_1.out) HR.out).mono ?_
  rintro e v2 ⟨rfl, h⟩
  have X_2 := Lib.hid (X_1.out.trans h)
  have P_2 := Lib.hid (P_1.out.ext h)
  have A_2 := Lib.hid (A_1.out.ext h)
  have B_2 := Lib.hid (B_1.out.ext h)
  have Z_2 := Lib.hid (Z_1.out.ext h)
  clear h X_1 P_1 A_1 B_1 Z_1
  go_simp
  refine hK.out _ _ ⟨P_2.out.cell 0, P_2.out.cell 1, P_2.out.cell 2, A_2.out.cell 0, B_2.out.cell 0⟩ (fun hHeld => ?_)
  clear hK KK
  try simp only [Act.put, List.getElem_toArray, List.getElem_cons_succ, List.getElem_cons_zero, List.setIfInBounds_toArray, List.set_cons_zero, List.set_cons_succ]
  refine wpAnyH_take (i := 8) (v := ?_) rfl (by kernel_rfl) (by kernel_rfl) (by kernel_rfl) (fun _ _ _ h => h) (Or.inl ⟨by kernel_rfl, ?_⟩) hHeld ?_
  rotate_left
  · intro w hSw
    (try dsimp only at hSw)
    go_split_ands
    go_simp
    (try with_reducible rfl)
  try simp only [Act.put, List.getElem_toArray, List.getElem_cons_succ, List.getElem_cons_zero, List.setIfInBounds_toArray, List.set_cons_zero, List.set_cons_succ]
  refine wpAnyH_done (by kernel_rfl) ?_ _
  clear hHeld
  have d0 := Z_2.out.cell 0
  have e0 := Z_2.out.frozen 0
  have d1 := Z_2.out.cell 1
  have e1 := Z_2.out.frozen 1
  have d2 := Z_2.out.cell 2
  have e2 := Z_2.out.frozen 2
  have FR := Lib.hid (show Ext w _ from X_2.out.set3 (b := w.heap.size + 1 + 1 + 1) (by omega) (.int .i64 0) (.int .i64 0) (.slice none 0 0))
  have PR := Lib.hid (Z_2.out.pic.set (W' := 0) (H' := 0) (v' := .slice none 0 0))
  go_wp2_with fail
  obtain ⟨k0, k1, k2⟩ := PR.out
  exact bodyPost_ret (v := .tuple #[.agg #[.int .i64 0, .int .i64 0, .slice none 0 0], .iface 171 (.pointer (some (E 1)))]) (by simp [results, Tryd.results41, go_sem, k0, k1, k2]) rfl ⟨rfl, FR.out⟩
set_option linter.unusedSimpArgs false in
set_option maxHeartbeats 4000000 in
theorem scale_bound_Y (ww hh W H : Int) (x : Option Addr) (n c : Nat) (E : Nat → Addr) (w : World) (hE : Errs w E) (hr : rightB W H n = true) (hw : sideB ww = true) (hs : (sideB ww && sideB hh) = false) :
    Calls Tryd.prog 41 #[.agg #[.int .i64 W, .int .i64 H, .slice x n c], .int .i64 ww, .int .i64 hh] w fun e w' => e = .returned (.tuple #[.agg #[.int .i64 0, .int .i64 0, .slice none 0 0], .iface 171 (.pointer (some (E 1)))]) ∧ Ext w w' := by
  have HR := Lib.hid hr
  have HE := Lib.hid hE
  have HS := Lib.hid hw
  clear hE hr hw
  have hh0 : sideB hh = false := by have := HS.out; rw [this] at hs; simpa using hs
  have HH := Lib.hid hh0
  clear hh0
  clear hs
  go_enter Tryd.func41, Tryd.ntmps41
  go_wp2_with fail
  refine wp_world (fun wz => Ext w wz ∧ wz.heap.size = w.heap.size + 1 + 1 + 1 + 1 ∧ Bk wz (w.heap.size) #[.int .i64 W, .int .i64 H, .slice x n c] ∧ Bk wz (w.heap.size + 1) #[.int .i64 ww] ∧ Bk wz (w.heap.size + 1 + 1) #[.int .i64 hh] ∧ Bk wz (w.heap.size + 1 + 1 + 1) #[.int .i64 0, .int .i64 0, .slice none 0 0]) ⟨by repeat (first | exact Ext.refl _ | refine Ext.alloc ?_ _), by simp, by repeat (first | exact Bk.at (by simp) | refine Bk.old ?_), by repeat (first | exact Bk.at (by simp) | refine Bk.old ?_), by repeat (first | exact Bk.at (by simp) | refine Bk.old ?_), by repeat (first | exact Bk.at (by simp) | refine Bk.old ?_)⟩ ?_
  rintro wr ⟨hX, hZ, hB0, hB1, hB2, hB3⟩
  have X_0 := Lib.hid hX
  have P_0 := Lib.hid hB0
  have A_0 := Lib.hid hB1
  have B_0 := Lib.hid hB2
  have Z_0 := Lib.hid hB3
  clear hX hZ hB0 hB1 hB2 hB3
  refine wp_region_held_drew (S := fun w' => w'.cell? ⟨w.heap.size, 0, none⟩ = some (.int .i64 W) ∧ w'.cell? ⟨w.heap.size, 1, none⟩ = some (.int .i64 H) ∧ w'.cell? ⟨w.heap.size, 2, none⟩ = some (.slice x n c) ∧ w'.cell? ⟨w.heap.size + 1, 0, none⟩ = some (.int .i64 ww) ∧ w'.cell? ⟨w.heap.size + 1 + 1, 0, none⟩ = some (.int .i64 hh)) (by kernel_rfl) ⟨P_0.out.cell 0, P_0.out.cell 1, P_0.out.cell 2, A_0.out.cell 0, B_0.out.cell 0⟩ (fun hHeld => ?_)
  clear hHeld
  refine anyH_world (fun wz => Ext wr wz) (show Ext wr wr.drew from Below.drew (Ext.refl wr)) ?_
  rintro v1 h
  have X_1 := Lib.hid (X_0.out.trans h)
  have P_1 := Lib.hid (P_0.out.ext h)
  have A_1 := Lib.hid (A_0.out.ext h)
  have B_1 := Lib.hid (B_0.out.ext h)
  have Z_1 := Lib.hid (Z_0.out.ext h)
  clear h X_0 P_0 A_0 B_0 Z_0
  have hHeld : v1.cell? ⟨w.heap.size, 0, none⟩ = some (.int .i64 W) ∧ v1.cell? ⟨w.heap.size, 1, none⟩ = some (.int .i64 H) ∧ v1.cell? ⟨w.heap.size, 2, none⟩ = some (.slice x n c) ∧ v1.cell? ⟨w.heap.size + 1, 0, none⟩ = some (.int .i64 ww) ∧ v1.cell? ⟨w.heap.size + 1 + 1, 0, none⟩ = some (.int .i64 hh) := ⟨P_1.out.cell 0, P_1.out.cell 1, P_1.out.cell 2, A_1.out.cell 0, B_1.out.cell 0⟩
  refine wpAnyH_take (i := 0) (v := ?_) rfl (by kernel_rfl) (by kernel_rfl) (by kernel_rfl) (fun _ _ _ h => h) (Or.inl ⟨by kernel_rfl, ?_⟩) hHeld ?_
  rotate_left
  · intro w hSw
    (try dsimp only at hSw)
    go_split_ands
    go_simp
    (try with_reducible rfl)
  try simp only [Act.put, List.getElem_toArray, List.getElem_cons_succ, List.getElem_cons_zero, List.setIfInBounds_toArray, List.set_cons_zero, List.set_cons_succ]
  refine wpAnyH_take (i := 1) (v := ?_) rfl (by kernel_rfl) (by kernel_rfl) (by kernel_rfl) (fun _ _ _ h => h) (Or.inl ⟨by kernel_rfl, ?_⟩) hHeld ?_
  rotate_left
  · intro w hSw
    (try dsimp only at hSw)
    go_split_ands
    go_simp
    (try with_reducible rfl)
  try simp only [Act.put, List.getElem_toArray, List.getElem_cons_succ, List.getElem_cons_zero, List.setIfInBounds_toArray, List.set_cons_zero, List.set_cons_succ]
  refine wpAnyH_ready (rs := [2]) (by kernel_rfl) (by simp) ?_
  refine AllReadyH.cons rfl (fun KK hK => ?_) AllReadyH.nil
  clear hHeld
  go_simp
  refine (side_any ww _).mono ?_
  rintro e w9 ⟨rfl, rfl⟩
  rw [HS.out]
  go_simp
  refine hK.out _ _ ⟨P_1.out.cell 0, P_1.out.cell 1, P_1.out.cell 2, A_1.out.cell 0, B_1.out.cell 0⟩ (fun hHeld => ?_)
  clear hK KK
  try simp only [Act.put, List.getElem_toArray, List.getElem_cons_succ, List.getElem_cons_zero, List.setIfInBounds_toArray, List.set_cons_zero, List.set_cons_succ]
  refine wpAnyH_take (i := 3) (v := ?_) rfl (by kernel_rfl) (by kernel_rfl) (by kernel_rfl) (fun _ _ _ h => h) (Or.inl ⟨by kernel_rfl, ?_⟩) hHeld ?_
  rotate_left
  · intro w hSw
    (try dsimp only at hSw)
    go_split_ands
    go_simp
    (try with_reducible rfl)
  try simp only [Act.put, List.getElem_toArray, List.getElem_cons_succ, List.getElem_cons_zero, List.setIfInBounds_toArray, List.set_cons_zero, List.set_cons_succ]
  refine wpAnyH_take (i := 4) (v := ?_) rfl (by kernel_rfl) (by kernel_rfl) (by kernel_rfl) (fun _ _ _ h => h) (Or.inl ⟨by kernel_rfl, ?_⟩) hHeld ?_
  rotate_left
  · intro w hSw
    (try dsimp only at hSw)
    go_split_ands
    go_simp
    (try with_reducible rfl)
  try simp only [Act.put, List.getElem_toArray, List.getElem_cons_succ, List.getElem_cons_zero, List.setIfInBounds_toArray, List.set_cons_zero, List.set_cons_succ]
  refine wpAnyH_ready (rs := [5]) (by kernel_rfl) (by simp) ?_
  refine AllReadyH.cons rfl (fun KK hK => ?_) AllReadyH.nil
  clear hHeld
  go_simp
  refine (side_any hh _).mono ?_
  rintro e w9 ⟨rfl, rfl⟩
  rw [HH.out]
  go_simp
  refine hK.out _ _ ⟨P_1.out.cell 0, P_1.out.cell 1, P_1.out.cell 2, A_1.out.cell 0, B_1.out.cell 0⟩ (fun hHeld => ?_)
  clear hK KK
  try simp only [Act.put, List.getElem_toArray, List.getElem_cons_succ, List.getElem_cons_zero, List.setIfInBounds_toArray, List.set_cons_zero, List.set_cons_succ]
  refine wpAnyH_take (i := 6) (v := ?_) rfl (by kernel_rfl) (by kernel_rfl) (by kernel_rfl) (fun _ _ _ h => h) (Or.inl ⟨by kernel_rfl, ?_⟩) hHeld ?_
  rotate_left
  · intro w hSw
    (try dsimp only at hSw)
    go_split_ands
    go_simp
    (try with_reducible rfl)
  try simp only [Act.put, List.getElem_toArray, List.getElem_cons_succ, List.getElem_cons_zero, List.setIfInBounds_toArray, List.set_cons_zero, List.set_cons_succ]
  refine wpAnyH_ready (rs := [7]) (by kernel_rfl) (by simp) ?_
  refine AllReadyH.cons rfl (fun KK hK => ?_) AllReadyH.nil
  clear hHeld
  go_simp
  refine (check_bound _ _ _ _ _ _ E (HE.out.ext X_1.out) HR.out).mono ?_
  rintro e v2 ⟨rfl, h⟩
  have X_2 := Lib.hid (X_1.out.trans h)
  have P_2 := Lib.hid (P_1.out.ext h)
  have A_2 := Lib.hid (A_1.out.ext h)
  have B_2 := Lib.hid (B_1.out.ext h)
  have Z_2 := Lib.hid (Z_1.out.ext h)
  clear h X_1 P_1 A_1 B_1 Z_1
  go_simp
  refine hK.out _ _ ⟨P_2.out.cell 0, P_2.out.cell 1, P_2.out.cell 2, A_2.out.cell 0, B_2.out.cell 0⟩ (fun hHeld => ?_)
  clear hK KK
  try simp only [Act.put, List.getElem_toArray, List.getElem_cons_succ, List.getElem_cons_zero, List.setIfInBounds_toArray, List.set_cons_zero, List.set_cons_succ]
  refine wpAnyH_take (i := 8) (v := ?_) rfl (by kernel_rfl) (by kernel_rfl) (by kernel_rfl) (fun _ _ _ h => h) (Or.inl ⟨by kernel_rfl, ?_⟩) hHeld ?_
  rotate_left
  · intro w hSw
    (try dsimp only at hSw)
    go_split_ands
    go_simp
    (try with_reducible rfl)
  try simp only [Act.put, List.getElem_toArray, List.getElem_cons_succ, List.getElem_cons_zero, List.setIfInBounds_toArray, List.set_cons_zero, List.set_cons_succ]
  refine wpAnyH_done (by kernel_rfl) ?_ _
  clear hHeld
  have d0 := Z_2.out.cell 0
  have e0 := Z_2.out.frozen 0
  have d1 := Z_2.out.cell 1
  have e1 := Z_2.out.frozen 1
  have d2 := Z_2.out.cell 2
  have e2 := Z_2.out.frozen 2
  have FR := Lib.hid (show Ext w _ from X_2.out.set3 (b := w.heap.size + 1 + 1 + 1) (by omega) (.int .i64 0) (.int .i64 0) (.slice none 0 0))
  have PR := Lib.hid (Z_2.out.pic.set (W' := 0) (H' := 0) (v' := .slice none 0 0))
  go_wp2_with fail
  obtain ⟨k0, k1, k2⟩ := PR.out
  exact bodyPost_ret (v := .tuple #[.agg #[.int .i64 0, .int .i64 0, .slice none 0 0], .iface 171 (.pointer (some (E 1)))]) (by simp [results, Tryd.results41, go_sem, k0, k1, k2]) rfl ⟨rfl, FR.out⟩
end Go.Proofs.YtkfjcgcgfdibaaaDoor
