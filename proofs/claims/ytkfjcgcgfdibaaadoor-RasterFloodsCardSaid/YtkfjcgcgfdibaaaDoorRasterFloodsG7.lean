/-
  The document's FloodOf.
-/
import Derived.Test.YtkfjcgcgfdibaaaDoorRasterFloodsG5
import Derived.Deep.LoopGhost
import Derived.Deep.DeepCutAuto
namespace Go.Proofs.YtkfjcgcgfdibaaaDoor
open Go.RowKit
set_option maxRecDepth 100000
theorem boolinf : (Tryd.prog.info? 4).map (fun i => (i.zero, i.size, i.bytes)) = some (some (.bool false), 1, 1) := by kernel_rfl
def okP (W x0 y0 : Nat) (px : Nat → P4) (u v : Nat) : Prop := px (v * W + u) = px (y0 * W + x0)
set_option linter.unusedSimpArgs false in
set_option maxHeartbeats 6000000 in
theorem floodOf_any (W H x0 y0 : Nat) (ad : Addr) (cap : Nat) (px : Nat → P4) (c : P4) (w : World) (hx : Pxs w (some ad) (W * H) px) (hW : 1 ≤ W ∧ W ≤ 256) (hH : 1 ≤ H ∧ H ≤ 256) (hx0 : x0 < W) (hy0 : y0 < H) :
    Calls Tryd.prog 34 #[.agg #[.int .i64 (W : Int), .int .i64 (H : Int), .slice (some ad) (W * H) cap], .int .i64 (x0 : Int), .int .i64 (y0 : Int), .agg #[.int .u8 c.r, .int .u8 c.g, .int .u8 c.b, .int .u8 c.a]] w fun e w' => ∃ I : Nat → Bool, (∀ u v, u < W → v < H → (I (v * W + u) = true ↔ Fl.Rch W H (okP W x0 y0 px) x0 y0 u v)) ∧ (∃ g cc, e = .returned (.agg #[.int .i64 (W : Int), .int .i64 (H : Int), .slice (some ⟨g, 0, none⟩) (W * H) cc]) ∧ Po w' g (W * H) (fldP I c px) ∧ w.heap.size ≤ g) ∧ Ext w w' := by
  obtain ⟨hW1, hW2⟩ := hW
  obtain ⟨hH1, hH2⟩ := hH
  have HX := Lib.hid hx
  have hk0 : y0 * W + x0 < W * H := mul_lt_of hy0 hx0
  obtain ⟨q0, hq0⟩ : ∃ q, px (y0 * W + x0) = q := ⟨_, rfl⟩
  have HAT : Hid (∀ w5, Ext w w5 → Calls Tryd.prog 67 #[.agg #[.int .i64 (W : Int), .int .i64 (H : Int), .slice (some ad) (W * H) cap], .int .i64 (x0 : Int), .int .i64 (y0 : Int)] w5 fun e w' => e = .returned (.agg #[.int .u8 q0.r, .int .u8 q0.g, .int .u8 q0.b, .int .u8 q0.a]) ∧ Ext w5 w') := Lib.hid (fun w5 h5 => by
    have h := at_any x0 y0 W H ad cap px w5 (HX.out.ext h5) hW2 hH2 hx0 hy0
    rw [hq0] at h
    exact h)
  have HQ0 := Lib.hid hq0
  clear hq0
  obtain ⟨N, hN⟩ : ∃ N, W * H = N := ⟨_, rfl⟩
  have hNl : N ≤ 65536 := by rw [← hN]; exact Nat.mul_le_mul hW2 hH2
  have hN0 : 0 < N := by rw [← hN]; exact Nat.mul_pos hW1 hH1
  rw [hN] at HX HAT hk0 ⊢
  have HN := Lib.hid hN
  clear hx
  obtain ⟨M0, hM0⟩ : ∃ M, y0 * W = M := ⟨_, rfl⟩
  have MI0 : (y0 : Int) * (W : Int) = (M0 : Int) := by rw [← hM0]; simp
  rw [hM0] at hk0
  have HM0 := Lib.hid hM0
  clear hM0
  have hmk := run_make_row' (P := Tryd.prog) 99 4 (.bool false) 1 Tryd.underlying99 boolinf rfl .i64 .i64 N (by omega) (by omega)
  have i1 : (M0 : Int) + (x0 : Int) < (N : Int) := by omega
  have i2 : ((M0 : Int) + (x0 : Int)).toNat = M0 + x0 := by omega
  have i3 : 0 ≤ (M0 : Int) + (x0 : Int) := by omega
  clear hN
  go_enter Tryd.func34, Tryd.ntmps34
  have HC1 := Cv.made (((w.alloc (.cells #[.int .i64 (W : Int), .int .i64 (H : Int), .slice (some ad) N cap] 24)).alloc (.cells #[.int .u8 c.r, .int .u8 c.g, .int .u8 c.b, .int .u8 c.a] 36)).alloc (.cells #[.int .i64 0, .int .i64 0, .slice none 0 0] 24)) N (.bool false) 4
  have HCS := Cv.madeSet (((w.alloc (.cells #[.int .i64 (W : Int), .int .i64 (H : Int), .slice (some ad) N cap] 24)).alloc (.cells #[.int .u8 c.r, .int .u8 c.g, .int .u8 c.b, .int .u8 c.a] 36)).alloc (.cells #[.int .i64 0, .int .i64 0, .slice none 0 0] 24)) N (M0 + x0) (.bool false) (.bool true) 4
  have HFI1 := Lib.hid (show FI w ((((w.alloc (.cells #[.int .i64 (W : Int), .int .i64 (H : Int), .slice (some ad) N cap] 24)).alloc (.cells #[.int .u8 c.r, .int .u8 c.g, .int .u8 c.b, .int .u8 c.a] 36)).alloc (.cells #[.int .i64 0, .int .i64 0, .slice none 0 0] 24)).alloc (.cells ((madeCells #[.bool false] N).setIfInBounds (M0 + x0) (.bool true)) 4)) W H N ad cap (w.heap.size + 1 + 1 + 1) c (Fl.setF (fun _ => false) (M0 + x0)) from ⟨by repeat (first | exact Ext.refl _ | refine Ext.alloc ?_ _), by repeat (first | exact Bk.at (by simp) | refine Bk.old ?_), by repeat (first | exact Bk.at (by simp) | refine Bk.old ?_), by repeat (first | exact Bk.at (by simp) | refine Bk.old ?_), (by refine Cv.congr (show Cv _ (w.heap.size + 1 + 1 + 1) N _ by simpa using HCS) (fun i hi => ?_); by_cases e : i = M0 + x0 <;> simp [Fl.setF, e]), by omega, by simp⟩)
  clear HCS
  have c0 := (show Cv _ (w.heap.size + 1 + 1 + 1) N _ by simpa using HC1) (M0 + x0) (by omega)
  clear HC1
  go_wp2_with fail
  clear c0
  refine wp_world (fun wz => Hid (FI w wz W H N ad cap (w.heap.size + 1 + 1 + 1) c (Fl.setF (fun _ => false) (M0 + x0)))) HFI1 ?_
  clear HFI1
  obtain ⟨ib, hib⟩ : ∃ ib, w.heap.size + 1 + 1 + 1 = ib := ⟨_, rfl⟩
  rw [hib]
  clear hib
  rintro w1 FF
  have HW0 := Lib.hid (Fl.Wv.start (W := W) (H := H) (u0 := x0) (v0 := y0) (okP W x0 y0 px) hx0 (N + 1) (by rw [HN.out]; omega))
  rw [HM0.out] at HW0
  clear hmk i1 i2 i3 MI0
  go_loopg [10] (N + 1) (fun q cc wr => ∃ (n0 : Nat) (I : Nat → Bool) (m : Bool) (yy : Nat), cc = .bool m ∧ Hid (FI w wr W H N ad cap ib c I) ∧ Hid (Fl.Wv W H (okP W x0 y0 px) x0 y0 n0 I m yy 0) ∧ Hid (m = false → yy = H) ∧ Hid (m = true → Fl.cnt I N < q))
  case atStart => exact ⟨N + 1, _, true, 0, rfl, FF, HW0, Lib.hid (fun e => by cases e), Lib.hid (fun _ => Nat.lt_succ_of_le (Fl.cnt_le _ _))⟩
  case round =>
    clear FF HW0
    obtain ⟨n0, I, m, yy, rfl, FF, HWV, HE, HC⟩ := hrel
    cases m
    · rw [HE.out rfl] at HWV
      have HR := Lib.hid (fun (u v : Nat) (hu : u < W) (hv : v < H) => HWV.out.done ⟨hx0, hy0⟩ hu hv)
      clear HWV HE HC
      have k0 := FF.out.b.cell 0
      have k1 := FF.out.b.cell 1
      have k2 := FF.out.b.cell 2
      go_wp2_with fail
      refine (own_any _ _ (some ad) N cap px _ (HX.out.ext FF.out.ext) (fun h => by cases h) (by omega)).mono ?_
      rintro e w2 ⟨⟨v, rfl, hown⟩, h⟩
      have F2 := Lib.hid (FF.out.step h)
      have OWN := Lib.hid (hown)
      clear h hown
      obtain ⟨g, cc, rfl, _, hg⟩ := ownsRow_some OWN.out hN0
      have HG := Lib.hid (And.intro (ownsRow_ge OWN.out) (And.intro hg FF.out.il))
      clear hg k0 k1 k2 FF
      go_wp2_with fail
      have E_ := (Ext.refl w2).alloc (.cells #[.int .i64 (W : Int), .int .i64 (H : Int), .slice (some ⟨g, 0, none⟩) N cc] 24)
      have FA : Hid (FAt w (w2.alloc (.cells #[.int .i64 (W : Int), .int .i64 (H : Int), .slice (some ⟨g, 0, none⟩) N cc] 24)) (w.heap.size + 1 + 1) w2.heap.size g (W : Int) (H : Int) N cc (fldN I c px 0)) := Lib.hid (by
        obtain ⟨q1, q2, q3⟩ := HG.out
        have q4 := F2.out.ge
        have q5 := F2.out.ext.size
        refine FAt.congr (px := px) ⟨F2.out.ext.trans E_, F2.out.r.ext E_, Bk.at rfl, (Po.of_own OWN.out).ext E_, by omega, by omega, by omega⟩ (fun i _ => ?_)
        unfold fldN; rw [if_neg (by omega)])
      have F3 := Lib.hid (F2.out.step E_)
      clear E_
      refine wp_world (fun wz => Hid (FAt w wz (w.heap.size + 1 + 1) w2.heap.size g (W : Int) (H : Int) N cc (fldN I c px 0)) ∧ Hid (FI w wz W H N ad cap ib c I)) ⟨FA, F3⟩ ?_
      have NB : Hid (∀ j, j ≤ ib → ¬ j = g) := Lib.hid (fun j hj e => by have := HG.out.1; have := HG.out.2.2; omega)
      obtain ⟨T, hT⟩ : ∃ T, w2.heap.size = T := ⟨_, rfl⟩
      rw [hT] at *
      clear FA F3 F2 OWN HG hT
      rintro wz ⟨FA, F3⟩
      go_loopw [16] (fun cc_ wr => ∃ i : Nat, i ≤ N ∧ cc_ = .int .i64 (i : Int) ∧ Hid (FAt w wr (w.heap.size + 1 + 1) T g (W : Int) (H : Int) N cc (fldN I c px i)) ∧ Hid (FI w wr W H N ad cap ib c I)) (fun cc_ _ => N - (intOf cc_).toNat)
      case atStart => exact ⟨0, by omega, rfl, FA, F3⟩
      case round =>
        clear FA F3
        obtain ⟨i, hi, rfl, FA, F3⟩ := hrel
        by_cases hlt : i < N
        · obtain ⟨c0, f0⟩ := F3.out.at_ i hlt
          cases hI : I i
          · rw [hI] at c0
            have HI := Lib.hid hI
            clear hI
            go_wp2_with fail
            go_roundw
            case rel => exact ⟨i + 1, by omega, by go_num, Lib.hid (FA.out.congr fun k _ => (fld_no HI.out k)), F3⟩
            case measure => simp [intOf]; omega
          · rw [hI] at c0
            have FN := Lib.hid ((FA.out.put i c).congr fun k _ => fld_yes hI k)
            have K := set4_keeps wr g i c
            have F3N := Lib.hid (F3.out.keeps K (fun j hj => NB.out j hj))
            clear K hI
            unfold set4 at FN F3N
            have k2 := FA.out.bk.cell 2
            have p0 := F3.out.c.cell 0
            have p1 := F3.out.c.cell 1
            have p2 := F3.out.c.cell 2
            have p3 := F3.out.c.cell 3
            obtain ⟨d0, e0⟩ := FA.out.row (i * 4) (by omega)
            obtain ⟨d1, e1⟩ := FA.out.row (i * 4 + 1) (by omega)
            obtain ⟨d2, e2⟩ := FA.out.row (i * 4 + 2) (by omega)
            obtain ⟨d3, e3⟩ := FA.out.row (i * 4 + 3) (by omega)
            go_wp2_with fail
            go_roundw
            case rel => exact ⟨i + 1, by omega, by go_num, FN, F3N⟩
            case measure => simp [intOf]; omega
        · obtain rfl : i = N := by omega
          have k0 := FA.out.bk.cell 0
          have k1 := FA.out.bk.cell 1
          have k2 := FA.out.bk.cell 2
          have d0 := FA.out.res.cell 0
          have e0 := FA.out.res.frozen 0
          have d1 := FA.out.res.cell 1
          have e1 := FA.out.res.frozen 1
          have d2 := FA.out.res.cell 2
          have e2 := FA.out.res.frozen 2
          have PC := Lib.hid ((FA.out.congr (qx := fldP I c px) (fun k hk => fld_all hk)).close (by omega : w.heap.size ≤ w.heap.size + 1 + 1))
          have GN := Lib.hid FA.out.gn
          clear FA F3
          go_wp2_with fail
          obtain ⟨k0, k1, k2, hP, hX⟩ := PC.out
          exact bodyPost_ret (v := .agg #[.int .i64 (W : Int), .int .i64 (H : Int), .slice (some ⟨g, 0, none⟩) i cc]) (by simp [results, Tryd.results34, go_sem, k0, k1, k2]) rfl ⟨I, HR.out, ⟨g, ⟨cc, rfl⟩, hP, GN.out⟩, hX⟩
    · have HC1 := Lib.hid (HC.out rfl)
      have HW2 := Lib.hid HWV.out.pass
      obtain ⟨K1, hK1⟩ : ∃ K, Fl.cnt I (W * H) = K := ⟨_, rfl⟩
      rw [hK1] at HW2
      rw [HN.out] at hK1
      rw [hK1] at HC1
      clear hK1 HWV HE HC
      go_wp2_with fail
      go_loopw [10, 11] (fun c0 cc wr => ∃ (I : Nat → Bool) (m : Bool) (y : Nat), y ≤ H ∧ c0 = .bool m ∧ cc = .int .i64 (y : Int) ∧ Hid (FI w wr W H N ad cap ib c I) ∧ Hid (Fl.Wv W H (okP W x0 y0 px) x0 y0 K1 I m y 0)) (fun _ cc _ => H - (intOf cc).toNat)
      case atStart => exact ⟨_, _, 0, by omega, rfl, rfl, FF, HW2⟩
      case round =>
        clear FF HW2
        obtain ⟨I, m, y, hy, rfl, rfl, FF, HW2⟩ := hrel
        have b1 := FF.out.b.cell 1
        by_cases hlt : y < H
        · go_wp2_with fail
          clear b1
          go_loopw [10, 12] (fun c0 cc wr => ∃ (I : Nat → Bool) (m : Bool) (x : Nat), x ≤ W ∧ c0 = .bool m ∧ cc = .int .i64 (x : Int) ∧ Hid (FI w wr W H N ad cap ib c I) ∧ Hid (Fl.Wv W H (okP W x0 y0 px) x0 y0 K1 I m y x)) (fun _ cc _ => W - (intOf cc).toNat)
          case atStart => exact ⟨_, _, 0, by omega, rfl, rfl, FF, HW2⟩
          case round =>
            clear FF HW2
            obtain ⟨I, m, x, hx, rfl, rfl, FF, HW2⟩ := hrel
            have b0 := FF.out.b.cell 0
            by_cases hlx : x < W
            · have hk : y * W + x < N := by rw [← HN.out]; exact mul_lt_of hlt hlx
              have MI : (y : Int) * (W : Int) = ((y * W : Nat) : Int) := by simp
              obtain ⟨M, hM⟩ : ∃ M, y * W = M := ⟨_, rfl⟩
              rw [hM] at hk MI
              obtain ⟨K, hK⟩ : ∃ K, M + x = K := ⟨_, rfl⟩
              rw [hK] at hk
              have d0 : (M : Int) + (x : Int) = (K : Int) := by omega
              obtain ⟨pk, hpk⟩ : ∃ q, px K = q := ⟨_, rfl⟩
              obtain ⟨c0, c1, c2, c3, _⟩ := (HX.out.ext FF.out.ext).2 ad rfl K hk
              rw [hpk] at c0 c1 c2 c3
              have HPK := Lib.hid hpk
              clear hpk
              have hKK := Lib.hid hK
              have hMM := Lib.hid hM
              clear hK hM
              obtain ⟨wa0, wb0, wa1, wb1⟩ : IntKind.i64.wrap (M : Int) = (M : Int) ∧ wrap64 (M : Int) = (M : Int) ∧ IntKind.i64.wrap (K : Int) = (K : Int) ∧ wrap64 (K : Int) = (K : Int) := ⟨wrap_i (by omega) (by omega), wrap_6 (by omega) (by omega), wrap_i (by omega) (by omega), wrap_6 (by omega) (by omega)⟩
              obtain ⟨ci, fi⟩ := FF.out.at_ K hk
              have HIK : Hid (I (y * W + x) = I K) := Lib.hid (by rw [hMM.out, hKK.out])
              have HOK : Hid (peq pk q0 = true ↔ okP W x0 y0 px x y) := Lib.hid (by unfold okP; rw [peq_iff, hMM.out, hKK.out, HPK.out, HQ0.out])
              cases hI : I K
              all_goals (rw [hI] at ci; have hik := Lib.hid hI; clear hI)
              · cases hq : peq pk q0
                all_goals (have PN := pix_neq pk q0 _ hq; have hqq := Lib.hid hq; clear hq; go_wp2_with fail)
                · have X_0 := Lib.hid (Ext.refl wr)
                  have CI : Hid (∀ wz, Ext wr wz → wz.cell? ⟨ib, K, none⟩ = some (.bool false)) := Lib.hid (fun wz hE => (((FF.out.step hE).at_ K hk).1).trans (by rw [hik.out]))
                  have PX : Hid (∀ wz, Ext wr wz → wz.cell? (ad.add (K * 4)) = some (.int .u8 pk.r) ∧ wz.cell? ⟨(ad.add (K * 4)).block, (ad.add (K * 4)).off + 1, none⟩ = some (.int .u8 pk.g) ∧ wz.cell? ⟨(ad.add (K * 4)).block, (ad.add (K * 4)).off + 2, none⟩ = some (.int .u8 pk.b) ∧ wz.cell? ⟨(ad.add (K * 4)).block, (ad.add (K * 4)).off + 3, none⟩ = some (.int .u8 pk.a)) := Lib.hid (fun wz hE => by
                    obtain ⟨a0, a1, a2, a3, _⟩ := (HX.out.ext (FF.out.ext.trans hE)).2 ad rfl K hk
                    rw [HPK.out] at a0 a1 a2 a3
                    exact ⟨a0, a1, a2, a3⟩)
                  clear b0 ci fi c0 c1 c2 c3 wa0 wb0 wa1 wb1 d0 MI
                  refine wp_region_held_drew (S := fun w' => w'.cell? ⟨w.heap.size, 0, none⟩ = some (.int .i64 (W : Int)) ∧ w'.cell? ⟨w.heap.size, 1, none⟩ = some (.int .i64 (H : Int)) ∧ w'.cell? ⟨w.heap.size, 2, none⟩ = some (.slice (some ad) N cap) ∧ w'.cell? ⟨ib, K, none⟩ = some (.bool false) ∧ w'.cell? (ad.add (K * 4)) = some (.int .u8 pk.r) ∧ w'.cell? ⟨(ad.add (K * 4)).block, (ad.add (K * 4)).off + 1, none⟩ = some (.int .u8 pk.g) ∧ w'.cell? ⟨(ad.add (K * 4)).block, (ad.add (K * 4)).off + 2, none⟩ = some (.int .u8 pk.b) ∧ w'.cell? ⟨(ad.add (K * 4)).block, (ad.add (K * 4)).off + 3, none⟩ = some (.int .u8 pk.a)) (by kernel_rfl) ⟨(FF.out.step X_0.out).b.cell 0, (FF.out.step X_0.out).b.cell 1, (FF.out.step X_0.out).b.cell 2, (CI.out wr X_0.out), (PX.out wr X_0.out).1, (PX.out wr X_0.out).2.1, (PX.out wr X_0.out).2.2.1, (PX.out wr X_0.out).2.2.2⟩ (fun hHeld => ?_)
                  clear hHeld
                  refine anyH_world (fun wz => Ext wr wz) (show Ext wr wr.drew from Below.drew (Ext.refl wr)) ?_
                  rintro w1 h
                  have X_1 := Lib.hid (X_0.out.trans h)
                  clear h X_0
                  have hHeld : w1.cell? ⟨w.heap.size, 0, none⟩ = some (.int .i64 (W : Int)) ∧ w1.cell? ⟨w.heap.size, 1, none⟩ = some (.int .i64 (H : Int)) ∧ w1.cell? ⟨w.heap.size, 2, none⟩ = some (.slice (some ad) N cap) ∧ w1.cell? ⟨ib, K, none⟩ = some (.bool false) ∧ w1.cell? (ad.add (K * 4)) = some (.int .u8 pk.r) ∧ w1.cell? ⟨(ad.add (K * 4)).block, (ad.add (K * 4)).off + 1, none⟩ = some (.int .u8 pk.g) ∧ w1.cell? ⟨(ad.add (K * 4)).block, (ad.add (K * 4)).off + 2, none⟩ = some (.int .u8 pk.b) ∧ w1.cell? ⟨(ad.add (K * 4)).block, (ad.add (K * 4)).off + 3, none⟩ = some (.int .u8 pk.a) := ⟨(FF.out.step X_1.out).b.cell 0, (FF.out.step X_1.out).b.cell 1, (FF.out.step X_1.out).b.cell 2, (CI.out w1 X_1.out), (PX.out w1 X_1.out).1, (PX.out w1 X_1.out).2.1, (PX.out w1 X_1.out).2.2.1, (PX.out w1 X_1.out).2.2.2⟩
                  refine wpAnyH_take (i := 0) (v := ?_) rfl (by kernel_rfl) (by kernel_rfl) (by kernel_rfl) (fun _ _ _ h => h) (Or.inl ⟨by kernel_rfl, ?_⟩) hHeld ?_
                  rotate_left
                  · intro w hSw
                    (try dsimp only at hSw)
                    go_split_ands
                    go_simp
                    (try with_reducible rfl)
                  try simp only [Act.put, List.getElem_toArray, List.getElem_cons_succ, List.getElem_cons_zero, List.setIfInBounds_toArray, List.set_cons_zero, List.set_cons_succ]
                  refine wpAnyH_take (i := 1) (v := ?_) rfl (by kernel_rfl) (by kernel_rfl) (by kernel_rfl) (fun _ _ _ h => h) (Or.inl ⟨by kernel_rfl, ?_⟩) hHeld ?_
                  rotate_left
                  · intro w hSw
                    (try dsimp only at hSw)
                    go_split_ands
                    go_simp
                    (try with_reducible rfl)
                  try simp only [Act.put, List.getElem_toArray, List.getElem_cons_succ, List.getElem_cons_zero, List.setIfInBounds_toArray, List.set_cons_zero, List.set_cons_succ]
                  refine wpAnyH_take (i := 2) (v := ?_) rfl (by kernel_rfl) (by kernel_rfl) (by kernel_rfl) (fun _ _ _ h => h) (Or.inl ⟨by kernel_rfl, ?_⟩) hHeld ?_
                  rotate_left
                  · intro w hSw
                    (try dsimp only at hSw)
                    go_split_ands
                    go_simp
                    (try with_reducible rfl)
                  try simp only [Act.put, List.getElem_toArray, List.getElem_cons_succ, List.getElem_cons_zero, List.setIfInBounds_toArray, List.set_cons_zero, List.set_cons_succ]
                  refine wpAnyH_take (i := 3) (v := ?_) rfl (by kernel_rfl) (by kernel_rfl) (by kernel_rfl) (fun _ _ _ h => h) (Or.inl ⟨by kernel_rfl, ?_⟩) hHeld ?_
                  rotate_left
                  · intro w hSw
                    (try dsimp only at hSw)
                    go_split_ands
                    go_simp
                    (try with_reducible rfl)
                  try simp only [Act.put, List.getElem_toArray, List.getElem_cons_succ, List.getElem_cons_zero, List.setIfInBounds_toArray, List.set_cons_zero, List.set_cons_succ]
                  refine wpAnyH_take (i := 4) (v := ?_) rfl (by kernel_rfl) (by kernel_rfl) (by kernel_rfl) (fun _ _ _ h => h) (Or.inl ⟨by kernel_rfl, ?_⟩) hHeld ?_
                  rotate_left
                  · intro w hSw
                    (try dsimp only at hSw)
                    go_split_ands
                    go_simp
                    (try with_reducible rfl)
                  try simp only [Act.put, List.getElem_toArray, List.getElem_cons_succ, List.getElem_cons_zero, List.setIfInBounds_toArray, List.set_cons_zero, List.set_cons_succ]
                  refine wpAnyH_take (i := 5) (v := ?_) rfl (by kernel_rfl) (by kernel_rfl) (by kernel_rfl) (fun _ _ _ h => h) (Or.inl ⟨by kernel_rfl, ?_⟩) hHeld ?_
                  rotate_left
                  · intro w hSw
                    (try dsimp only at hSw)
                    go_split_ands
                    go_simp
                    (try with_reducible rfl)
                  try simp only [Act.put, List.getElem_toArray, List.getElem_cons_succ, List.getElem_cons_zero, List.setIfInBounds_toArray, List.set_cons_zero, List.set_cons_succ]
                  refine wpAnyH_take (i := 6) (v := ?_) rfl (by kernel_rfl) (by kernel_rfl) (by kernel_rfl) (fun _ _ _ h => h) (Or.inl ⟨by kernel_rfl, ?_⟩) hHeld ?_
                  rotate_left
                  · intro w hSw
                    (try dsimp only at hSw)
                    go_split_ands
                    go_simp
                    (try with_reducible rfl)
                  try simp only [Act.put, List.getElem_toArray, List.getElem_cons_succ, List.getElem_cons_zero, List.setIfInBounds_toArray, List.set_cons_zero, List.set_cons_succ]
                  refine wpAnyH_take (i := 7) (v := ?_) rfl (by kernel_rfl) (by kernel_rfl) (by kernel_rfl) (fun _ _ _ h => h) (Or.inl ⟨by kernel_rfl, ?_⟩) hHeld ?_
                  rotate_left
                  · intro w hSw
                    (try dsimp only at hSw)
                    go_split_ands
                    go_simp
                    (try with_reducible rfl)
                  try simp only [Act.put, List.getElem_toArray, List.getElem_cons_succ, List.getElem_cons_zero, List.setIfInBounds_toArray, List.set_cons_zero, List.set_cons_succ]
                  refine wpAnyH_take (i := 8) (v := ?_) rfl (by kernel_rfl) (by kernel_rfl) (by kernel_rfl) (fun _ _ _ h => h) (Or.inl ⟨by kernel_rfl, ?_⟩) hHeld ?_
                  rotate_left
                  · intro w hSw
                    (try dsimp only at hSw)
                    go_split_ands
                    go_simp
                    (try with_reducible rfl)
                  try simp only [Act.put, List.getElem_toArray, List.getElem_cons_succ, List.getElem_cons_zero, List.setIfInBounds_toArray, List.set_cons_zero, List.set_cons_succ]
                  refine wpAnyH_take (i := 9) (v := ?_) rfl (by kernel_rfl) (by kernel_rfl) (by kernel_rfl) (fun _ _ _ h => h) (Or.inl ⟨by kernel_rfl, ?_⟩) hHeld ?_
                  rotate_left
                  · intro w hSw
                    (try dsimp only at hSw)
                    go_split_ands
                    go_simp
                    (try with_reducible rfl)
                  try simp only [Act.put, List.getElem_toArray, List.getElem_cons_succ, List.getElem_cons_zero, List.setIfInBounds_toArray, List.set_cons_zero, List.set_cons_succ]
                  refine wpAnyH_take (i := 10) (v := ?_) rfl (by kernel_rfl) (by kernel_rfl) (by kernel_rfl) (fun _ _ _ h => h) (Or.inl ⟨by kernel_rfl, ?_⟩) hHeld ?_
                  rotate_left
                  · intro w hSw
                    (try dsimp only at hSw)
                    go_split_ands
                    go_simp
                    (try with_reducible rfl)
                  try simp only [Act.put, List.getElem_toArray, List.getElem_cons_succ, List.getElem_cons_zero, List.setIfInBounds_toArray, List.set_cons_zero, List.set_cons_succ]
                  refine wpAnyH_take (i := 11) (v := ?_) rfl (by kernel_rfl) (by kernel_rfl) (by kernel_rfl) (fun _ _ _ h => h) (Or.inl ⟨by kernel_rfl, ?_⟩) hHeld ?_
                  rotate_left
                  · intro w hSw
                    (try dsimp only at hSw)
                    go_split_ands
                    go_simp
                    (try with_reducible rfl)
                  try simp only [Act.put, List.getElem_toArray, List.getElem_cons_succ, List.getElem_cons_zero, List.setIfInBounds_toArray, List.set_cons_zero, List.set_cons_succ]
                  refine wpAnyH_take (i := 12) (v := ?_) rfl (by kernel_rfl) (by kernel_rfl) (by kernel_rfl) (fun _ _ _ h => h) (Or.inl ⟨by kernel_rfl, ?_⟩) hHeld ?_
                  rotate_left
                  · intro w hSw
                    (try dsimp only at hSw)
                    go_split_ands
                    go_simp
                    (try with_reducible rfl)
                  try simp only [Act.put, List.getElem_toArray, List.getElem_cons_succ, List.getElem_cons_zero, List.setIfInBounds_toArray, List.set_cons_zero, List.set_cons_succ]
                  refine wpAnyH_ready (rs := [13]) (by kernel_rfl) (by simp) ?_
                  refine AllReadyH.cons rfl (fun KK hK => ?_) AllReadyH.nil
                  clear hHeld
                  go_simp
                  refine (HAT.out _ (FF.out.ext.trans X_1.out)).mono ?_
                  rintro e w2 ⟨rfl, h⟩
                  have X_2 := Lib.hid (X_1.out.trans h)
                  clear h X_1
                  go_simp
                  refine hK.out _ _ ⟨(FF.out.step X_2.out).b.cell 0, (FF.out.step X_2.out).b.cell 1, (FF.out.step X_2.out).b.cell 2, (CI.out w2 X_2.out), (PX.out w2 X_2.out).1, (PX.out w2 X_2.out).2.1, (PX.out w2 X_2.out).2.2.1, (PX.out w2 X_2.out).2.2.2⟩ (fun hHeld => ?_)
                  clear hK KK
                  try simp only [Act.put, List.getElem_toArray, List.getElem_cons_succ, List.getElem_cons_zero, List.setIfInBounds_toArray, List.set_cons_zero, List.set_cons_succ]
                  refine wpAnyH_take (i := 14) (v := ?_) rfl (by kernel_rfl) (by kernel_rfl) (by kernel_rfl) (fun _ _ _ h => h) (Or.inl ⟨by kernel_rfl, ?_⟩) hHeld ?_
                  rotate_left
                  · intro w hSw
                    (try dsimp only at hSw)
                    go_split_ands
                    go_simp
                    (try with_reducible rfl)
                  try simp only [Act.put, List.getElem_toArray, List.getElem_cons_succ, List.getElem_cons_zero, List.setIfInBounds_toArray, List.set_cons_zero, List.set_cons_succ]
                  refine wpAnyH_take (i := 15) (v := ?_) rfl (by kernel_rfl) (by kernel_rfl) (by kernel_rfl) (fun _ _ _ h => h) (Or.inl ⟨by kernel_rfl, ?_⟩) hHeld ?_
                  rotate_left
                  · intro w hSw
                    (try dsimp only at hSw)
                    go_split_ands
                    go_simp
                    (try with_reducible rfl)
                  try simp only [Act.put, List.getElem_toArray, List.getElem_cons_succ, List.getElem_cons_zero, List.setIfInBounds_toArray, List.set_cons_zero, List.set_cons_succ]
                  refine wpAnyH_done (by kernel_rfl) ?_ _
                  clear hHeld
                  clear CI PX
                  go_wp2_with fail
                  have HW3 := Lib.hid (HW2.out.next (.inr (.inl (fun h => by have := HOK.out.2 h; rw [hqq.out] at this; cases this))))
                  go_roundw
                  case rel => exact ⟨I, m, x + 1, by omega, rfl, by go_num, Lib.hid (FF.out.step X_2.out), HW3⟩
                  case measure => simp [intOf]; omega
                · have X_0 := Lib.hid (Ext.refl wr)
                  have CI : Hid (∀ wz, Ext wr wz → wz.cell? ⟨ib, K, none⟩ = some (.bool false)) := Lib.hid (fun wz hE => (((FF.out.step hE).at_ K hk).1).trans (by rw [hik.out]))
                  have PX : Hid (∀ wz, Ext wr wz → wz.cell? (ad.add (K * 4)) = some (.int .u8 pk.r) ∧ wz.cell? ⟨(ad.add (K * 4)).block, (ad.add (K * 4)).off + 1, none⟩ = some (.int .u8 pk.g) ∧ wz.cell? ⟨(ad.add (K * 4)).block, (ad.add (K * 4)).off + 2, none⟩ = some (.int .u8 pk.b) ∧ wz.cell? ⟨(ad.add (K * 4)).block, (ad.add (K * 4)).off + 3, none⟩ = some (.int .u8 pk.a)) := Lib.hid (fun wz hE => by
                    obtain ⟨a0, a1, a2, a3, _⟩ := (HX.out.ext (FF.out.ext.trans hE)).2 ad rfl K hk
                    rw [HPK.out] at a0 a1 a2 a3
                    exact ⟨a0, a1, a2, a3⟩)
                  clear b0 ci fi c0 c1 c2 c3 wa0 wb0 wa1 wb1 d0 MI
                  refine wp_region_held_drew (S := fun w' => w'.cell? ⟨w.heap.size, 0, none⟩ = some (.int .i64 (W : Int)) ∧ w'.cell? ⟨w.heap.size, 1, none⟩ = some (.int .i64 (H : Int)) ∧ w'.cell? ⟨w.heap.size, 2, none⟩ = some (.slice (some ad) N cap) ∧ w'.cell? ⟨ib, K, none⟩ = some (.bool false) ∧ w'.cell? (ad.add (K * 4)) = some (.int .u8 pk.r) ∧ w'.cell? ⟨(ad.add (K * 4)).block, (ad.add (K * 4)).off + 1, none⟩ = some (.int .u8 pk.g) ∧ w'.cell? ⟨(ad.add (K * 4)).block, (ad.add (K * 4)).off + 2, none⟩ = some (.int .u8 pk.b) ∧ w'.cell? ⟨(ad.add (K * 4)).block, (ad.add (K * 4)).off + 3, none⟩ = some (.int .u8 pk.a)) (by kernel_rfl) ⟨(FF.out.step X_0.out).b.cell 0, (FF.out.step X_0.out).b.cell 1, (FF.out.step X_0.out).b.cell 2, (CI.out wr X_0.out), (PX.out wr X_0.out).1, (PX.out wr X_0.out).2.1, (PX.out wr X_0.out).2.2.1, (PX.out wr X_0.out).2.2.2⟩ (fun hHeld => ?_)
                  clear hHeld
                  refine anyH_world (fun wz => Ext wr wz) (show Ext wr wr.drew from Below.drew (Ext.refl wr)) ?_
                  rintro w1 h
                  have X_1 := Lib.hid (X_0.out.trans h)
                  clear h X_0
                  have hHeld : w1.cell? ⟨w.heap.size, 0, none⟩ = some (.int .i64 (W : Int)) ∧ w1.cell? ⟨w.heap.size, 1, none⟩ = some (.int .i64 (H : Int)) ∧ w1.cell? ⟨w.heap.size, 2, none⟩ = some (.slice (some ad) N cap) ∧ w1.cell? ⟨ib, K, none⟩ = some (.bool false) ∧ w1.cell? (ad.add (K * 4)) = some (.int .u8 pk.r) ∧ w1.cell? ⟨(ad.add (K * 4)).block, (ad.add (K * 4)).off + 1, none⟩ = some (.int .u8 pk.g) ∧ w1.cell? ⟨(ad.add (K * 4)).block, (ad.add (K * 4)).off + 2, none⟩ = some (.int .u8 pk.b) ∧ w1.cell? ⟨(ad.add (K * 4)).block, (ad.add (K * 4)).off + 3, none⟩ = some (.int .u8 pk.a) := ⟨(FF.out.step X_1.out).b.cell 0, (FF.out.step X_1.out).b.cell 1, (FF.out.step X_1.out).b.cell 2, (CI.out w1 X_1.out), (PX.out w1 X_1.out).1, (PX.out w1 X_1.out).2.1, (PX.out w1 X_1.out).2.2.1, (PX.out w1 X_1.out).2.2.2⟩
                  refine wpAnyH_take (i := 0) (v := ?_) rfl (by kernel_rfl) (by kernel_rfl) (by kernel_rfl) (fun _ _ _ h => h) (Or.inl ⟨by kernel_rfl, ?_⟩) hHeld ?_
                  rotate_left
                  · intro w hSw
                    (try dsimp only at hSw)
                    go_split_ands
                    go_simp
                    (try with_reducible rfl)
                  try simp only [Act.put, List.getElem_toArray, List.getElem_cons_succ, List.getElem_cons_zero, List.setIfInBounds_toArray, List.set_cons_zero, List.set_cons_succ]
                  refine wpAnyH_take (i := 1) (v := ?_) rfl (by kernel_rfl) (by kernel_rfl) (by kernel_rfl) (fun _ _ _ h => h) (Or.inl ⟨by kernel_rfl, ?_⟩) hHeld ?_
                  rotate_left
                  · intro w hSw
                    (try dsimp only at hSw)
                    go_split_ands
                    go_simp
                    (try with_reducible rfl)
                  try simp only [Act.put, List.getElem_toArray, List.getElem_cons_succ, List.getElem_cons_zero, List.setIfInBounds_toArray, List.set_cons_zero, List.set_cons_succ]
                  refine wpAnyH_take (i := 2) (v := ?_) rfl (by kernel_rfl) (by kernel_rfl) (by kernel_rfl) (fun _ _ _ h => h) (Or.inl ⟨by kernel_rfl, ?_⟩) hHeld ?_
                  rotate_left
                  · intro w hSw
                    (try dsimp only at hSw)
                    go_split_ands
                    go_simp
                    (try with_reducible rfl)
                  try simp only [Act.put, List.getElem_toArray, List.getElem_cons_succ, List.getElem_cons_zero, List.setIfInBounds_toArray, List.set_cons_zero, List.set_cons_succ]
                  refine wpAnyH_take (i := 3) (v := ?_) rfl (by kernel_rfl) (by kernel_rfl) (by kernel_rfl) (fun _ _ _ h => h) (Or.inl ⟨by kernel_rfl, ?_⟩) hHeld ?_
                  rotate_left
                  · intro w hSw
                    (try dsimp only at hSw)
                    go_split_ands
                    go_simp
                    (try with_reducible rfl)
                  try simp only [Act.put, List.getElem_toArray, List.getElem_cons_succ, List.getElem_cons_zero, List.setIfInBounds_toArray, List.set_cons_zero, List.set_cons_succ]
                  refine wpAnyH_take (i := 4) (v := ?_) rfl (by kernel_rfl) (by kernel_rfl) (by kernel_rfl) (fun _ _ _ h => h) (Or.inl ⟨by kernel_rfl, ?_⟩) hHeld ?_
                  rotate_left
                  · intro w hSw
                    (try dsimp only at hSw)
                    go_split_ands
                    go_simp
                    (try with_reducible rfl)
                  try simp only [Act.put, List.getElem_toArray, List.getElem_cons_succ, List.getElem_cons_zero, List.setIfInBounds_toArray, List.set_cons_zero, List.set_cons_succ]
                  refine wpAnyH_take (i := 5) (v := ?_) rfl (by kernel_rfl) (by kernel_rfl) (by kernel_rfl) (fun _ _ _ h => h) (Or.inl ⟨by kernel_rfl, ?_⟩) hHeld ?_
                  rotate_left
                  · intro w hSw
                    (try dsimp only at hSw)
                    go_split_ands
                    go_simp
                    (try with_reducible rfl)
                  try simp only [Act.put, List.getElem_toArray, List.getElem_cons_succ, List.getElem_cons_zero, List.setIfInBounds_toArray, List.set_cons_zero, List.set_cons_succ]
                  refine wpAnyH_take (i := 6) (v := ?_) rfl (by kernel_rfl) (by kernel_rfl) (by kernel_rfl) (fun _ _ _ h => h) (Or.inl ⟨by kernel_rfl, ?_⟩) hHeld ?_
                  rotate_left
                  · intro w hSw
                    (try dsimp only at hSw)
                    go_split_ands
                    go_simp
                    (try with_reducible rfl)
                  try simp only [Act.put, List.getElem_toArray, List.getElem_cons_succ, List.getElem_cons_zero, List.setIfInBounds_toArray, List.set_cons_zero, List.set_cons_succ]
                  refine wpAnyH_take (i := 7) (v := ?_) rfl (by kernel_rfl) (by kernel_rfl) (by kernel_rfl) (fun _ _ _ h => h) (Or.inl ⟨by kernel_rfl, ?_⟩) hHeld ?_
                  rotate_left
                  · intro w hSw
                    (try dsimp only at hSw)
                    go_split_ands
                    go_simp
                    (try with_reducible rfl)
                  try simp only [Act.put, List.getElem_toArray, List.getElem_cons_succ, List.getElem_cons_zero, List.setIfInBounds_toArray, List.set_cons_zero, List.set_cons_succ]
                  refine wpAnyH_take (i := 8) (v := ?_) rfl (by kernel_rfl) (by kernel_rfl) (by kernel_rfl) (fun _ _ _ h => h) (Or.inl ⟨by kernel_rfl, ?_⟩) hHeld ?_
                  rotate_left
                  · intro w hSw
                    (try dsimp only at hSw)
                    go_split_ands
                    go_simp
                    (try with_reducible rfl)
                  try simp only [Act.put, List.getElem_toArray, List.getElem_cons_succ, List.getElem_cons_zero, List.setIfInBounds_toArray, List.set_cons_zero, List.set_cons_succ]
                  refine wpAnyH_take (i := 9) (v := ?_) rfl (by kernel_rfl) (by kernel_rfl) (by kernel_rfl) (fun _ _ _ h => h) (Or.inl ⟨by kernel_rfl, ?_⟩) hHeld ?_
                  rotate_left
                  · intro w hSw
                    (try dsimp only at hSw)
                    go_split_ands
                    go_simp
                    (try with_reducible rfl)
                  try simp only [Act.put, List.getElem_toArray, List.getElem_cons_succ, List.getElem_cons_zero, List.setIfInBounds_toArray, List.set_cons_zero, List.set_cons_succ]
                  refine wpAnyH_take (i := 10) (v := ?_) rfl (by kernel_rfl) (by kernel_rfl) (by kernel_rfl) (fun _ _ _ h => h) (Or.inl ⟨by kernel_rfl, ?_⟩) hHeld ?_
                  rotate_left
                  · intro w hSw
                    (try dsimp only at hSw)
                    go_split_ands
                    go_simp
                    (try with_reducible rfl)
                  try simp only [Act.put, List.getElem_toArray, List.getElem_cons_succ, List.getElem_cons_zero, List.setIfInBounds_toArray, List.set_cons_zero, List.set_cons_succ]
                  refine wpAnyH_take (i := 11) (v := ?_) rfl (by kernel_rfl) (by kernel_rfl) (by kernel_rfl) (fun _ _ _ h => h) (Or.inl ⟨by kernel_rfl, ?_⟩) hHeld ?_
                  rotate_left
                  · intro w hSw
                    (try dsimp only at hSw)
                    go_split_ands
                    go_simp
                    (try with_reducible rfl)
                  try simp only [Act.put, List.getElem_toArray, List.getElem_cons_succ, List.getElem_cons_zero, List.setIfInBounds_toArray, List.set_cons_zero, List.set_cons_succ]
                  refine wpAnyH_take (i := 12) (v := ?_) rfl (by kernel_rfl) (by kernel_rfl) (by kernel_rfl) (fun _ _ _ h => h) (Or.inl ⟨by kernel_rfl, ?_⟩) hHeld ?_
                  rotate_left
                  · intro w hSw
                    (try dsimp only at hSw)
                    go_split_ands
                    go_simp
                    (try with_reducible rfl)
                  try simp only [Act.put, List.getElem_toArray, List.getElem_cons_succ, List.getElem_cons_zero, List.setIfInBounds_toArray, List.set_cons_zero, List.set_cons_succ]
                  refine wpAnyH_ready (rs := [13]) (by kernel_rfl) (by simp) ?_
                  refine AllReadyH.cons rfl (fun KK hK => ?_) AllReadyH.nil
                  clear hHeld
                  go_simp
                  refine (HAT.out _ (FF.out.ext.trans X_1.out)).mono ?_
                  rintro e w2 ⟨rfl, h⟩
                  have X_2 := Lib.hid (X_1.out.trans h)
                  clear h X_1
                  go_simp
                  refine hK.out _ _ ⟨(FF.out.step X_2.out).b.cell 0, (FF.out.step X_2.out).b.cell 1, (FF.out.step X_2.out).b.cell 2, (CI.out w2 X_2.out), (PX.out w2 X_2.out).1, (PX.out w2 X_2.out).2.1, (PX.out w2 X_2.out).2.2.1, (PX.out w2 X_2.out).2.2.2⟩ (fun hHeld => ?_)
                  clear hK KK
                  try simp only [Act.put, List.getElem_toArray, List.getElem_cons_succ, List.getElem_cons_zero, List.setIfInBounds_toArray, List.set_cons_zero, List.set_cons_succ]
                  refine wpAnyH_take (i := 14) (v := ?_) rfl (by kernel_rfl) (by kernel_rfl) (by kernel_rfl) (fun _ _ _ h => h) (Or.inl ⟨by kernel_rfl, ?_⟩) hHeld ?_
                  rotate_left
                  · intro w hSw
                    (try dsimp only at hSw)
                    go_split_ands
                    go_simp
                    (try with_reducible rfl)
                  try simp only [Act.put, List.getElem_toArray, List.getElem_cons_succ, List.getElem_cons_zero, List.setIfInBounds_toArray, List.set_cons_zero, List.set_cons_succ]
                  refine wpAnyH_take (i := 15) (v := ?_) rfl (by kernel_rfl) (by kernel_rfl) (by kernel_rfl) (fun _ _ _ h => h) (Or.inl ⟨by kernel_rfl, ?_⟩) hHeld ?_
                  rotate_left
                  · intro w hSw
                    (try dsimp only at hSw)
                    go_split_ands
                    go_simp
                    (try with_reducible rfl)
                  try simp only [Act.put, List.getElem_toArray, List.getElem_cons_succ, List.getElem_cons_zero, List.setIfInBounds_toArray, List.set_cons_zero, List.set_cons_succ]
                  refine wpAnyH_done (by kernel_rfl) ?_ _
                  clear hHeld
                  clear CI PX
                  go_upto_region 14 with fail
                  have F4 := Lib.hid (FF.out.step X_2.out)
                  obtain ⟨v, hv⟩ : ∃ v, w2 = v := ⟨_, rfl⟩
                  rw [hv] at F4 ⊢
                  clear hv FF PN
                  have B0 := F4.out.b.cell 0
                  have B1 := F4.out.b.cell 1
                  obtain ⟨nh, hnh⟩ : ∃ z, z = ((decide (0 < x) && I (y * W + (x - 1))) || (decide (x + 1 < W) && I (y * W + (x + 1)))) := ⟨_, rfl⟩
                  obtain ⟨nb, hnb⟩ : ∃ z, z = ((nh || (decide (0 < y) && I ((y - 1) * W + x))) || (decide (y + 1 < H) && I ((y + 1) * W + x))) := ⟨_, rfl⟩
                  have HNB : Hid (Fl.nearB W H I x y = nb) := Lib.hid (by rw [hnb, hnh]; rfl)
                  have NH := Lib.hid hnh
                  have NB := Lib.hid hnb
                  clear hnh hnb
                  go_cut [14] (fun s14 wx => s14 = .bool nh ∧ Hid (FI w wx W H N ad cap ib c I))
                  case first =>
                    by_cases t1 : 0 < x
                    · obtain ⟨Kl, hKl⟩ : ∃ k, y * W + (x - 1) = k := ⟨_, rfl⟩
                      have gKl : Kl + 1 = K := by have := hMM.out; have := hKK.out; omega
                      have lKl : Kl < N := by omega
                      have dKl : (K : Int) - 1 = (Kl : Int) := by omega
                      obtain ⟨cKl, fKl⟩ := F4.out.at_ Kl lKl
                      have hhKl := Lib.hid hKl
                      clear hKl gKl fKl
                      have WP_Kl := Lib.hid (wrap_n Kl (Nat.le_trans (Nat.le_of_lt lKl) (Nat.le_trans hNl (by decide))))
                      have T1 := Lib.hid t1
                      cases hb : I Kl
                      all_goals (rw [hb] at cKl; have HA_ := Lib.hid hb; clear hb)
                      · by_cases tt : x + 1 < W
                        · obtain ⟨Kr, hKr⟩ : ∃ k, y * W + (x + 1) = k := ⟨_, rfl⟩
                          have gKr : K + 1 = Kr := by have := hMM.out; have := hKK.out; omega
                          have lKr : Kr < N := by rw [← hKr, ← HN.out]; exact mul_lt_of hlt tt
                          have dKr : (K : Int) + 1 = (Kr : Int) := by omega
                          obtain ⟨cKr, fKr⟩ := F4.out.at_ Kr lKr
                          have hhKr := Lib.hid hKr
                          clear hKr gKr fKr
                          obtain ⟨xx, hxx⟩ : ∃ z : Nat, x + 1 = z := ⟨_, rfl⟩
                          have dx : (x : Int) + 1 = (xx : Int) := by omega
                          have hxl : xx ≤ 256 := by omega
                          have t2 : (xx : Int) < (W : Int) := by omega
                          have WP_xx := Lib.hid (wrap_n xx (Nat.le_trans hxl (by decide)))
                          have WP_Kr := Lib.hid (wrap_n Kr (Nat.le_trans (Nat.le_of_lt lKr) (Nat.le_trans hNl (by decide))))
                          have TT := Lib.hid tt
                          clear tt hxx
                          obtain ⟨waxx, wbxx⟩ := WP_xx.out
                          obtain ⟨waKr, wbKr⟩ := WP_Kr.out
                          obtain ⟨waKl, wbKl⟩ := WP_Kl.out
                          cases hb : I Kr
                          all_goals (rw [hb] at cKr; have HB := Lib.hid hb; clear hb; go_wp2_with fail; go_meet; exact ⟨congrArg Value.bool (by rw [NH.out, hhKr.out, HB.out]; simp [TT.out, T1.out, hhKl.out, HA_.out]), F4⟩)
                        · obtain ⟨xx, hxx⟩ : ∃ z : Nat, x + 1 = z := ⟨_, rfl⟩
                          have dx : (x : Int) + 1 = (xx : Int) := by omega
                          have hxl : xx ≤ 256 := by omega
                          have t2 : ¬ (xx : Int) < (W : Int) := by omega
                          have WP_xx := Lib.hid (wrap_n xx (Nat.le_trans hxl (by decide)))
                          have TT := Lib.hid tt
                          clear tt hxx
                          obtain ⟨waxx, wbxx⟩ := WP_xx.out
                          obtain ⟨waKl, wbKl⟩ := WP_Kl.out
                          go_wp2_with fail
                          go_meet
                          exact ⟨congrArg Value.bool (by rw [NH.out]; simp [TT.out, T1.out, hhKl.out, HA_.out]), F4⟩
                      · obtain ⟨waKl, wbKl⟩ := WP_Kl.out
                        go_wp2_with fail
                        go_meet
                        exact ⟨congrArg Value.bool (by rw [NH.out, hhKl.out, HA_.out]; simp [T1.out]), F4⟩
                    · have T1 := Lib.hid t1
                      by_cases tt : x + 1 < W
                      · obtain ⟨Kr, hKr⟩ : ∃ k, y * W + (x + 1) = k := ⟨_, rfl⟩
                        have gKr : K + 1 = Kr := by have := hMM.out; have := hKK.out; omega
                        have lKr : Kr < N := by rw [← hKr, ← HN.out]; exact mul_lt_of hlt tt
                        have dKr : (K : Int) + 1 = (Kr : Int) := by omega
                        obtain ⟨cKr, fKr⟩ := F4.out.at_ Kr lKr
                        have hhKr := Lib.hid hKr
                        clear hKr gKr fKr
                        obtain ⟨xx, hxx⟩ : ∃ z : Nat, x + 1 = z := ⟨_, rfl⟩
                        have dx : (x : Int) + 1 = (xx : Int) := by omega
                        have hxl : xx ≤ 256 := by omega
                        have t2 : (xx : Int) < (W : Int) := by omega
                        have WP_xx := Lib.hid (wrap_n xx (Nat.le_trans hxl (by decide)))
                        have WP_Kr := Lib.hid (wrap_n Kr (Nat.le_trans (Nat.le_of_lt lKr) (Nat.le_trans hNl (by decide))))
                        have TT := Lib.hid tt
                        clear tt hxx
                        obtain ⟨waxx, wbxx⟩ := WP_xx.out
                        obtain ⟨waKr, wbKr⟩ := WP_Kr.out
                        cases hb : I Kr
                        all_goals (rw [hb] at cKr; have HB := Lib.hid hb; clear hb; go_wp2_with fail; go_meet; exact ⟨congrArg Value.bool (by rw [NH.out, hhKr.out, HB.out]; simp [TT.out, T1.out]), F4⟩)
                      · obtain ⟨xx, hxx⟩ : ∃ z : Nat, x + 1 = z := ⟨_, rfl⟩
                        have dx : (x : Int) + 1 = (xx : Int) := by omega
                        have hxl : xx ≤ 256 := by omega
                        have t2 : ¬ (xx : Int) < (W : Int) := by omega
                        have WP_xx := Lib.hid (wrap_n xx (Nat.le_trans hxl (by decide)))
                        have TT := Lib.hid tt
                        clear tt hxx
                        obtain ⟨waxx, wbxx⟩ := WP_xx.out
                        go_wp2_with fail
                        go_meet
                        exact ⟨congrArg Value.bool (by rw [NH.out]; simp [TT.out, T1.out]), F4⟩
                  case rest =>
                    clear F4 B0 B1
                    obtain ⟨rfl, F5⟩ := hcut
                    have B0 := F5.out.b.cell 0
                    have B1 := F5.out.b.cell 1
                    go_upto_region 15 with fail
                    go_cut [14] (fun s14 wx => s14 = .bool nb ∧ Hid (FI w wx W H N ad cap ib c I))
                    case first =>
                      cases hnn : nh
                      all_goals (have HN1 := Lib.hid hnn; clear hnn)
                      · by_cases t1 : 0 < y
                        · obtain ⟨Ku, hKu⟩ : ∃ k, (y - 1) * W + x = k := ⟨_, rfl⟩
                          have eKu : (y - 1) * W + W = y * W := by rw [← Nat.succ_mul]; congr 1; omega
                          have gKu : Ku + W = K := by have := hMM.out; have := hKK.out; omega
                          clear eKu
                          have lKu : Ku < N := by omega
                          have dKu : (K : Int) - (W : Int) = (Ku : Int) := by omega
                          obtain ⟨cKu, fKu⟩ := F5.out.at_ Ku lKu
                          have hhKu := Lib.hid hKu
                          clear hKu gKu fKu
                          have WP_Ku := Lib.hid (wrap_n Ku (Nat.le_trans (Nat.le_of_lt lKu) (Nat.le_trans hNl (by decide))))
                          have T1 := Lib.hid t1
                          cases hb : I Ku
                          all_goals (rw [hb] at cKu; have HA_ := Lib.hid hb; clear hb)
                          · by_cases tt : y + 1 < H
                            · obtain ⟨Kd, hKd⟩ : ∃ k, (y + 1) * W + x = k := ⟨_, rfl⟩
                              have gKd : K + W = Kd := by have := hMM.out; have := hKK.out; have e : (y + 1) * W = y * W + W := Nat.succ_mul y W; omega
                              have lKd : Kd < N := by rw [← hKd, ← HN.out]; exact mul_lt_of tt hlx
                              have dKd : (K : Int) + (W : Int) = (Kd : Int) := by omega
                              obtain ⟨cKd, fKd⟩ := F5.out.at_ Kd lKd
                              have hhKd := Lib.hid hKd
                              clear hKd gKd fKd
                              obtain ⟨xx, hxx⟩ : ∃ z : Nat, y + 1 = z := ⟨_, rfl⟩
                              have dx : (y : Int) + 1 = (xx : Int) := by omega
                              have hxl : xx ≤ 256 := by omega
                              have t2 : (xx : Int) < (H : Int) := by omega
                              have WP_xx := Lib.hid (wrap_n xx (Nat.le_trans hxl (by decide)))
                              have WP_Kd := Lib.hid (wrap_n Kd (Nat.le_trans (Nat.le_of_lt lKd) (Nat.le_trans hNl (by decide))))
                              have TT := Lib.hid tt
                              clear tt hxx
                              obtain ⟨waxx, wbxx⟩ := WP_xx.out
                              obtain ⟨waKd, wbKd⟩ := WP_Kd.out
                              obtain ⟨waKu, wbKu⟩ := WP_Ku.out
                              cases hb : I Kd
                              all_goals (rw [hb] at cKd; have HB := Lib.hid hb; clear hb; go_wp2_with fail; go_meet; exact ⟨congrArg Value.bool (by rw [NB.out, hhKd.out, HB.out]; simp [TT.out, T1.out, hhKu.out, HA_.out, HN1.out]), F5⟩)
                            · obtain ⟨xx, hxx⟩ : ∃ z : Nat, y + 1 = z := ⟨_, rfl⟩
                              have dx : (y : Int) + 1 = (xx : Int) := by omega
                              have hxl : xx ≤ 256 := by omega
                              have t2 : ¬ (xx : Int) < (H : Int) := by omega
                              have WP_xx := Lib.hid (wrap_n xx (Nat.le_trans hxl (by decide)))
                              have TT := Lib.hid tt
                              clear tt hxx
                              obtain ⟨waxx, wbxx⟩ := WP_xx.out
                              obtain ⟨waKu, wbKu⟩ := WP_Ku.out
                              go_wp2_with fail
                              go_meet
                              exact ⟨congrArg Value.bool (by rw [NB.out]; simp [TT.out, T1.out, hhKu.out, HA_.out, HN1.out]), F5⟩
                          · obtain ⟨waKu, wbKu⟩ := WP_Ku.out
                            go_wp2_with fail
                            go_meet
                            exact ⟨congrArg Value.bool (by rw [NB.out, hhKu.out, HA_.out]; simp [T1.out]), F5⟩
                        · have T1 := Lib.hid t1
                          by_cases tt : y + 1 < H
                          · obtain ⟨Kd, hKd⟩ : ∃ k, (y + 1) * W + x = k := ⟨_, rfl⟩
                            have gKd : K + W = Kd := by have := hMM.out; have := hKK.out; have e : (y + 1) * W = y * W + W := Nat.succ_mul y W; omega
                            have lKd : Kd < N := by rw [← hKd, ← HN.out]; exact mul_lt_of tt hlx
                            have dKd : (K : Int) + (W : Int) = (Kd : Int) := by omega
                            obtain ⟨cKd, fKd⟩ := F5.out.at_ Kd lKd
                            have hhKd := Lib.hid hKd
                            clear hKd gKd fKd
                            obtain ⟨xx, hxx⟩ : ∃ z : Nat, y + 1 = z := ⟨_, rfl⟩
                            have dx : (y : Int) + 1 = (xx : Int) := by omega
                            have hxl : xx ≤ 256 := by omega
                            have t2 : (xx : Int) < (H : Int) := by omega
                            have WP_xx := Lib.hid (wrap_n xx (Nat.le_trans hxl (by decide)))
                            have WP_Kd := Lib.hid (wrap_n Kd (Nat.le_trans (Nat.le_of_lt lKd) (Nat.le_trans hNl (by decide))))
                            have TT := Lib.hid tt
                            clear tt hxx
                            obtain ⟨waxx, wbxx⟩ := WP_xx.out
                            obtain ⟨waKd, wbKd⟩ := WP_Kd.out
                            cases hb : I Kd
                            all_goals (rw [hb] at cKd; have HB := Lib.hid hb; clear hb; go_wp2_with fail; go_meet; exact ⟨congrArg Value.bool (by rw [NB.out, hhKd.out, HB.out]; simp [TT.out, T1.out, HN1.out]), F5⟩)
                          · obtain ⟨xx, hxx⟩ : ∃ z : Nat, y + 1 = z := ⟨_, rfl⟩
                            have dx : (y : Int) + 1 = (xx : Int) := by omega
                            have hxl : xx ≤ 256 := by omega
                            have t2 : ¬ (xx : Int) < (H : Int) := by omega
                            have WP_xx := Lib.hid (wrap_n xx (Nat.le_trans hxl (by decide)))
                            have TT := Lib.hid tt
                            clear tt hxx
                            obtain ⟨waxx, wbxx⟩ := WP_xx.out
                            go_wp2_with fail
                            go_meet
                            exact ⟨congrArg Value.bool (by rw [NB.out]; simp [TT.out, T1.out, HN1.out]), F5⟩
                      · go_wp2_with fail
                        go_meet
                        exact ⟨congrArg Value.bool (by rw [NB.out, HN1.out]; simp), F5⟩
                    case rest =>
                      clear F5 B0 B1
                      obtain ⟨rfl, F6⟩ := hcut
                      cases hnn : nb
                      · rw [hnn] at HNB
                        have HW3 := Lib.hid (HW2.out.next (.inr (.inr HNB.out)))
                        clear hnn
                        go_wp2_with fail
                        go_roundw
                        case rel => exact ⟨I, m, x + 1, by omega, rfl, by go_num, F6, HW3⟩
                        case measure => simp [intOf]; omega
                      · rw [hnn] at HNB
                        have HW3 := Lib.hid (HW2.out.put hlx hlt (HOK.out.1 hqq.out) (by rw [HIK.out, hik.out]) HNB.out)
                        rw [hMM.out, hKK.out] at HW3
                        have F7 := Lib.hid (F6.out.set K hk)
                        clear hnn
                        obtain ⟨ci, fi⟩ := F6.out.at_ K hk
                        clear F6
                        go_wp2_with fail
                        go_roundw
                        case rel => exact ⟨Fl.setF I K, true, x + 1, by omega, rfl, by go_num, F7, HW3⟩
                        case measure => simp [intOf]; omega
              · go_wp2_with fail
                have X_0 := Lib.hid (Ext.refl wr)
                have CI : Hid (∀ wz, Ext wr wz → wz.cell? ⟨ib, K, none⟩ = some (.bool true)) := Lib.hid (fun wz hE => (((FF.out.step hE).at_ K hk).1).trans (by rw [hik.out]))
                have PX : Hid (∀ wz, Ext wr wz → wz.cell? (ad.add (K * 4)) = some (.int .u8 pk.r) ∧ wz.cell? ⟨(ad.add (K * 4)).block, (ad.add (K * 4)).off + 1, none⟩ = some (.int .u8 pk.g) ∧ wz.cell? ⟨(ad.add (K * 4)).block, (ad.add (K * 4)).off + 2, none⟩ = some (.int .u8 pk.b) ∧ wz.cell? ⟨(ad.add (K * 4)).block, (ad.add (K * 4)).off + 3, none⟩ = some (.int .u8 pk.a)) := Lib.hid (fun wz hE => by
                  obtain ⟨a0, a1, a2, a3, _⟩ := (HX.out.ext (FF.out.ext.trans hE)).2 ad rfl K hk
                  rw [HPK.out] at a0 a1 a2 a3
                  exact ⟨a0, a1, a2, a3⟩)
                clear b0 ci fi c0 c1 c2 c3 wa0 wb0 wa1 wb1 d0 MI
                refine wp_region_held_drew (S := fun w' => w'.cell? ⟨w.heap.size, 0, none⟩ = some (.int .i64 (W : Int)) ∧ w'.cell? ⟨w.heap.size, 1, none⟩ = some (.int .i64 (H : Int)) ∧ w'.cell? ⟨w.heap.size, 2, none⟩ = some (.slice (some ad) N cap) ∧ w'.cell? ⟨ib, K, none⟩ = some (.bool true) ∧ w'.cell? (ad.add (K * 4)) = some (.int .u8 pk.r) ∧ w'.cell? ⟨(ad.add (K * 4)).block, (ad.add (K * 4)).off + 1, none⟩ = some (.int .u8 pk.g) ∧ w'.cell? ⟨(ad.add (K * 4)).block, (ad.add (K * 4)).off + 2, none⟩ = some (.int .u8 pk.b) ∧ w'.cell? ⟨(ad.add (K * 4)).block, (ad.add (K * 4)).off + 3, none⟩ = some (.int .u8 pk.a)) (by kernel_rfl) ⟨(FF.out.step X_0.out).b.cell 0, (FF.out.step X_0.out).b.cell 1, (FF.out.step X_0.out).b.cell 2, (CI.out wr X_0.out), (PX.out wr X_0.out).1, (PX.out wr X_0.out).2.1, (PX.out wr X_0.out).2.2.1, (PX.out wr X_0.out).2.2.2⟩ (fun hHeld => ?_)
                clear hHeld
                refine anyH_world (fun wz => Ext wr wz) (show Ext wr wr.drew from Below.drew (Ext.refl wr)) ?_
                rintro w1 h
                have X_1 := Lib.hid (X_0.out.trans h)
                clear h X_0
                have hHeld : w1.cell? ⟨w.heap.size, 0, none⟩ = some (.int .i64 (W : Int)) ∧ w1.cell? ⟨w.heap.size, 1, none⟩ = some (.int .i64 (H : Int)) ∧ w1.cell? ⟨w.heap.size, 2, none⟩ = some (.slice (some ad) N cap) ∧ w1.cell? ⟨ib, K, none⟩ = some (.bool true) ∧ w1.cell? (ad.add (K * 4)) = some (.int .u8 pk.r) ∧ w1.cell? ⟨(ad.add (K * 4)).block, (ad.add (K * 4)).off + 1, none⟩ = some (.int .u8 pk.g) ∧ w1.cell? ⟨(ad.add (K * 4)).block, (ad.add (K * 4)).off + 2, none⟩ = some (.int .u8 pk.b) ∧ w1.cell? ⟨(ad.add (K * 4)).block, (ad.add (K * 4)).off + 3, none⟩ = some (.int .u8 pk.a) := ⟨(FF.out.step X_1.out).b.cell 0, (FF.out.step X_1.out).b.cell 1, (FF.out.step X_1.out).b.cell 2, (CI.out w1 X_1.out), (PX.out w1 X_1.out).1, (PX.out w1 X_1.out).2.1, (PX.out w1 X_1.out).2.2.1, (PX.out w1 X_1.out).2.2.2⟩
                refine wpAnyH_take (i := 0) (v := ?_) rfl (by kernel_rfl) (by kernel_rfl) (by kernel_rfl) (fun _ _ _ h => h) (Or.inl ⟨by kernel_rfl, ?_⟩) hHeld ?_
                rotate_left
                · intro w hSw
                  (try dsimp only at hSw)
                  go_split_ands
                  go_simp
                  (try with_reducible rfl)
                try simp only [Act.put, List.getElem_toArray, List.getElem_cons_succ, List.getElem_cons_zero, List.setIfInBounds_toArray, List.set_cons_zero, List.set_cons_succ]
                refine wpAnyH_take (i := 1) (v := ?_) rfl (by kernel_rfl) (by kernel_rfl) (by kernel_rfl) (fun _ _ _ h => h) (Or.inl ⟨by kernel_rfl, ?_⟩) hHeld ?_
                rotate_left
                · intro w hSw
                  (try dsimp only at hSw)
                  go_split_ands
                  go_simp
                  (try with_reducible rfl)
                try simp only [Act.put, List.getElem_toArray, List.getElem_cons_succ, List.getElem_cons_zero, List.setIfInBounds_toArray, List.set_cons_zero, List.set_cons_succ]
                refine wpAnyH_take (i := 2) (v := ?_) rfl (by kernel_rfl) (by kernel_rfl) (by kernel_rfl) (fun _ _ _ h => h) (Or.inl ⟨by kernel_rfl, ?_⟩) hHeld ?_
                rotate_left
                · intro w hSw
                  (try dsimp only at hSw)
                  go_split_ands
                  go_simp
                  (try with_reducible rfl)
                try simp only [Act.put, List.getElem_toArray, List.getElem_cons_succ, List.getElem_cons_zero, List.setIfInBounds_toArray, List.set_cons_zero, List.set_cons_succ]
                refine wpAnyH_take (i := 3) (v := ?_) rfl (by kernel_rfl) (by kernel_rfl) (by kernel_rfl) (fun _ _ _ h => h) (Or.inl ⟨by kernel_rfl, ?_⟩) hHeld ?_
                rotate_left
                · intro w hSw
                  (try dsimp only at hSw)
                  go_split_ands
                  go_simp
                  (try with_reducible rfl)
                try simp only [Act.put, List.getElem_toArray, List.getElem_cons_succ, List.getElem_cons_zero, List.setIfInBounds_toArray, List.set_cons_zero, List.set_cons_succ]
                refine wpAnyH_take (i := 4) (v := ?_) rfl (by kernel_rfl) (by kernel_rfl) (by kernel_rfl) (fun _ _ _ h => h) (Or.inl ⟨by kernel_rfl, ?_⟩) hHeld ?_
                rotate_left
                · intro w hSw
                  (try dsimp only at hSw)
                  go_split_ands
                  go_simp
                  (try with_reducible rfl)
                try simp only [Act.put, List.getElem_toArray, List.getElem_cons_succ, List.getElem_cons_zero, List.setIfInBounds_toArray, List.set_cons_zero, List.set_cons_succ]
                refine wpAnyH_take (i := 5) (v := undef) rfl (by kernel_rfl) (by kernel_rfl) (by kernel_rfl) (fun _ _ _ h => h) (Or.inr ⟨by kernel_rfl, rfl⟩) hHeld ?_
                try simp only [Act.put, List.getElem_toArray, List.getElem_cons_succ, List.getElem_cons_zero, List.setIfInBounds_toArray, List.set_cons_zero, List.set_cons_succ]
                refine wpAnyH_take (i := 6) (v := undef) rfl (by kernel_rfl) (by kernel_rfl) (by kernel_rfl) (fun _ _ _ h => h) (Or.inr ⟨by kernel_rfl, rfl⟩) hHeld ?_
                try simp only [Act.put, List.getElem_toArray, List.getElem_cons_succ, List.getElem_cons_zero, List.setIfInBounds_toArray, List.set_cons_zero, List.set_cons_succ]
                refine wpAnyH_take (i := 7) (v := undef) rfl (by kernel_rfl) (by kernel_rfl) (by kernel_rfl) (fun _ _ _ h => h) (Or.inr ⟨by kernel_rfl, rfl⟩) hHeld ?_
                try simp only [Act.put, List.getElem_toArray, List.getElem_cons_succ, List.getElem_cons_zero, List.setIfInBounds_toArray, List.set_cons_zero, List.set_cons_succ]
                refine wpAnyH_take (i := 8) (v := undef) rfl (by kernel_rfl) (by kernel_rfl) (by kernel_rfl) (fun _ _ _ h => h) (Or.inr ⟨by kernel_rfl, rfl⟩) hHeld ?_
                try simp only [Act.put, List.getElem_toArray, List.getElem_cons_succ, List.getElem_cons_zero, List.setIfInBounds_toArray, List.set_cons_zero, List.set_cons_succ]
                refine wpAnyH_take (i := 9) (v := undef) rfl (by kernel_rfl) (by kernel_rfl) (by kernel_rfl) (fun _ _ _ h => h) (Or.inr ⟨by kernel_rfl, rfl⟩) hHeld ?_
                try simp only [Act.put, List.getElem_toArray, List.getElem_cons_succ, List.getElem_cons_zero, List.setIfInBounds_toArray, List.set_cons_zero, List.set_cons_succ]
                refine wpAnyH_take (i := 10) (v := undef) rfl (by kernel_rfl) (by kernel_rfl) (by kernel_rfl) (fun _ _ _ h => h) (Or.inr ⟨by kernel_rfl, rfl⟩) hHeld ?_
                try simp only [Act.put, List.getElem_toArray, List.getElem_cons_succ, List.getElem_cons_zero, List.setIfInBounds_toArray, List.set_cons_zero, List.set_cons_succ]
                refine wpAnyH_take (i := 11) (v := undef) rfl (by kernel_rfl) (by kernel_rfl) (by kernel_rfl) (fun _ _ _ h => h) (Or.inr ⟨by kernel_rfl, rfl⟩) hHeld ?_
                try simp only [Act.put, List.getElem_toArray, List.getElem_cons_succ, List.getElem_cons_zero, List.setIfInBounds_toArray, List.set_cons_zero, List.set_cons_succ]
                refine wpAnyH_take (i := 12) (v := undef) rfl (by kernel_rfl) (by kernel_rfl) (by kernel_rfl) (fun _ _ _ h => h) (Or.inr ⟨by kernel_rfl, rfl⟩) hHeld ?_
                try simp only [Act.put, List.getElem_toArray, List.getElem_cons_succ, List.getElem_cons_zero, List.setIfInBounds_toArray, List.set_cons_zero, List.set_cons_succ]
                refine wpAnyH_take (i := 13) (v := undef) rfl (by kernel_rfl) (by kernel_rfl) (by kernel_rfl) (fun _ _ _ h => h) (Or.inr ⟨by kernel_rfl, rfl⟩) hHeld ?_
                try simp only [Act.put, List.getElem_toArray, List.getElem_cons_succ, List.getElem_cons_zero, List.setIfInBounds_toArray, List.set_cons_zero, List.set_cons_succ]
                refine wpAnyH_take (i := 14) (v := undef) rfl (by kernel_rfl) (by kernel_rfl) (by kernel_rfl) (fun _ _ _ h => h) (Or.inr ⟨by kernel_rfl, rfl⟩) hHeld ?_
                try simp only [Act.put, List.getElem_toArray, List.getElem_cons_succ, List.getElem_cons_zero, List.setIfInBounds_toArray, List.set_cons_zero, List.set_cons_succ]
                refine wpAnyH_take (i := 15) (v := ?_) rfl (by kernel_rfl) (by kernel_rfl) (by kernel_rfl) (fun _ _ _ h => h) (Or.inl ⟨by kernel_rfl, ?_⟩) hHeld ?_
                rotate_left
                · intro w hSw
                  (try dsimp only at hSw)
                  go_split_ands
                  go_simp
                  (try with_reducible rfl)
                try simp only [Act.put, List.getElem_toArray, List.getElem_cons_succ, List.getElem_cons_zero, List.setIfInBounds_toArray, List.set_cons_zero, List.set_cons_succ]
                refine wpAnyH_done (by kernel_rfl) ?_ _
                clear hHeld
                clear CI PX
                go_wp2_with fail
                have HW3 := Lib.hid (HW2.out.next (.inl (by rw [HIK.out, hik.out])))
                go_roundw
                case rel => exact ⟨I, m, x + 1, by omega, rfl, by go_num, Lib.hid (FF.out.step X_1.out), HW3⟩
                case measure => simp [intOf]; omega
            · obtain rfl : x = W := by omega
              have HW3 := Lib.hid HW2.out.row
              go_wp2_with fail
              go_roundw
              case rel => exact ⟨I, m, y + 1, by omega, rfl, by go_num, FF, HW3⟩
              case measure => simp [intOf]; omega
        · have e : y = H := by omega
          rw [e] at HW2
          clear e
          go_wp2_with fail
          go_roundg K1
          case measure => exact HC1.out
          case rel => exact ⟨_, I, m, H, rfl, FF, HW2, Lib.hid (fun _ => rfl), Lib.hid (fun e => by have := HW2.out.yes e; rw [HN.out] at this; exact this)⟩
end Go.Proofs.YtkfjcgcgfdibaaaDoor
