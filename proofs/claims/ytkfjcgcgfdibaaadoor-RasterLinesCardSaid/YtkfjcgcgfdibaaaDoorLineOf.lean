/- The document's line. -/
import Derived.Test.YtkfjcgcgfdibaaaDoorLineLaw
import Derived.Deep.DeepCutAuto
namespace Go.Proofs.YtkfjcgcgfdibaaaDoor
open Go.RowKit
set_option maxRecDepth 100000
set_option linter.unusedSimpArgs false in
set_option maxHeartbeats 2000000 in
theorem lineOf_any (X0 Y0 X1 Y1 r g_ b a : Int) (W' H' : Nat) (ad : Addr) (c : Nat) (px : Nat → P4) (w : World) (hN : nearAll (rf X0 Y0 X1 Y1) 4 = true) (hW : 1 ≤ W' ∧ W' ≤ 256) (hH : 1 ≤ H' ∧ H' ≤ 256) (hx : Pxs w (some ad) (W' * H') px) :
    Calls Tryd.prog 36 #[.agg #[.int .i64 (W' : Int), .int .i64 (H' : Int), .slice (some ad) (W' * H') c], .int .i64 X0, .int .i64 Y0, .int .i64 X1, .int .i64 Y1, .agg #[.int .u8 r, .int .u8 g_, .int .u8 b, .int .u8 a]] w fun e w' => (∃ g c', e = .returned (.agg #[.int .i64 (W' : Int), .int .i64 (H' : Int), .slice (some ⟨g, 0, none⟩) (W' * H') c']) ∧ Po w' g (W' * H') (lnP W' H' X0 Y0 X1 Y1 ⟨r, g_, b, a⟩ px (lnN X0 Y0 X1 Y1 + 1)) ∧ w.heap.size ≤ g) ∧ Ext w w' := by
  obtain ⟨⟨n1, n2⟩, ⟨n3, n4⟩, ⟨n5, n6⟩, n7, n8⟩ := rf_near hN
  obtain ⟨hW1, hW2⟩ := hW
  obtain ⟨hH1, hH2⟩ := hH
  have HX := Lib.hid hx
  obtain ⟨N, hN_⟩ : ∃ N, W' * H' = N := ⟨_, rfl⟩
  have hNl : N ≤ 65536 := by rw [← hN_]; exact Nat.mul_le_mul hW2 hH2
  have hN0 : 0 < N := by rw [← hN_]; exact Nat.mul_pos hW1 hH1
  rw [hN_] at HX ⊢
  have NN := Lib.hid hN_
  clear hN_ hN hx
  obtain ⟨nn, hnn⟩ : ∃ nn, lnN X0 Y0 X1 Y1 = nn := ⟨_, rfl⟩
  have LN := Lib.hid hnn
  have hn2 : nn ≤ 20000 := by rw [← hnn]; unfold lnN; omega
  obtain ⟨A, hA⟩ : ∃ A : Nat, (X1 - X0).natAbs = A := ⟨_, rfl⟩
  obtain ⟨B, hB⟩ : ∃ B : Nat, (Y1 - Y0).natAbs = B := ⟨_, rfl⟩
  have HAB : Hid (max A B = nn ∧ A ≤ 20000 ∧ B ≤ 20000) := Lib.hid (by refine ⟨?_, by omega, by omega⟩; rw [← hnn, ← hA, ← hB]; rfl)
  have HA := Lib.hid hA
  have HB := Lib.hid hB
  clear hnn hA hB
  go_enter Tryd.func36, Tryd.ntmps36
  go_wp2_with fail
  refine calls_world (fun wz => Ext w wz ∧ wz.heap.size = w.heap.size + 1 + 1 + 1 ∧ Bk wz (w.heap.size) #[.int .i64 (W' : Int), .int .i64 (H' : Int), .slice (some ad) N c] ∧ Bk wz (w.heap.size + 1) #[.int .u8 r, .int .u8 g_, .int .u8 b, .int .u8 a] ∧ Bk wz (w.heap.size + 1 + 1) #[.int .i64 0, .int .i64 0, .slice none 0 0]) ⟨by repeat (first | exact Ext.refl _ | refine Ext.alloc ?_ _), by simp, by repeat (first | exact Bk.at (by simp) | refine Bk.old ?_), by repeat (first | exact Bk.at (by simp) | refine Bk.old ?_), by repeat (first | exact Bk.at (by simp) | refine Bk.old ?_)⟩ ?_
  rintro wr ⟨hX, hZ, hB0, hB1, hB2⟩
  have B0S := Lib.hid hB0
  have B1S := Lib.hid hB1
  have B2S := Lib.hid hB2
  have XS := Lib.hid hX
  have SZ := Lib.hid hZ
  have SS := Lib.hid (Nat.le_refl wr.heap.size)
  clear hX hZ hB0 hB1 hB2
  refine (own_any _ _ (some ad) N c px _ (HX.out.ext XS.out) (fun h => by cases h) (by omega)).mono ?_
  rintro e w2 ⟨⟨v, rfl, hown⟩, h⟩
  have X2 := Lib.hid (h)
  have OWN := Lib.hid (hown)
  clear h hown
  obtain ⟨g, cc, rfl, _, hg⟩ := ownsRow_some OWN.out hN0
  have HG := Lib.hid (And.intro hg (ownsRow_ge OWN.out))
  clear hg
  have E_ := (Ext.refl w2).alloc (.cells #[.int .i64 (W' : Int), .int .i64 (H' : Int), .slice (some ⟨g, 0, none⟩) N cc] 24)
  go_upto_if 27 with fail
  go_cut [14] (fun s wx => s = .int .i64 (A : Int) ∧ wx = w2.alloc (.cells #[.int .i64 (W' : Int), .int .i64 (H' : Int), .slice (some ⟨g, 0, none⟩) N cc] 24))
  case first =>
    by_cases h : X1 - X0 < -(X1 - X0)
    · have t : decide (X1 - X0 < -(X1 - X0)) = true := decide_eq_true h
      go_wp2_with fail
      go_meet
      exact ⟨congrArg (Value.int .i64) (by rw [← HA.out]; omega), rfl⟩
    · have t : decide (X1 - X0 < -(X1 - X0)) = false := decide_eq_false h
      go_wp2_with fail
      go_meet
      exact ⟨congrArg (Value.int .i64) (by rw [← HA.out]; omega), rfl⟩
  case rest =>
  obtain ⟨rfl, rfl⟩ := hcut
  go_upto_if 36 with fail
  go_cut [15] (fun s wx => s = .int .i64 (B : Int) ∧ wx = w2.alloc (.cells #[.int .i64 (W' : Int), .int .i64 (H' : Int), .slice (some ⟨g, 0, none⟩) N cc] 24))
  case first =>
    by_cases h : Y1 - Y0 < -(Y1 - Y0)
    · have t : decide (Y1 - Y0 < -(Y1 - Y0)) = true := decide_eq_true h
      go_wp2_with fail
      go_meet
      exact ⟨congrArg (Value.int .i64) (by rw [← HB.out]; omega), rfl⟩
    · have t : decide (Y1 - Y0 < -(Y1 - Y0)) = false := decide_eq_false h
      go_wp2_with fail
      go_meet
      exact ⟨congrArg (Value.int .i64) (by rw [← HB.out]; omega), rfl⟩
  case rest =>
  obtain ⟨rfl, rfl⟩ := hcut
  go_upto_if 41 with fail
  go_cut [14] (fun s wx => s = .int .i64 (nn : Int) ∧ wx = w2.alloc (.cells #[.int .i64 (W' : Int), .int .i64 (H' : Int), .slice (some ⟨g, 0, none⟩) N cc] 24))
  case first =>
    by_cases h : A < B
    · have t : decide ((A : Int) < (B : Int)) = true := decide_eq_true (by omega)
      go_wp2_with fail
      go_meet
      exact ⟨congrArg (Value.int .i64) (by have := HAB.out; omega), rfl⟩
    · have t : decide ((A : Int) < (B : Int)) = false := decide_eq_false (by omega)
      go_wp2_with fail
      go_meet
      exact ⟨congrArg (Value.int .i64) (by have := HAB.out; omega), rfl⟩
  case rest =>
  obtain ⟨rfl, rfl⟩ := hcut
  go_wp2_with fail
  have FA : Hid (FAt w (w2.alloc (.cells #[.int .i64 (W' : Int), .int .i64 (H' : Int), .slice (some ⟨g, 0, none⟩) N cc] 24)) (w.heap.size + 1 + 1) w2.heap.size g (W' : Int) (H' : Int) N cc (lnP W' H' X0 Y0 X1 Y1 ⟨r, g_, b, a⟩ px 0)) := Lib.hid (by
    obtain ⟨z1, z2⟩ := HG.out
    have z3 := SZ.out
    have z4 := SS.out
    exact ⟨XS.out.trans (X2.out.trans E_), (B2S.out.ext X2.out).ext E_, Bk.at rfl, (Po.of_own OWN.out).ext E_, by omega, by omega, by omega⟩)
  have B0' := Lib.hid (B0S.out.ext (X2.out.trans E_))
  have B1' := Lib.hid (B1S.out.ext (X2.out.trans E_))
  clear E_
  refine wp_world (fun wz => Hid (FAt w wz (w.heap.size + 1 + 1) w2.heap.size g (W' : Int) (H' : Int) N cc (lnP W' H' X0 Y0 X1 Y1 ⟨r, g_, b, a⟩ px 0)) ∧ Hid (Bk wz w.heap.size #[.int .i64 (W' : Int), .int .i64 (H' : Int), .slice (some ad) N c]) ∧ Hid (Bk wz (w.heap.size + 1) #[.int .u8 r, .int .u8 g_, .int .u8 b, .int .u8 a])) ⟨FA, B0', B1'⟩ ?_
  obtain ⟨T, hT⟩ : ∃ T, w2.heap.size = T := ⟨_, rfl⟩
  rw [hT] at *
  have NBL : Hid (w.heap.size ≠ g ∧ w.heap.size + 1 ≠ g) := Lib.hid (by have := HG.out; have := SZ.out; have := SS.out; omega)
  clear FA B0' B1' OWN B0S B1S B2S XS X2 HG SZ SS hT HX
  rintro wz ⟨FA, B0, B1⟩
  go_loopw [16] (fun c_ wr => ∃ k : Nat, k ≤ nn + 1 ∧ c_ = .int .i64 k ∧ Hid (FAt w wr (w.heap.size + 1 + 1) T g (W' : Int) (H' : Int) N cc (lnP W' H' X0 Y0 X1 Y1 ⟨r, g_, b, a⟩ px k)) ∧ Hid (Bk wr w.heap.size #[.int .i64 (W' : Int), .int .i64 (H' : Int), .slice (some ad) N c]) ∧ Hid (Bk wr (w.heap.size + 1) #[.int .u8 r, .int .u8 g_, .int .u8 b, .int .u8 a])) (fun c_ _ => nn + 1 - (intOf c_).toNat)
  case atStart => exact ⟨0, by omega, rfl, FA, B0, B1⟩
  case round =>
    clear FA B0 B1
    obtain ⟨k, hk, rfl, FA, B0, B1⟩ := hrel
    by_cases hlt : k < nn + 1
    · by_cases h0 : 0 < nn
      · have hdX := prod_bound (a := 2 * (k : Int)) (b := X1 - X0) (A := 40000) (B := 20000) (by omega) (by omega)
        obtain ⟨DX, hDX⟩ : ∃ D, 2 * (k : Int) * (X1 - X0) = D := ⟨_, rfl⟩
        rw [hDX] at hdX
        have hqX := ediv_small (n := DX + (nn : Int)) (f := 2 * (nn : Int)) (C := 1000000000) (by omega) (by omega)
        have hfX := fun w : World => downPart_any (DX + (nn : Int)) (2 * (nn : Int)) w (by omega) (by omega) (by omega)
        have HXE : Hid (lnC X0 X1 nn k = X0 + (DX + (nn : Int)) / (2 * (nn : Int))) := Lib.hid (by unfold lnC; rw [if_pos (by omega), hDX])
        obtain ⟨QX, hQX⟩ : ∃ Q, (DX + (nn : Int)) / (2 * (nn : Int)) = Q := ⟨_, rfl⟩
        rw [hQX] at hqX hfX HXE
        have QHX := Lib.hid hQX
        clear hQX
        have FLX := Lib.hid hfX
        clear hfX
        have hdY := prod_bound (a := 2 * (k : Int)) (b := Y1 - Y0) (A := 40000) (B := 20000) (by omega) (by omega)
        obtain ⟨DY, hDY⟩ : ∃ D, 2 * (k : Int) * (Y1 - Y0) = D := ⟨_, rfl⟩
        rw [hDY] at hdY
        have hqY := ediv_small (n := DY + (nn : Int)) (f := 2 * (nn : Int)) (C := 1000000000) (by omega) (by omega)
        have hfY := fun w : World => downPart_any (DY + (nn : Int)) (2 * (nn : Int)) w (by omega) (by omega) (by omega)
        have HYE : Hid (lnC Y0 Y1 nn k = Y0 + (DY + (nn : Int)) / (2 * (nn : Int))) := Lib.hid (by unfold lnC; rw [if_pos (by omega), hDY])
        obtain ⟨QY, hQY⟩ : ∃ Q, (DY + (nn : Int)) / (2 * (nn : Int)) = Q := ⟨_, rfl⟩
        rw [hQY] at hqY hfY HYE
        have QHY := Lib.hid hQY
        clear hQY
        have FLY := Lib.hid hfY
        clear hfY
        have k0 := B0.out.cell 0
        have k1 := B0.out.cell 1
        have k2 := B0.out.cell 2
        go_wp2_with fail
        refine (FLX.out _).mono ?_
        rintro e w8 ⟨rfl, rfl⟩
        go_wp2_with fail
        refine (FLY.out _).mono ?_
        rintro e w8 ⟨rfl, rfl⟩
        go_wp2_with fail
        refine (refIn_any (W' : Int) (H' : Int) _ (X0 + QX) (Y0 + QY) _ ⟨_, _, _, rfl⟩).mono ?_
        rintro e w9 ⟨rfl, h9⟩
        have FA9 := Lib.hid (FA.out.step h9)
        have B09 := Lib.hid (B0.out.ext h9)
        have B19 := Lib.hid (B1.out.ext h9)
        clear h9 FA B0 B1 k0 k1 k2
        cases hi : inB (W' : Int) (H' : Int) (X0 + QX) (Y0 + QY)
        · have FN := Lib.hid (FA9.out.congr fun i _ => lnP_no LN.out HXE.out HYE.out hi i)
          clear hi
          go_wp2_with fail
          go_roundw
          case rel => exact ⟨k + 1, by omega, by go_num, FN, B09, B19⟩
          case measure => simp [intOf]; omega
        · obtain ⟨i1, i2, i3, i4⟩ := of_decide_eq_true hi
          obtain ⟨x, hx⟩ : ∃ m : Nat, X0 + QX = m := ⟨(X0 + QX).toNat, by omega⟩
          obtain ⟨y, hy⟩ : ∃ m : Nat, Y0 + QY = m := ⟨(Y0 + QY).toNat, by omega⟩
          have HXF := Lib.hid (HXE.out.trans hx)
          have HYF := Lib.hid (HYE.out.trans hy)
          have hii : inB (W' : Int) (H' : Int) (x : Int) (y : Int) = true := by rw [← hx, ← hy]; exact hi
          have FN := Lib.hid ((FA9.out.put (y * W' + x) ⟨r, g_, b, a⟩).congr fun i _ => lnP_yes LN.out HXF.out HYF.out hii i)
          have K := set4_keeps w9 g (y * W' + x) ⟨r, g_, b, a⟩
          have B0N := Lib.hid (B09.out.keeps K NBL.out.1)
          have B1N := Lib.hid (B19.out.keeps K NBL.out.2)
          have hkN : y * W' + x < N := by rw [← NN.out]; exact mul_lt_of (by omega) (by omega)
          have hMI : (Y0 + QY) * (W' : Int) = ((y * W' : Nat) : Int) := by rw [hy]; simp
          clear hii K
          unfold set4 at *
          obtain ⟨M, hM⟩ : ∃ M, y * W' = M := ⟨_, rfl⟩
          rw [hM] at FN B0N B1N hkN hMI
          have MM := Lib.hid hM
          clear hM
          have v1_ : (M : Int) + (X0 + QX) < (N : Int) := by omega
          have v2_ : 0 ≤ (M : Int) + (X0 + QX) := by omega
          have v3_ : ((M : Int) + (X0 + QX)).toNat = M + x := by omega
          clear hi i1 i2 i3 i4 hx hy
          have p0 := B19.out.cell 0
          have p1 := B19.out.cell 1
          have p2 := B19.out.cell 2
          have p3 := B19.out.cell 3
          have k0 := B09.out.cell 0
          have k2 := FA9.out.bk.cell 2
          obtain ⟨c0, f0⟩ := FA9.out.row ((M + x) * 4) (by omega)
          obtain ⟨c1, f1⟩ := FA9.out.row ((M + x) * 4 + 1) (by omega)
          obtain ⟨c2, f2⟩ := FA9.out.row ((M + x) * 4 + 2) (by omega)
          obtain ⟨c3, f3⟩ := FA9.out.row ((M + x) * 4 + 3) (by omega)
          go_wp2_with fail
          go_roundw
          case rel => exact ⟨k + 1, by omega, by go_num, FN, B0N, B1N⟩
          case measure => simp [intOf]; omega
      · have HXE : Hid (lnC X0 X1 nn k = X0) := Lib.hid (by unfold lnC; rw [if_neg (by omega)])
        have HYE : Hid (lnC Y0 Y1 nn k = Y0) := Lib.hid (by unfold lnC; rw [if_neg (by omega)])
        have t0 : decide ((0 : Int) < (nn : Int)) = false := decide_eq_false (by omega)
        have k0 := B0.out.cell 0
        have k1 := B0.out.cell 1
        have k2 := B0.out.cell 2
        go_wp2_with fail
        refine (refIn_any (W' : Int) (H' : Int) _ (X0) (Y0) _ ⟨_, _, _, rfl⟩).mono ?_
        rintro e w9 ⟨rfl, h9⟩
        have FA9 := Lib.hid (FA.out.step h9)
        have B09 := Lib.hid (B0.out.ext h9)
        have B19 := Lib.hid (B1.out.ext h9)
        clear h9 FA B0 B1 k0 k1 k2
        cases hi : inB (W' : Int) (H' : Int) (X0) (Y0)
        · have FN := Lib.hid (FA9.out.congr fun i _ => lnP_no LN.out HXE.out HYE.out hi i)
          clear hi
          go_wp2_with fail
          go_roundw
          case rel => exact ⟨k + 1, by omega, by go_num, FN, B09, B19⟩
          case measure => simp [intOf]; omega
        · obtain ⟨i1, i2, i3, i4⟩ := of_decide_eq_true hi
          obtain ⟨x, hx⟩ : ∃ m : Nat, X0 = m := ⟨(X0).toNat, by omega⟩
          obtain ⟨y, hy⟩ : ∃ m : Nat, Y0 = m := ⟨(Y0).toNat, by omega⟩
          have HXF := Lib.hid (HXE.out.trans hx)
          have HYF := Lib.hid (HYE.out.trans hy)
          have hii : inB (W' : Int) (H' : Int) (x : Int) (y : Int) = true := by rw [← hx, ← hy]; exact hi
          have FN := Lib.hid ((FA9.out.put (y * W' + x) ⟨r, g_, b, a⟩).congr fun i _ => lnP_yes LN.out HXF.out HYF.out hii i)
          have K := set4_keeps w9 g (y * W' + x) ⟨r, g_, b, a⟩
          have B0N := Lib.hid (B09.out.keeps K NBL.out.1)
          have B1N := Lib.hid (B19.out.keeps K NBL.out.2)
          have hkN : y * W' + x < N := by rw [← NN.out]; exact mul_lt_of (by omega) (by omega)
          have hMI : (Y0) * (W' : Int) = ((y * W' : Nat) : Int) := by rw [hy]; simp
          clear hii K
          unfold set4 at *
          obtain ⟨M, hM⟩ : ∃ M, y * W' = M := ⟨_, rfl⟩
          rw [hM] at FN B0N B1N hkN hMI
          have MM := Lib.hid hM
          clear hM
          have v1_ : (M : Int) + (X0) < (N : Int) := by omega
          have v2_ : 0 ≤ (M : Int) + (X0) := by omega
          have v3_ : ((M : Int) + (X0)).toNat = M + x := by omega
          clear hi i1 i2 i3 i4 hx hy
          have p0 := B19.out.cell 0
          have p1 := B19.out.cell 1
          have p2 := B19.out.cell 2
          have p3 := B19.out.cell 3
          have k0 := B09.out.cell 0
          have k2 := FA9.out.bk.cell 2
          obtain ⟨c0, f0⟩ := FA9.out.row ((M + x) * 4) (by omega)
          obtain ⟨c1, f1⟩ := FA9.out.row ((M + x) * 4 + 1) (by omega)
          obtain ⟨c2, f2⟩ := FA9.out.row ((M + x) * 4 + 2) (by omega)
          obtain ⟨c3, f3⟩ := FA9.out.row ((M + x) * 4 + 3) (by omega)
          go_wp2_with fail
          go_roundw
          case rel => exact ⟨k + 1, by omega, by go_num, FN, B0N, B1N⟩
          case measure => simp [intOf]; omega
    · obtain rfl : k = nn + 1 := by omega
      have k0 := FA.out.bk.cell 0
      have d0 := FA.out.res.cell 0
      have e0 := FA.out.res.frozen 0
      have k1 := FA.out.bk.cell 1
      have d1 := FA.out.res.cell 1
      have e1 := FA.out.res.frozen 1
      have k2 := FA.out.bk.cell 2
      have d2 := FA.out.res.cell 2
      have e2 := FA.out.res.frozen 2
      have PC := Lib.hid (FA.out.close (by omega : w.heap.size ≤ w.heap.size + 1 + 1))
      have GN := Lib.hid FA.out.gn
      clear FA B0 B1
      rw [← LN.out] at PC
      have PC2 := Lib.hid PC.out
      clear PC
      go_wp2_with fail
      obtain ⟨k0, k1, k2, hP, hX⟩ := PC2.out
      exact bodyPost_ret (v := .agg #[.int .i64 (W' : Int), .int .i64 (H' : Int), .slice (some ⟨g, 0, none⟩) N cc]) (by simp [results, Tryd.results36, go_sem, k0, k1, k2]) rfl ⟨⟨g, ⟨cc, rfl⟩, hP, GN.out⟩, hX⟩
end Go.Proofs.YtkfjcgcgfdibaaaDoor
