/- The document's RowsOf, BackOf. -/
import Derived.Test.YtkddbhngffbljaaDoorBackW
namespace Go.Proofs.YtkddbhngffbljaaDoor
open Go.RowKit
set_option maxRecDepth 100000
def BackOfPost (w w' : World) (t : ByteArray) (wide step m : Nat) (e : Ending) : Prop :=
  Ext w w' ∧ (((∀ j, j < m → kdT t wide j ≤ 4) ∧ e = .returned (.tuple #[.string (unS t wide step m), .int .i64 (-1)])) ∨ (∃ i : Nat, i < m ∧ (∀ j, j < i → kdT t wide j ≤ 4) ∧ 4 < kdT t wide i ∧ e = .returned (.tuple #[.string ⟨#[]⟩, .int .i64 (i : Int)])))
theorem rowsL_tx (O : List UInt8) (b : UInt8) (V : ByteArray) : tx O ++ ⟨#[b]⟩ ++ V = tx (O ++ (b :: V.data.toList)) := by
  apply bytes_ext
  rw [bytes_cat, bytes_cat, tx_list, tx_list]
  simp
set_option linter.unusedSimpArgs false in
set_option maxHeartbeats 2000000 in
theorem rowsOf_any (s : ByteArray) (wide step n : Nat) (w : World) (hn : s.size = n * wide) (hw : 1 ≤ wide ∧ wide ≤ 300000) (hst : 1 ≤ step ∧ step ≤ 8) (hs : s.size ≤ 300000) :
    Calls Tryd.prog 53 #[.string s, .int .i64 (wide : Int), .int .i64 (step : Int)] w fun e w' => e = .returned (.string (tx (rowsL s wide step n))) ∧ Ext w w' := by
  have HN := Lib.hid hn
  obtain ⟨h1, h2⟩ := hw
  have HST := Lib.hid hst
  obtain ⟨h3, h4⟩ := hst
  clear hn
  go_enter Tryd.func53, Tryd.ntmps53
  go_wp2_with fail
  go_loopw [7, 8, 9] (fun u v c wr => ∃ j : Nat, j ≤ n ∧ c = .int .i64 ((j * wide : Nat) : Int) ∧ u = .string (tx (rowsL s wide step j)) ∧ v = .string (ahB s wide j) ∧ Hid (Ext w wr)) (fun _ _ c _ => s.size + 1 - (intOf c).toNat)
  case atStart => exact ⟨0, by omega, by rw [Nat.zero_mul]; rfl, by rw [show rowsL s wide step 0 = [] from rfl, ← tx_nil], rfl, Lib.hid (Ext.refl _)⟩
  case round =>
    obtain ⟨j, hj, rfl, rfl, rfl, HX⟩ := hrel
    have hn := HN.out
    have hll := rowsL_length (step := step) HN.out j hj
    obtain ⟨X, hX⟩ : ∃ X, j * wide = X := ⟨_, rfl⟩
    obtain ⟨Y, hY⟩ : ∃ Y, X + wide = Y := ⟨_, rfl⟩
    have hYI : (X : Int) + (wide : Int) = (Y : Int) := by omega
    have hXs : X ≤ s.size := by rw [← hX, hn]; exact Nat.mul_le_mul_right _ hj
    have hjx : j ≤ X := by rw [← hX]; exact Nat.le_mul_of_pos_right _ h1
    obtain ⟨O, hO⟩ : ∃ O, rowsL s wide step j = O := ⟨_, rfl⟩
    have HO := Lib.hid hO
    rw [hO] at hll ⊢
    have hOs : (tx O).size ≤ 600000 := by
      rw [tx_size, hll, Nat.mul_add, hX]; omega
    obtain ⟨T, hT⟩ : ∃ T, tx O = T := ⟨_, rfl⟩
    have HT := Lib.hid hT
    rw [hT] at hOs
    rw [hX, hT]
    by_cases hlt : j < n
    · have hYs : Y ≤ s.size := by rw [← hY, ← hX, hn, ← Nat.succ_mul]; exact Nat.mul_le_mul_right _ hlt
      obtain ⟨R, hR⟩ : ∃ R, s.extract X Y = R := ⟨_, rfl⟩
      have HRr : Hid (R = rowB s wide j) := Lib.hid (by rw [← hR, ← hY, ← hX]; unfold rowB; rw [Nat.succ_mul])
      have hRs : R.size = wide := by rw [HRr.out]; exact rowB_size HN.out hlt
      have hch := ahB_ok HN.out hlt
      obtain ⟨A, hA⟩ : ∃ A, ahB s wide j = A := ⟨_, rfl⟩
      rw [hA] at hch ⊢
      rw [← HRr.out] at hch
      have hbs : bestS R A step ≤ 4 := bestS_le _ _ _ (by omega)
      have HBI : Hid (rowsL s wide step (j + 1) = O ++ (UInt8.ofNat (bestS R A step) :: (doS (bestS R A step : Int) R A step).data.toList)) := Lib.hid (by show rowsL s wide step j ++ chunkL s wide step j = _; unfold chunkL bestI; rw [hA, ← HRr.out, hO])
      have HBO := Lib.hid (fun w5 => bestOf_any R A step w5 (by omega) h4)
      obtain ⟨b, hb⟩ : ∃ b, bestS R A step = b := ⟨_, rfl⟩
      rw [hb] at HBI HBO hbs
      have HRO := Lib.hid (fun w5 => rowOf_any (b : Int) R A step w5 (by omega) (by omega) h4 (by omega))
      have hVs : (doS (b : Int) R A step).size = wide := by rw [doS_size]; exact hRs
      obtain ⟨V, hV⟩ : ∃ V, doS (b : Int) R A step = V := ⟨_, rfl⟩
      rw [hV] at HBI HRO hVs
      have HBY := Lib.hid (fun w5 => byte_any b (by omega) w5)
      have HXY := Lib.hid (And.intro hX hY)
      have h1s : (⟨#[UInt8.ofNat b]⟩ : ByteArray).size = 1 := rfl
      obtain ⟨B1, hB1⟩ : ∃ B1 : ByteArray, ⟨#[UInt8.ofNat b]⟩ = B1 := ⟨_, rfl⟩
      have HB1 := Lib.hid hB1
      rw [hB1] at HBY h1s
      have hTB : (T ++ B1).size ≤ 600001 := by rw [ByteArray.size_append]; omega
      clear hch hb hV hA hX hY hO hT hll hn hB1
      go_wp2_with fail
      with_reducible refine (HBO.out _).mono ?_
      rintro e w2 ⟨rfl, h2⟩
      have X2 := Lib.hid (HX.out.trans h2)
      clear h2
      go_wp2_with fail
      with_reducible refine (HBY.out _).mono ?_
      rintro e w3 ⟨rfl, h2⟩
      have X3 := Lib.hid (X2.out.trans h2)
      clear h2
      go_wp2_with fail
      with_reducible refine (HRO.out _).mono ?_
      rintro e w4 ⟨rfl, h2⟩
      have X4 := Lib.hid (X3.out.trans h2)
      clear h2
      go_wp2_with fail
      go_roundw
      case rel => exact ⟨j + 1, by omega, by rw [Nat.succ_mul, HXY.out.1, HXY.out.2], by rw [HBI.out, ← HT.out, ← HB1.out, rowsL_tx], by rw [HRr.out]; rfl, X4⟩
      case measure => simp [intOf]; omega
    · obtain rfl : j = n := by omega
      have hYs : ¬ Y ≤ s.size := by omega
      go_wp2_with fail
      go_ret
      exact ⟨by rw [← HT.out, ← HO.out]; rfl, HX.out⟩
set_option linter.unusedSimpArgs false in
set_option maxHeartbeats 2000000 in
theorem backOf_any (t : ByteArray) (wide step m : Nat) (w : World) (hn : t.size = m * (wide + 1)) (hw : 1 ≤ wide ∧ wide ≤ 300000) (hst : 1 ≤ step ∧ step ≤ 8) (hs : t.size ≤ 300000) :
    Calls Tryd.prog 54 #[.string t, .int .i64 (wide : Int), .int .i64 (step : Int)] w fun e w' => BackOfPost w w' t wide step m e := by
  have HN := Lib.hid hn
  obtain ⟨h1, h2⟩ := hw
  have HST := Lib.hid hst
  obtain ⟨h3, h4⟩ := hst
  obtain ⟨P, hP⟩ : ∃ P, wide + 1 = P := ⟨_, rfl⟩
  have hPI : (wide : Int) + 1 = (P : Int) := by omega
  have HPP := Lib.hid hP
  clear hn
  go_enter Tryd.func54, Tryd.ntmps54
  go_wp2_with fail
  go_loopw [8, 9, 10] (fun u v c wr => ∃ i : Nat, i ≤ m ∧ c = .int .i64 i ∧ u = .string (unS t wide step i) ∧ v = .string (unA t wide step i) ∧ Hid (∀ j, j < i → kdT t wide j ≤ 4) ∧ Hid (Ext w wr)) (fun _ _ c _ => m - (intOf c).toNat)
  case atStart => exact ⟨0, by omega, rfl, rfl, rfl, Lib.hid (fun j hj => by omega), Lib.hid (Ext.refl _)⟩
  case round =>
    obtain ⟨i, hi, rfl, rfl, rfl, HA, HX⟩ := hrel
    have hn := HN.out
    have hus := unS_size (step := step) HN.out i hi
    obtain ⟨M, hM⟩ : ∃ M, i * (wide + 1) = M := ⟨_, rfl⟩
    have hMP : i * P = M := by rw [← hP]; exact hM
    have hMI : (i : Int) * (P : Int) = (M : Int) := by rw [← hMP]; simp
    have him : i ≤ 300000 := by
      have q1 : m ≤ m * (wide + 1) := Nat.le_mul_of_pos_right _ (by omega)
      omega
    have hM3 : M ≤ 300000 := by
      have q2 : i * (wide + 1) ≤ m * (wide + 1) := Nat.mul_le_mul_right _ hi
      omega
    obtain ⟨O, hO⟩ : ∃ O, unS t wide step i = O := ⟨_, rfl⟩
    have HO := Lib.hid hO
    rw [hO] at hus ⊢
    have hOs : O.size ≤ 300000 := by
      rw [hus]
      have q1 : i * wide ≤ i * (wide + 1) := Nat.mul_le_mul_left _ (by omega)
      omega
    obtain ⟨M2, hM2⟩ : ∃ M2, (i + 1) * (wide + 1) = M2 := ⟨_, rfl⟩
    have hMM : M + P = M2 := by rw [← hM, ← hM2, Nat.succ_mul, hP]
    have hM2I : ((i : Int) + 1) * (P : Int) = (M2 : Int) := by rw [← hMM, Int.add_mul, hMI]; omega
    by_cases hlt : i < m
    · have hM2l : M2 ≤ t.size := by rw [← hM2, hn]; exact Nat.mul_le_mul_right _ hlt
      obtain ⟨Rw, hRw⟩ : ∃ Rw, t.extract M M2 = Rw := ⟨_, rfl⟩
      have hRs : Rw.size = P := by rw [← hRw, ByteArray.size_extract]; omega
      have hR0 : 0 < Rw.size := by omega
      have hk0 : Rw[0].toNat = kdT t wide i := by subst hRw; exact kd_row M M2 hM hR0
      obtain ⟨Q, hQ⟩ : ∃ Q, Rw.extract 1 Rw.size = Q := ⟨_, rfl⟩
      have hQr : Q = restT t wide i := by rw [← hQ, ← hRw]; exact rest_row M M2 hM hM2 hM2l
      have hQs : Q.size = wide := by rw [hQr]; exact restT_size HN.out hlt
      have HQR := Lib.hid hQr
      obtain ⟨A, hA⟩ : ∃ A, unA t wide step i = A := ⟨_, rfl⟩
      rw [hA]
      have HAA := Lib.hid hA
      obtain ⟨k, hk⟩ : ∃ k, Rw[0].toNat = k := ⟨_, rfl⟩
      have hk256 : k < 256 := by rw [← hk]; exact UInt8.toNat_lt _
      have HK : Hid (kdT t wide i = k) := Lib.hid (by rw [← hk0, hk])
      have hkI : ((Rw[0].toNat : Nat) : Int) = (k : Int) := by rw [hk]
      have hwk : IntKind.i64.wrap (k : Int) = (k : Int) := by unfold IntKind.wrap; simp [IntKind.bits, IntKind.signed]; omega
      have hPR1 : (1 : Int) ≤ (Rw.size : Int) := by omega
      clear hRs hQr hA hk0 hM hM2 hMP hn hus hO
      by_cases hk4 : k ≤ 4
      · have HU := Lib.hid (fun w5 => unrowOf_any (k : Int) Q A step w5 (by omega) (by omega) h4 (by omega))
        have tk : decide ((4 : Int) < (k : Int)) = false := decide_eq_false (by omega)
        have HUA : Hid (unA t wide step (i + 1) = undoS (k : Int) Q A step) := Lib.hid (by show undoS _ _ _ _ = _; rw [HK.out, HQR.out, HAA.out])
        have HUS : Hid (unS t wide step (i + 1) = O ++ undoS (k : Int) Q A step) := Lib.hid (by show unS _ _ _ _ ++ unA t wide step (i + 1) = _; rw [HO.out, HUA.out])
        have hus : (undoS (k : Int) Q A step).size = wide := by rw [undoS_size]; exact hQs
        obtain ⟨V, hV⟩ : ∃ V, undoS (k : Int) Q A step = V := ⟨_, rfl⟩
        rw [hV] at HU HUA HUS hus
        have HAN : Hid (∀ j, j < i + 1 → kdT t wide j ≤ 4) := Lib.hid (fun j hj => by
          rcases Nat.lt_succ_iff_lt_or_eq.1 hj with q | rfl
          · exact HA.out j q
          · rw [HK.out]; exact hk4)
        clear hV hk
        go_wp2_with fail
        have HXD : Hid (Ext w wr.drew) := Lib.hid (Below.drew HX.out)
        refine wp_region_held_drew (S := fun w' => True) (by kernel_rfl) trivial (fun hHeld => ?_)
        clear hHeld
        have hHeld : True := trivial
        refine wpAnyH_take (i := 0) (v := ?_) rfl (by kernel_rfl) (by kernel_rfl) (by kernel_rfl) (fun _ _ _ h => h) (Or.inl ⟨by kernel_rfl, ?_⟩) hHeld ?_
        rotate_left
        · intro w hSw
          (try dsimp only at hSw)
          go_split_ands
          go_simp
          (try with_reducible rfl)
        try simp only [Act.put, List.getElem_toArray, List.getElem_cons_succ, List.getElem_cons_zero, List.setIfInBounds_toArray, List.set_cons_zero, List.set_cons_succ]
        refine wpAnyH_take (i := 1) (v := ?_) rfl (by kernel_rfl) (by kernel_rfl) (by kernel_rfl) (fun _ _ _ h => h) (Or.inl ⟨by kernel_rfl, ?_⟩) hHeld ?_
        rotate_left
        · intro w hSw
          (try dsimp only at hSw)
          go_split_ands
          go_simp
          (try with_reducible rfl)
        try simp only [Act.put, List.getElem_toArray, List.getElem_cons_succ, List.getElem_cons_zero, List.setIfInBounds_toArray, List.set_cons_zero, List.set_cons_succ]
        refine wpAnyH_take (i := 2) (v := ?_) rfl (by kernel_rfl) (by kernel_rfl) (by kernel_rfl) (fun _ _ _ h => h) (Or.inl ⟨by kernel_rfl, ?_⟩) hHeld ?_
        rotate_left
        · intro w hSw
          (try dsimp only at hSw)
          go_split_ands
          go_simp
          (try with_reducible rfl)
        try simp only [Act.put, List.getElem_toArray, List.getElem_cons_succ, List.getElem_cons_zero, List.setIfInBounds_toArray, List.set_cons_zero, List.set_cons_succ]
        refine wpAnyH_take (i := 3) (v := ?_) rfl (by kernel_rfl) (by kernel_rfl) (by kernel_rfl) (fun _ _ _ h => h) (Or.inl ⟨by kernel_rfl, ?_⟩) hHeld ?_
        rotate_left
        · intro w hSw
          (try dsimp only at hSw)
          go_split_ands
          go_simp
          (try with_reducible rfl)
        try simp only [Act.put, List.getElem_toArray, List.getElem_cons_succ, List.getElem_cons_zero, List.setIfInBounds_toArray, List.set_cons_zero, List.set_cons_succ]
        refine wpAnyH_take (i := 4) (v := ?_) rfl (by kernel_rfl) (by kernel_rfl) (by kernel_rfl) (fun _ _ _ h => h) (Or.inl ⟨by kernel_rfl, ?_⟩) hHeld ?_
        rotate_left
        · intro w hSw
          (try dsimp only at hSw)
          go_split_ands
          go_simp
          (try with_reducible rfl)
        try simp only [Act.put, List.getElem_toArray, List.getElem_cons_succ, List.getElem_cons_zero, List.setIfInBounds_toArray, List.set_cons_zero, List.set_cons_succ]
        refine wpAnyH_take (i := 5) (v := ?_) rfl (by kernel_rfl) (by kernel_rfl) (by kernel_rfl) (fun _ _ _ h => h) (Or.inl ⟨by kernel_rfl, ?_⟩) hHeld ?_
        rotate_left
        · intro w hSw
          (try dsimp only at hSw)
          go_split_ands
          go_simp
          (try with_reducible rfl)
        try simp only [Act.put, List.getElem_toArray, List.getElem_cons_succ, List.getElem_cons_zero, List.setIfInBounds_toArray, List.set_cons_zero, List.set_cons_succ]
        refine wpAnyH_take (i := 6) (v := ?_) rfl (by kernel_rfl) (by kernel_rfl) (by kernel_rfl) (fun _ _ _ h => h) (Or.inl ⟨by kernel_rfl, ?_⟩) hHeld ?_
        rotate_left
        · intro w hSw
          (try dsimp only at hSw)
          go_split_ands
          go_simp
          (try with_reducible rfl)
        try simp only [Act.put, List.getElem_toArray, List.getElem_cons_succ, List.getElem_cons_zero, List.setIfInBounds_toArray, List.set_cons_zero, List.set_cons_succ]
        refine wpAnyH_ready (rs := [7]) (by kernel_rfl) (by simp) ?_
        refine AllReadyH.cons rfl (fun KK hK => ?_) AllReadyH.nil
        clear hHeld
        go_simp
        with_reducible refine (HU.out _).mono ?_
        rintro e w3 ⟨rfl, h⟩
        have HX2 := Lib.hid (HXD.out.trans h)
        clear h
        go_simp
        refine hK.out _ _ trivial (fun hHeld => ?_)
        clear hK KK
        try simp only [Act.put, List.getElem_toArray, List.getElem_cons_succ, List.getElem_cons_zero, List.setIfInBounds_toArray, List.set_cons_zero, List.set_cons_succ]
        refine wpAnyH_take (i := 8) (v := ?_) rfl (by kernel_rfl) (by kernel_rfl) (by kernel_rfl) (fun _ _ _ h => h) (Or.inl ⟨by kernel_rfl, ?_⟩) hHeld ?_
        rotate_left
        · intro w hSw
          (try dsimp only at hSw)
          go_split_ands
          go_simp
          (try with_reducible rfl)
        try simp only [Act.put, List.getElem_toArray, List.getElem_cons_succ, List.getElem_cons_zero, List.setIfInBounds_toArray, List.set_cons_zero, List.set_cons_succ]
        refine wpAnyH_done (by kernel_rfl) ?_ _
        clear hHeld
        go_wp2_with fail
        go_roundw
        case rel => exact ⟨i + 1, by omega, by go_num, by rw [HUS.out], by rw [HUA.out], HAN, HX2⟩
        case measure => simp [intOf]; omega
      · have tk : decide ((4 : Int) < (k : Int)) = true := decide_eq_true (by omega)
        clear hk
        go_wp2_with fail
        go_ret2
        exact ⟨HX.out, .inr ⟨i, hlt, HA.out, by rw [HK.out]; omega, rfl⟩⟩
    · obtain rfl : i = m := by omega
      have hM2l : ¬ M2 ≤ t.size := by omega
      go_wp2_with fail
      go_ret2
      exact ⟨HX.out, .inl ⟨HA.out, by rw [HO.out]; rfl⟩⟩
end Go.Proofs.YtkddbhngffbljaaDoor
