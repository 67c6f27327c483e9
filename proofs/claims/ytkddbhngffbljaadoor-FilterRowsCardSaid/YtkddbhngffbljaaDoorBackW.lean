/- filter.Back. -/
import Derived.Test.YtkddbhngffbljaaDoorRowsW
import Derived.RegionTactic
namespace Go.Proofs.YtkddbhngffbljaaDoor
open Go.RowKit
set_option maxRecDepth 100000
def BackPost (w w' : World) (E : Nat → Addr) (t : ByteArray) (wide step m : Nat) (e : Ending) : Prop :=
  Ext w w' ∧ (((∀ j, j < m → kdT t wide j ≤ 4) ∧ e = .returned (.tuple #[.string (unS t wide step m), .nilIface])) ∨ (∃ i F : Nat, i < m ∧ (∀ j, j < i → kdT t wide j ≤ 4) ∧ 4 < kdT t wide i ∧ (i : Int) ≤ 9223372036854775807 ∧ e = .returned (.tuple #[.string ⟨#[]⟩, .iface 68 (.pointer (some ⟨F, 0, none⟩))]) ∧ w'.heap[F]? = some (.cells #[.int .i64 (i : Int), sentV (E 0)] 70 (0, 0))))
theorem back_bad {w wz : World} {E : Nat → Addr} {t : ByteArray} {wide step m i : Nat} (hX : Ext w wz) (hi : i < m) (ha : ∀ j, j < i → kdT t wide j ≤ 4) (hk : 4 < kdT t wide i) (hb : (i : Int) ≤ 9223372036854775807) :
    BackPost w (wz.drew.alloc (.cells #[.int .i64 (i : Int), .iface 101 (.pointer (some (E 0)))] 70)) E t wide step m (.returned (.tuple #[.string ⟨#[]⟩, .iface 68 (.pointer (some ⟨wz.heap.size, 0, none⟩))])) :=
  ⟨(show Ext w wz.drew from Below.drew hX).alloc _, .inr ⟨i, wz.heap.size, hi, ha, hk, hb, rfl, heap_alloc_new wz.drew _⟩⟩
theorem kd_row {t : ByteArray} {wide i : Nat} (M M2 : Nat) (hM : i * (wide + 1) = M) (h : 0 < (t.extract M M2).size) : (t.extract M M2)[0].toNat = kdT t wide i := by
  unfold kdT
  rw [row_at _ 0 h, hM]
  congr 1
  have hs : M < t.size := by
    rw [ByteArray.size_extract] at h; omega
  have e : (t.extract M M2).data.toList = (t.data.toList.drop M).take (M2 - M) := by
    rw [ByteArray.data_extract, Array.toList_extract, List.extract_eq_take_drop]
  rw [e]
  have hl : M < t.data.toList.length := by rw [Array.length_toList]; exact hs
  have h2 : 0 < M2 - M := by rw [ByteArray.size_extract] at h; omega
  simp only [List.getD]
  rw [List.getElem?_take_of_lt h2, List.getElem?_drop, Nat.add_zero]
theorem rest_row {t : ByteArray} {wide i : Nat} (M M2 : Nat) (hM : i * (wide + 1) = M) (hM2 : (i + 1) * (wide + 1) = M2) (hle : M2 ≤ t.size) : (t.extract M M2).extract 1 (t.extract M M2).size = restT t wide i := by
  unfold restT
  rw [ByteArray.size_extract, ByteArray.extract_extract, hM, hM2, Nat.min_eq_left hle]
  have : M ≤ M2 := by rw [← hM, ← hM2]; exact Nat.mul_le_mul_right _ (by omega)
  congr 1
  omega
set_option linter.unusedSimpArgs false in
set_option maxHeartbeats 2000000 in
theorem back_any (t : ByteArray) (wide step m : Nat) (w : World) (E : Nat → Addr) (hE : Errs w E) (hn : t.size = m * (wide + 1)) (hw : 1 ≤ wide ∧ wide ≤ 300000) (hst : 1 ≤ step ∧ step ≤ 8) (hs : t.size ≤ 300000) :
    Calls Tryd.prog 52 #[.string t, .int .i64 (wide : Int), .int .i64 (step : Int)] w fun e w' => BackPost w w' E t wide step m e := by
  have HE := Lib.hid hE
  have HN := Lib.hid hn
  have hwh := Lib.hid (fun w => whole_ok t (wide + 1) wide 1 step w rfl hw (by omega) hst hs (by rw [hn]; exact Nat.mul_mod_left _ _))
  obtain ⟨h1, h2⟩ := hw
  have HST := Lib.hid hst
  obtain ⟨h3, h4⟩ := hst
  obtain ⟨P, hP⟩ : ∃ P, wide + 1 = P := ⟨_, rfl⟩
  have hPI : (wide : Int) + 1 = (P : Int) := by omega
  have HPP := Lib.hid hP
  clear hE hn
  go_enter Tryd.func52, Tryd.ntmps52
  go_wp2_with fail
  refine (hwh.out _).mono ?_
  rintro e w1 ⟨rfl, rfl⟩
  go_wp2_with fail
  go_loopw [9, 10, 11] (fun u v c wr => ∃ i : Nat, i ≤ m ∧ c = .int .i64 i ∧ u = .string (unS t wide step i) ∧ v = .string (unA t wide step i) ∧ Hid (∀ j, j < i → kdT t wide j ≤ 4) ∧ Hid (Ext w wr)) (fun _ _ c _ => m - (intOf c).toNat)
  case atStart => exact ⟨0, by omega, rfl, rfl, rfl, Lib.hid (fun j hj => by omega), Lib.hid (Ext.refl _)⟩
  case round =>
    obtain ⟨i, hi, rfl, rfl, rfl, HA, HX⟩ := hrel
    have hn := HN.out
    have hus := unS_size (step := step) HN.out i hi
    obtain ⟨M, hM⟩ : ∃ M, i * (wide + 1) = M := ⟨_, rfl⟩
    have hMP : i * P = M := by rw [← hP]; exact hM
    have hMI : (i : Int) * (P : Int) = (M : Int) := by rw [← hMP]; simp
    have him : i ≤ 300000 := by
      have q1 : m ≤ m * (wide + 1) := Nat.le_mul_of_pos_right _ (by omega)
      omega
    obtain ⟨O, hO⟩ : ∃ O, unS t wide step i = O := ⟨_, rfl⟩
    have HO := Lib.hid hO
    rw [hO] at hus ⊢
    have hOs : O.size ≤ 300000 := by
      rw [hus]
      have q1 : i * wide ≤ i * (wide + 1) := Nat.mul_le_mul_left _ (by omega)
      have q2 : i * (wide + 1) ≤ m * (wide + 1) := Nat.mul_le_mul_right _ hi
      omega
    by_cases hlt : i < m
    · obtain ⟨M2, hM2⟩ : ∃ M2, (i + 1) * (wide + 1) = M2 := ⟨_, rfl⟩
      have hM2l : M2 ≤ t.size := by rw [← hM2, hn]; exact Nat.mul_le_mul_right _ hlt
      have hMM : M + P = M2 := by rw [← hM, ← hM2, Nat.succ_mul, hP]
      have hM2I : ((i : Int) + 1) * (P : Int) = (M2 : Int) := by rw [← hMM, Int.add_mul, hMI]; omega
      have hML : M < t.size := by omega
      obtain ⟨Rw, hRw⟩ : ∃ Rw, t.extract M M2 = Rw := ⟨_, rfl⟩
      have hRs : Rw.size = P := by rw [← hRw, ByteArray.size_extract]; omega
      have hR0 : 0 < Rw.size := by omega
      have hk0 : Rw[0].toNat = kdT t wide i := by subst hRw; exact kd_row M M2 hM hR0
      obtain ⟨Q, hQ⟩ : ∃ Q, Rw.extract 1 Rw.size = Q := ⟨_, rfl⟩
      have hQr : Q = restT t wide i := by rw [← hQ, ← hRw]; exact rest_row M M2 hM hM2 hM2l
      have hQs : Q.size = wide := by rw [hQr]; exact restT_size HN.out hlt
      have HQR := Lib.hid hQr
      have hok := unA_ok (step := step) HN.out hlt
      rw [← hQr] at hok
      obtain ⟨A, hA⟩ : ∃ A, unA t wide step i = A := ⟨_, rfl⟩
      rw [hA] at hok ⊢
      have HAA := Lib.hid hA
      obtain ⟨k, hk⟩ : ∃ k, Rw[0].toNat = k := ⟨_, rfl⟩
      have hk256 : k < 256 := by rw [← hk]; exact UInt8.toNat_lt _
      have HK : Hid (kdT t wide i = k) := Lib.hid (by rw [← hk0, hk])
      have hkI : ((Rw[0].toNat : Nat) : Int) = (k : Int) := by rw [hk]
      have hwk : IntKind.i64.wrap (k : Int) = (k : Int) := by unfold IntKind.wrap; simp [IntKind.bits, IntKind.signed]; omega
      have hPR : P = Rw.size := hRs.symm
      have hPR1 : (1 : Int) ≤ (Rw.size : Int) := by omega
      have HOK := Lib.hid hok
      have HH1 := Lib.hid hRs
      clear hRs hPR hok hQr hA hk0 hM hM2 hMP hn hus hO
      by_cases hk4 : k ≤ 4
      · have HU : Hid (∀ w5, Errs w5 E → Calls Tryd.prog 46 #[.int .i64 (k : Int), .string Q, .string A, .int .i64 (step : Int)] w5 fun e w' => e = .returned (.tuple #[.string (undoS (k : Int) Q A step), .nilIface]) ∧ Ext w5 w') := Lib.hid (fun w5 h5 => bigUndo_calls (k : Int) Q A step w5 (by omega) (by omega) (by omega) ⟨by omega, by omega, by omega, by omega⟩ HOK.out _ _ (h5.var 1 (by decide)) (h5.var 2 (by decide)))
        have HUA : Hid (unA t wide step (i + 1) = undoS (k : Int) Q A step) := Lib.hid (by show undoS _ _ _ _ = _; rw [HK.out, HQR.out, HAA.out])
        have HUS : Hid (unS t wide step (i + 1) = O ++ undoS (k : Int) Q A step) := Lib.hid (by show unS _ _ _ _ ++ unA t wide step (i + 1) = _; rw [HO.out, HUA.out])
        have hus : (undoS (k : Int) Q A step).size = wide := by rw [undoS_size]; exact hQs
        obtain ⟨V, hV⟩ : ∃ V, undoS (k : Int) Q A step = V := ⟨_, rfl⟩
        rw [hV] at HU HUA HUS hus
        have HAN : Hid (∀ j, j < i + 1 → kdT t wide j ≤ 4) := Lib.hid (fun j hj => by
          rcases Nat.lt_succ_iff_lt_or_eq.1 hj with q | rfl
          · exact HA.out j q
          · rw [HK.out]; exact hk4)
        clear hV hk
        go_wp2_with fail
        have HXD : Hid (Ext w wr.drew) := Lib.hid (Below.drew HX.out)
        refine wp_region_held_drew (S := fun w' => True) (by kernel_rfl) trivial (fun hHeld => ?_)
        clear hHeld
        have hHeld : True := trivial
        refine wpAnyH_take (i := 0) (v := ?_) rfl (by kernel_rfl) (by kernel_rfl) (by kernel_rfl) (fun _ _ _ h => h) (Or.inl ⟨by kernel_rfl, ?_⟩) hHeld ?_
        rotate_left
        · intro w hSw
          (try dsimp only at hSw)
          go_split_ands
          go_simp
          (try with_reducible rfl)
        try simp only [Act.put, List.getElem_toArray, List.getElem_cons_succ, List.getElem_cons_zero, List.setIfInBounds_toArray, List.set_cons_zero, List.set_cons_succ]
        refine wpAnyH_take (i := 1) (v := ?_) rfl (by kernel_rfl) (by kernel_rfl) (by kernel_rfl) (fun _ _ _ h => h) (Or.inl ⟨by kernel_rfl, ?_⟩) hHeld ?_
        rotate_left
        · intro w hSw
          (try dsimp only at hSw)
          go_split_ands
          go_simp
          (try with_reducible rfl)
        try simp only [Act.put, List.getElem_toArray, List.getElem_cons_succ, List.getElem_cons_zero, List.setIfInBounds_toArray, List.set_cons_zero, List.set_cons_succ]
        refine wpAnyH_take (i := 2) (v := ?_) rfl (by kernel_rfl) (by kernel_rfl) (by kernel_rfl) (fun _ _ _ h => h) (Or.inl ⟨by kernel_rfl, ?_⟩) hHeld ?_
        rotate_left
        · intro w hSw
          (try dsimp only at hSw)
          go_split_ands
          go_simp
          (try with_reducible rfl)
        try simp only [Act.put, List.getElem_toArray, List.getElem_cons_succ, List.getElem_cons_zero, List.setIfInBounds_toArray, List.set_cons_zero, List.set_cons_succ]
        refine wpAnyH_take (i := 3) (v := ?_) rfl (by kernel_rfl) (by kernel_rfl) (by kernel_rfl) (fun _ _ _ h => h) (Or.inl ⟨by kernel_rfl, ?_⟩) hHeld ?_
        rotate_left
        · intro w hSw
          (try dsimp only at hSw)
          go_split_ands
          go_simp
          (try with_reducible rfl)
        try simp only [Act.put, List.getElem_toArray, List.getElem_cons_succ, List.getElem_cons_zero, List.setIfInBounds_toArray, List.set_cons_zero, List.set_cons_succ]
        refine wpAnyH_take (i := 4) (v := ?_) rfl (by kernel_rfl) (by kernel_rfl) (by kernel_rfl) (fun _ _ _ h => h) (Or.inl ⟨by kernel_rfl, ?_⟩) hHeld ?_
        rotate_left
        · intro w hSw
          (try dsimp only at hSw)
          go_split_ands
          go_simp
          (try with_reducible rfl)
        try simp only [Act.put, List.getElem_toArray, List.getElem_cons_succ, List.getElem_cons_zero, List.setIfInBounds_toArray, List.set_cons_zero, List.set_cons_succ]
        refine wpAnyH_take (i := 5) (v := ?_) rfl (by kernel_rfl) (by kernel_rfl) (by kernel_rfl) (fun _ _ _ h => h) (Or.inl ⟨by kernel_rfl, ?_⟩) hHeld ?_
        rotate_left
        · intro w hSw
          (try dsimp only at hSw)
          go_split_ands
          go_simp
          (try with_reducible rfl)
        try simp only [Act.put, List.getElem_toArray, List.getElem_cons_succ, List.getElem_cons_zero, List.setIfInBounds_toArray, List.set_cons_zero, List.set_cons_succ]
        refine wpAnyH_take (i := 6) (v := ?_) rfl (by kernel_rfl) (by kernel_rfl) (by kernel_rfl) (fun _ _ _ h => h) (Or.inl ⟨by kernel_rfl, ?_⟩) hHeld ?_
        rotate_left
        · intro w hSw
          (try dsimp only at hSw)
          go_split_ands
          go_simp
          (try with_reducible rfl)
        try simp only [Act.put, List.getElem_toArray, List.getElem_cons_succ, List.getElem_cons_zero, List.setIfInBounds_toArray, List.set_cons_zero, List.set_cons_succ]
        refine wpAnyH_ready (rs := [7]) (by kernel_rfl) (by simp) ?_
        refine AllReadyH.cons rfl (fun KK hK => ?_) AllReadyH.nil
        clear hHeld
        go_simp
        with_reducible refine (HU.out _ (HE.out.ext HXD.out)).mono ?_
        rintro e w3 ⟨rfl, h⟩
        have HX2 := Lib.hid (HXD.out.trans h)
        clear h
        go_simp
        refine hK.out _ _ trivial (fun hHeld => ?_)
        clear hK KK
        try simp only [Act.put, List.getElem_toArray, List.getElem_cons_succ, List.getElem_cons_zero, List.setIfInBounds_toArray, List.set_cons_zero, List.set_cons_succ]
        refine wpAnyH_take (i := 8) (v := ?_) rfl (by kernel_rfl) (by kernel_rfl) (by kernel_rfl) (fun _ _ _ h => h) (Or.inl ⟨by kernel_rfl, ?_⟩) hHeld ?_
        rotate_left
        · intro w hSw
          (try dsimp only at hSw)
          go_split_ands
          go_simp
          (try with_reducible rfl)
        try simp only [Act.put, List.getElem_toArray, List.getElem_cons_succ, List.getElem_cons_zero, List.setIfInBounds_toArray, List.set_cons_zero, List.set_cons_succ]
        refine wpAnyH_take (i := 9) (v := ?_) rfl (by kernel_rfl) (by kernel_rfl) (by kernel_rfl) (fun _ _ _ h => h) (Or.inl ⟨by kernel_rfl, ?_⟩) hHeld ?_
        rotate_left
        · intro w hSw
          (try dsimp only at hSw)
          go_split_ands
          go_simp
          (try with_reducible rfl)
        try simp only [Act.put, List.getElem_toArray, List.getElem_cons_succ, List.getElem_cons_zero, List.setIfInBounds_toArray, List.set_cons_zero, List.set_cons_succ]
        refine wpAnyH_take (i := 10) (v := ?_) rfl (by kernel_rfl) (by kernel_rfl) (by kernel_rfl) (fun _ _ _ h => h) (Or.inl ⟨by kernel_rfl, ?_⟩) hHeld ?_
        rotate_left
        · intro w hSw
          (try dsimp only at hSw)
          go_split_ands
          go_simp
          (try with_reducible rfl)
        try simp only [Act.put, List.getElem_toArray, List.getElem_cons_succ, List.getElem_cons_zero, List.setIfInBounds_toArray, List.set_cons_zero, List.set_cons_succ]
        refine wpAnyH_take (i := 11) (v := ?_) rfl (by kernel_rfl) (by kernel_rfl) (by kernel_rfl) (fun _ _ _ h => h) (Or.inl ⟨by kernel_rfl, ?_⟩) hHeld ?_
        rotate_left
        · intro w hSw
          (try dsimp only at hSw)
          go_split_ands
          go_simp
          (try with_reducible rfl)
        try simp only [Act.put, List.getElem_toArray, List.getElem_cons_succ, List.getElem_cons_zero, List.setIfInBounds_toArray, List.set_cons_zero, List.set_cons_succ]
        refine wpAnyH_take (i := 12) (v := ?_) rfl (by kernel_rfl) (by kernel_rfl) (by kernel_rfl) (fun _ _ _ h => h) (Or.inl ⟨by kernel_rfl, ?_⟩) hHeld ?_
        rotate_left
        · intro w hSw
          (try dsimp only at hSw)
          go_split_ands
          go_simp
          (try with_reducible rfl)
        try simp only [Act.put, List.getElem_toArray, List.getElem_cons_succ, List.getElem_cons_zero, List.setIfInBounds_toArray, List.set_cons_zero, List.set_cons_succ]
        refine wpAnyH_done (by kernel_rfl) ?_ _
        clear hHeld
        go_wp2_with fail
        go_roundw
        case rel => exact ⟨i + 1, by omega, by go_num, by rw [HUS.out], by rw [HUA.out], HAN, HX2⟩
        case measure => simp [intOf]; omega
      · have HU : Hid (∀ w5, Errs w5 E → Calls Tryd.prog 46 #[.int .i64 (k : Int), .string Q, .string A, .int .i64 (step : Int)] w5 fun e w' => (∃ j, e = .returned (.tuple #[.string ⟨#[]⟩, .iface 101 (.pointer (some (E j)))])) ∧ Ext w5 w') := Lib.hid (fun w5 h5 => (badUndo_calls (k : Int) Q A step w5 (by omega) (by omega) (by omega) (by omega) (fun h => by have := h.1.2.1; omega) (E 1) (E 2) (by have := h5.var 1 (by decide); simpa only [gk, sentV] using this) (by have := h5.var 2 (by decide); simpa only [gk, sentV] using this)).mono (fun e w' ⟨F, q, he, hw⟩ => ⟨by rcases q with ⟨rfl, _⟩ | ⟨rfl, _⟩; exact ⟨1, he⟩; exact ⟨2, he⟩, hw ▸ Ext.refl _⟩))
        clear hk
        go_wp2_with fail
        have HXD : Hid (Ext w wr.drew) := Lib.hid (Below.drew HX.out)
        refine wp_region_held_drew (S := fun w' => True) (by kernel_rfl) trivial (fun hHeld => ?_)
        clear hHeld
        have hHeld : True := trivial
        refine wpAnyH_take (i := 0) (v := ?_) rfl (by kernel_rfl) (by kernel_rfl) (by kernel_rfl) (fun _ _ _ h => h) (Or.inl ⟨by kernel_rfl, ?_⟩) hHeld ?_
        rotate_left
        · intro w hSw
          (try dsimp only at hSw)
          go_split_ands
          go_simp
          (try with_reducible rfl)
        try simp only [Act.put, List.getElem_toArray, List.getElem_cons_succ, List.getElem_cons_zero, List.setIfInBounds_toArray, List.set_cons_zero, List.set_cons_succ]
        refine wpAnyH_take (i := 1) (v := ?_) rfl (by kernel_rfl) (by kernel_rfl) (by kernel_rfl) (fun _ _ _ h => h) (Or.inl ⟨by kernel_rfl, ?_⟩) hHeld ?_
        rotate_left
        · intro w hSw
          (try dsimp only at hSw)
          go_split_ands
          go_simp
          (try with_reducible rfl)
        try simp only [Act.put, List.getElem_toArray, List.getElem_cons_succ, List.getElem_cons_zero, List.setIfInBounds_toArray, List.set_cons_zero, List.set_cons_succ]
        refine wpAnyH_take (i := 2) (v := ?_) rfl (by kernel_rfl) (by kernel_rfl) (by kernel_rfl) (fun _ _ _ h => h) (Or.inl ⟨by kernel_rfl, ?_⟩) hHeld ?_
        rotate_left
        · intro w hSw
          (try dsimp only at hSw)
          go_split_ands
          go_simp
          (try with_reducible rfl)
        try simp only [Act.put, List.getElem_toArray, List.getElem_cons_succ, List.getElem_cons_zero, List.setIfInBounds_toArray, List.set_cons_zero, List.set_cons_succ]
        refine wpAnyH_take (i := 3) (v := ?_) rfl (by kernel_rfl) (by kernel_rfl) (by kernel_rfl) (fun _ _ _ h => h) (Or.inl ⟨by kernel_rfl, ?_⟩) hHeld ?_
        rotate_left
        · intro w hSw
          (try dsimp only at hSw)
          go_split_ands
          go_simp
          (try with_reducible rfl)
        try simp only [Act.put, List.getElem_toArray, List.getElem_cons_succ, List.getElem_cons_zero, List.setIfInBounds_toArray, List.set_cons_zero, List.set_cons_succ]
        refine wpAnyH_take (i := 4) (v := ?_) rfl (by kernel_rfl) (by kernel_rfl) (by kernel_rfl) (fun _ _ _ h => h) (Or.inl ⟨by kernel_rfl, ?_⟩) hHeld ?_
        rotate_left
        · intro w hSw
          (try dsimp only at hSw)
          go_split_ands
          go_simp
          (try with_reducible rfl)
        try simp only [Act.put, List.getElem_toArray, List.getElem_cons_succ, List.getElem_cons_zero, List.setIfInBounds_toArray, List.set_cons_zero, List.set_cons_succ]
        refine wpAnyH_take (i := 5) (v := ?_) rfl (by kernel_rfl) (by kernel_rfl) (by kernel_rfl) (fun _ _ _ h => h) (Or.inl ⟨by kernel_rfl, ?_⟩) hHeld ?_
        rotate_left
        · intro w hSw
          (try dsimp only at hSw)
          go_split_ands
          go_simp
          (try with_reducible rfl)
        try simp only [Act.put, List.getElem_toArray, List.getElem_cons_succ, List.getElem_cons_zero, List.setIfInBounds_toArray, List.set_cons_zero, List.set_cons_succ]
        refine wpAnyH_take (i := 6) (v := ?_) rfl (by kernel_rfl) (by kernel_rfl) (by kernel_rfl) (fun _ _ _ h => h) (Or.inl ⟨by kernel_rfl, ?_⟩) hHeld ?_
        rotate_left
        · intro w hSw
          (try dsimp only at hSw)
          go_split_ands
          go_simp
          (try with_reducible rfl)
        try simp only [Act.put, List.getElem_toArray, List.getElem_cons_succ, List.getElem_cons_zero, List.setIfInBounds_toArray, List.set_cons_zero, List.set_cons_succ]
        refine wpAnyH_ready (rs := [7]) (by kernel_rfl) (by simp) ?_
        refine AllReadyH.cons rfl (fun KK hK => ?_) AllReadyH.nil
        clear hHeld
        go_simp
        with_reducible refine (HU.out _ (HE.out.ext HXD.out)).mono ?_
        rintro e w3 ⟨⟨j, rfl⟩, h⟩
        have HX2 := Lib.hid (HXD.out.trans h)
        clear h
        go_simp
        refine hK.out _ _ trivial (fun hHeld => ?_)
        clear hK KK
        try simp only [Act.put, List.getElem_toArray, List.getElem_cons_succ, List.getElem_cons_zero, List.setIfInBounds_toArray, List.set_cons_zero, List.set_cons_succ]
        refine wpAnyH_take (i := 8) (v := ?_) rfl (by kernel_rfl) (by kernel_rfl) (by kernel_rfl) (fun _ _ _ h => h) (Or.inl ⟨by kernel_rfl, ?_⟩) hHeld ?_
        rotate_left
        · intro w hSw
          (try dsimp only at hSw)
          go_split_ands
          go_simp
          (try with_reducible rfl)
        try simp only [Act.put, List.getElem_toArray, List.getElem_cons_succ, List.getElem_cons_zero, List.setIfInBounds_toArray, List.set_cons_zero, List.set_cons_succ]
        refine wpAnyH_take (i := 9) (v := ?_) rfl (by kernel_rfl) (by kernel_rfl) (by kernel_rfl) (fun _ _ _ h => h) (Or.inl ⟨by kernel_rfl, ?_⟩) hHeld ?_
        rotate_left
        · intro w hSw
          (try dsimp only at hSw)
          go_split_ands
          go_simp
          (try with_reducible rfl)
        try simp only [Act.put, List.getElem_toArray, List.getElem_cons_succ, List.getElem_cons_zero, List.setIfInBounds_toArray, List.set_cons_zero, List.set_cons_succ]
        refine wpAnyH_take (i := 10) (v := ?_) rfl (by kernel_rfl) (by kernel_rfl) (by kernel_rfl) (fun _ _ _ h => h) (Or.inl ⟨by kernel_rfl, ?_⟩) hHeld ?_
        rotate_left
        · intro w hSw
          (try dsimp only at hSw)
          go_split_ands
          go_simp
          (try with_reducible rfl)
        try simp only [Act.put, List.getElem_toArray, List.getElem_cons_succ, List.getElem_cons_zero, List.setIfInBounds_toArray, List.set_cons_zero, List.set_cons_succ]
        refine wpAnyH_take (i := 11) (v := ?_) rfl (by kernel_rfl) (by kernel_rfl) (by kernel_rfl) (fun _ _ _ h => h) (Or.inl ⟨by kernel_rfl, ?_⟩) hHeld ?_
        rotate_left
        · intro w hSw
          (try dsimp only at hSw)
          go_split_ands
          go_simp
          (try with_reducible rfl)
        try simp only [Act.put, List.getElem_toArray, List.getElem_cons_succ, List.getElem_cons_zero, List.setIfInBounds_toArray, List.set_cons_zero, List.set_cons_succ]
        refine wpAnyH_take (i := 12) (v := ?_) rfl (by kernel_rfl) (by kernel_rfl) (by kernel_rfl) (fun _ _ _ h => h) (Or.inl ⟨by kernel_rfl, ?_⟩) hHeld ?_
        rotate_left
        · intro w hSw
          (try dsimp only at hSw)
          go_split_ands
          go_simp
          (try with_reducible rfl)
        try simp only [Act.put, List.getElem_toArray, List.getElem_cons_succ, List.getElem_cons_zero, List.setIfInBounds_toArray, List.set_cons_zero, List.set_cons_succ]
        refine wpAnyH_done (by kernel_rfl) ?_ _
        clear hHeld
        have hv := (HE.out.ext HX2.out).var 0 (by decide)
        simp only [gk, sentV] at hv
        go_wp2_with fail
        go_region
        all_goals
          (try go_wp2_with fail)
          go_ret2
          exact back_bad HX2.out hlt HA.out (by rw [HK.out]; omega) (by omega)
    · obtain rfl : i = m := by omega
      have hML : ¬ M < t.size := by omega
      go_wp2_with fail
      go_ret2
      exact ⟨HX.out, .inl ⟨HA.out, by rw [HO.out]; rfl⟩⟩
end Go.Proofs.YtkddbhngffbljaaDoor
