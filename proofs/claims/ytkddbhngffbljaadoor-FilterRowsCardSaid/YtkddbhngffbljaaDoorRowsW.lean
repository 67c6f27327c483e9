/- filter.Rows, filter.Back. -/
import Derived.Test.YtkddbhngffbljaaDoorRowLaw
import Derived.Test.YtkddbhngffbljaaDoorUndo
import Derived.Deep.AppendLies
import Derived.Deep.RegionHeld3
import Derived.RegionTactic
namespace Go.Proofs.YtkddbhngffbljaaDoor
open Go.RowKit
set_option maxRecDepth 100000
theorem whole_ok (s : ByteArray) (D wide more step : Nat) (w : World) (hD : wide + more = D) (hw : 1 ≤ wide ∧ wide ≤ 300000) (hm : more ≤ 1) (hst : 1 ≤ step ∧ step ≤ 8) (hs : s.size ≤ 300000) (hd : s.size % D = 0) :
    Calls Tryd.prog 71 #[.string s, .int .i64 (wide : Int), .int .i64 (more : Int), .int .i64 (step : Int)] w fun e w' => e = .returned .nilIface ∧ w = w' := by
  obtain ⟨h1, h2⟩ := hw
  obtain ⟨h3, h4⟩ := hst
  have hDI : (wide : Int) + (more : Int) = (D : Int) := by omega
  have hD1 : 1 ≤ D := by omega
  have t : (((s.size : Int) % (D : Int)) != 0) = false := by
    have : (s.size : Int) % (D : Int) = ((s.size % D : Nat) : Int) := by simp
    rw [this, hd]; rfl
  clear hd hD
  go_enter Tryd.func71, Tryd.ntmps71
  go_wp2_with fail
  go_ret
  exact ⟨rfl, rfl⟩
theorem whole_shape (s : ByteArray) (D wide more step : Nat) (w : World) (E : Nat → Addr) (hE : Errs w E) (hD : wide + more = D) (hw : 1 ≤ wide ∧ wide ≤ 300000) (hm : more ≤ 1) (hst : 1 ≤ step ∧ step ≤ 8) (hs : s.size ≤ 300000) (hd : s.size % D ≠ 0) :
    Calls Tryd.prog 71 #[.string s, .int .i64 (wide : Int), .int .i64 (more : Int), .int .i64 (step : Int)] w fun e w' => e = .returned (.iface 101 (.pointer (some (E 2)))) ∧ w = w' := by
  obtain ⟨h1, h2⟩ := hw
  obtain ⟨h3, h4⟩ := hst
  have hDI : (wide : Int) + (more : Int) = (D : Int) := by omega
  have hD1 : 1 ≤ D := by omega
  have hv := hE.var 2 (by decide)
  simp only [gk, sentV] at hv
  have t : (((s.size : Int) % (D : Int)) != 0) = true := by
    have : (s.size : Int) % (D : Int) = ((s.size % D : Nat) : Int) := by simp
    rw [this, bne_iff_ne]; omega
  clear hd hD hE
  go_enter Tryd.func71, Tryd.ntmps71
  go_wp2_with fail
  go_ret
  exact ⟨rfl, rfl⟩
theorem whole_bound (s : ByteArray) (wide more step : Int) (w : World) (E : Nat → Addr) (hE : Errs w E) (h : wide < 1 ∨ 300000 < wide ∨ step < 1 ∨ 8 < step) :
    Calls Tryd.prog 71 #[.string s, .int .i64 wide, .int .i64 more, .int .i64 step] w fun e w' => e = .returned (.iface 101 (.pointer (some (E 1)))) ∧ w = w' := by
  have hv := hE.var 1 (by decide)
  simp only [gk, sentV] at hv
  clear hE
  by_cases q1 : wide < 1
  · have t1 : decide (wide < 1) = true := decide_eq_true q1
    go_enter Tryd.func71, Tryd.ntmps71
    go_wp2_with fail
    go_ret
    exact ⟨rfl, rfl⟩
  have t1 : decide (wide < 1) = false := decide_eq_false q1
  by_cases q2 : 300000 < wide
  · have t2 : decide (300000 < wide) = true := decide_eq_true q2
    clear q1 h
    go_enter Tryd.func71, Tryd.ntmps71
    go_wp2_with fail
    go_ret
    exact ⟨rfl, rfl⟩
  have t2 : decide (300000 < wide) = false := decide_eq_false q2
  by_cases q3 : step < 1
  · have t3 : decide (step < 1) = true := decide_eq_true q3
    clear q1 q2 h
    go_enter Tryd.func71, Tryd.ntmps71
    go_wp2_with fail
    go_ret
    exact ⟨rfl, rfl⟩
  have t3 : decide (step < 1) = false := decide_eq_false q3
  have t4 : decide (8 < step) = true := decide_eq_true (by omega)
  clear q1 q2 q3 h
  go_enter Tryd.func71, Tryd.ntmps71
  go_wp2_with fail
  go_ret
  exact ⟨rfl, rfl⟩
theorem rows_err (s : ByteArray) (wide step : Int) (k : Nat) (w : World) (E : Nat → Addr) (h : Calls Tryd.prog 71 #[.string s, .int .i64 wide, .int .i64 0, .int .i64 step] w fun e w' => e = .returned (.iface 101 (.pointer (some (E k)))) ∧ w = w') :
    Calls Tryd.prog 51 #[.string s, .int .i64 wide, .int .i64 step] w fun e w' => e = .returned (.tuple #[.string ⟨#[]⟩, .iface 101 (.pointer (some (E k)))]) ∧ w = w' := by
  have H := Lib.hid h
  clear h
  go_enter Tryd.func51, Tryd.ntmps51
  go_wp2_with fail
  refine H.out.mono ?_
  rintro e w1 ⟨rfl, rfl⟩
  go_wp2_with fail
  go_ret2
  exact ⟨rfl, rfl⟩
theorem back_err (s : ByteArray) (wide step : Int) (k : Nat) (w : World) (E : Nat → Addr) (h : Calls Tryd.prog 71 #[.string s, .int .i64 wide, .int .i64 1, .int .i64 step] w fun e w' => e = .returned (.iface 101 (.pointer (some (E k)))) ∧ w = w') :
    Calls Tryd.prog 52 #[.string s, .int .i64 wide, .int .i64 step] w fun e w' => e = .returned (.tuple #[.string ⟨#[]⟩, .iface 101 (.pointer (some (E k)))]) ∧ w = w' := by
  have H := Lib.hid h
  clear h
  go_enter Tryd.func52, Tryd.ntmps52
  go_wp2_with fail
  refine H.out.mono ?_
  rintro e w1 ⟨rfl, rfl⟩
  go_wp2_with fail
  go_ret2
  exact ⟨rfl, rfl⟩
/-- a row of bytes that grew by others that lie elsewhere -/
theorem row_more {w w3 w4 : World} {u v : Value} {L : Nat} {U D : List UInt8} (hE : Ext w w3) (hR : w3.ownsRow w.heap.size 5 1 u L (bytesV U)) (hg : w3.grownBy w4 u.ownBlock)
    (ho : w4.ownsRow w.heap.size 5 1 v (L + D.length) (bytesV U ++ bytesV D)) : w4.ownsRow w.heap.size 5 1 v (L + D.length) (bytesV (U ++ D)) ∧ Ext w w4 := by
  refine ⟨?_, Below.trans hE ((Keeps.grown hg).below hE.size (fun k hk e => by have := (hR.lt k e).1; omega))⟩
  have e : bytesV (U ++ D) = bytesV U ++ bytesV D := by simp [bytesV]
  rw [e]; exact ho
theorem bytesV_one (l : List UInt8) : ∀ u ∈ bytesV l, u.oneCell' = true := by
  intro u hu
  obtain ⟨b, _, rfl⟩ := List.mem_map.1 hu
  rfl
theorem bytes_conv {w : World} {base L : Nat} {v : Value} {l : List UInt8} (hl : l.length = L) (h : w.ownsRow base 5 1 v L (bytesV l)) : (convert 25 9 v).run Tryd.prog w = .ok (.string (tx l)) w := by
  rw [tx_eq]
  subst hl
  rcases ownsRow_slice h with ⟨rfl, h0⟩ | ⟨g, cap, rfl⟩
  · rw [run_convert_bytes_string w 25 9 5 none 0 0 Tryd.underlying25 Tryd.underlying5 Tryd.underlying9, List.eq_nil_of_length_eq_zero h0]; rfl
  · refine run_convert_bytes_back (P := Tryd.prog) w 25 9 5 ⟨g, 0, none⟩ cap l Tryd.underlying25 Tryd.underlying5 Tryd.underlying9 (fun j hj => ?_)
    rw [add_plain, h.cellAt j (by omega), bytesV_get _ j hj]
theorem empty_no (s : ByteArray) (h : s.size ≠ 0) : s.toList.isEmpty = false := by rw [isEmpty_iff]; exact decide_eq_false h
theorem empty_yes (s : ByteArray) (h : s.size = 0) : s.toList.isEmpty = true := by rw [isEmpty_iff]; exact decide_eq_true h
set_option linter.unusedSimpArgs false in
set_option maxHeartbeats 2000000 in
theorem rows_ok (s : ByteArray) (wide step n : Nat) (w : World) (E : Nat → Addr) (hE : Errs w E) (hn : s.size = n * wide) (hw : 1 ≤ wide ∧ wide ≤ 300000) (hst : 1 ≤ step ∧ step ≤ 8) (hs : s.size ≤ 300000) :
    Calls Tryd.prog 51 #[.string s, .int .i64 (wide : Int), .int .i64 (step : Int)] w fun e w' => e = .returned (.tuple #[.string (tx (rowsL s wide step n)), .nilIface]) ∧ Ext w w' := by
  have HE := Lib.hid hE
  have HN := Lib.hid hn
  have hwh := Lib.hid (fun w => whole_ok s wide wide 0 step w (by omega) hw (by omega) hst hs (by rw [hn]; exact Nat.mul_mod_left _ _))
  obtain ⟨i0, hi0, hz0, hz1, hz2⟩ := info_parts byteinfo
  obtain ⟨h1, h2⟩ := hw
  have HST := Lib.hid hst
  obtain ⟨h3, h4⟩ := hst
  clear hE hn
  go_enter Tryd.func51, Tryd.ntmps51
  go_wp2_with fail
  refine (hwh.out _).mono ?_
  rintro e w1 ⟨rfl, rfl⟩
  go_wp2_with fail
  go_loopw [0, 9, 10] (fun u v a wr => ∃ (i : Nat) (S : ByteArray), i ≤ n ∧ u = .string S ∧ a = .string (ahB s wide i) ∧ Hid (S = s.extract (i * wide) s.size) ∧ Hid (wr.ownsRow w.heap.size 5 1 v (rowsL s wide step i).length (bytesV (rowsL s wide step i))) ∧ Hid (Ext w wr)) (fun u _ _ _ => match u with | .string S => S.size | _ => 0)
  case atStart => exact ⟨0, s, by omega, rfl, rfl, Lib.hid (by rw [Nat.zero_mul]; simp), Lib.hid (World.ownsRow_nil _ _ _ _), Lib.hid (Ext.refl _)⟩
  case round =>
    obtain ⟨i, S, hi, rfl, rfl, HS, HR, HX⟩ := hrel
    have hSz : S.size = s.size - i * wide := by rw [HS.out, ByteArray.size_extract]; omega
    have hll := rowsL_length (step := step) HN.out i hi
    by_cases hlt : i < n
    · have hiw : i * wide + wide ≤ s.size := by rw [HN.out, ← Nat.succ_mul]; exact Nat.mul_le_mul_right _ hlt
      obtain ⟨R, hR⟩ : ∃ R, S.extract 0 wide = R := ⟨_, rfl⟩
      obtain ⟨S2, hS2⟩ : ∃ S2, S.extract wide S.size = S2 := ⟨_, rfl⟩
      have HRr : Hid (R = rowB s wide i) := Lib.hid (by rw [← hR, HS.out, ByteArray.extract_extract]; unfold rowB; rw [Nat.add_zero, Nat.succ_mul, Nat.min_eq_left (by omega)])
      have HS2 : Hid (S2 = s.extract ((i + 1) * wide) s.size) := Lib.hid (by rw [← hS2, hSz, HS.out, ByteArray.extract_extract, Nat.succ_mul, Nat.min_eq_right (by omega)])
      have hRs : R.size = wide := by rw [HRr.out]; exact rowB_size HN.out hlt
      have hS2s : S2.size < S.size := by rw [← hS2, ByteArray.size_extract]; omega
      have hch := ahB_ok HN.out hlt
      obtain ⟨A, hA⟩ : ∃ A, ahB s wide i = A := ⟨_, rfl⟩
      rw [hA, ← HRr.out] at hch
      have hbs : bestS R A step ≤ 4 := bestS_le _ _ _ (by omega)
      have HBI : Hid (rowsL s wide step (i + 1) = rowsL s wide step i ++ (UInt8.ofNat (bestS R A step) :: (doS (bestS R A step : Int) R A step).data.toList)) := Lib.hid (by show _ ++ chunkL s wide step i = _; unfold chunkL bestI; rw [hA, ← HRr.out])
      have HBG := Lib.hid (fun w5 (h5 : Errs w5 E) => best_good R A step w5 E h5 (by omega) HST.out hch)
      obtain ⟨b, hb⟩ : ∃ b, bestS R A step = b := ⟨_, rfl⟩
      rw [hb] at HBI HBG hbs
      obtain ⟨O, hO⟩ : ∃ O, rowsL s wide step i = O := ⟨_, rfl⟩
      obtain ⟨L, hL⟩ : ∃ L, O.length = L := ⟨_, rfl⟩
      rw [hO] at HR HBI hll
      rw [hL] at HR hll
      have HLL := Lib.hid hL
      have hbig : L ≤ 600000 := by
        rw [hll]
        have q1 : i * wide ≤ 300000 := by omega
        have q2 : i ≤ i * wide := Nat.le_mul_of_pos_right _ h1
        rw [Nat.mul_add]; omega
      obtain ⟨D, hD⟩ : ∃ D, (doS (b : Int) R A step).data.toList = D := ⟨_, rfl⟩
      have hDl : D.length = wide := by rw [← hD, Array.length_toList]; show (doS _ _ _ _).size = _; rw [doS_size]; exact hRs
      rw [hD] at HBI
      have HDO : Hid (∀ w5, Calls Tryd.prog 66 #[.int .i64 (b : Int), .string R, .string A, .int .i64 (step : Int)] w5 fun e w' => ∃ B, w5.heap.size ≤ B ∧ e = .returned (.slice (some ⟨B, 0, none⟩) wide wide) ∧ (∀ j u, (bytesV D)[j]? = some u → w'.cell? ((⟨B, 0, none⟩ : Addr).add j) = some u) ∧ Ext w5 w') := Lib.hid (fun w5 => by
        refine (do_calls (b : Int) R A step w5 (by omega) (by omega) h4 (by omega)).mono ?_
        rintro e w' ⟨B, hB, rfl, hCs, hX⟩
        refine ⟨B, hB, by rw [hRs], fun j u hj => ?_, hX⟩
        have hjl : j < D.length := by
          rcases Nat.lt_or_ge j D.length with q | q
          · exact q
          · rw [List.getElem?_eq_none (by rw [bytesV_length]; exact q)] at hj; cases hj
        rw [bytesV_get D j hjl] at hj
        injection hj with hj
        subst hj
        rw [add_plain, (hCs j (by omega)).1]
        congr 2
        have e : D[j] = doB (b : Int) R.data.toList A.data.toList step j := by
          have q := doL_getD (b : Int) R.data.toList A.data.toList step j (by rw [Array.length_toList]; show j < R.size; omega)
          rw [← q]
          have q2 : doL (b : Int) R.data.toList A.data.toList step = D := by rw [← hD]; rfl
          rw [q2]; simp [List.getD, hjl]
        rw [e])
      have e1 : S.toList.isEmpty = false := empty_no S (by omega)
      have hw8 : IntKind.u8.wrap (b : Int) = (b : Int) := by unfold IntKind.wrap; simp [IntKind.bits, IntKind.signed]; omega
      have b1 : wide ≤ S.size := by omega
      have HHA := Lib.hid hA
      have HRR := Lib.hid hR
      have HSS := Lib.hid hS2
      have hsz : w.heap.size ≤ wr.heap.size := HX.out.size
      have hSb : S.size ≤ 300000 := by omega
      have HM := Lib.hid hS2s
      rw [hA]
      clear hll hiw hch hb hO hL hD hA hSz hS2s
      go_wp2_with fail
      with_reducible refine (HBG.out _ (HE.out.ext HX.out)).mono ?_
      rintro e w2 ⟨rfl, h2⟩
      have HX2 := Lib.hid (HX.out.trans h2)
      have HR2 := Lib.hid (ownsRow_kept (S := fun _ => False) HR.out (Ext.keeps h2) (fun _ _ => id))
      have hsz2 : w.heap.size ≤ w2.heap.size := HX2.out.size
      clear h2
      go_wp2_with fail
      have HRd : Hid (w2.drew.ownsRow w.heap.size 5 1 u9 L (bytesV O)) := HR2.out
      refine wp_region_held_drew (S := fun w' => True) (by kernel_rfl) trivial (fun hHeld => ?_)
      clear hHeld
      have hHeld : True := trivial
      refine wpAnyH_take (i := 0) (v := ?_) rfl (by kernel_rfl) (by kernel_rfl) (by kernel_rfl) (fun _ _ _ h => h) (Or.inl ⟨by kernel_rfl, ?_⟩) hHeld ?_
      rotate_left
      · intro w hSw
        (try dsimp only at hSw)
        go_split_ands
        go_simp
        (try with_reducible rfl)
      try simp only [Act.put, List.getElem_toArray, List.getElem_cons_succ, List.getElem_cons_zero, List.setIfInBounds_toArray, List.set_cons_zero, List.set_cons_succ]
      refine wpAnyH_take (i := 1) (v := ?_) rfl (by kernel_rfl) (by kernel_rfl) (by kernel_rfl) (fun _ _ _ h => h) (Or.inl ⟨by kernel_rfl, ?_⟩) hHeld ?_
      rotate_left
      · intro w hSw
        (try dsimp only at hSw)
        go_split_ands
        go_simp
        (try with_reducible rfl)
      try simp only [Act.put, List.getElem_toArray, List.getElem_cons_succ, List.getElem_cons_zero, List.setIfInBounds_toArray, List.set_cons_zero, List.set_cons_succ]
      refine wpAnyH_take (i := 2) (v := ?_) rfl (by kernel_rfl) (by kernel_rfl) (by kernel_rfl) (fun _ _ _ h => h) (Or.inl ⟨by kernel_rfl, ?_⟩) hHeld ?_
      rotate_left
      · intro w hSw
        (try dsimp only at hSw)
        go_split_ands
        go_simp
        (try with_reducible rfl)
      try simp only [Act.put, List.getElem_toArray, List.getElem_cons_succ, List.getElem_cons_zero, List.setIfInBounds_toArray, List.set_cons_zero, List.set_cons_succ]
      refine wpAnyH_take (i := 5) (v := ?_) rfl (by kernel_rfl) (by kernel_rfl) (by kernel_rfl) (fun _ _ _ h => h) (Or.inl ⟨by kernel_rfl, ?_⟩) hHeld ?_
      rotate_left
      · intro w hSw
        (try dsimp only at hSw)
        go_split_ands
        go_simp
        (try with_reducible rfl)
      try simp only [Act.put, List.getElem_toArray, List.getElem_cons_succ, List.getElem_cons_zero, List.setIfInBounds_toArray, List.set_cons_zero, List.set_cons_succ]
      refine wpAnyH_take (i := 6) (v := ?_) rfl (by kernel_rfl) (by kernel_rfl) (by kernel_rfl) (fun _ _ _ h => h) (Or.inl ⟨by kernel_rfl, ?_⟩) hHeld ?_
      rotate_left
      · intro w hSw
        (try dsimp only at hSw)
        go_split_ands
        go_simp
        (try with_reducible rfl)
      try simp only [Act.put, List.getElem_toArray, List.getElem_cons_succ, List.getElem_cons_zero, List.setIfInBounds_toArray, List.set_cons_zero, List.set_cons_succ]
      refine wpAnyH_take (i := 7) (v := ?_) rfl (by kernel_rfl) (by kernel_rfl) (by kernel_rfl) (fun _ _ _ h => h) (Or.inl ⟨by kernel_rfl, ?_⟩) hHeld ?_
      rotate_left
      · intro w hSw
        (try dsimp only at hSw)
        go_split_ands
        go_simp
        (try with_reducible rfl)
      try simp only [Act.put, List.getElem_toArray, List.getElem_cons_succ, List.getElem_cons_zero, List.setIfInBounds_toArray, List.set_cons_zero, List.set_cons_succ]
      refine wpAnyH_take (i := 8) (v := ?_) rfl (by kernel_rfl) (by kernel_rfl) (by kernel_rfl) (fun _ _ _ h => h) (Or.inl ⟨by kernel_rfl, ?_⟩) hHeld ?_
      rotate_left
      · intro w hSw
        (try dsimp only at hSw)
        go_split_ands
        go_simp
        (try with_reducible rfl)
      try simp only [Act.put, List.getElem_toArray, List.getElem_cons_succ, List.getElem_cons_zero, List.setIfInBounds_toArray, List.set_cons_zero, List.set_cons_succ]
      refine wpAnyH_take (i := 9) (v := ?_) rfl (by kernel_rfl) (by kernel_rfl) (by kernel_rfl) (fun _ _ _ h => h) (Or.inl ⟨by kernel_rfl, ?_⟩) hHeld ?_
      rotate_left
      · intro w hSw
        (try dsimp only at hSw)
        go_split_ands
        go_simp
        (try with_reducible rfl)
      try simp only [Act.put, List.getElem_toArray, List.getElem_cons_succ, List.getElem_cons_zero, List.setIfInBounds_toArray, List.set_cons_zero, List.set_cons_succ]
      refine wpAnyH_take (i := 10) (v := ?_) rfl (by kernel_rfl) (by kernel_rfl) (by kernel_rfl) (fun _ _ _ h => h) (Or.inl ⟨by kernel_rfl, ?_⟩) hHeld ?_
      rotate_left
      · intro w hSw
        (try dsimp only at hSw)
        go_split_ands
        go_simp
        (try with_reducible rfl)
      try simp only [Act.put, List.getElem_toArray, List.getElem_cons_succ, List.getElem_cons_zero, List.setIfInBounds_toArray, List.set_cons_zero, List.set_cons_succ]
      refine wpAnyH_ready (rs := [3]) (by kernel_rfl) (by simp) ?_
      refine AllReadyH.cons rfl (fun KK hK => ?_) AllReadyH.nil
      clear hHeld
      go_simp
      refine hK.out _ _ trivial (fun hHeld => ?_)
      clear hK KK
      try simp only [Act.put, List.getElem_toArray, List.getElem_cons_succ, List.getElem_cons_zero, List.setIfInBounds_toArray, List.set_cons_zero, List.set_cons_succ]
      refine wpAnyH_ready (rs := [4]) (by kernel_rfl) (by simp) ?_
      refine AllReadyH.cons rfl (fun KK hK => ?_) AllReadyH.nil
      clear hHeld
      refine step_append_lies _ rfl (.tmp 34) (.tmp 37) 25 rfl w.heap.size 5 i0 (.int .u8 0) 1 1 Tryd.underlying25 hi0 hz0 hz1 hz2 rfl (by decide) u9 L (bytesV O) (by simp [Act.eval]) (HRd.out.alloc _) ⟨w2.heap.size, 0, none⟩ 1 1 [_] (by simp [Act.eval]) rfl (cell_one_new _ _ _) (by intro u hu; simp at hu; subst hu; rfl) (by omega) (by unfold maxLen; omega) (by omega) (by first | (simp; omega) | (have := hsz2; simp; exact Nat.le_succ_of_le this)) _ rfl ?_
      intro g1 cap1 w1 hown1 hgrow1 hat1 hlt1
      have P1 := undo_mem w w2 w1 _ _ L O _ (UInt8.ofNat b) (val_int (show _ = (((UInt8.ofNat b).toNat : Nat) : Int) by rw [UInt8.toNat_ofNat', Nat.mod_eq_of_lt (by omega)])) _ _ HX2.out HR2.out hgrow1 hown1
      have HR1 := Lib.hid P1.1
      have HX1 := Lib.hid P1.2
      clear hown1 hgrow1 hat1 hlt1 P1
      refine hK.out _ _ trivial (fun hHeld => ?_)
      clear hK KK
      try simp only [Act.put, List.getElem_toArray, List.getElem_cons_succ, List.getElem_cons_zero, List.setIfInBounds_toArray, List.set_cons_zero, List.set_cons_succ]
      refine wpAnyH_ready (rs := [11]) (by kernel_rfl) (by simp) ?_
      refine AllReadyH.cons rfl (fun KK hK => ?_) AllReadyH.nil
      clear hHeld
      go_simp
      refine (HDO.out _).mono ?_
      rintro e w3 ⟨B, hB3, rfl, hcs, hx3⟩
      have HX3 := Lib.hid (HX1.out.trans hx3)
      have HR3 := Lib.hid (ownsRow_kept (S := fun _ => False) HR1.out (Ext.keeps hx3) (fun _ _ => id))
      have HCS := Lib.hid hcs
      clear hx3 hB3 hcs
      go_simp
      refine hK.out _ _ trivial (fun hHeld => ?_)
      clear hK KK
      try simp only [Act.put, List.getElem_toArray, List.getElem_cons_succ, List.getElem_cons_zero, List.setIfInBounds_toArray, List.set_cons_zero, List.set_cons_succ]
      refine wpAnyH_ready (rs := [12]) (by kernel_rfl) (by simp) ?_
      refine AllReadyH.cons rfl (fun KK hK => ?_) AllReadyH.nil
      clear hHeld
      have hsz3 : w.heap.size ≤ w3.heap.size := HX3.out.size
      refine step_append_lies _ rfl (.tmp 38) (.tmp 45) 25 rfl w.heap.size 5 i0 (.int .u8 0) 1 1 Tryd.underlying25 hi0 hz0 hz1 hz2 rfl (by decide) (.slice (some ⟨g1, 0, none⟩) (L + 1) cap1) (L + 1) (bytesV (O ++ [UInt8.ofNat b])) (by simp [Act.eval]) HR3.out ⟨B, 0, none⟩ wide wide (bytesV D) (by simp [Act.eval]) (by rw [bytesV_length]; omega) HCS.out (bytesV_one D) (by omega) (by unfold maxLen; omega) (by omega) hsz3 _ rfl ?_
      intro g2 cap2 w4 hown2 hgrow2 hat2 hlt2
      have P2 := row_more (D := D) HX3.out HR3.out hgrow2 (by rw [hDl]; exact hown2)
      have HF : Hid (w4.ownsRow w.heap.size 5 1 (.slice (some ⟨g2, 0, none⟩) (L + 1 + wide) cap2) (rowsL s wide step (i + 1)).length (bytesV (rowsL s wide step (i + 1)))) := Lib.hid (by
        have e : O ++ (UInt8.ofNat b :: D) = (O ++ [UInt8.ofNat b]) ++ D := by simp
        have l : ((O ++ [UInt8.ofNat b]) ++ D).length = L + 1 + D.length := by rw [List.length_append, List.length_append, HLL.out]; rfl
        rw [HBI.out, e, l, hDl]; exact hDl ▸ P2.1)
      have HX4 := Lib.hid P2.2
      clear P2 hown2 hgrow2 hat2 hlt2
      refine hK.out _ _ trivial (fun hHeld => ?_)
      clear hK KK
      try simp only [Act.put, List.getElem_toArray, List.getElem_cons_succ, List.getElem_cons_zero, List.setIfInBounds_toArray, List.set_cons_zero, List.set_cons_succ]
      refine wpAnyH_take (i := 13) (v := ?_) rfl (by kernel_rfl) (by kernel_rfl) (by kernel_rfl) (fun _ _ _ h => h) (Or.inl ⟨by kernel_rfl, ?_⟩) hHeld ?_
      rotate_left
      · intro w hSw
        (try dsimp only at hSw)
        go_split_ands
        go_simp
        (try with_reducible rfl)
      try simp only [Act.put, List.getElem_toArray, List.getElem_cons_succ, List.getElem_cons_zero, List.setIfInBounds_toArray, List.set_cons_zero, List.set_cons_succ]
      refine wpAnyH_done (by kernel_rfl) ?_ _
      clear hHeld
      go_wp2_with fail
      go_roundw
      case rel => exact ⟨i + 1, S2, by omega, rfl, by rw [HRr.out]; rfl, HS2, HF, HX4⟩
      case measure => exact HM.out
    · obtain rfl : i = n := by omega
      have e1 : S.toList.isEmpty = true := empty_yes S (by rw [hSz, HN.out]; omega)
      have hcr := bytes_conv rfl HR.out
      go_wp2_with fail
      go_ret2
      exact ⟨rfl, HX.out⟩
end Go.Proofs.YtkddbhngffbljaaDoor
