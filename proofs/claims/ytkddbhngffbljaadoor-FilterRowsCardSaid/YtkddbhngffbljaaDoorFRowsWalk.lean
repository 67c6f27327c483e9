/- FilterRows' walk. -/
import Derived.Test.YtkddbhngffbljaaDoorBackOf
import Derived.Test.YtkddbhngffbljaaDoorFiltTwice
import Derived.Test.YtkddbhngffbljaaDoorCoded1
import Derived.Test.YtkddbhngffbljaaDoorFaulted1
namespace Go.Proofs.YtkddbhngffbljaaDoor
open Go.RowKit
set_option maxRecDepth 100000
theorem errs_two {w : World} {E : Nat → Addr} (h : Errs w E) : Sents w := by
  have h1 := h.var 1 (by decide)
  have h2 := h.var 2 (by decide)
  simp only [gk, sentV] at h1 h2
  exact ⟨⟨_, h1⟩, ⟨_, h2⟩⟩
theorem back_done (s : ByteArray) (wide step n : Nat) (w : World) (E : Nat → Addr) (hE : Errs w E) (hn : s.size = n * wide) (hw : 1 ≤ wide ∧ wide ≤ 300000) (hst : 1 ≤ step ∧ step ≤ 8) (hs : s.size ≤ 1000) :
    Calls Tryd.prog 52 #[.string (tx (rowsL s wide step n)), .int .i64 (wide : Int), .int .i64 (step : Int)] w fun e w' => e = .returned (.tuple #[.string s, .nilIface]) ∧ Ext w w' := by
  have hl := rowsL_length (step := step) hn n (Nat.le_refl _)
  have hts : (tx (rowsL s wide step n)).size = n * (wide + 1) := by rw [tx_size, hl]
  have hnn : n ≤ n * wide := Nat.le_mul_of_pos_right _ hw.1
  refine (back_any (tx (rowsL s wide step n)) wide step n w E hE hts hw hst (by rw [hts, Nat.mul_add]; omega)).mono ?_
  rintro e w' ⟨hX, h | ⟨i, F, hi, _, hk, _⟩⟩
  · obtain ⟨_, rfl⟩ := h
    exact ⟨by rw [back_all hn (by omega) hst.1], hX⟩
  · rw [back_kind hn hi (by omega)] at hk
    have : bestI s wide step i ≤ 4 := bestS_le _ _ _ (by rw [rowB_size hn hi]; omega)
    omega
set_option linter.unusedSimpArgs false in
set_option maxHeartbeats 4000000 in
theorem frows_out (s t : ByteArray) (wide step : Int) (w : World) (E : Nat → Addr) (hE : Errs w E) (hs : s.size ≤ maxLen) (ht : t.size ≤ maxLen) (h : 1000 < s.size ∨ 1000 < t.size) :
    Calls Tryd.prog 14 #[.string s, .string t, .int .i64 wide, .int .i64 step] w fun e w' => e = .returned (.bool true) ∧ Ext w w' := by
  unfold maxLen at hs ht
  have hw8 : 1000 < s.size ∨ (¬ 1000 < s.size ∧ 1000 < t.size) := by omega
  clear h
  rcases hw8 with h | ⟨h, h2⟩
  · have HE := Lib.hid hE
    clear hE
    go_enter Tryd.func14, Tryd.ntmps14
    go_wp2_with fail
    refine (less_any _ (errs_two HE.out)).mono ?_
    rintro e w1 ⟨rfl, h⟩
    have X_1 := Lib.hid h
    clear h
    go_wp2_with fail
    go_ret
    exact ⟨rfl, X_1.out⟩
  · have HE := Lib.hid hE
    clear hE
    go_enter Tryd.func14, Tryd.ntmps14
    go_wp2_with fail
    refine (less_any _ (errs_two HE.out)).mono ?_
    rintro e w1 ⟨rfl, h⟩
    have X_1 := Lib.hid h
    clear h
    go_wp2_with fail
    go_ret
    exact ⟨rfl, X_1.out⟩
set_option linter.unusedSimpArgs false in
set_option maxHeartbeats 4000000 in
theorem frows_bound (s t : ByteArray) (wide step : Int) (w : World) (E : Nat → Addr) (hE : Errs w E) (hs : s.size ≤ 1000) (ht : t.size ≤ 1000) (h : wide < 1 ∨ 300000 < wide ∨ step < 1 ∨ 8 < step) :
    Calls Tryd.prog 14 #[.string s, .string t, .int .i64 wide, .int .i64 step] w fun e w' => e = .returned (.bool true) ∧ Ext w w' := by
  have HB := Lib.hid h
  have hcs : wide < 1 ∨ (¬ wide < 1 ∧ 300000 < wide) ∨ (¬ wide < 1 ∧ ¬ 300000 < wide ∧ step < 1) ∨ (¬ wide < 1 ∧ ¬ 300000 < wide ∧ ¬ step < 1 ∧ 8 < step) := by omega
  clear h
  by_cases q0 : wide < 1
  · have t0 : decide (wide < 1) = true := decide_eq_true q0
    clear hcs q0
    have HE := Lib.hid hE
    clear hE
    go_enter Tryd.func14, Tryd.ntmps14
    go_wp2_with fail
    refine (less_any _ (errs_two HE.out)).mono ?_
    rintro e w1 ⟨rfl, h⟩
    have X_1 := Lib.hid h
    clear h
    have HRR := Lib.hid (fun W (hW : Errs W E) => rows_err s wide step 1 W E (whole_bound s wide 0 step W E hW HB.out))
    have HBB := Lib.hid (fun W (hW : Errs W E) => back_err t wide step 1 W E (whole_bound t wide 1 step W E hW HB.out))
    go_wp2_with fail
    with_reducible refine (HRR.out _ (HE.out.ext X_1.out)).mono ?_
    rintro e w2 ⟨rfl, rfl⟩
    go_wp2_with fail
    with_reducible refine (HBB.out _ (HE.out.ext X_1.out)).mono ?_
    rintro e w2 ⟨rfl, rfl⟩
    go_wp2_with fail
    refine (coded_any _ E (HE.out.ext X_1.out) _ ((1 : Nat) + 1 : Int) (-1) 2 (.sent 1 (by decide))).mono ?_
    rintro e w2 ⟨he, h⟩
    obtain rfl : e = .returned (.bool true) := by rw [he]; exact ret_bool (by simp)
    have X_2 := Lib.hid (X_1.out.trans h)
    clear he h X_1
    go_wp2_with fail
    refine (coded_any _ E (HE.out.ext X_2.out) _ ((1 : Nat) + 1 : Int) (-1) 2 (.sent 1 (by decide))).mono ?_
    rintro e w3 ⟨he, h⟩
    obtain rfl : e = .returned (.bool true) := by rw [he]; exact ret_bool (by simp)
    have X_3 := Lib.hid (X_2.out.trans h)
    clear he h X_2
    go_wp2_with fail
    go_ret
    exact ⟨rfl, X_3.out⟩
  · have t0 : decide (wide < 1) = false := decide_eq_false q0
    by_cases q1 : 300000 < wide
    · have t1 : decide (300000 < wide) = true := decide_eq_true q1
      clear hcs q0 q1
      have HE := Lib.hid hE
      clear hE
      go_enter Tryd.func14, Tryd.ntmps14
      go_wp2_with fail
      refine (less_any _ (errs_two HE.out)).mono ?_
      rintro e w1 ⟨rfl, h⟩
      have X_1 := Lib.hid h
      clear h
      have HRR := Lib.hid (fun W (hW : Errs W E) => rows_err s wide step 1 W E (whole_bound s wide 0 step W E hW HB.out))
      have HBB := Lib.hid (fun W (hW : Errs W E) => back_err t wide step 1 W E (whole_bound t wide 1 step W E hW HB.out))
      go_wp2_with fail
      with_reducible refine (HRR.out _ (HE.out.ext X_1.out)).mono ?_
      rintro e w2 ⟨rfl, rfl⟩
      go_wp2_with fail
      with_reducible refine (HBB.out _ (HE.out.ext X_1.out)).mono ?_
      rintro e w2 ⟨rfl, rfl⟩
      go_wp2_with fail
      refine (coded_any _ E (HE.out.ext X_1.out) _ ((1 : Nat) + 1 : Int) (-1) 2 (.sent 1 (by decide))).mono ?_
      rintro e w2 ⟨he, h⟩
      obtain rfl : e = .returned (.bool true) := by rw [he]; exact ret_bool (by simp)
      have X_2 := Lib.hid (X_1.out.trans h)
      clear he h X_1
      go_wp2_with fail
      refine (coded_any _ E (HE.out.ext X_2.out) _ ((1 : Nat) + 1 : Int) (-1) 2 (.sent 1 (by decide))).mono ?_
      rintro e w3 ⟨he, h⟩
      obtain rfl : e = .returned (.bool true) := by rw [he]; exact ret_bool (by simp)
      have X_3 := Lib.hid (X_2.out.trans h)
      clear he h X_2
      go_wp2_with fail
      go_ret
      exact ⟨rfl, X_3.out⟩
    · have t1 : decide (300000 < wide) = false := decide_eq_false q1
      by_cases q2 : step < 1
      · have t2 : decide (step < 1) = true := decide_eq_true q2
        clear hcs q0 q1 q2
        have HE := Lib.hid hE
        clear hE
        go_enter Tryd.func14, Tryd.ntmps14
        go_wp2_with fail
        refine (less_any _ (errs_two HE.out)).mono ?_
        rintro e w1 ⟨rfl, h⟩
        have X_1 := Lib.hid h
        clear h
        have HRR := Lib.hid (fun W (hW : Errs W E) => rows_err s wide step 1 W E (whole_bound s wide 0 step W E hW HB.out))
        have HBB := Lib.hid (fun W (hW : Errs W E) => back_err t wide step 1 W E (whole_bound t wide 1 step W E hW HB.out))
        go_wp2_with fail
        with_reducible refine (HRR.out _ (HE.out.ext X_1.out)).mono ?_
        rintro e w2 ⟨rfl, rfl⟩
        go_wp2_with fail
        with_reducible refine (HBB.out _ (HE.out.ext X_1.out)).mono ?_
        rintro e w2 ⟨rfl, rfl⟩
        go_wp2_with fail
        refine (coded_any _ E (HE.out.ext X_1.out) _ ((1 : Nat) + 1 : Int) (-1) 2 (.sent 1 (by decide))).mono ?_
        rintro e w2 ⟨he, h⟩
        obtain rfl : e = .returned (.bool true) := by rw [he]; exact ret_bool (by simp)
        have X_2 := Lib.hid (X_1.out.trans h)
        clear he h X_1
        go_wp2_with fail
        refine (coded_any _ E (HE.out.ext X_2.out) _ ((1 : Nat) + 1 : Int) (-1) 2 (.sent 1 (by decide))).mono ?_
        rintro e w3 ⟨he, h⟩
        obtain rfl : e = .returned (.bool true) := by rw [he]; exact ret_bool (by simp)
        have X_3 := Lib.hid (X_2.out.trans h)
        clear he h X_2
        go_wp2_with fail
        go_ret
        exact ⟨rfl, X_3.out⟩
      · have t2 : decide (step < 1) = false := decide_eq_false q2
        by_cases q3 : 8 < step
        · have t3 : decide (8 < step) = true := decide_eq_true q3
          clear hcs q0 q1 q2 q3
          have HE := Lib.hid hE
          clear hE
          go_enter Tryd.func14, Tryd.ntmps14
          go_wp2_with fail
          refine (less_any _ (errs_two HE.out)).mono ?_
          rintro e w1 ⟨rfl, h⟩
          have X_1 := Lib.hid h
          clear h
          have HRR := Lib.hid (fun W (hW : Errs W E) => rows_err s wide step 1 W E (whole_bound s wide 0 step W E hW HB.out))
          have HBB := Lib.hid (fun W (hW : Errs W E) => back_err t wide step 1 W E (whole_bound t wide 1 step W E hW HB.out))
          go_wp2_with fail
          with_reducible refine (HRR.out _ (HE.out.ext X_1.out)).mono ?_
          rintro e w2 ⟨rfl, rfl⟩
          go_wp2_with fail
          with_reducible refine (HBB.out _ (HE.out.ext X_1.out)).mono ?_
          rintro e w2 ⟨rfl, rfl⟩
          go_wp2_with fail
          refine (coded_any _ E (HE.out.ext X_1.out) _ ((1 : Nat) + 1 : Int) (-1) 2 (.sent 1 (by decide))).mono ?_
          rintro e w2 ⟨he, h⟩
          obtain rfl : e = .returned (.bool true) := by rw [he]; exact ret_bool (by simp)
          have X_2 := Lib.hid (X_1.out.trans h)
          clear he h X_1
          go_wp2_with fail
          refine (coded_any _ E (HE.out.ext X_2.out) _ ((1 : Nat) + 1 : Int) (-1) 2 (.sent 1 (by decide))).mono ?_
          rintro e w3 ⟨he, h⟩
          obtain rfl : e = .returned (.bool true) := by rw [he]; exact ret_bool (by simp)
          have X_3 := Lib.hid (X_2.out.trans h)
          clear he h X_2
          go_wp2_with fail
          go_ret
          exact ⟨rfl, X_3.out⟩
        · exact absurd HB.out (by omega)
set_option linter.unusedSimpArgs false in
set_option maxHeartbeats 4000000 in
theorem frows_w_x (s t : ByteArray) (wide step : Nat) (w : World) (E : Nat → Addr) (hE : Errs w E) (hs : s.size ≤ 1000) (ht : t.size ≤ 1000) (hw : 1 ≤ wide ∧ wide ≤ 300000) (hst : 1 ≤ step ∧ step ≤ 8) (n : Nat) (hn : s.size = n * wide) (hm : t.size % (wide + 1) ≠ 0) :
    Calls Tryd.prog 14 #[.string s, .string t, .int .i64 (wide : Int), .int .i64 (step : Int)] w fun e w' => e = .returned (.bool true) ∧ Ext w w' := by
  have HW := Lib.hid hw
  have HST := Lib.hid hst
  obtain ⟨h1, h2⟩ := hw
  obtain ⟨h3, h4⟩ := hst
  have HN := Lib.hid hn
  have ts : (((s.size : Int) % (wide : Int)) != 0) = false := by
    have : (s.size : Int) % (wide : Int) = ((s.size % wide : Nat) : Int) := by simp
    rw [this, hn, Nat.mul_mod_left]; rfl
  clear hn
  have HRR := Lib.hid (fun W (hW : Errs W E) => rows_ok s wide step n W E hW HN.out HW.out HST.out (by omega))
  have HRO := Lib.hid (fun W => rowsOf_any s wide step n W HN.out HW.out HST.out (by omega))
  have HBD := Lib.hid (fun W (hW : Errs W E) => back_done s wide step n W E hW HN.out HW.out HST.out hs)
  obtain ⟨TA, hTA⟩ : ∃ TA, tx (rowsL s wide step n) = TA := ⟨_, rfl⟩
  rw [hTA] at HRR HRO HBD
  clear hTA
  obtain ⟨P, hP⟩ : ∃ P, wide + 1 = P := ⟨_, rfl⟩
  have hPI : (wide : Int) + 1 = (P : Int) := by omega
  have HP := Lib.hid hP
  have hP0 : ¬ P = 0 := by omega
  have hP1 : P ≤ 300001 := by omega
  have tt : (((t.size : Int) % (P : Int)) != 0) = true := by
    have : (t.size : Int) % (P : Int) = ((t.size % P : Nat) : Int) := by simp
    rw [this, bne_iff_ne, ← hP]; omega
  have HM := Lib.hid hm
  clear hm hP
  have HBB := Lib.hid (fun W (hW : Errs W E) => back_err t wide step 2 W E (whole_shape t (wide + 1) wide 1 step W E hW rfl HW.out (by omega) HST.out (by omega) HM.out))
  have HE := Lib.hid hE
  clear hE
  go_enter Tryd.func14, Tryd.ntmps14
  go_wp2_with fail
  refine (less_any _ (errs_two HE.out)).mono ?_
  rintro e w1 ⟨rfl, h⟩
  have X_1 := Lib.hid h
  clear h
  go_wp2_with fail
  refine (HRR.out _ (HE.out.ext X_1.out)).mono ?_
  rintro e w2 ⟨rfl, h⟩
  have X_2 := Lib.hid (X_1.out.trans h)
  clear h X_1
  go_wp2_with fail
  with_reducible refine (HBB.out _ (HE.out.ext X_2.out)).mono ?_
  rintro e w9 ⟨rfl, rfl⟩
  go_wp2_with fail
  refine (HBD.out _ (HE.out.ext X_2.out)).mono ?_
  rintro e w3 ⟨rfl, h⟩
  have X_3 := Lib.hid (X_2.out.trans h)
  clear h X_2
  go_wp2_with fail
  refine (HRO.out _).mono ?_
  rintro e w4 ⟨rfl, h⟩
  have X_4 := Lib.hid (X_3.out.trans h)
  clear h X_3
  go_wp2_with fail
  refine (coded_any _ E (HE.out.ext X_4.out) _ ((2 : Nat) + 1 : Int) (-1) 3 (.sent 2 (by decide))).mono ?_
  rintro e w5 ⟨he, h⟩
  obtain rfl : e = .returned (.bool true) := by rw [he]; exact ret_bool (by simp)
  have X_5 := Lib.hid (X_4.out.trans h)
  clear he h X_4
  go_wp2_with fail
  go_ret
  exact ⟨rfl, X_5.out⟩
set_option linter.unusedSimpArgs false in
set_option maxHeartbeats 4000000 in
theorem frows_w_w (s t : ByteArray) (wide step : Nat) (w : World) (E : Nat → Addr) (hE : Errs w E) (hs : s.size ≤ 1000) (ht : t.size ≤ 1000) (hw : 1 ≤ wide ∧ wide ≤ 300000) (hst : 1 ≤ step ∧ step ≤ 8) (n : Nat) (hn : s.size = n * wide) (m : Nat) (hm : t.size = m * (wide + 1)) :
    Calls Tryd.prog 14 #[.string s, .string t, .int .i64 (wide : Int), .int .i64 (step : Int)] w fun e w' => e = .returned (.bool true) ∧ Ext w w' := by
  have HW := Lib.hid hw
  have HST := Lib.hid hst
  obtain ⟨h1, h2⟩ := hw
  obtain ⟨h3, h4⟩ := hst
  have HN := Lib.hid hn
  have ts : (((s.size : Int) % (wide : Int)) != 0) = false := by
    have : (s.size : Int) % (wide : Int) = ((s.size % wide : Nat) : Int) := by simp
    rw [this, hn, Nat.mul_mod_left]; rfl
  clear hn
  have HRR := Lib.hid (fun W (hW : Errs W E) => rows_ok s wide step n W E hW HN.out HW.out HST.out (by omega))
  have HRO := Lib.hid (fun W => rowsOf_any s wide step n W HN.out HW.out HST.out (by omega))
  have HBD := Lib.hid (fun W (hW : Errs W E) => back_done s wide step n W E hW HN.out HW.out HST.out hs)
  obtain ⟨TA, hTA⟩ : ∃ TA, tx (rowsL s wide step n) = TA := ⟨_, rfl⟩
  rw [hTA] at HRR HRO HBD
  clear hTA
  obtain ⟨P, hP⟩ : ∃ P, wide + 1 = P := ⟨_, rfl⟩
  have hPI : (wide : Int) + 1 = (P : Int) := by omega
  have HP := Lib.hid hP
  have hP0 : ¬ P = 0 := by omega
  have hP1 : P ≤ 300001 := by omega
  have tt : (((t.size : Int) % (P : Int)) != 0) = false := by
    have : (t.size : Int) % (P : Int) = ((t.size % P : Nat) : Int) := by simp
    rw [this, hm, hP, Nat.mul_mod_left]; rfl
  have HM := Lib.hid hm
  clear hm hP
  have HBB := Lib.hid (fun W (hW : Errs W E) => back_any t wide step m W E hW HM.out HW.out HST.out (by omega))
  have HBO := Lib.hid (fun W => backOf_any t wide step m W HM.out HW.out HST.out (by omega))
  have HE := Lib.hid hE
  clear hE
  go_enter Tryd.func14, Tryd.ntmps14
  go_wp2_with fail
  refine (less_any _ (errs_two HE.out)).mono ?_
  rintro e w1 ⟨rfl, h⟩
  have X_1 := Lib.hid h
  clear h
  go_wp2_with fail
  refine (HRR.out _ (HE.out.ext X_1.out)).mono ?_
  rintro e w2 ⟨rfl, h⟩
  have X_2 := Lib.hid (X_1.out.trans h)
  clear h X_1
  go_wp2_with fail
  refine (HBB.out _ (HE.out.ext X_2.out)).mono ?_
  rintro e w3 ⟨h, ⟨ha, rfl⟩ | ⟨i, F, hi, ha, hk, hb, rfl, hF⟩⟩
  · have HA := Lib.hid ha
    have X_3 := Lib.hid (X_2.out.trans h)
    clear h ha X_2
    obtain ⟨U, hU⟩ : ∃ U, unS t wide step m = U := ⟨_, rfl⟩
    have HU := Lib.hid hU
    rw [hU]
    clear hU
    go_wp2_with fail
    refine (HBD.out _ (HE.out.ext X_3.out)).mono ?_
    rintro e w4 ⟨rfl, h⟩
    have X_4 := Lib.hid (X_3.out.trans h)
    clear h X_3
    go_wp2_with fail
    refine (HRO.out _).mono ?_
    rintro e w5 ⟨rfl, h⟩
    have X_5 := Lib.hid (X_4.out.trans h)
    clear h X_4
    go_wp2_with fail
    refine (HBO.out _).mono ?_
    rintro e w6 ⟨h, ⟨ha, rfl⟩ | ⟨i, hi, ha, hk, rfl⟩⟩
    · have X_6 := Lib.hid (X_5.out.trans h)
      clear h ha X_5
      rw [HU.out]
      go_wp2_with fail
      go_ret
      exact ⟨rfl, X_6.out⟩
    · exact absurd (HA.out i hi) (by omega)
  · have HA := Lib.hid ha
    have HK := Lib.hid hk
    have HI := Lib.hid hi
    have X_3 := Lib.hid (X_2.out.trans h)
    clear h ha hk hi X_2
    have V_3 := Lib.hid ((ErrV.fault 0 F i (by decide) hF (by omega) hb : ErrV w3 E _ ((0 : Nat) + 1 : Int) i))
    clear hF
    go_wp2_with fail
    refine (HBD.out _ (HE.out.ext X_3.out)).mono ?_
    rintro e w4 ⟨rfl, h⟩
    have X_4 := Lib.hid (X_3.out.trans h)
    have V_4 := Lib.hid (V_3.out.ext h)
    clear h X_3 V_3
    go_wp2_with fail
    refine (HRO.out _).mono ?_
    rintro e w5 ⟨rfl, h⟩
    have X_5 := Lib.hid (X_4.out.trans h)
    have V_5 := Lib.hid (V_4.out.ext h)
    clear h X_4 V_4
    go_wp2_with fail
    refine (HBO.out _).mono ?_
    rintro e w6 ⟨h, ⟨ha, rfl⟩ | ⟨i', hi', ha', hk', rfl⟩⟩
    · exact absurd (ha i HI.out) (by have := HK.out; omega)
    · obtain rfl : i' = i := by
        rcases Nat.lt_trichotomy i' i with q | q | q
        · have := HA.out i' q; omega
        · exact q
        · have := ha' i q; have := HK.out; omega
      have X_6 := Lib.hid (X_5.out.trans h)
      have V_6 := Lib.hid (V_5.out.ext h)
      clear h ha' hk' hi' X_5 V_5
      have tg : decide ((0 : Int) ≤ (i' : Int)) = true := decide_eq_true (by omega)
      go_wp2_with fail
      refine (faulted_any _ E (HE.out.ext X_6.out) _ _ _ 1 (i' : Int) V_6.out).mono ?_
      rintro e w7 ⟨he, h⟩
      obtain rfl : e = .returned (.bool true) := by rw [he]; exact ret_bool (by simp)
      have X_7 := Lib.hid (X_6.out.trans h)
      have V_7 := Lib.hid (V_6.out.ext h)
      clear he h X_6 V_6
      go_wp2_with fail
      go_ret
      exact ⟨rfl, X_7.out⟩
set_option linter.unusedSimpArgs false in
set_option maxHeartbeats 4000000 in
theorem frows_x_x (s t : ByteArray) (wide step : Nat) (w : World) (E : Nat → Addr) (hE : Errs w E) (hs : s.size ≤ 1000) (ht : t.size ≤ 1000) (hw : 1 ≤ wide ∧ wide ≤ 300000) (hst : 1 ≤ step ∧ step ≤ 8) (hn : s.size % wide ≠ 0) (hm : t.size % (wide + 1) ≠ 0) :
    Calls Tryd.prog 14 #[.string s, .string t, .int .i64 (wide : Int), .int .i64 (step : Int)] w fun e w' => e = .returned (.bool true) ∧ Ext w w' := by
  have HW := Lib.hid hw
  have HST := Lib.hid hst
  obtain ⟨h1, h2⟩ := hw
  obtain ⟨h3, h4⟩ := hst
  have ts : (((s.size : Int) % (wide : Int)) != 0) = true := by
    have : (s.size : Int) % (wide : Int) = ((s.size % wide : Nat) : Int) := by simp
    rw [this, bne_iff_ne]; omega
  have HN := Lib.hid hn
  clear hn
  have HRR := Lib.hid (fun W (hW : Errs W E) => rows_err s wide step 2 W E (whole_shape s wide wide 0 step W E hW (by omega) HW.out (by omega) HST.out (by omega) HN.out))
  obtain ⟨P, hP⟩ : ∃ P, wide + 1 = P := ⟨_, rfl⟩
  have hPI : (wide : Int) + 1 = (P : Int) := by omega
  have HP := Lib.hid hP
  have hP0 : ¬ P = 0 := by omega
  have hP1 : P ≤ 300001 := by omega
  have tt : (((t.size : Int) % (P : Int)) != 0) = true := by
    have : (t.size : Int) % (P : Int) = ((t.size % P : Nat) : Int) := by simp
    rw [this, bne_iff_ne, ← hP]; omega
  have HM := Lib.hid hm
  clear hm hP
  have HBB := Lib.hid (fun W (hW : Errs W E) => back_err t wide step 2 W E (whole_shape t (wide + 1) wide 1 step W E hW rfl HW.out (by omega) HST.out (by omega) HM.out))
  have HE := Lib.hid hE
  clear hE
  go_enter Tryd.func14, Tryd.ntmps14
  go_wp2_with fail
  refine (less_any _ (errs_two HE.out)).mono ?_
  rintro e w1 ⟨rfl, h⟩
  have X_1 := Lib.hid h
  clear h
  go_wp2_with fail
  with_reducible refine (HRR.out _ (HE.out.ext X_1.out)).mono ?_
  rintro e w9 ⟨rfl, rfl⟩
  go_wp2_with fail
  with_reducible refine (HBB.out _ (HE.out.ext X_1.out)).mono ?_
  rintro e w9 ⟨rfl, rfl⟩
  go_wp2_with fail
  refine (coded_any _ E (HE.out.ext X_1.out) _ ((2 : Nat) + 1 : Int) (-1) 3 (.sent 2 (by decide))).mono ?_
  rintro e w2 ⟨he, h⟩
  obtain rfl : e = .returned (.bool true) := by rw [he]; exact ret_bool (by simp)
  have X_2 := Lib.hid (X_1.out.trans h)
  clear he h X_1
  go_wp2_with fail
  refine (coded_any _ E (HE.out.ext X_2.out) _ ((2 : Nat) + 1 : Int) (-1) 3 (.sent 2 (by decide))).mono ?_
  rintro e w3 ⟨he, h⟩
  obtain rfl : e = .returned (.bool true) := by rw [he]; exact ret_bool (by simp)
  have X_3 := Lib.hid (X_2.out.trans h)
  clear he h X_2
  go_wp2_with fail
  go_ret
  exact ⟨rfl, X_3.out⟩
set_option linter.unusedSimpArgs false in
set_option maxHeartbeats 4000000 in
theorem frows_x_w (s t : ByteArray) (wide step : Nat) (w : World) (E : Nat → Addr) (hE : Errs w E) (hs : s.size ≤ 1000) (ht : t.size ≤ 1000) (hw : 1 ≤ wide ∧ wide ≤ 300000) (hst : 1 ≤ step ∧ step ≤ 8) (hn : s.size % wide ≠ 0) (m : Nat) (hm : t.size = m * (wide + 1)) :
    Calls Tryd.prog 14 #[.string s, .string t, .int .i64 (wide : Int), .int .i64 (step : Int)] w fun e w' => e = .returned (.bool true) ∧ Ext w w' := by
  have HW := Lib.hid hw
  have HST := Lib.hid hst
  obtain ⟨h1, h2⟩ := hw
  obtain ⟨h3, h4⟩ := hst
  have ts : (((s.size : Int) % (wide : Int)) != 0) = true := by
    have : (s.size : Int) % (wide : Int) = ((s.size % wide : Nat) : Int) := by simp
    rw [this, bne_iff_ne]; omega
  have HN := Lib.hid hn
  clear hn
  have HRR := Lib.hid (fun W (hW : Errs W E) => rows_err s wide step 2 W E (whole_shape s wide wide 0 step W E hW (by omega) HW.out (by omega) HST.out (by omega) HN.out))
  obtain ⟨P, hP⟩ : ∃ P, wide + 1 = P := ⟨_, rfl⟩
  have hPI : (wide : Int) + 1 = (P : Int) := by omega
  have HP := Lib.hid hP
  have hP0 : ¬ P = 0 := by omega
  have hP1 : P ≤ 300001 := by omega
  have tt : (((t.size : Int) % (P : Int)) != 0) = false := by
    have : (t.size : Int) % (P : Int) = ((t.size % P : Nat) : Int) := by simp
    rw [this, hm, hP, Nat.mul_mod_left]; rfl
  have HM := Lib.hid hm
  clear hm hP
  have HBB := Lib.hid (fun W (hW : Errs W E) => back_any t wide step m W E hW HM.out HW.out HST.out (by omega))
  have HBO := Lib.hid (fun W => backOf_any t wide step m W HM.out HW.out HST.out (by omega))
  have HE := Lib.hid hE
  clear hE
  go_enter Tryd.func14, Tryd.ntmps14
  go_wp2_with fail
  refine (less_any _ (errs_two HE.out)).mono ?_
  rintro e w1 ⟨rfl, h⟩
  have X_1 := Lib.hid h
  clear h
  go_wp2_with fail
  with_reducible refine (HRR.out _ (HE.out.ext X_1.out)).mono ?_
  rintro e w9 ⟨rfl, rfl⟩
  go_wp2_with fail
  refine (HBB.out _ (HE.out.ext X_1.out)).mono ?_
  rintro e w2 ⟨h, ⟨ha, rfl⟩ | ⟨i, F, hi, ha, hk, hb, rfl, hF⟩⟩
  · have HA := Lib.hid ha
    have X_2 := Lib.hid (X_1.out.trans h)
    clear h ha X_1
    obtain ⟨U, hU⟩ : ∃ U, unS t wide step m = U := ⟨_, rfl⟩
    have HU := Lib.hid hU
    rw [hU]
    clear hU
    go_wp2_with fail
    refine (coded_any _ E (HE.out.ext X_2.out) _ ((2 : Nat) + 1 : Int) (-1) 3 (.sent 2 (by decide))).mono ?_
    rintro e w3 ⟨he, h⟩
    obtain rfl : e = .returned (.bool true) := by rw [he]; exact ret_bool (by simp)
    have X_3 := Lib.hid (X_2.out.trans h)
    clear he h X_2
    go_wp2_with fail
    refine (HBO.out _).mono ?_
    rintro e w4 ⟨h, ⟨ha, rfl⟩ | ⟨i, hi, ha, hk, rfl⟩⟩
    · have X_4 := Lib.hid (X_3.out.trans h)
      clear h ha X_3
      rw [HU.out]
      go_wp2_with fail
      go_ret
      exact ⟨rfl, X_4.out⟩
    · exact absurd (HA.out i hi) (by omega)
  · have HA := Lib.hid ha
    have HK := Lib.hid hk
    have HI := Lib.hid hi
    have X_2 := Lib.hid (X_1.out.trans h)
    clear h ha hk hi X_1
    have V_2 := Lib.hid ((ErrV.fault 0 F i (by decide) hF (by omega) hb : ErrV w2 E _ ((0 : Nat) + 1 : Int) i))
    clear hF
    go_wp2_with fail
    refine (coded_any _ E (HE.out.ext X_2.out) _ ((2 : Nat) + 1 : Int) (-1) 3 (.sent 2 (by decide))).mono ?_
    rintro e w3 ⟨he, h⟩
    obtain rfl : e = .returned (.bool true) := by rw [he]; exact ret_bool (by simp)
    have X_3 := Lib.hid (X_2.out.trans h)
    have V_3 := Lib.hid (V_2.out.ext h)
    clear he h X_2 V_2
    go_wp2_with fail
    refine (HBO.out _).mono ?_
    rintro e w4 ⟨h, ⟨ha, rfl⟩ | ⟨i', hi', ha', hk', rfl⟩⟩
    · exact absurd (ha i HI.out) (by have := HK.out; omega)
    · obtain rfl : i' = i := by
        rcases Nat.lt_trichotomy i' i with q | q | q
        · have := HA.out i' q; omega
        · exact q
        · have := ha' i q; have := HK.out; omega
      have X_4 := Lib.hid (X_3.out.trans h)
      have V_4 := Lib.hid (V_3.out.ext h)
      clear h ha' hk' hi' X_3 V_3
      have tg : decide ((0 : Int) ≤ (i' : Int)) = true := decide_eq_true (by omega)
      go_wp2_with fail
      refine (faulted_any _ E (HE.out.ext X_4.out) _ _ _ 1 (i' : Int) V_4.out).mono ?_
      rintro e w5 ⟨he, h⟩
      obtain rfl : e = .returned (.bool true) := by rw [he]; exact ret_bool (by simp)
      have X_5 := Lib.hid (X_4.out.trans h)
      have V_5 := Lib.hid (V_4.out.ext h)
      clear he h X_4 V_4
      go_wp2_with fail
      go_ret
      exact ⟨rfl, X_5.out⟩
theorem frows_any (s t : ByteArray) (wide step : Int) (w : World) (E : Nat → Addr) (hE : Errs w E) (hs : s.size ≤ maxLen) (ht : t.size ≤ maxLen) :
    Calls Tryd.prog 14 #[.string s, .string t, .int .i64 wide, .int .i64 step] w fun e w' => e = .returned (.bool true) ∧ Ext w w' := by
  by_cases h : 1000 < s.size ∨ 1000 < t.size
  · exact frows_out s t wide step w E hE hs ht h
  have hs1 : s.size ≤ 1000 := by omega
  have ht1 : t.size ≤ 1000 := by omega
  by_cases hb : wide < 1 ∨ 300000 < wide ∨ step < 1 ∨ 8 < step
  · exact frows_bound s t wide step w E hE hs1 ht1 hb
  obtain ⟨a, rfl⟩ : ∃ a : Nat, wide = a := ⟨wide.toNat, by omega⟩
  obtain ⟨b, rfl⟩ : ∃ b : Nat, step = b := ⟨step.toNat, by omega⟩
  have hw : 1 ≤ a ∧ a ≤ 300000 := by omega
  have hst : 1 ≤ b ∧ b ≤ 8 := by omega
  have dv : ∀ x d : Nat, x % d = 0 → x = x / d * d := fun x d h => by
    have := Nat.div_add_mod x d
    rw [h, Nat.add_zero, Nat.mul_comm] at this
    exact this.symm
  by_cases h1 : s.size % a = 0
  · by_cases h2 : t.size % (a + 1) = 0
    · exact frows_w_w s t a b w E hE hs1 ht1 hw hst _ (dv _ _ h1) _ (dv _ _ h2)
    · exact frows_w_x s t a b w E hE hs1 ht1 hw hst _ (dv _ _ h1) h2
  · by_cases h2 : t.size % (a + 1) = 0
    · exact frows_x_w s t a b w E hE hs1 ht1 hw hst h1 _ (dv _ _ h2)
    · exact frows_x_x s t a b w E hE hs1 ht1 hw hst h1 h2
end Go.Proofs.YtkddbhngffbljaaDoor
