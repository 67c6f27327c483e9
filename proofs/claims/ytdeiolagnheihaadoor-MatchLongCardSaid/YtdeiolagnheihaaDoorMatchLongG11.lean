/-
  coded: an error's number, without a place.
  MatchFinds' walk.
  MatchLong's walk.
  The package's errors, out of what a row lists.
  The last step of every law's row, once: a call that returns true and turns nothing that was there meets the row's post.
-/
import Derived.Test.YtdeiolagnheihaaDoorMatchLongG6
import Derived.Test.YtdeiolagnheihaaDoorMatchLongG9
import Derived.Test.YtdeiolagnheihaaDoorMatchLongG10
import Derived.LaidHandle
import Derived.LaidSub
import Derived.Stop.LaidTwo
import Derived.Test.YtdeiolagnheihaaDoorRows
import Derived.ProofKit
import Derived.ShutString
import Derived.Below
import Derived.OpenShut
namespace Go.Proofs.YtdeiolagnheihaaDoor
open Go.RowKit
set_option maxRecDepth 100000
theorem coded_any (w : World) (E : Nat → Addr) (hE : Errs w E) (v : Value) (c a n : Int) (h : ErrV w E v c a) : Calls Tryd.prog 22 #[v, .int .i64 n] w fun e w' => e = .returned (.bool (decide (c = n ∧ a = -1))) ∧ Ext w w' := by
  by_cases hc : c = n
  · subst hc
    go_enter Tryd.func22, Tryd.ntmps22
    go_wp2_with fail
    refine (code_any _ E hE _ _ _ h).mono ?_
    rintro e w2 ⟨rfl, h2⟩
    go_wp2_with fail
    go_ret
    exact ⟨ret_bool (by rw [Bool.eq_iff_iff]; simp), h2⟩
  · have t1 : (c == n) = false := beq_eq_false_iff_ne.2 hc
    go_enter Tryd.func22, Tryd.ntmps22
    go_wp2_with fail
    refine (code_any _ E hE _ _ _ h).mono ?_
    rintro e w2 ⟨rfl, h2⟩
    go_wp2_with fail
    go_ret
    exact ⟨ret_bool (by rw [Bool.eq_iff_iff]; simp [hc]), h2⟩
end Go.Proofs.YtdeiolagnheihaaDoor
namespace Go.Proofs.YtdeiolagnheihaaDoor
open Go.RowKit
set_option maxRecDepth 100000
theorem str_back (s : ByteArray) : (⟨s.data.toList.toArray⟩ : ByteArray) = s := by cases s; simp
theorem finds_big (s : ByteArray) (wd : Int) (w : World) (E : Nat → Addr) (hE : Errs w E) (h : 400 < s.size) :
    Calls Tryd.prog 8 #[.string s, .int .i64 wd] w fun e w' => e = .returned (.bool true) ∧ Ext w w' := by
  have HE := Lib.hid hE
  have t1 : (400 : Int) < (s.size : Int) := by omega
  clear hE
  go_enter Tryd.func8, Tryd.ntmps8
  go_wp2_with fail
  refine (same_any _ E HE.out).mono ?_
  rintro e w1 ⟨rfl, h1⟩
  have X1 := Lib.hid (h1)
  clear h1
  go_wp2_with fail
  go_ret
  exact ⟨rfl, X1.out⟩
theorem finds_bad (s : ByteArray) (wd : Int) (w : World) (E : Nat → Addr) (hE : Errs w E) (hs : s.size ≤ 400) (h : wd < 1 ∨ 32768 < wd) :
    Calls Tryd.prog 8 #[.string s, .int .i64 wd] w fun e w' => e = .returned (.bool true) ∧ Ext w w' := by
  have HE := Lib.hid hE
  have t1 : ¬ (400 : Int) < (s.size : Int) := by omega
  have hb : badB s wd = true := by unfold badB; exact decide_eq_true (by omega)
  have HB := Lib.hid hb
  have H := Lib.hid h
  clear hE hb h
  go_enter Tryd.func8, Tryd.ntmps8
  go_wp2_with fail
  refine (same_any _ E HE.out).mono ?_
  rintro e w1 ⟨rfl, h1⟩
  have X1 := Lib.hid (h1)
  clear h1
  go_wp2_with fail
  refine (tokens_bad s wd _ E (HE.out.ext X1.out) (by unfold maxLen; omega) HB.out).mono ?_
  rintro e w2 ⟨rfl, h2⟩
  have X2 := Lib.hid (X1.out.trans h2)
  clear h2
  go_wp2_with fail
  refine (fewest_bad s wd _ E (HE.out.ext X2.out) (by unfold maxLen; omega) (.inl HB.out)).mono ?_
  rintro e w3 ⟨rfl, h3⟩
  have X3 := Lib.hid (X2.out.trans h3)
  clear h3
  by_cases q : wd < 1
  · have t2 : decide (wd < 1) = true := decide_eq_true q
    go_wp2_with fail
    refine (coded_any _ E (HE.out.ext X3.out) _ _ _ 2 (.sent 1 (by decide))).mono ?_
    rintro e w4 ⟨rfl, h4⟩
    have X4 := Lib.hid (X3.out.trans h4)
    clear h4
    rw [show decide (((1 : Nat) : Int) + 1 = 2 ∧ (-1 : Int) = -1) = true by decide]
    go_wp2_with fail
    refine (coded_any _ E (HE.out.ext X4.out) _ _ _ 2 (.sent 1 (by decide))).mono ?_
    rintro e w5 ⟨rfl, h5⟩
    have X5 := Lib.hid (X4.out.trans h5)
    clear h5
    rw [show decide (((1 : Nat) : Int) + 1 = 2 ∧ (-1 : Int) = -1) = true by decide]
    go_wp2_with fail
    go_ret
    exact ⟨rfl, X5.out⟩
  · have t2 : decide (wd < 1) = false := decide_eq_false q
    have t3 : decide (32768 < wd) = true := decide_eq_true (by have := H.out; omega)
    go_wp2_with fail
    refine (coded_any _ E (HE.out.ext X3.out) _ _ _ 2 (.sent 1 (by decide))).mono ?_
    rintro e w4 ⟨rfl, h4⟩
    have X4 := Lib.hid (X3.out.trans h4)
    clear h4
    rw [show decide (((1 : Nat) : Int) + 1 = 2 ∧ (-1 : Int) = -1) = true by decide]
    go_wp2_with fail
    refine (coded_any _ E (HE.out.ext X4.out) _ _ _ 2 (.sent 1 (by decide))).mono ?_
    rintro e w5 ⟨rfl, h5⟩
    have X5 := Lib.hid (X4.out.trans h5)
    clear h5
    rw [show decide (((1 : Nat) : Int) + 1 = 2 ∧ (-1 : Int) = -1) = true by decide]
    go_wp2_with fail
    go_ret
    exact ⟨rfl, X5.out⟩
theorem finds_ok (s : ByteArray) (W : Nat) (w : World) (E : Nat → Addr) (hE : Errs w E) (hs : s.size ≤ 400) (h1 : 1 ≤ W) (h2 : W ≤ 32768) :
    Calls Tryd.prog 8 #[.string s, .int .i64 (W : Int)] w fun e w' => e = .returned (.bool true) ∧ Ext w w' := by
  have HE := Lib.hid hE
  have t1 : ¬ (400 : Int) < (s.size : Int) := by omega
  have t2 : decide ((W : Int) < 1) = false := decide_eq_false (by omega)
  have t3 : decide ((32768 : Int) < (W : Int)) = false := decide_eq_false (by omega)
  clear hE
  go_enter Tryd.func8, Tryd.ntmps8
  go_wp2_with fail
  refine (same_any _ E HE.out).mono ?_
  rintro e w1 ⟨rfl, h1⟩
  have X1 := Lib.hid (h1)
  clear h1
  go_wp2_with fail
  refine (tokens_good s W _ (by omega) h1 h2).mono ?_
  rintro e w2 ⟨l, v, rfl, hown, hTL, hx⟩
  have X2 := Lib.hid (X1.out.trans hx)
  have HL := Lib.hid hTL
  have hof : ∀ i, i < l.length → tkl l i ∈ l := fun i hi => by unfold tkl; rw [List.getD, List.getElem?_eq_getElem hi]; exact List.getElem_mem _
  obtain ⟨ax, ac, rfl, htk⟩ := Toks.of_own hown (fun i hi => hTL.ok _ (hof i hi))
  have HT := Lib.hid htk
  have HO := Lib.hid hof
  have hlf := hTL.few
  clear hown hTL hx htk hof
  go_wp2_with fail
  refine (fewest_good s W _ (by omega) h1 h2).mono ?_
  rintro e w3 ⟨N, rfl, hN, hNs, hx⟩
  have X3 := Lib.hid (X2.out.trans hx)
  have HT3 := Lib.hid (HT.out.ext hx)
  have hTT : triesOf s = s.size := by unfold triesOf; rw [if_neg (by omega)]
  have HLb := HL.out
  rw [hTT] at HLb
  obtain ⟨hb1, hb2⟩ := HLb.bounds (Nat.le_refl _) hN
  have HN := Lib.hid hN
  clear hx hN hTT HLb HT
  obtain ⟨n, hn⟩ : ∃ n, l.length = n := ⟨_, rfl⟩
  have HM := Lib.hid HL.out.means
  have HNL := Lib.hid hn
  rw [hn] at HM HT3 hb1 hb2 hlf ⊢
  clear hn
  go_wp2_with fail
  refine (expandOf_any ax n ac (tkl l) _ HT3.out (by unfold maxLen; omega)).mono ?_
  rintro e w4 ⟨h4, hr⟩
  rw [HM.out] at hr
  rcases hr with ⟨out, ho, rfl⟩ | ⟨c, i, _, ho, _⟩
  · injection ho with ho
    subst ho
    rw [pre_all, str_back]
    have X4 := Lib.hid (X3.out.trans h4)
    have HT4 := Lib.hid (HT3.out.ext h4)
    clear h4
    have t0 : ((s.data == s.data) : Bool) = true := by simp
    go_wp2_with fail
    go_loopw [12] (fun k wr => ∃ i : Nat, k = .int .i64 (i : Int) ∧ i ≤ n ∧ Hid (Ext w4 wr)) (fun k _ => n - (intOf k).toNat)
    case atStart => exact ⟨0, rfl, by omega, Lib.hid ((Ext.refl _).alloc _)⟩
    case round =>
      obtain ⟨i, rfl, hi, HX⟩ := hrel
      by_cases hlt : i < n
      · obtain ⟨ad, rfl⟩ := HT4.out.isSome hlt
        obtain ⟨c0, c1, c2, ok⟩ := (HT4.out.ext HX.out).2 ad rfl i hlt
        have hw := HL.out.win _ (HO.out i (by rw [HNL.out]; exact hlt))
        generalize tkl l i = t at c0 c1 c2 ok hw
        obtain ⟨tb, tl, td⟩ := t
        simp only at c0 c1 c2 hw
        have t4 : ¬ ((W : Int) < td) := by omega
        clear ok
        go_wp2_with fail
        go_roundw
        case rel => exact ⟨i + 1, by go_num, by omega, HX⟩
        case measure => simp [intOf]; omega
      · obtain rfl : i = n := by omega
        have X5 := Lib.hid (X4.out.trans HX.out)
        go_wp2_with fail
        refine (fewestOf_any s W _ (by omega) h2).mono ?_
        rintro e w5 ⟨N2, rfl, hN2, _, hx⟩
        obtain rfl : N2 = N := hN2.one HN.out
        have X6 := Lib.hid (X5.out.trans hx)
        clear hx hN2
        have t5 : ((N2 : Int) == (N2 : Int)) = true := beq_iff_eq.2 rfl
        have t6 : decide ((N2 : Int) ≤ (i : Int)) = true := decide_eq_true (by omega)
        have t7 : decide ((i : Int) ≤ 2 * (N2 : Int) + 1) = true := decide_eq_true (by omega)
        go_wp2_with fail
        go_ret
        exact ⟨ret_bool (by first | rfl | simp | (simp; omega)), X6.out⟩
  · cases ho
theorem finds_any (s : ByteArray) (wd : Int) (w : World) (E : Nat → Addr) (hE : Errs w E) :
    Calls Tryd.prog 8 #[.string s, .int .i64 wd] w fun e w' => e = .returned (.bool true) ∧ Ext w w' := by
  by_cases h1 : 400 < s.size
  · exact finds_big s wd w E hE h1
  · by_cases h2 : wd < 1 ∨ 32768 < wd
    · exact finds_bad s wd w E hE (by omega) h2
    · obtain ⟨u, rfl⟩ := Int.eq_ofNat_of_zero_le (show 0 ≤ wd by omega)
      exact finds_ok s u w E hE (by omega) (by omega) (by omega)
end Go.Proofs.YtdeiolagnheihaaDoor
namespace Go.Proofs.YtdeiolagnheihaaDoor
open Go.RowKit
set_option maxRecDepth 100000
/-- a text so many times -/
def rep (a : ByteArray) : Nat → ByteArray
  | 0 => ⟨#[]⟩
  | k + 1 => rep a k ++ a
theorem rep_size (a : ByteArray) : ∀ k, (rep a k).size = k * a.size := by
  intro k
  induction k with
  | zero => rw [Nat.zero_mul]; rfl
  | succ k ih => simp only [rep, ByteArray.size_append, ih, Nat.succ_mul]
theorem rep_byt (a : ByteArray) : ∀ k i, i < k * a.size → byt (rep a k) i = byt a (i % a.size) := by
  intro k
  induction k with
  | zero => intro i h; omega
  | succ k ih =>
    intro i h
    have e : (rep a (k + 1)).data.toList = (rep a k).data.toList ++ a.data.toList := by simp [rep, ByteArray.data_append]
    have hl : (rep a k).data.toList.length = k * a.size := by rw [list_len, rep_size]
    unfold byt
    rw [e, List.getD, List.getD]
    rcases Nat.lt_or_ge i (k * a.size) with q | q
    · rw [List.getElem?_append_left (by omega)]
      have := ih i q
      unfold byt at this
      rw [List.getD, List.getD] at this
      exact this
    · rw [List.getElem?_append_right (by omega), hl]
      have hr : i % a.size = i - k * a.size := by
        obtain ⟨j, rfl⟩ : ∃ j, i = k * a.size + j := ⟨i - k * a.size, by omega⟩
        rw [Nat.succ_mul] at h
        rw [Nat.mul_comm, Nat.mul_add_mod, Nat.mod_eq_of_lt (by omega), Nat.add_sub_cancel_left]
      rw [hr]
theorem rep_again (a : ByteArray) (k : Nat) : ∀ i, a.size ≤ i → i < (rep a k).size → byt (rep a k) (i - a.size) = byt (rep a k) i := by
  intro i h1 h2
  rw [rep_size] at h2
  rw [rep_byt a k _ (by omega), rep_byt a k i h2, Nat.mod_eq_sub_mod h1]
theorem long_no (a : ByteArray) (m wd : Int) (w : World) (E : Nat → Addr) (hE : Errs w E) (hs : a.size ≤ maxLen) (h : ¬ (1 ≤ a.size ∧ a.size ≤ 40 ∧ 1 ≤ m ∧ m ≤ 100 ∧ (a.size : Int) ≤ wd ∧ wd ≤ 32768)) :
    Calls Tryd.prog 9 #[.string a, .int .i64 m, .int .i64 wd] w fun e w' => e = .returned (.bool true) ∧ Ext w w' := by
  have HE := Lib.hid hE
  clear hE
  unfold maxLen at hs
  go_enter Tryd.func9, Tryd.ntmps9
  go_wp2_with fail
  refine (same_any _ E HE.out).mono ?_
  rintro e w1 ⟨rfl, h1⟩
  have X1 := Lib.hid (h1)
  clear h1
  by_cases q1 : (a.size : Int) < 1
  · have t1 : decide ((a.size : Int) < 1) = true := decide_eq_true q1
    go_wp2_with fail
    go_ret
    exact ⟨rfl, X1.out⟩
  have t1 : decide ((a.size : Int) < 1) = false := decide_eq_false q1
  by_cases q2 : (40 : Int) < (a.size : Int)
  · have t2 : decide ((40 : Int) < (a.size : Int)) = true := decide_eq_true q2
    go_wp2_with fail
    go_ret
    exact ⟨rfl, X1.out⟩
  have t2 : decide ((40 : Int) < (a.size : Int)) = false := decide_eq_false q2
  by_cases q3 : m < 1
  · have t3 : decide (m < 1) = true := decide_eq_true q3
    go_wp2_with fail
    go_ret
    exact ⟨rfl, X1.out⟩
  have t3 : decide (m < 1) = false := decide_eq_false q3
  by_cases q4 : 100 < m
  · have t4 : decide (100 < m) = true := decide_eq_true q4
    go_wp2_with fail
    go_ret
    exact ⟨rfl, X1.out⟩
  have t4 : decide (100 < m) = false := decide_eq_false q4
  by_cases q5 : wd < (a.size : Int)
  · have t5 : decide (wd < (a.size : Int)) = true := decide_eq_true q5
    go_wp2_with fail
    go_ret
    exact ⟨rfl, X1.out⟩
  have t5 : decide (wd < (a.size : Int)) = false := decide_eq_false q5
  by_cases q6 : 32768 < wd
  · have t6 : decide (32768 < wd) = true := decide_eq_true q6
    go_wp2_with fail
    go_ret
    exact ⟨rfl, X1.out⟩
  · exact absurd ⟨by omega, by omega, by omega, by omega, by omega, by omega⟩ h
set_option linter.unusedSimpArgs false in
set_option maxHeartbeats 2000000 in
theorem long_yes (a : ByteArray) (m W : Nat) (w : World) (E : Nat → Addr) (hE : Errs w E) (h1 : 1 ≤ a.size) (h2 : a.size ≤ 40) (h3 : 1 ≤ m) (h4 : m ≤ 100) (h5 : a.size ≤ W) (h6 : W ≤ 32768) :
    Calls Tryd.prog 9 #[.string a, .int .i64 (m : Int), .int .i64 (W : Int)] w fun e w' => e = .returned (.bool true) ∧ Ext w w' := by
  have HE := Lib.hid hE
  clear hE
  have t1 : decide ((a.size : Int) < 1) = false := decide_eq_false (by omega)
  have t2 : decide ((40 : Int) < (a.size : Int)) = false := decide_eq_false (by omega)
  have t3 : decide ((m : Int) < 1) = false := decide_eq_false (by omega)
  have t4 : decide ((100 : Int) < (m : Int)) = false := decide_eq_false (by omega)
  have t5 : decide ((W : Int) < (a.size : Int)) = false := decide_eq_false (by omega)
  have t6 : decide ((32768 : Int) < (W : Int)) = false := decide_eq_false (by omega)
  go_enter Tryd.func9, Tryd.ntmps9
  go_wp2_with fail
  refine (same_any _ E HE.out).mono ?_
  rintro e w1 ⟨rfl, h1⟩
  have X1 := Lib.hid (h1)
  clear h1
  go_wp2_with fail
  clear t1 t2 t3 t4 t5 t6
  go_loopw [8, 9] (fun x k wr => ∃ (i : Nat) (t : ByteArray), x = .string t ∧ k = .int .i64 (i : Int) ∧ i ≤ m ∧ Hid (rep a i = t) ∧ wr = w1) (fun _ k _ => m - (intOf k).toNat)
  case atStart => exact ⟨0, _, rfl, rfl, by omega, Lib.hid rfl, rfl⟩
  case round =>
    obtain ⟨i, t, rfl, rfl, hi, HR, rfl⟩ := hrel
    have hsz : t.size ≤ 4000 := by rw [← HR.out, rep_size]; exact Nat.le_trans (Nat.mul_le_mul (show i ≤ 100 by omega) h2) (by decide)
    by_cases hlt : i < m
    · have hsum : ¬ 9223372036854775807 < t.size + a.size := by omega
      have hadd := fun w => run_string_add_sum (P := Tryd.prog) w t a (by omega)
      have HR2 : Hid (rep a (i + 1) = t ++ a) := Lib.hid (by show rep a i ++ a = _; rw [HR.out])
      go_wp2_with fail
      go_roundw
      case rel => exact ⟨i + 1, _, rfl, by go_num, by omega, HR2, by first | rfl | trivial⟩
      case measure => simp [intOf]; omega
    · obtain rfl : i = m := by omega
      have hte : t.size = i * a.size := by rw [← HR.out, rep_size]
      have hal : a.size ≤ t.size := by rw [hte]; exact Nat.le_mul_of_pos_left _ (by omega)
      have HAg : Hid (∀ i, a.size ≤ i → i < t.size → byt t (i - a.size) = byt t i) := Lib.hid (by rw [← HR.out]; exact rep_again a i)
      clear hte HR
      by_cases hbig : 3000 < t.size
      · have t1 : decide ((3000 : Int) < (t.size : Int)) = true := decide_eq_true (by omega)
        go_wp2_with fail
        refine (fewest_bad t (W : Int) _ E (HE.out.ext X1.out) (by unfold maxLen; omega) (.inr hbig)).mono ?_
        rintro e w3 ⟨rfl, hx⟩
        have X3 := Lib.hid (X1.out.trans hx)
        clear hx
        go_wp2_with fail
        refine (coded_any _ E (HE.out.ext X3.out) _ _ _ 2 (.sent 1 (by decide))).mono ?_
        rintro e w4 ⟨rfl, hx⟩
        have X4 := Lib.hid (X3.out.trans hx)
        clear hx
        rw [show decide (((1 : Nat) : Int) + 1 = 2 ∧ (-1 : Int) = -1) = true by decide]
        go_wp2_with fail
        go_ret
        exact ⟨rfl, X4.out⟩
      · have t1 : decide ((3000 : Int) < (t.size : Int)) = false := decide_eq_false (by omega)
        go_wp2_with fail
        refine (fewest_good t W _ (by omega) (by omega) h6).mono ?_
        rintro e w3 ⟨N, rfl, hN, hNs, hx⟩
        have X3 := Lib.hid (X1.out.trans hx)
        have hag := hN.again h1 h5 hal HAg.out
        have HN := Lib.hid hN
        obtain ⟨D, hD⟩ : ∃ D, t.size / 258 = D := ⟨_, rfl⟩
        have hDI : (t.size : Int) / 258 = (D : Int) := by omega
        rw [hD] at hag
        have hDl : D ≤ 100 := by omega
        clear hx hN hD
        have t7 : decide ((a.size : Int) + (D : Int) + 2 < (N : Int)) = false := decide_eq_false (by omega)
        go_wp2_with fail
        refine (tokens_good t W _ (by omega) (by omega) h6).mono ?_
        rintro e w4 ⟨l, v, rfl, hown, hTL, hx⟩
        have X4 := Lib.hid (X3.out.trans hx)
        have hTT : triesOf t = t.size := by unfold triesOf; rw [if_neg (by omega)]
        rw [hTT] at hTL
        obtain ⟨hb1, hb2⟩ := hTL.bounds (Nat.le_refl _) HN.out
        obtain ⟨ax, ac, rfl⟩ := row_sl hown
        have t8 : decide ((l.length : Int) ≤ 2 * (N : Int) + 1) = true := decide_eq_true (by omega)
        have hll : l.length ≤ 3000 := by have := hTL.few; omega
        clear hx hown hTL hTT hDI
        go_wp2_with fail
        go_ret
        exact ⟨ret_bool (by first | rfl | simp | (simp; omega)), X4.out⟩
theorem long_any (a : ByteArray) (m wd : Int) (w : World) (E : Nat → Addr) (hE : Errs w E) (hs : a.size ≤ maxLen) :
    Calls Tryd.prog 9 #[.string a, .int .i64 m, .int .i64 wd] w fun e w' => e = .returned (.bool true) ∧ Ext w w' := by
  by_cases h : 1 ≤ a.size ∧ a.size ≤ 40 ∧ 1 ≤ m ∧ m ≤ 100 ∧ (a.size : Int) ≤ wd ∧ wd ≤ 32768
  · obtain ⟨q1, q2, q3, q4, q5, q6⟩ := h
    obtain ⟨u, rfl⟩ := Int.eq_ofNat_of_zero_le (show 0 ≤ m by omega)
    obtain ⟨v, rfl⟩ := Int.eq_ofNat_of_zero_le (show 0 ≤ wd by omega)
    exact long_yes a u v w E hE q1 q2 (by omega) (by omega) (by omega) (by omega)
  · exact long_no a m wd w E hE hs h
end Go.Proofs.YtdeiolagnheihaaDoor
namespace Go.Proofs.YtdeiolagnheihaaDoor
open Go.RowKit Go.ChangeShapes
set_option maxRecDepth 100000
theorem rowName : (Tryd.prog.cutTypes.find? (·.1 == "internal/reflectlite.rtype")).map (·.2) = some 166 := by kernel_rfl
theorem oneRow : ((List.range Tryd.prog.types.size).filter fun t => Tryd.prog.rowNamed t [101, 114, 114, 111, 114]) = [25] := by kernel_rfl
theorem etName : Tryd.prog.globalNamed "errors.errorType" = some 9 := by kernel_rfl
theorem errType_of_laid {l : List (String × DataW Unit)} {W : World} (h : laidMetH Tryd.prog l W)
    (hl : l.filter (fun x => x.1 == "errors.errorType") = [("errors.errorType", .iface "internal/reflectlite.rtype" (.agg [.ptr (.lit (.string [101, 114, 114, 111, 114]))]))]) : ErrType W := by
  have h1 := laidMetH.filter (fun x => x.1 == "errors.errorType") h
  rw [hl] at h1
  have h' : laidMet Tryd.prog [] W ∧ handlesMet Tryd.prog [("errors.errorType", .iface "internal/reflectlite.rtype" (.agg [.ptr (.lit (.string [101, 114, 114, 111, 114]))]))] W := h1
  obtain ⟨name, u, ty, e1, e2, e3, e4, e5⟩ := h'.2 _ (List.mem_singleton.2 rfl)
  have en : name = [101, 114, 114, 111, 114] := (Option.some.inj e1).symm
  subst en
  obtain rfl := Option.some.inj (rowName.symm.trans e2)
  have hm : ty ∈ (List.range Tryd.prog.types.size).filter fun t => Tryd.prog.rowNamed t [101, 114, 114, 111, 114] := List.mem_filter.2 ⟨List.mem_range.2 e3, e4⟩
  rw [oneRow] at hm
  obtain rfl := List.mem_singleton.1 hm
  have hh : typeHandle Tryd.prog 25 = hdl 25 := by kernel_rfl
  rw [hh] at e5
  unfold ErrType
  simpa using World.var?_cell etName e5 0
theorem sentinel_row {l : List (String × DataW Unit)} {W : World} {n : String} {g : Nat} {text : List UInt8} {ti : TypeId} {ms : Array (String × TypeId)} (h : laidMetH Tryd.prog l W)
    (hl : l.filter (fun x => x.1 == n) = [(n, .iface "*errors.errorString" (.ptr (.agg [.lit (.string text)])))]) (hg : Tryd.prog.globalNamed n = some g)
    (ht : (Tryd.prog.globals[g]?).map (·.type) = some ti) (hi : Tryd.prog.underlying ti = some (.interface ms)) :
    ∃ (E : Addr), W.cell? ⟨g, 0, none⟩ = some (sentV E) ∧ (∃ s : ByteArray, W.cell? E = some (.string s) ∧ s.data.toList = text) ∧ ∃ c t, W.heap[E.block]? = some (.cells c t (0, 0)) := by
  have h1 := laidMetH.filter (fun x => x.1 == n) h
  rw [hl] at h1
  have h2 : laidMet Tryd.prog [(n, .iface "*errors.errorString" (.ptr (.agg [.lit (.string text)])))] W := h1
  obtain ⟨ps, ⟨g0, t0, cs0, f0, p0, q0, hg0, ht0, hv0, hd0, _, e0⟩, _, hrows⟩ := h2
  obtain rfl := Option.some.inj (hg.symm.trans hg0)
  obtain rfl := Option.some.inj (ht.symm.trans ht0)
  subst e0
  obtain ⟨l0⟩ := cs0
  have ok0 : ∀ u v, l0 = [.iface u v] → Value.okWide Tryd.prog W .any 0 u v := fun u v e => by
    subst e
    exact (hrows g 0 (by simp [MemPlace.row])).2 u v (by simpa using World.var?_cell hg0 hv0 0)
  obtain ⟨a0, s0, rfl, hc0, hs0, hz0, rfl⟩ := errorString_of_trod hi sent_row Tryd.underlying180 Tryd.underlying199 rfl rfl Tryd.underlying9 (by kernel_rfl) (by kernel_rfl) hd0 ok0
  obtain ⟨c, t, hb⟩ := (hrows a0.block a0.off (by simp [MemPlace.row])).1
  exact ⟨a0, by unfold sentV; simpa using World.var?_cell hg0 hv0 0, ⟨s0, hc0, hs0⟩, c, t, hb⟩
def nameE : Nat → String
  | 0 => "layercake/api.ErrText"
  | 1 => "layercake/api.ErrBound"
  | 2 => "layercake/api.ErrShape"
  | 3 => "layercake/api.ErrSum"
  | 4 => "layercake/api.ErrName"
  | 5 => "layercake/api.ErrNone"
  | 6 => "layercake/api.ErrColors"
  | 7 => "layercake/api.ErrFull"
  | _ => "layercake/api.ErrPower"
def textE : Nat → List UInt8
  | 0 => [108, 97, 121, 101, 114, 99, 97, 107, 101, 58, 32, 116, 101, 120, 116]
  | 1 => [108, 97, 121, 101, 114, 99, 97, 107, 101, 58, 32, 98, 111, 117, 110, 100]
  | 2 => [108, 97, 121, 101, 114, 99, 97, 107, 101, 58, 32, 115, 104, 97, 112, 101]
  | 3 => [108, 97, 121, 101, 114, 99, 97, 107, 101, 58, 32, 115, 117, 109]
  | 4 => [108, 97, 121, 101, 114, 99, 97, 107, 101, 58, 32, 110, 97, 109, 101]
  | 5 => [108, 97, 121, 101, 114, 99, 97, 107, 101, 58, 32, 110, 111, 110, 101]
  | 6 => [108, 97, 121, 101, 114, 99, 97, 107, 101, 58, 32, 99, 111, 108, 111, 114, 115]
  | 7 => [108, 97, 121, 101, 114, 99, 97, 107, 101, 58, 32, 102, 117, 108, 108]
  | _ => [108, 97, 121, 101, 114, 99, 97, 107, 101, 58, 32, 112, 111, 119, 101, 114]
def errD (k : Nat) : List (String × DataW Unit) := [(nameE k, .iface "*errors.errorString" (.ptr (.agg [.lit (.string (textE k))])))]
theorem textE_ne : ∀ j, j < 9 → ∀ k, k < 9 → j ≠ k → textE j ≠ textE k := by decide
theorem errs_of_laid {l : List (String × DataW Unit)} {W : World} (h : laidMetH Tryd.prog l W)
    (het : l.filter (fun x => x.1 == "errors.errorType") = [("errors.errorType", .iface "internal/reflectlite.rtype" (.agg [.ptr (.lit (.string [101, 114, 114, 111, 114]))]))])
    (hl0 : l.filter (fun x => x.1 == nameE 0) = errD 0) (hl1 : l.filter (fun x => x.1 == nameE 1) = errD 1) (hl2 : l.filter (fun x => x.1 == nameE 2) = errD 2)
    (hl3 : l.filter (fun x => x.1 == nameE 3) = errD 3) (hl4 : l.filter (fun x => x.1 == nameE 4) = errD 4) (hl5 : l.filter (fun x => x.1 == nameE 5) = errD 5)
    (hl6 : l.filter (fun x => x.1 == nameE 6) = errD 6) (hl7 : l.filter (fun x => x.1 == nameE 7) = errD 7) (hl8 : l.filter (fun x => x.1 == nameE 8) = errD 8) :
    ∃ E, Errs W E ∧ ∀ k, k < 9 → ∃ s : ByteArray, W.cell? (E k) = some (.string s) ∧ s.data.toList = textE k := by
  have key : ∀ k, k < 9 → ∃ (E : Addr), W.cell? ⟨gk k, 0, none⟩ = some (sentV E) ∧ (∃ s : ByteArray, W.cell? E = some (.string s) ∧ s.data.toList = textE k) ∧ ∃ c t, W.heap[E.block]? = some (.cells c t (0, 0)) := by
    intro k hk
    match k, hk with
    | 0, _ => exact sentinel_row h hl0 (by kernel_rfl) (by kernel_rfl) Tryd.underlying25
    | 1, _ => exact sentinel_row h hl1 (by kernel_rfl) (by kernel_rfl) Tryd.underlying25
    | 2, _ => exact sentinel_row h hl2 (by kernel_rfl) (by kernel_rfl) Tryd.underlying25
    | 3, _ => exact sentinel_row h hl3 (by kernel_rfl) (by kernel_rfl) Tryd.underlying25
    | 4, _ => exact sentinel_row h hl4 (by kernel_rfl) (by kernel_rfl) Tryd.underlying25
    | 5, _ => exact sentinel_row h hl5 (by kernel_rfl) (by kernel_rfl) Tryd.underlying25
    | 6, _ => exact sentinel_row h hl6 (by kernel_rfl) (by kernel_rfl) Tryd.underlying25
    | 7, _ => exact sentinel_row h hl7 (by kernel_rfl) (by kernel_rfl) Tryd.underlying25
    | 8, _ => exact sentinel_row h hl8 (by kernel_rfl) (by kernel_rfl) Tryd.underlying25
  let E : Nat → Addr := fun k => if hk : k < 9 then (key k hk).choose else ⟨0, 0, none⟩
  have hE : ∀ k (hk : k < 9), E k = (key k hk).choose := fun k hk => by simp [E, hk]
  refine ⟨E, ⟨errType_of_laid h het, fun k hk => ?_, fun k hk => ?_, fun j k hj hk hjk => ?_⟩, fun k hk => ?_⟩
  · rw [hE k hk]; exact (key k hk).choose_spec.1
  · rw [hE k hk]; exact (key k hk).choose_spec.2.2
  · rw [hE j hj, hE k hk]
    intro e
    obtain ⟨s, h1, h2⟩ := (key j hj).choose_spec.2.1
    obtain ⟨s', h3, h4⟩ := (key k hk).choose_spec.2.1
    rw [e, h3] at h1
    injection h1 with h1; injection h1 with h1
    subst h1
    exact textE_ne j hj k hk hjk (h2.symm.trans h4)
  · rw [hE k hk]; exact (key k hk).choose_spec.2.1
end Go.Proofs.YtdeiolagnheihaaDoor
namespace Go.Proofs.YtdeiolagnheihaaDoor
open Go.ChangeShapes Go.WideShapes Go.ChangeAt Go.RowKit
theorem law_readAll {H : Type} {enc : TypeId × Value → H} {P : Program} (hl : laidOutB P = true) {W W' : World} (sp : Nat → Bool) (hB : Below W.heap.size W W') :
    ∀ (ts : List TypeId) (vs : List Value) (ds : List (DataW H)) (ps : List MemPlace),
      (∀ t ∈ ts, P.readableRec t = true ∧ t < P.types.size) → (∀ p ∈ ps, p.block < W.heap.size) → (∀ p ∈ ps, sp p.block = true) →
      DataW.TrodAll enc P W 0 (fun _ => true) true ts vs ds ps → DataW.TrodAll enc P W' 0 sp true ts vs ds ps
  | [], [], [], _, _, _, _, h => h
  | t :: ts, v :: vs, d :: ds, ps, hr, hlt, hsp, h => by
    obtain ⟨p, q, h1, h2, rfl⟩ := h
    have ht := hr t (List.mem_cons_self ..)
    refine ⟨p, q, ?_, ?_, rfl⟩
    · exact WideElems.Trod_stays hl ht.1 ht.2 h1 (fun x hx => hB.same (hlt x (List.mem_append_left _ hx))) (fun x hx => hsp x (List.mem_append_left _ hx))
    · exact law_readAll hl sp hB ts vs ds q (fun t' ht' => hr t' (List.mem_cons_of_mem _ ht')) (fun x hx => hlt x (List.mem_append_right _ hx)) (fun x hx => hsp x (List.mem_append_right _ hx)) h2
  | [], [], _ :: _, _, _, _, _, h => h.elim
  | [], _ :: _, _, _, _, _, _, h => h.elim
  | _ :: _, [], _, _, _, _, _, h => h.elim
  | _ :: _, _ :: _, [], _, _, _, _, h => h.elim
theorem law_post {H : Type} {enc : TypeId × Value → H} {P : Program} (hl : laidOutB P = true) {f : Func} {s : ChangeSpec} {apart fresh handsOn : Bool} {W W' : World} {args : Array Value} {ds : List (DataW H)} {before : List MemPlace} {tb : TypeId}
    (hW : DataW.Whole enc P f.params.toList s.vars apart W args.toList ds [] before) (hv : s.vars = [])
    (hfn : s.fn H (ds ++ []) = { results := [.lit (.bool true)], args := ds })
    (hread : f.params.toList.all (fun t => P.readableRec t && decide (t < P.types.size)) = true)
    (hres : f.resultTypes = #[tb]) (hb : P.underlying tb = some .bool) (hB : Below W.heap.size W W') :
    s.post enc P f apart fresh handsOn false W args (.bool true) W' := by
  have hlt : ∀ p ∈ before, p.block < W.heap.size := fun p hp => hW.lt p hp
  have hr : ∀ t ∈ f.params.toList, P.readableRec t = true ∧ t < P.types.size := by
    intro t ht
    have := List.all_eq_true.1 hread t ht
    simpa using this
  have hW0 := hW
  obtain ⟨p, q, hA, hV, hpq, hfz, hnd⟩ := hW
  rw [hv] at hV
  have hq : q = [] := by simpa [DataW.TrodVars] using hV
  subst hq
  rw [List.append_nil] at hpq
  subst hpq
  have hargs : ∀ sp : Nat → Bool, (∀ x ∈ before, sp x.block = true) → DataW.TrodAll enc P W' 0 sp true f.params.toList args.toList ds before :=
    fun sp hsp => law_readAll hl sp hB _ _ _ _ hr hlt hsp hA
  have hold : ∀ x ∈ before, (fun b => decide (b < W.heap.size)) x.block = true := fun x hx => by simpa using hlt x hx
  have hresults : ∀ (b : Nat) (sp : Nat → Bool) (hd : Bool), DataW.TrodAll enc P W' b sp hd f.resultTypes.toList ((Value.bool true).resultList f.resultTypes.size) [.lit (.bool true)] [] := by
    intro b sp hd
    rw [hres]
    exact trodAll_mk1 (shut_bool hb true)
  refine ⟨ds, [], before, [], before, [], hW0, ?_, ?_, ?_, World.keptBut_mono (fun x hx => ⟨hx, ?_⟩) (hB.frame (· ∈ before)), fun _ => ?_⟩
  · rw [hfn]; exact hresults _ _ _
  · rw [hfn]; exact hargs _ hold
  · rw [hfn, hv]; rfl
  · exact Or.inr (Or.inl hx)
  · cases ‹false = true›
end Go.Proofs.YtdeiolagnheihaaDoor
