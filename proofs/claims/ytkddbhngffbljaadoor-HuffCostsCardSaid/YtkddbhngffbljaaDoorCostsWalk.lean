/- HuffCosts's walk. -/
import Derived.Test.YtkddbhngffbljaaDoorCost
import Derived.Test.YtkddbhngffbljaaDoorApart
import Derived.Test.YtkddbhngffbljaaDoorCoded1
namespace Go.Proofs.YtkddbhngffbljaaDoor
open Go.RowKit
set_option maxRecDepth 100000
theorem Errs.sents {w : World} {E : Nat → Addr} (h : Errs w E) : Sents w := by
  have h1 := h.var 1 (by decide)
  have h2 := h.var 2 (by decide)
  simp only [gk, sentV] at h1 h2
  exact ⟨⟨_, h1⟩, ⟨_, h2⟩⟩
theorem costs_out (x y : Option Addr) (n m cap cap' : Nat) (w : World) (E : Nat → Addr) (hS : Errs w E) (hn : n ≤ maxLen) (hm : m ≤ maxLen) (h : 100 < n ∨ 100 < m) :
    Calls Tryd.prog 8 #[.slice x n cap, .slice y m cap'] w fun e w' => e = .returned (.bool true) ∧ Ext w w' := by
  unfold maxLen at hn hm
  by_cases h1 : 100 < n
  · clear h
    go_enter Tryd.func8, Tryd.ntmps8
    go_wp2_with fail
    refine (two_any _ hS.sents).mono ?_
    rintro e w2 ⟨rfl, h2⟩
    go_wp2_with fail
    go_ret
    exact ⟨rfl, h2⟩
  · have h3 : 100 < m := by omega
    clear h
    go_enter Tryd.func8, Tryd.ntmps8
    go_wp2_with fail
    refine (two_any _ hS.sents).mono ?_
    rintro e w2 ⟨rfl, h2⟩
    go_wp2_with fail
    go_ret
    exact ⟨rfl, h2⟩
structure BadAt (f g : Nat → Int) (n m : Nat) (b : Bool) (v : Int) (i : Nat) : Prop where
  bad : b = true ↔ (n ≠ m ∨ ∃ j, j < i ∧ (f j < 0 ∨ g j < 0))
  le : ∀ j, j < i → f j ≤ 1048576 ∧ g j ≤ 1048576
  sum : b = false → v = costS f g i
/-- what is known when the loop has ended -/
def HFin (f g : Nat → Int) (n m : Nat) (b : Bool) (v : Int) : Prop :=
  (b = true ∧ (n ≠ m ∨ (∃ j, j < n ∧ f j < 0) ∨ (∃ j, j < m ∧ g j < 0))) ∨
  (b = false ∧ n = m ∧ v = costS f g n ∧ (∀ j, j < n → 0 ≤ f j ∧ f j ≤ 1048576) ∧ (∀ j, j < n → 0 ≤ g j ∧ g j ≤ 1048576))
theorem HFin.mk {f g : Nat → Int} {n m i : Nat} {b : Bool} {v : Int} (h : BadAt f g n m b v i) (hn : i ≤ n) (hm : i ≤ m) (hlt : ¬ (i < n ∧ i < m)) : HFin f g n m b v := by
  cases b with
  | true =>
    refine .inl ⟨rfl, ?_⟩
    rcases h.bad.1 rfl with q | ⟨j, hj, q | q⟩
    · exact .inl q
    · exact .inr (.inl ⟨j, by omega, q⟩)
    · exact .inr (.inr ⟨j, by omega, q⟩)
  | false =>
    have no : ¬ (n ≠ m ∨ ∃ j, j < i ∧ (f j < 0 ∨ g j < 0)) := fun q => by have := h.bad.2 q; cases this
    have hnm : n = m := by
      rcases Nat.decEq n m with q | q
      · exact absurd (.inl q) no
      · exact q
    obtain rfl : i = n := by omega
    subst hnm
    refine .inr ⟨rfl, rfl, h.sum rfl, fun j hj => ?_, fun j hj => ?_⟩
    · have q := h.le j hj
      have q2 : ¬ (f j < 0 ∨ g j < 0) := fun q2 => no (.inr ⟨j, hj, q2⟩)
      omega
    · have q := h.le j hj
      have q2 : ¬ (f j < 0 ∨ g j < 0) := fun q2 => no (.inr ⟨j, hj, q2⟩)
      omega
set_option maxHeartbeats 4000000 in
theorem costs_in (x y : Option Addr) (n m cap cap' : Nat) (f g : Nat → Int) (w : World) (E : Nat → Addr) (hS : Errs w E) (hx : Ints w x n f) (hy : Ints w y m g) (hn : n ≤ 100) (hm : m ≤ 100) (hx0 : x = none → cap = 0) (hy0 : y = none → cap' = 0) :
    Calls Tryd.prog 8 #[.slice x n cap, .slice y m cap'] w fun e w' => e = .returned (.bool true) ∧ Ext w w' := by
  have HS := Lib.hid hS
  have HX := Lib.hid hx
  have HY := Lib.hid hy
  have HX0 := Lib.hid hx0
  have HY0 := Lib.hid hy0
  clear hS hx hy hx0 hy0
  obtain ⟨b0, hb0⟩ : ∃ b : Bool, ((n : Int) != (m : Int)) = b := ⟨_, rfl⟩
  go_enter Tryd.func8, Tryd.ntmps8
  go_wp2_with fail
  refine (two_any _ HS.out.sents).mono ?_
  rintro e w2 ⟨rfl, h2⟩
  have H2 := Lib.hid h2
  clear h2
  go_wp2_with fail
  have HB0 := Lib.hid hb0
  clear hb0
  go_loopw [6, 7, 8] (fun p q c wr => ∃ (i k : Nat) (b : Bool) (v : Int), i ≤ n ∧ i ≤ m ∧ c = .int .i64 i ∧ p = .bool b ∧ q = .int .i64 v ∧ Hid (BadAt f g n m b v i) ∧ wr = w2.drewN k) (fun _ _ c _ => n - (intOf c).toNat)
  case atStart =>
    refine ⟨0, 0, b0, 0, by omega, by omega, rfl, rfl, rfl, Lib.hid ⟨?_, fun j hj => by omega, fun _ => rfl⟩, rfl⟩
    have q := HB0.out
    rw [← q]
    constructor
    · intro h; left; rw [bne_iff_ne] at h; omega
    · rintro (h | ⟨j, hj, _⟩)
      · rw [bne_iff_ne]; omega
      · omega
  case round =>
    obtain ⟨i, k, b, v, hin, him, rfl, rfl, rfl, HI, rfl⟩ := hrel
    by_cases hlt : i < n ∧ i < m
    · obtain ⟨hl1, hl2⟩ := hlt
      obtain ⟨a, rfl⟩ : ∃ a, x = some a := by
        cases x with
        | none => have := HX.out.1 rfl; omega
        | some a => exact ⟨a, rfl⟩
      obtain ⟨a', rfl⟩ : ∃ a, y = some a := by
        cases y with
        | none => have := HY.out.1 rfl; omega
        | some a => exact ⟨a, rfl⟩
      obtain ⟨ca, a1, a2⟩ := (HX.out.ext H2.out).2 a rfl i hl1
      obtain ⟨cb, b1, b2⟩ := (HY.out.ext H2.out).2 a' rfl i hl2
      rcases Int.lt_or_le 1048576 (f i) with hbig | hbig
      · cases b
        all_goals
          go_wp2_with fail
          all_goals (go_ret; exact ⟨rfl, H2.out.drewN _⟩)
      rcases Int.lt_or_le 1048576 (g i) with hbig2 | hbig2
      · cases b
        all_goals
          go_wp2_with fail
          all_goals (go_ret; exact ⟨rfl, H2.out.drewN _⟩)
      have le' : Hid (∀ j, j < i + 1 → f j ≤ 1048576 ∧ g j ≤ 1048576) := Lib.hid (fun j hj => by
        rcases Nat.lt_succ_iff_lt_or_eq.1 hj with q | rfl
        · exact HI.out.le j q
        · exact ⟨hbig, hbig2⟩)
      cases b with
      | true =>
        have HN : ∀ v', Hid (BadAt f g n m true v' (i + 1)) := fun v' => Lib.hid ⟨by
          constructor
          · intro _
            rcases HI.out.bad.1 rfl with q | ⟨j, hj, q⟩
            · exact .inl q
            · exact .inr ⟨j, by omega, q⟩
          · intro _; rfl, le'.out, fun h => by cases h⟩
        have HNN := Lib.hid HN
        clear HN
        go_wp2_with fail
        go_quiet (fail)
        go_wp2_with fail
        go_roundw
        case rel => exact ⟨i + 1, _, true, _, by omega, by omega, by go_num, rfl, rfl, HNN.out _, rfl⟩
        case measure => simp [intOf]; omega
      | false =>
        have HNO := Lib.hid (show ¬ (n ≠ m ∨ ∃ j, j < i ∧ (f j < 0 ∨ g j < 0)) from fun h => by have := HI.out.bad.2 h; cases this)
        by_cases hneg : f i < 0 ∨ g i < 0
        · have HN : ∀ v', Hid (BadAt f g n m true v' (i + 1)) := fun v' => Lib.hid ⟨⟨fun _ => .inr ⟨i, by omega, hneg⟩, fun _ => rfl⟩, le'.out, fun h => by cases h⟩
          have HNN := Lib.hid HN
          clear HN
          by_cases hf0 : f i < 0
          · clear hneg
            go_wp2_with fail
            go_quiet (fail)
            go_wp2_with fail
            go_roundw
            case rel => exact ⟨i + 1, _, true, _, by omega, by omega, by go_num, rfl, rfl, HNN.out _, rfl⟩
            case measure => simp [intOf]; omega
          · have hg0 : g i < 0 := by omega
            clear hneg
            go_wp2_with fail
            go_quiet (fail)
            go_wp2_with fail
            go_roundw
            case rel => exact ⟨i + 1, _, true, _, by omega, by omega, by go_num, rfl, rfl, HNN.out _, rfl⟩
            case measure => simp [intOf]; omega
        · have hf0 : 0 ≤ f i := by omega
          have hg0 : 0 ≤ g i := by omega
          have hv := HI.out.sum rfl
          have nn : ∀ j, j < i + 1 → (0 ≤ f j ∧ f j ≤ 1048576) ∧ (0 ≤ g j ∧ g j ≤ 1048576) := by
            intro j hj
            have q := le'.out j hj
            rcases Nat.lt_succ_iff_lt_or_eq.1 hj with q1 | rfl
            · have q2 : ¬ (f j < 0 ∨ g j < 0) := fun q2 => HNO.out (.inr ⟨j, q1, q2⟩)
              omega
            · omega
          have bd := costS_bd f g (i + 1) (fun j hj => (nn j hj).1) (fun j hj => (nn j hj).2) i (by omega)
          have hm2 : 0 ≤ f i * g i ∧ f i * g i ≤ 1048576 * 1048576 := ⟨Int.mul_nonneg hf0 hg0, Int.mul_le_mul hbig hbig2 hg0 (by decide)⟩
          rw [← hv] at bd
          have HN : Hid (BadAt f g n m false (v + f i * g i) (i + 1)) := Lib.hid ⟨by
            constructor
            · intro h; cases h
            · rintro (h | ⟨j, hj, q⟩)
              · exact absurd (.inl h) HNO.out
              · have := nn j hj; omega, le'.out, fun _ => by rw [hv]; rfl⟩
          clear hneg hv nn
          go_wp2_with fail
          go_quiet (fail)
          go_wp2_with fail
          go_roundw
          case rel => exact ⟨i + 1, _, false, _, by omega, by omega, by go_num, (by first | rfl | rw [decide_eq_false (by omega), decide_eq_false (by omega)]; rfl), rfl, HN, rfl⟩
          case measure => simp [intOf]; omega
    · have hfin : HFin f g n m b v := HFin.mk HI.out hin him hlt
      have HFI := Lib.hid hfin
      have XW : Hid (Ext w (w2.drewN k)) := Lib.hid (H2.out.drewN k)
      clear hfin
      by_cases hl1 : i < n
      · have hl2 : ¬ i < m := fun q => hlt ⟨hl1, q⟩
        clear hlt
        go_wp2_with fail
        refine (ints_calls x n cap f _ (HX.out.ext XW.out) (by omega) HX0.out).mono ?_
        rintro e w3 ⟨⟨v3, rfl, y3, c3, rfl, hy3⟩, h3⟩
        have X3 := Lib.hid (XW.out.trans h3)
        have HY3 := Lib.hid hy3
        clear hy3 h3
        go_wp2_with fail
        refine (ints_calls y m cap' g _ (HY.out.ext X3.out) (by omega) HY0.out).mono ?_
        rintro e w4 ⟨⟨v4, rfl, y4, c4, rfl, hy4⟩, h4⟩
        have X4 := Lib.hid (X3.out.trans h4)
        have HY4 := Lib.hid (HY3.out.ext h4)
        have HYY := Lib.hid hy4
        clear hy4 h4
        go_wp2_with fail
        rcases HFI.out with ⟨rfl, hb⟩ | ⟨rfl, hnm, hv, hf, hg⟩
        · have HBB := Lib.hid hb
          clear hb
          refine (cost_bad y3 y4 n m c3 c4 f g _ E (HS.out.ext X4.out) HY4.out HYY.out (by unfold maxLen; omega) (by unfold maxLen; omega) HBB.out).mono ?_
          rintro e w5 ⟨rfl, h5⟩
          have X5 := Lib.hid (X4.out.trans h5)
          clear h5
          go_wp2_with fail
          refine (coded_any _ E (HS.out.ext X5.out) _ 3 (-1) 3 (.sent 2 (by decide))).mono ?_
          rintro e w6 ⟨he, h6⟩
          obtain rfl : e = .returned (.bool true) := by rw [he]; exact ret_bool (by decide)
          have X6 := Lib.hid (X5.out.trans h6)
          clear he h6
          go_wp2_with fail
          go_ret
          exact ⟨rfl, X6.out⟩
        · have HF := Lib.hid hf
          have HG := Lib.hid hg
          have HV := Lib.hid hv
          clear hf hg hv
          have HYY2 := Lib.hid (show Ints w4 y4 n g from by have q := HYY.out; rw [← hnm] at q; exact q)
          obtain rfl : m = n := hnm.symm
          clear hnm
          refine (cost_good y3 y4 m c3 c4 f g _ HY4.out HYY2.out (by omega) HF.out HG.out).mono ?_
          rintro e w5 ⟨rfl, h5⟩
          have X5 := Lib.hid (X4.out.trans h5)
          clear h5
          rw [HV.out]
          go_wp2_with fail
          go_ret
          exact ⟨ret_bool (by simp), X5.out⟩
      · clear hlt
        go_wp2_with fail
        refine (ints_calls x n cap f _ (HX.out.ext XW.out) (by omega) HX0.out).mono ?_
        rintro e w3 ⟨⟨v3, rfl, y3, c3, rfl, hy3⟩, h3⟩
        have X3 := Lib.hid (XW.out.trans h3)
        have HY3 := Lib.hid hy3
        clear hy3 h3
        go_wp2_with fail
        refine (ints_calls y m cap' g _ (HY.out.ext X3.out) (by omega) HY0.out).mono ?_
        rintro e w4 ⟨⟨v4, rfl, y4, c4, rfl, hy4⟩, h4⟩
        have X4 := Lib.hid (X3.out.trans h4)
        have HY4 := Lib.hid (HY3.out.ext h4)
        have HYY := Lib.hid hy4
        clear hy4 h4
        go_wp2_with fail
        rcases HFI.out with ⟨rfl, hb⟩ | ⟨rfl, hnm, hv, hf, hg⟩
        · have HBB := Lib.hid hb
          clear hb
          refine (cost_bad y3 y4 n m c3 c4 f g _ E (HS.out.ext X4.out) HY4.out HYY.out (by unfold maxLen; omega) (by unfold maxLen; omega) HBB.out).mono ?_
          rintro e w5 ⟨rfl, h5⟩
          have X5 := Lib.hid (X4.out.trans h5)
          clear h5
          go_wp2_with fail
          refine (coded_any _ E (HS.out.ext X5.out) _ 3 (-1) 3 (.sent 2 (by decide))).mono ?_
          rintro e w6 ⟨he, h6⟩
          obtain rfl : e = .returned (.bool true) := by rw [he]; exact ret_bool (by decide)
          have X6 := Lib.hid (X5.out.trans h6)
          clear he h6
          go_wp2_with fail
          go_ret
          exact ⟨rfl, X6.out⟩
        · have HF := Lib.hid hf
          have HG := Lib.hid hg
          have HV := Lib.hid hv
          clear hf hg hv
          have HYY2 := Lib.hid (show Ints w4 y4 n g from by have q := HYY.out; rw [← hnm] at q; exact q)
          obtain rfl : m = n := hnm.symm
          clear hnm
          refine (cost_good y3 y4 m c3 c4 f g _ HY4.out HYY2.out (by omega) HF.out HG.out).mono ?_
          rintro e w5 ⟨rfl, h5⟩
          have X5 := Lib.hid (X4.out.trans h5)
          clear h5
          rw [HV.out]
          go_wp2_with fail
          go_ret
          exact ⟨ret_bool (by simp), X5.out⟩
theorem costs_any (x y : Option Addr) (n m cap cap' : Nat) (f g : Nat → Int) (w : World) (E : Nat → Addr) (hS : Errs w E) (hx : Ints w x n f) (hy : Ints w y m g) (hn : n ≤ maxLen) (hm : m ≤ maxLen) (hx0 : x = none → cap = 0) (hy0 : y = none → cap' = 0) :
    Calls Tryd.prog 8 #[.slice x n cap, .slice y m cap'] w fun e w' => e = .returned (.bool true) ∧ Ext w w' := by
  by_cases h : 100 < n ∨ 100 < m
  · exact costs_out x y n m cap cap' w E hS hn hm h
  · exact costs_in x y n m cap cap' f g w E hS hx hy (by omega) (by omega) hx0 hy0
end Go.Proofs.YtkddbhngffbljaaDoor
