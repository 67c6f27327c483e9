/- Cost of a code. -/
import Derived.Test.YtkddbhngffbljaaDoorHuff
import Derived.Test.YtkddbhngffbljaaDoorErrs
import Derived.IntWalk
import Derived.Outline
namespace Go.Proofs.YtkddbhngffbljaaDoor
open Go.RowKit
set_option maxRecDepth 100000
theorem costF_calls (x : Int) (w : World) (_hx1 : -9223372036854775808 ≤ x) (_hx2 : x ≤ 9223372036854775807) :
    Calls Tryd.prog 62 #[.int .i64 x] w fun e w' => e = .returned (.bool (decide (x < 0))) ∧ w = w' := by
  go_enter Tryd.func62, Tryd.ntmps62
  go_wp2_with fail
  go_ret
  exact ⟨rfl, rfl⟩
theorem indexC_calls (x : Option Addr) (len cap : Nat) (f : Nat → Int) (w : World) (hx : Ints w x len f) (hl : len ≤ maxLen) :
    Calls Tryd.prog 72 #[.slice x len cap, .func (.func 62) #[] #[]] w fun e w' => (∃ i : Int, e = .returned (.int .i64 i) ∧ ((i = -1 ∧ ∀ j, j < len → 0 ≤ f j) ∨ (0 ≤ i ∧ ∃ j, j < len ∧ f j < 0))) ∧ w = w' := by
  unfold maxLen at hl
  have HX := Lib.hid hx
  clear hx
  go_enter Tryd.func72, Tryd.ntmps72
  go_wp2
  go_loop [5, 8] (fun _ c => ∃ i : Nat, i ≤ len ∧ c = .int .i64 i ∧ Hid (∀ j, j < i → 0 ≤ f j)) (fun _ c => len - (intOf c).toNat)
  case atStart => exact ⟨0, by omega, rfl, Lib.hid fun j hj => by omega⟩
  case round =>
    obtain ⟨i, hi, rfl, HF⟩ := hrel
    by_cases hlt : i < len
    · obtain ⟨a, rfl⟩ : ∃ a, x = some a := by
        cases x with
        | none => have := HX.out.1 rfl; omega
        | some a => exact ⟨a, rfl⟩
      obtain ⟨hc, h1, h2⟩ := HX.out.2 a rfl i hlt
      go_wp2_with fail
      refine (costF_calls _ _ h1 h2).mono ?_
      rintro e w1 ⟨rfl, rfl⟩
      by_cases hbad : f i < 0
      · go_wp2_with fail
        go_ret
        exact ⟨⟨i, rfl, .inr ⟨by omega, i, hlt, hbad⟩⟩, rfl⟩
      · go_wp2_with fail
        go_round
        case rel =>
          refine ⟨i + 1, by omega, by go_num, Lib.hid fun j hj => ?_⟩
          rcases Nat.lt_succ_iff_lt_or_eq.1 hj with q | rfl
          · exact HF.out j q
          · omega
        case measure => simp [intOf]; omega
    · obtain rfl : i = len := by omega
      go_wp2
      go_ret
      exact ⟨⟨-1, rfl, .inl ⟨rfl, HF.out⟩⟩, rfl⟩
theorem containsC_calls (x : Option Addr) (len cap : Nat) (f : Nat → Int) (w : World) (hx : Ints w x len f) (hl : len ≤ maxLen) :
    Calls Tryd.prog 60 #[.slice x len cap, .func (.func 62) #[] #[]] w fun e w' => (∃ b : Bool, e = .returned (.bool b) ∧ ((b = false ∧ ∀ j, j < len → 0 ≤ f j) ∨ (b = true ∧ ∃ j, j < len ∧ f j < 0))) ∧ w = w' := by
  go_enter Tryd.func60, Tryd.ntmps60
  go_wp2_with fail
  refine (indexC_calls x len cap f w hx hl).mono ?_
  rintro e w1 ⟨⟨i, rfl, h⟩, rfl⟩
  rcases h with ⟨rfl, h⟩ | ⟨hi, h⟩
  · have H := Lib.hid h
    clear h
    go_wp2_with fail
    go_ret
    exact ⟨⟨false, rfl, .inl ⟨rfl, H.out⟩⟩, rfl⟩
  · have H := Lib.hid h
    clear h
    go_wp2_with fail
    go_ret
    exact ⟨⟨true, rfl, .inr ⟨rfl, H.out⟩⟩, rfl⟩
/-- what lengths cost -/
def costS (f g : Nat → Int) : Nat → Int
  | 0 => 0
  | i + 1 => costS f g i + f i * g i
theorem costS_bd (f g : Nat → Int) (n : Nat) (hf : ∀ j, j < n → 0 ≤ f j ∧ f j ≤ 1048576) (hg : ∀ j, j < n → 0 ≤ g j ∧ g j ≤ 1048576) : ∀ i, i ≤ n → 0 ≤ costS f g i ∧ costS f g i ≤ 1099511627776 * i := by
  intro i
  induction i with
  | zero => intro _; exact ⟨Int.le_refl _, Int.le_refl _⟩
  | succ i ih =>
    intro h
    have h1 := ih (by omega)
    have a := hf i (by omega)
    have b := hg i (by omega)
    have q1 : 0 ≤ f i * g i := Int.mul_nonneg a.1 b.1
    have q2 : f i * g i ≤ 1048576 * 1048576 := Int.mul_le_mul a.2 b.2 b.1 (by decide)
    simp only [costS]
    push_cast
    omega
theorem cost_bad (x y : Option Addr) (n m cap cap' : Nat) (f g : Nat → Int) (w : World) (E : Nat → Addr) (hE : Errs w E) (hx : Ints w x n f) (hy : Ints w y m g) (hn : n ≤ maxLen) (hm : m ≤ maxLen)
    (h : n ≠ m ∨ (∃ j, j < n ∧ f j < 0) ∨ (∃ j, j < m ∧ g j < 0)) :
    Calls Tryd.prog 38 #[.slice x n cap, .slice y m cap'] w fun e w' => e = .returned (.tuple #[.int .i64 0, sentV (E 2)]) ∧ Ext w w' := by
  have HE := Lib.hid hE
  have HX := Lib.hid hx
  have HY := Lib.hid hy
  have c2 := hE.var 2 (by decide)
  simp only [gk, sentV] at c2
  have hn' := hn
  have hm' := hm
  unfold maxLen at hn' hm'
  clear hE hx hy
  by_cases hnm : n = m
  · have t1 : ((n : Int) != (m : Int)) = false := by simp [hnm]
    have HH : Hid ((∃ j, j < n ∧ f j < 0) ∨ (∃ j, j < m ∧ g j < 0)) := Lib.hid (by rcases h with q | q; exact absurd hnm q; exact q)
    clear h hnm
    go_enter Tryd.func38, Tryd.ntmps38
    go_wp2_with fail
    refine (containsC_calls x n cap f _ HX.out hn).mono ?_
    rintro e w1 ⟨⟨b, rfl, hb⟩, rfl⟩
    rcases hb with ⟨rfl, hb⟩ | ⟨rfl, hb⟩
    · have HB := Lib.hid hb
      clear hb
      go_wp2_with fail
      refine (containsC_calls y m cap' g _ HY.out hm).mono ?_
      rintro e w1 ⟨⟨b, rfl, hb⟩, rfl⟩
      obtain rfl : b = true := by
        rcases hb with ⟨_, q⟩ | ⟨q, _⟩
        · rcases HH.out with ⟨j, hj, hf⟩ | ⟨j, hj, hg⟩
          · have := HB.out j hj; omega
          · have := q j hj; omega
        · exact q
      clear hb
      go_wp2_with fail
      go_quiet (fail)
      go_wp2
      go_ret2
      exact ⟨rfl, Ext.drewN (Ext.refl _) _⟩
    · clear hb
      go_wp2_with fail
      go_quiet (fail)
      go_wp2
      go_ret2
      exact ⟨rfl, Ext.drewN (Ext.refl _) _⟩
  · have t1 : ((n : Int) != (m : Int)) = true := by rw [bne_iff_ne]; omega
    clear h hnm
    go_enter Tryd.func38, Tryd.ntmps38
    go_wp2_with fail
    go_quiet (fail)
    go_wp2
    go_ret2
    exact ⟨rfl, Ext.drewN (Ext.refl _) _⟩
theorem cost_good (x y : Option Addr) (n cap cap' : Nat) (f g : Nat → Int) (w : World) (hx : Ints w x n f) (hy : Ints w y n g) (hn : n ≤ 100)
    (hf : ∀ j, j < n → 0 ≤ f j ∧ f j ≤ 1048576) (hg : ∀ j, j < n → 0 ≤ g j ∧ g j ≤ 1048576) :
    Calls Tryd.prog 38 #[.slice x n cap, .slice y n cap'] w fun e w' => e = .returned (.tuple #[.int .i64 (costS f g n), .nilIface]) ∧ Ext w w' := by
  have HX := Lib.hid hx
  have HY := Lib.hid hy
  have HB := Lib.hid (costS_bd f g n hf hg)
  have HF := Lib.hid hf
  have HG := Lib.hid hg
  have t1 : ((n : Int) != (n : Int)) = false := by simp
  clear hx hy hf hg
  go_enter Tryd.func38, Tryd.ntmps38
  go_wp2_with fail
  refine (containsC_calls x n cap f _ HX.out (by unfold maxLen; omega)).mono ?_
  rintro e w1 ⟨⟨b, rfl, hb⟩, rfl⟩
  obtain rfl : b = false := by
    rcases hb with ⟨q, _⟩ | ⟨_, j, hj, q⟩
    · exact q
    · have := HF.out j hj; omega
  clear hb
  go_wp2_with fail
  refine (containsC_calls y n cap' g _ HY.out (by unfold maxLen; omega)).mono ?_
  rintro e w1 ⟨⟨b, rfl, hb⟩, rfl⟩
  obtain rfl : b = false := by
    rcases hb with ⟨q, _⟩ | ⟨_, j, hj, q⟩
    · exact q
    · have := HG.out j hj; omega
  clear hb
  go_wp2_with fail
  go_loopw [7, 28] (fun u c wr => ∃ (i m : Nat), i ≤ n ∧ c = .int .i64 i ∧ u = .int .i64 (costS f g i) ∧ wr = w.drewN m) (fun _ c _ => n - (intOf c).toNat)
  case atStart => exact ⟨0, 0, by omega, rfl, rfl, rfl⟩
  case round =>
    obtain ⟨i, m, hi, rfl, rfl, rfl⟩ := hrel
    by_cases hlt : i < n
    · obtain ⟨a, rfl⟩ : ∃ a, x = some a := by
        cases x with
        | none => have := HX.out.1 rfl; omega
        | some a => exact ⟨a, rfl⟩
      obtain ⟨b, rfl⟩ : ∃ a, y = some a := by
        cases y with
        | none => have := HY.out.1 rfl; omega
        | some a => exact ⟨a, rfl⟩
      obtain ⟨ca, a1, a2⟩ := HX.out.2 a rfl i hlt
      obtain ⟨cb, b1, b2⟩ := HY.out.2 b rfl i hlt
      have hb0 := HB.out i (by omega)
      have hb1 := HB.out (i + 1) (by omega)
      have hs : costS f g (i + 1) = costS f g i + f i * g i := rfl
      have hm : 0 ≤ f i * g i ∧ f i * g i ≤ 1048576 * 1048576 := by
        obtain ⟨q1, q2⟩ := HF.out i hlt
        obtain ⟨q3, q4⟩ := HG.out i hlt
        exact ⟨Int.mul_nonneg q1 q3, Int.mul_le_mul q2 q4 q3 (by decide)⟩
      have HS := Lib.hid hs
      clear hs hb1
      go_wp2_with fail
      go_roundw
      case rel => exact ⟨i + 1, _, by omega, by go_num, by rw [HS.out], rfl⟩
      case measure => simp [intOf]; omega
    · obtain rfl : i = n := by omega
      go_wp2_with fail
      go_ret2
      exact ⟨rfl, Ext.drewN (Ext.refl _) _⟩
end Go.Proofs.YtkddbhngffbljaaDoor
