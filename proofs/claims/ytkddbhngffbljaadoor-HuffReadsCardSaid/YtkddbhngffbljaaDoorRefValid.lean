/- The document's word on lengths. -/
import Derived.Test.YtkddbhngffbljaaDoorCodes

namespace Go.Proofs.YtkddbhngffbljaaDoor
open Go.RowKit
set_option maxRecDepth 100000
theorem kraft_snoc (f : Nat → Int) (i : Nat) (k : Nat) (hk : f i = k) : ∀ n, n ≤ 15 → kraft f (i + 1) n = kraft f i n + (if 1 ≤ k ∧ k ≤ n then 2 ^ (15 - k) else 0) := by
  intro n
  induction n with
  | zero => intro _; simp [kraft]; omega
  | succ n ih =>
    intro h
    have e := ih (by omega)
    simp only [kraft]
    rw [e]
    by_cases hkn : k = n + 1
    · subst hkn
      rw [many_at f (n + 1) i hk, if_neg (by omega), if_pos (by omega), Nat.add_mul, Nat.one_mul, show 15 - (n + 1) = 14 - n by omega]; omega
    · rw [many_not f (n + 1) i (by rw [hk]; omega)]
      by_cases h1 : 1 ≤ k ∧ k ≤ n
      · rw [if_pos h1, if_pos (by omega)]; omega
      · rw [if_neg h1, if_neg (by omega)]; omega
noncomputable def vcode (f : Nat → Int) (len : Nat) : Int :=
  open Classical in if inBounds f len then if complete f len then 0 else 3 else 2
theorem kraft_len (f : Nat → Int) (i : Nat) (h : i ≤ 300) : kraft f i 15 ≤ 73728000 := kraft_bound f i 15 h (by decide)
set_option maxHeartbeats 4000000 in
theorem validCode_any (x : Option Addr) (len cap : Nat) (f : Nat → Int) (w : World) (hx : Ints w x len f) (hl : len ≤ maxLen) :
    Calls Tryd.prog 35 #[.slice x len cap] w fun e w' => e = .returned (.int .i64 (vcode f len)) ∧ w = w' := by
  unfold maxLen at hl
  have HX := Lib.hid hx
  clear hx
  by_cases h300 : 300 < len
  · have hv : vcode f len = 2 := by unfold vcode; rw [if_neg (by intro h; have := h.1; omega)]
    rw [hv]
    go_enter Tryd.func35, Tryd.ntmps35
    go_wp2_with fail
    go_ret
    exact ⟨rfl, rfl⟩
  · go_enter Tryd.func35, Tryd.ntmps35
    go_wp2_with fail
    go_loop [3, 4, 5, 6] (fun u v o c => ∃ i : Nat, i ≤ len ∧ c = .int .i64 i ∧ u = .int .i64 (kraft f i 15 : Int) ∧ v = .int .i64 ((i - many f 0 i : Nat) : Int) ∧ o = .int .i64 (many f 1 i : Int) ∧ Hid (∀ j, j < i → 0 ≤ f j ∧ f j ≤ 15)) (fun _ _ _ c => len - (intOf c).toNat)
    case atStart => exact ⟨0, by omega, rfl, rfl, rfl, rfl, Lib.hid fun j hj => by omega⟩
    case round =>
      obtain ⟨i, hi, rfl, rfl, rfl, rfl, HF⟩ := hrel
      by_cases hlt : i < len
      · obtain ⟨a, rfl⟩ : ∃ a, x = some a := by
          cases x with
          | none => have := HX.out.1 rfl; omega
          | some a => exact ⟨a, rfl⟩
        obtain ⟨hc, h1, h2⟩ := HX.out.2 a rfl i hlt
        by_cases hbad : f i < 0 ∨ 15 < f i
        · have HV : Hid (vcode f len = 2) := Lib.hid (by unfold vcode; rw [if_neg (by intro h; have := h.2 i hlt; omega)])
          rcases hbad with q | q
          all_goals
            go_wp2_with fail
            go_ret
            exact ⟨by rw [HV.out]; rfl, rfl⟩
        · obtain ⟨k, hk⟩ : ∃ k : Nat, f i = k := ⟨(f i).toNat, by omega⟩
          have hk15 : k ≤ 15 := by omega
          have HFN : Hid (∀ j, j < i + 1 → 0 ≤ f j ∧ f j ≤ 15) := Lib.hid (fun j hj => by
            rcases Nat.lt_succ_iff_lt_or_eq.1 hj with q | rfl
            · exact HF.out j q
            · omega)
          have HKS := Lib.hid (kraft_snoc f i k hk 15 (by omega))
          have hkl := kraft_len f i (by omega)
          have hm0 := many_le f 0 i
          have hm1 := many_le f 1 i
          rw [hk] at hc h1 h2
          have HK := Lib.hid hk
          clear hk hbad
          by_cases h0 : k = 0
          · subst h0
            have HM0 := Lib.hid (many_at f 0 i HK.out)
            have HM1 := Lib.hid (many_not f 1 i (by rw [HK.out]; decide))
            go_wp2_with fail
            go_round
            case rel => exact ⟨i + 1, by omega, by go_num, by rw [HKS.out]; rfl, by rw [HM0.out]; exact val_int (by omega), by rw [HM1.out], HFN⟩
            case measure => simp [intOf]; omega
          · have HM0 := Lib.hid (many_not f 0 i (by rw [HK.out]; omega))
            obtain ⟨d, hd⟩ : ∃ d, 15 - k = d := ⟨_, rfl⟩
            have hd2 : (15 : Int) - (k : Int) = (d : Int) := by omega
            have hd15 : d ≤ 14 := by omega
            have hp2 : 2 ^ d ≤ 16384 := Nat.pow_le_pow_right (n := 2) (by decide) hd15
            have HKS2 : Hid (kraft f (i + 1) 15 = kraft f i 15 + 2 ^ d) := Lib.hid (by rw [HKS.out, if_pos (by omega), hd])
            have HD := Lib.hid hd
            have hq1 : (2 : Int) ^ d ≤ 16384 := by rw [show (2 : Int) ^ d = ((2 ^ d : Nat) : Int) by simp]; omega
            have hq2 : (0 : Int) ≤ (2 : Int) ^ d := by rw [show (2 : Int) ^ d = ((2 ^ d : Nat) : Int) by simp]; exact Int.natCast_nonneg _
            have t0 : ((k : Int) == 0) = false := beq_eq_false_iff_ne.2 (by omega)
            clear hd
            by_cases hk1 : k = 1
            · have t1 : ((k : Int) == 1) = true := beq_iff_eq.2 (by omega)
              have HM1 := Lib.hid (many_at f 1 i (by rw [HK.out, hk1]))
              clear hk1
              go_wp2_with fail
              go_round
              case rel => exact ⟨i + 1, by omega, by go_num, by rw [HKS2.out]; exact val_int (by simp), by rw [HM0.out]; exact val_int (by omega), by rw [HM1.out]; go_num, HFN⟩
              case measure => simp [intOf]; omega
            · have t1 : ((k : Int) == 1) = false := beq_eq_false_iff_ne.2 (by omega)
              have HM1 := Lib.hid (many_not f 1 i (by rw [HK.out]; omega))
              go_wp2_with fail
              go_round
              case rel => exact ⟨i + 1, by omega, by go_num, by rw [HKS2.out]; exact val_int (by simp), by rw [HM0.out]; exact val_int (by omega), by rw [HM1.out], HFN⟩
              case measure => simp [intOf]; omega
      · obtain rfl : i = len := by omega
        have hin : inBounds f i := ⟨by omega, HF.out⟩
        have hm0 := many_le f 0 i
        have hC : complete f i ↔ (i - many f 0 i = 0 ∨ (i - many f 0 i = 1 ∧ many f 1 i = 1) ∨ kraft f i 15 = 32768) := by
          unfold complete
          constructor
          · rintro (h | ⟨h, h'⟩ | h)
            · left; omega
            · right; left; exact ⟨by omega, h'⟩
            · right; right; exact h
          · rintro (h | ⟨h, h'⟩ | h)
            · left; omega
            · right; left; exact ⟨by omega, h'⟩
            · right; right; exact h
        have hkl := kraft_len f i (by omega)
        have hv1 : complete f i → vcode f i = 0 := fun h => by unfold vcode; rw [if_pos hin, if_pos h]
        have hv2 : ¬ complete f i → vcode f i = 3 := fun h => by unfold vcode; rw [if_pos hin, if_neg h]
        rw [hC] at hv1 hv2
        have HV1 := Lib.hid hv1
        have HV2 := Lib.hid hv2
        clear hv1 hv2 hC hin
        have ho := many_le f 1 i
        generalize i - many f 0 i = s at *
        generalize many f 1 i = o at *
        generalize kraft f i 15 = K at *
        by_cases h0 : s = 0
        · have HV := Lib.hid (HV1.out (.inl h0))
          have t0 : ((s : Int) == 0) = true := beq_iff_eq.2 (by omega)
          clear h0
          go_wp2_with fail
          go_ret
          exact ⟨by rw [HV.out]; rfl, rfl⟩
        · have t0 : ((s : Int) == 0) = false := beq_eq_false_iff_ne.2 (by omega)
          by_cases h1 : s = 1 ∧ o = 1
          · have HV := Lib.hid (HV1.out (.inr (.inl h1)))
            have t1 : ((s : Int) == 1) = true := beq_iff_eq.2 (by omega)
            have t2 : ((o : Int) == 1) = true := beq_iff_eq.2 (by omega)
            clear h0 h1
            go_wp2_with fail
            go_ret
            exact ⟨by rw [HV.out]; rfl, rfl⟩
          · by_cases hK : K = 32768
            · have HV := Lib.hid (HV1.out (.inr (.inr hK)))
              have t3 : ((K : Int) == 32768) = true := beq_iff_eq.2 (by omega)
              by_cases hs1 : s = 1
              · have t1 : ((s : Int) == 1) = true := beq_iff_eq.2 (by omega)
                have t2 : ((o : Int) == 1) = false := beq_eq_false_iff_ne.2 (by omega)
                clear h0 h1 hK hs1
                go_wp2_with fail
                go_ret
                exact ⟨by rw [HV.out]; rfl, rfl⟩
              · have t1 : ((s : Int) == 1) = false := beq_eq_false_iff_ne.2 (by omega)
                clear h0 h1 hK hs1
                go_wp2_with fail
                go_ret
                exact ⟨by rw [HV.out]; rfl, rfl⟩
            · have HV := Lib.hid (HV2.out (fun q => by rcases q with q | q | q; exact h0 q; exact h1 q; exact hK q))
              have t3 : ((K : Int) == 32768) = false := beq_eq_false_iff_ne.2 (by omega)
              by_cases hs1 : s = 1
              · have t1 : ((s : Int) == 1) = true := beq_iff_eq.2 (by omega)
                have t2 : ((o : Int) == 1) = false := beq_eq_false_iff_ne.2 (by omega)
                clear h0 h1 hK hs1
                go_wp2_with fail
                go_ret
                exact ⟨by rw [HV.out]; rfl, rfl⟩
              · have t1 : ((s : Int) == 1) = false := beq_eq_false_iff_ne.2 (by omega)
                clear h0 h1 hK hs1
                go_wp2_with fail
                go_ret
                exact ⟨by rw [HV.out]; rfl, rfl⟩
end Go.Proofs.YtkddbhngffbljaaDoor
