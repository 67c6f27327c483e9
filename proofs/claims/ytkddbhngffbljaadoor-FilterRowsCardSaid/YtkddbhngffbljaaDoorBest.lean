/- The best kind of a row. -/
import Derived.Test.YtkddbhngffbljaaDoorRefRows
import Derived.Test.YtkddbhngffbljaaDoorErrs
namespace Go.Proofs.YtkddbhngffbljaaDoor
open Go.RowKit
set_option maxRecDepth 100000
def cB (x : UInt8) : Nat := min x.toNat (256 - x.toNat)
def costB (g : Nat → UInt8) : Nat → Nat
  | 0 => 0
  | i + 1 => costB g i + cB (g i)
theorem cB_le (x : UInt8) : cB x ≤ 128 := by unfold cB; have := x.toNat_lt; omega
theorem costB_le (g : Nat → UInt8) : ∀ i, costB g i ≤ 128 * i := by
  intro i
  induction i with
  | zero => exact Nat.le_refl _
  | succ i ih => have := cB_le (g i); simp only [costB]; omega
/-- the best of the first k kinds, and what it costs -/
def bst (f : Nat → Nat) : Nat → Nat × Int
  | 0 => (0, -1)
  | k + 1 => if (bst f k).2 < 0 ∨ (f k : Int) < (bst f k).2 then (k, f k) else bst f k
theorem bst_bd (f : Nat → Nat) (h : ∀ k, f k ≤ 1000000000) : ∀ k, (bst f k).1 ≤ k ∧ -1 ≤ (bst f k).2 ∧ (bst f k).2 ≤ 1000000000 := by
  intro k
  induction k with
  | zero => exact ⟨Nat.le_refl _, Int.le_refl _, (by decide : (-1 : Int) ≤ 1000000000)⟩
  | succ k ih =>
    simp only [bst]
    split
    · have := h k; simp only; omega
    · omega
def kindCost (row ahead : ByteArray) (step k : Nat) : Nat := costB (doB (k : Int) row.data.toList ahead.data.toList step) row.size
def bestS (row ahead : ByteArray) (step : Nat) : Nat := (bst (kindCost row ahead step) 5).1
theorem kindCost_le (row ahead : ByteArray) (step k : Nat) (h : row.size ≤ 1000000) : kindCost row ahead step k ≤ 1000000000 := by
  unfold kindCost; have := costB_le (doB (k : Int) row.data.toList ahead.data.toList step) row.size; omega
theorem best_good (row ahead : ByteArray) (step : Nat) (w : World) (E : Nat → Addr) (hE : Errs w E) (hr : row.size ≤ 1000000) (hs : 1 ≤ step ∧ step ≤ 8) (hc : check2 row ahead) :
    Calls Tryd.prog 47 #[.string row, .string ahead, .int .i64 (step : Int)] w fun e w' => e = .returned (.tuple #[.int .i64 (bestS row ahead step : Int), .nilIface]) ∧ Ext w w' := by
  obtain ⟨s1, s2⟩ := hs
  have h1 := hE.var 1 (by decide)
  have h2 := hE.var 2 (by decide)
  have HC := Lib.hid (show check 0 (step : Int) from ⟨by omega, by omega, by omega, by omega⟩)
  have HC2 := Lib.hid hc
  have KL := Lib.hid (fun k => kindCost_le row ahead step k hr)
  clear hE hc
  go_enter Tryd.func47, Tryd.ntmps47
  go_wp2_with fail
  refine (check_calls 0 row ahead step _ (by omega) (by omega) (by omega) (by omega) _ _ h1 h2).mono ?_
  rintro e w2 ⟨h, rfl⟩
  have he : e = .returned .nilIface := by
    rcases h with h | h | h
    · exact h.1
    · exact absurd HC.out h.2
    · exact absurd HC2.out h.2.2
  subst he
  clear h h1 h2
  go_wp2_with fail
  go_loopw [9, 10, 22] (fun b l c wr => ∃ k : Nat, k ≤ 5 ∧ c = .int .i64 k ∧ b = .int .i64 ((bst (kindCost row ahead step) k).1 : Int) ∧ l = .int .i64 (bst (kindCost row ahead step) k).2 ∧ Hid (Ext w wr)) (fun _ _ c _ => 5 - (intOf c).toNat)
  case atStart => exact ⟨0, by omega, rfl, rfl, rfl, Lib.hid (Ext.refl _)⟩
  case round =>
    obtain ⟨k, hk, rfl, rfl, rfl, HX⟩ := hrel
    obtain ⟨bb1, bb2, bb3⟩ := bst_bd (kindCost row ahead step) KL.out k
    have HB : Hid (bst (kindCost row ahead step) (k + 1) = if (bst (kindCost row ahead step) k).2 < 0 ∨ (kindCost row ahead step k : Int) < (bst (kindCost row ahead step) k).2 then (k, (kindCost row ahead step k : Int)) else bst (kindCost row ahead step) k) := Lib.hid rfl
    by_cases hlt : k < 5
    · have tk : decide ((k : Int) < 5) = true := decide_eq_true (by omega)
      go_wp2_with fail
      refine (do_calls (k : Int) row ahead step _ (by omega) (by omega) s2 (by omega)).mono ?_
      rintro e w3 ⟨B, hB, rfl, hC, hE3⟩
      have HC3 := Lib.hid hC
      have HX3 := Lib.hid (HX.out.trans hE3)
      have HKC : Hid (kindCost row ahead step k = costB (doB (k : Int) row.data.toList ahead.data.toList step) row.size) := Lib.hid rfl
      generalize doB (k : Int) row.data.toList ahead.data.toList step = g at *
      clear hB hC hE3
      go_wp2_with fail
      go_loop [12, 31] (fun s c => ∃ i : Nat, i ≤ row.size ∧ c = .int .i64 i ∧ s = .int .i64 (costB g i : Int)) (fun _ c => row.size - (intOf c).toNat)
      case atStart => exact ⟨0, by omega, rfl, rfl⟩
      case round =>
        obtain ⟨i, hi, rfl, rfl⟩ := hrel
        have hcl := costB_le g i
        by_cases hil : i < row.size
        · have c0 := (HC3.out i hil).1
          have hg256 := (g i).toNat_lt
          have HS : Hid (costB g (i + 1) = costB g i + cB (g i)) := Lib.hid rfl
          have HCB : Hid (cB (g i) = min (g i).toNat (256 - (g i).toNat)) := Lib.hid rfl
          go_wp2_with fail
          go_round
          case rel => exact ⟨i + 1, by omega, by go_num, by rw [HS.out, HCB.out]; exact val_int (by omega)⟩
          case measure => simp [intOf]; omega
        · obtain rfl : i = row.size := by omega
          rw [← HKC.out] at hcl ⊢
          obtain ⟨F, hF⟩ : ∃ F, kindCost row ahead step k = F := ⟨_, rfl⟩
          obtain ⟨L, hL⟩ : ∃ L, (bst (kindCost row ahead step) k).2 = L := ⟨_, rfl⟩
          rw [hF, hL] at HB
          rw [hL] at bb2 bb3
          rw [hF, hL]
          have HF := Lib.hid hF
          have HL := Lib.hid hL
          clear hF hL
          by_cases hbet : L < 0 ∨ (F : Int) < L
          · rw [if_pos hbet] at HB
            rcases hbet with q | q
            · go_wp2_with fail
              go_roundw
              case rel => exact ⟨k + 1, by omega, by go_num, by rw [HB.out], by rw [HB.out], HX3⟩
              case measure => simp [intOf]; omega
            · by_cases q0 : L < 0
              · go_wp2_with fail
                go_roundw
                case rel => exact ⟨k + 1, by omega, by go_num, by rw [HB.out], by rw [HB.out], HX3⟩
                case measure => simp [intOf]; omega
              · go_wp2_with fail
                go_roundw
                case rel => exact ⟨k + 1, by omega, by go_num, by rw [HB.out], by rw [HB.out], HX3⟩
                case measure => simp [intOf]; omega
          · rw [if_neg hbet] at HB
            have q1 : ¬ L < 0 := fun q => hbet (.inl q)
            have q2 : ¬ (F : Int) < L := fun q => hbet (.inr q)
            clear hbet
            go_wp2_with fail
            go_roundw
            case rel => exact ⟨k + 1, by omega, by go_num, by rw [HB.out], by rw [HB.out, HL.out], HX3⟩
            case measure => simp [intOf]; omega
    · obtain rfl : k = 5 := by omega
      go_wp2_with fail
      go_ret2
      exact ⟨rfl, HX.out⟩
theorem best_bad (row ahead : ByteArray) (step : Int) (w : World) (E : Nat → Addr) (hE : Errs w E) (h3 : -9223372036854775808 ≤ step) (h4 : step ≤ 9223372036854775807) (hc : ¬ (check 0 step ∧ check2 row ahead)) :
    Calls Tryd.prog 47 #[.string row, .string ahead, .int .i64 step] w fun e w' => (∃ k, (k = 1 ∧ ¬ check 0 step ∨ k = 2 ∧ check 0 step) ∧ e = .returned (.tuple #[.int .i64 0, sentV (E k)])) ∧ w = w' := by
  have h1 := hE.var 1 (by decide)
  have h2 := hE.var 2 (by decide)
  have HC := Lib.hid hc
  clear hE hc
  go_enter Tryd.func47, Tryd.ntmps47
  go_wp2_with fail
  refine (check_calls 0 row ahead step _ (by omega) (by omega) h3 h4 _ _ h1 h2).mono ?_
  rintro e w2 ⟨h, rfl⟩
  clear h1 h2
  rcases h with h | h | h
  · exact absurd h.2 HC.out
  · obtain ⟨rfl, h⟩ := h
    have HH := Lib.hid h
    clear h
    unfold sentV
    go_wp2_with fail
    go_ret2
    exact ⟨⟨1, .inl ⟨rfl, HH.out⟩, rfl⟩, rfl⟩
  · obtain ⟨rfl, h⟩ := h
    have HH := Lib.hid h.1
    clear h
    unfold sentV
    go_wp2_with fail
    go_ret2
    exact ⟨⟨2, .inr ⟨rfl, HH.out⟩, rfl⟩, rfl⟩
theorem bestOf_any (row ahead : ByteArray) (step : Nat) (w : World) (hr : row.size ≤ 1000000) (hs : step ≤ 8) :
    Calls Tryd.prog 48 #[.string row, .string ahead, .int .i64 (step : Int)] w fun e w' => e = .returned (.int .i64 (bestS row ahead step : Int)) ∧ Ext w w' := by
  have KL := Lib.hid (fun k => kindCost_le row ahead step k hr)
  go_enter Tryd.func48, Tryd.ntmps48
  go_wp2_with fail
  go_loopw [7, 8, 9] (fun b l c wr => ∃ k : Nat, k ≤ 5 ∧ c = .int .i64 k ∧ b = .int .i64 ((bst (kindCost row ahead step) k).1 : Int) ∧ l = .int .i64 (bst (kindCost row ahead step) k).2 ∧ Hid (Ext w wr)) (fun _ _ c _ => 5 - (intOf c).toNat)
  case atStart => exact ⟨0, by omega, rfl, rfl, rfl, Lib.hid (Ext.refl _)⟩
  case round =>
    obtain ⟨k, hk, rfl, rfl, rfl, HX⟩ := hrel
    obtain ⟨bb1, bb2, bb3⟩ := bst_bd (kindCost row ahead step) KL.out k
    have HB : Hid (bst (kindCost row ahead step) (k + 1) = if (bst (kindCost row ahead step) k).2 < 0 ∨ (kindCost row ahead step k : Int) < (bst (kindCost row ahead step) k).2 then (k, (kindCost row ahead step k : Int)) else bst (kindCost row ahead step) k) := Lib.hid rfl
    by_cases hlt : k < 5
    · have tk : decide ((k : Int) < 5) = true := decide_eq_true (by omega)
      go_wp2_with fail
      refine (rowOf_any (k : Int) row ahead step _ (by omega) (by omega) hs hr).mono ?_
      rintro e w3 ⟨rfl, hE3⟩
      have HX3 := Lib.hid (HX.out.trans hE3)
      have HKC : Hid (kindCost row ahead step k = costB (doB (k : Int) row.data.toList ahead.data.toList step) row.size) := Lib.hid rfl
      have hts := doS_size (k : Int) row ahead step
      have HT : Hid (∀ i (h : i < (doS (k : Int) row ahead step).size), (doS (k : Int) row ahead step)[i] = doB (k : Int) row.data.toList ahead.data.toList step i) := Lib.hid (fun i h => by
        rw [row_at _ i h]
        show (doL _ _ _ _).getD i 0 = _
        exact doL_getD _ _ _ _ _ (by rw [Array.length_toList]; show i < row.size; omega))
      generalize doB (k : Int) row.data.toList ahead.data.toList step = g at *
      generalize doS (k : Int) row ahead step = T at *
      have HTS := Lib.hid hts
      have hT1 : T.size ≤ row.size := by omega
      have hT2 : row.size ≤ T.size := by omega
      clear hts hE3
      go_wp2_with fail
      go_loop [11, 12] (fun s c => ∃ i : Nat, i ≤ row.size ∧ c = .int .i64 i ∧ s = .int .i64 (costB g i : Int)) (fun _ c => row.size - (intOf c).toNat)
      case atStart => exact ⟨0, by omega, rfl, rfl⟩
      case round =>
        obtain ⟨i, hi, rfl, rfl⟩ := hrel
        have hcl := costB_le g i
        by_cases hil : i < T.size
        · have hti := HT.out i hil
          have hg256 := T[i].toNat_lt
          have HS : Hid (costB g (i + 1) = costB g i + cB T[i]) := Lib.hid (by rw [hti]; rfl)
          have HCB : Hid (cB T[i] = min T[i].toNat (256 - T[i].toNat)) := Lib.hid rfl
          clear hti
          obtain ⟨y, hy⟩ : ∃ y, T[i].toNat = y := ⟨_, rfl⟩
          by_cases h127 : 127 < T[i].toNat
          · go_wp2_with fail
            go_round
            case rel => exact ⟨i + 1, by omega, by go_num, by rw [HS.out, HCB.out]; exact val_int (by omega)⟩
            case measure => simp [intOf]; omega
          · go_wp2_with fail
            go_round
            case rel => exact ⟨i + 1, by omega, by go_num, by rw [HS.out, HCB.out]; exact val_int (by omega)⟩
            case measure => simp [intOf]; omega
        · obtain rfl : i = row.size := by omega
          rw [← HKC.out] at hcl ⊢
          obtain ⟨F, hF⟩ : ∃ F, kindCost row ahead step k = F := ⟨_, rfl⟩
          obtain ⟨L, hL⟩ : ∃ L, (bst (kindCost row ahead step) k).2 = L := ⟨_, rfl⟩
          rw [hF, hL] at HB
          rw [hL] at bb2 bb3
          rw [hF, hL]
          have HF := Lib.hid hF
          have HL := Lib.hid hL
          clear hF hL
          by_cases hbet : L < 0 ∨ (F : Int) < L
          · rw [if_pos hbet] at HB
            by_cases q0 : L < 0
            · clear hbet
              go_wp2_with fail
              go_roundw
              case rel => exact ⟨k + 1, by omega, by go_num, by rw [HB.out], by rw [HB.out], HX3⟩
              case measure => simp [intOf]; omega
            · have q : (F : Int) < L := by omega
              clear hbet
              go_wp2_with fail
              go_roundw
              case rel => exact ⟨k + 1, by omega, by go_num, by rw [HB.out], by rw [HB.out], HX3⟩
              case measure => simp [intOf]; omega
          · rw [if_neg hbet] at HB
            have q1 : ¬ L < 0 := fun q => hbet (.inl q)
            have q2 : ¬ (F : Int) < L := fun q => hbet (.inr q)
            clear hbet
            go_wp2_with fail
            go_roundw
            case rel => exact ⟨k + 1, by omega, by go_num, by rw [HB.out], by rw [HB.out, HL.out], HX3⟩
            case measure => simp [intOf]; omega
    · obtain rfl : k = 5 := by omega
      go_wp2_with fail
      go_ret
      exact ⟨rfl, HX.out⟩
end Go.Proofs.YtkddbhngffbljaaDoor
