/- HuffCodes's walk. -/
import Derived.Test.YtkddbhngffbljaaDoorRefCodes
import Derived.Test.YtkddbhngffbljaaDoorApart
import Derived.Test.YtkddbhngffbljaaDoorCoded1
import Derived.Deep.RegionHeld3
import Derived.Deep.RegionWith
namespace Go.Proofs.YtkddbhngffbljaaDoor
open Go.RowKit
set_option maxRecDepth 100000
theorem Errs.sents {w : World} {E : Nat → Addr} (h : Errs w E) : Sents w := by
  have h1 := h.var 1 (by decide)
  have h2 := h.var 2 (by decide)
  simp only [gk, sentV] at h1 h2
  exact ⟨⟨_, h1⟩, ⟨_, h2⟩⟩
theorem Errs.b {w : World} {E : Nat → Addr} (h : Errs w E) : w.cell? ⟨1, 0, none⟩ = some (.iface 101 (.pointer (some (E 1)))) := h.var 1 (by decide)
theorem Errs.s {w : World} {E : Nat → Addr} (h : Errs w E) : w.cell? ⟨2, 0, none⟩ = some (.iface 101 (.pointer (some (E 2)))) := h.var 2 (by decide)
/-- Valid, Codes: what error they give -/
theorem valid_err (x : Option Addr) (len cap : Nat) (f : Nat → Int) (w : World) (E : Nat → Addr) (hE : Errs w E) (hx : Ints w x len f) (hl : len ≤ maxLen) :
    Calls Tryd.prog 36 #[.slice x len cap] w fun e w' => (∃ v, e = .returned v ∧ ErrV w' E v (vcode f len) (-1)) ∧ Ext w w' := by
  refine (valid_calls x len cap f w hx hl _ _ hE.b hE.s).mono ?_
  rintro e w2 ⟨h2, h | h | h⟩
  · exact ⟨⟨_, h.1, by unfold vcode; rw [if_pos h.2.1, if_pos h.2.2]; exact .nil⟩, h2⟩
  · exact ⟨⟨_, h.1, by unfold vcode; rw [if_neg h.2]; exact .sent 1 (by decide)⟩, h2⟩
  · exact ⟨⟨_, h.1, by unfold vcode; rw [if_pos h.2.1, if_neg h.2.2]; exact .sent 2 (by decide)⟩, h2⟩
theorem codes_err (x : Option Addr) (len cap : Nat) (f : Nat → Int) (w : World) (E : Nat → Addr) (hE : Errs w E) (hx : Ints w x len f) (hl : len ≤ maxLen) (h : ¬ (inBounds f len ∧ complete f len)) :
    Calls Tryd.prog 33 #[.slice x len cap] w fun e w' => (∃ k, k < 9 ∧ e = .returned (.tuple #[.slice none 0 0, sentV (E k)]) ∧ vcode f len = (k : Int) + 1) ∧ Ext w w' := by
  refine (codes_bad x len cap f w hx hl _ _ hE.b hE.s h).mono ?_
  rintro e w2 ⟨h2, q | q⟩
  · exact ⟨⟨1, by decide, q.1, by unfold vcode; rw [if_neg q.2]; rfl⟩, h2⟩
  · exact ⟨⟨2, by decide, q.1, by unfold vcode; rw [if_pos q.2, if_neg (fun h' => h ⟨q.2, h'⟩)]; rfl⟩, h2⟩
theorem vcode_good {f : Nat → Int} {len : Nat} (h : inBounds f len ∧ complete f len) : vcode f len = 0 := by unfold vcode; rw [if_pos h.1, if_pos h.2]
theorem hc_out (x : Option Addr) (len cap : Nat) (w : World) (E : Nat → Addr) (hS : Errs w E) (h : 400 < len) (hl : len ≤ maxLen) :
    Calls Tryd.prog 7 #[.slice x len cap] w fun e w' => e = .returned (.bool true) ∧ Ext w w' := by
  unfold maxLen at hl
  go_enter Tryd.func7, Tryd.ntmps7
  go_wp2_with fail
  refine (two_any _ hS.sents).mono ?_
  rintro e w2 ⟨rfl, h2⟩
  go_wp2_with fail
  go_ret
  exact ⟨rfl, h2⟩
set_option maxHeartbeats 4000000 in
theorem hc_bad (x : Option Addr) (len cap : Nat) (f : Nat → Int) (w : World) (E : Nat → Addr) (hS : Errs w E) (hx : Ints w x len f) (hl : len ≤ 400) (hx0 : x = none → cap = 0) (hb : ¬ (inBounds f len ∧ complete f len)) :
    Calls Tryd.prog 7 #[.slice x len cap] w fun e w' => e = .returned (.bool true) ∧ Ext w w' := by
  have HS := Lib.hid hS
  have HX := Lib.hid hx
  have HB := Lib.hid hb
  have HX0 := Lib.hid hx0
  clear hS hx hb hx0
  go_enter Tryd.func7, Tryd.ntmps7
  go_wp2_with fail
  refine (two_any _ HS.out.sents).mono ?_
  rintro e w2 ⟨rfl, h2⟩
  have X2 := Lib.hid h2
  clear h2
  go_wp2_with fail
  refine (validCode_any x len cap f _ (HX.out.ext X2.out) (by unfold maxLen; omega)).mono ?_
  rintro e w3 ⟨rfl, rfl⟩
  go_wp2_with fail
  refine (ints_calls x len cap f _ (HX.out.ext X2.out) (by omega) HX0.out).mono ?_
  rintro e w3 ⟨⟨v3, rfl, y3, c3, rfl, hy3⟩, h3⟩
  have X3 := Lib.hid (X2.out.trans h3)
  have HY3 := Lib.hid hy3
  clear hy3 h3
  go_wp2_with fail
  refine (codes_err y3 len c3 f _ E (HS.out.ext X3.out) HY3.out (by unfold maxLen; omega) HB.out).mono ?_
  rintro e w4 ⟨⟨k, hk, rfl, hv⟩, h4⟩
  have X4 := Lib.hid (X3.out.trans h4)
  rw [hv]
  have HV := Lib.hid hv
  clear h4 hv
  go_wp2_with fail
  refine (ints_calls x len cap f _ (HX.out.ext X4.out) (by omega) HX0.out).mono ?_
  rintro e w5 ⟨⟨v5, rfl, y5, c5, rfl, hy5⟩, h5⟩
  have X5 := Lib.hid (X4.out.trans h5)
  have HY5 := Lib.hid hy5
  clear hy5 h5
  go_wp2_with fail
  refine (valid_err y5 len c5 f _ E (HS.out.ext X5.out) HY5.out (by unfold maxLen; omega)).mono ?_
  rintro e w6 ⟨⟨v6, rfl, hv6⟩, h6⟩
  rw [HV.out] at hv6
  have X6 := Lib.hid (X5.out.trans h6)
  have HV6 := Lib.hid hv6
  clear hv6 h6
  go_wp2_with fail
  refine (coded_any _ E (HS.out.ext X6.out) _ _ _ ((k : Int) + 1) HV6.out).mono ?_
  rintro e w7 ⟨he, h7⟩
  obtain rfl : e = .returned (.bool true) := by rw [he]; exact ret_bool (by simp)
  have X7 := Lib.hid (X6.out.trans h7)
  clear he h7
  go_wp2_with fail
  refine (coded_any _ E (HS.out.ext X7.out) _ _ _ ((k : Int) + 1) (.sent k hk)).mono ?_
  rintro e w8 ⟨he, h8⟩
  obtain rfl : e = .returned (.bool true) := by rw [he]; exact ret_bool (by simp)
  have X8 := Lib.hid (X7.out.trans h8)
  clear he h8
  go_wp2_with fail
  go_ret
  exact ⟨rfl, X8.out⟩
set_option maxHeartbeats 4000000 in
theorem hc_good (x : Option Addr) (len cap : Nat) (f : Nat → Int) (w : World) (E : Nat → Addr) (hS : Errs w E) (hx : Ints w x len f) (hl : len ≤ 400) (hx0 : x = none → cap = 0) (hb : inBounds f len ∧ complete f len) :
    Calls Tryd.prog 7 #[.slice x len cap] w fun e w' => e = .returned (.bool true) ∧ Ext w w' := by
  have HS := Lib.hid hS
  have HX := Lib.hid hx
  have HB := Lib.hid hb
  have HX0 := Lib.hid hx0
  have HV := Lib.hid (vcode_good hb)
  clear hS hx hb hx0
  go_enter Tryd.func7, Tryd.ntmps7
  go_wp2_with fail
  refine (two_any _ HS.out.sents).mono ?_
  rintro e w2 ⟨rfl, h2⟩
  have X2 := Lib.hid h2
  clear h2
  go_wp2_with fail
  refine (validCode_any x len cap f _ (HX.out.ext X2.out) (by unfold maxLen; omega)).mono ?_
  rintro e w3 ⟨rfl, rfl⟩
  rw [HV.out]
  go_wp2_with fail
  refine (ints_calls x len cap f _ (HX.out.ext X2.out) (by omega) HX0.out).mono ?_
  rintro e w3 ⟨⟨v3, rfl, y3, c3, rfl, hy3⟩, h3⟩
  have X3 := Lib.hid (X2.out.trans h3)
  have HY3 := Lib.hid hy3
  clear hy3 h3
  go_wp2_with fail
  refine (codes_good y3 len c3 f _ HY3.out (by unfold maxLen; omega) HB.out.1 HB.out.2 _ _ (HS.out.ext X3.out).b (HS.out.ext X3.out).s).mono ?_
  rintro e w4 ⟨h4, B, hBz, rfl, hC⟩
  have X4 := Lib.hid (X3.out.trans h4)
  have HC4 := Lib.hid (Cv.of_cs hC)
  clear h4 hC hBz
  go_wp2_with fail
  refine (ints_calls x len cap f _ (HX.out.ext X4.out) (by omega) HX0.out).mono ?_
  rintro e w5 ⟨⟨v5, rfl, y5, c5, rfl, hy5⟩, h5⟩
  have X5 := Lib.hid (X4.out.trans h5)
  have HY5 := Lib.hid hy5
  have HC5 := Lib.hid (HC4.out.ext h5)
  clear hy5 h5
  go_wp2_with fail
  refine (valid_err y5 len c5 f _ E (HS.out.ext X5.out) HY5.out (by unfold maxLen; omega)).mono ?_
  rintro e w6 ⟨⟨v6, rfl, hv6⟩, h6⟩
  rw [HV.out] at hv6
  have X6 := Lib.hid (X5.out.trans h6)
  have HC6 := Lib.hid (HC5.out.ext h6)
  have HV6 := Lib.hid hv6
  clear hv6 h6
  go_wp2_with fail
  refine (coded_any _ E (HS.out.ext X6.out) _ _ _ 0 HV6.out).mono ?_
  rintro e w7 ⟨he, h7⟩
  obtain rfl : e = .returned (.bool true) := by rw [he]; exact ret_bool (by simp)
  have X7 := Lib.hid (X6.out.trans h7)
  have HC7 := Lib.hid (HC6.out.ext h7)
  clear he h7
  go_wp2_with fail
  refine (coded_any _ E (HS.out.ext X7.out) _ _ _ 0 .nil).mono ?_
  rintro e w8 ⟨he, h8⟩
  obtain rfl : e = .returned (.bool true) := by rw [he]; exact ret_bool (by simp)
  have X8 := Lib.hid (X7.out.trans h8)
  have HC8 := Lib.hid (HC7.out.ext h8)
  clear he h8
  go_wp2_with fail
  refine (codesOf_any x len cap f _ (HX.out.ext X8.out) HB.out.1 HB.out.2).mono ?_
  rintro e w9 ⟨⟨D, hD, rfl, hDC⟩, h9⟩
  have X9 := Lib.hid (X8.out.trans h9)
  have HC9 := Lib.hid (HC8.out.ext h9)
  have HD9 := Lib.hid hDC
  clear h9 hDC hD
  have t1 : ((len : Int) != (len : Int)) = false := by simp
  go_wp2_with fail
  clear t1
  go_loopw [8] (fun c wr => ∃ i : Nat, i ≤ len ∧ c = .int .i64 i ∧ Hid (Ext w9 wr)) (fun c _ => len - (intOf c).toNat)
  case atStart => exact ⟨0, by omega, rfl, Lib.hid (Ext.refl _)⟩
  case round =>
    obtain ⟨i, hi, rfl, HX9⟩ := hrel
    by_cases hlt : i < len
    · obtain ⟨a, rfl⟩ : ∃ a, x = some a := by
        cases x with
        | none => have := HX.out.1 rfl; omega
        | some a => exact ⟨a, rfl⟩
      obtain ⟨q2, f1, f2⟩ := (HX.out.ext (X9.out.trans HX9.out)).2 a rfl i hlt
      have q1 := (HC9.out.ext HX9.out i hlt).1
      have q3 := (HD9.out.ext HX9.out i hlt).1
      have hB1 : B < wr.heap.size := World.block_lt_of_cell? wr _ q1
      have hD1 : D < wr.heap.size := World.block_lt_of_cell? wr _ q3
      have hA1 : (a.add i).block < wr.heap.size := World.block_lt_of_cell? wr _ q2
      have hbi := HB.out.1.2 i hlt
      obtain ⟨k, hk⟩ : ∃ k : Nat, f i = k := ⟨(f i).toNat, by omega⟩
      have hk15 : k ≤ 15 := by omega
      have hW0 : k = 0 → word f len i = 0 := fun h => by unfold word; rw [if_neg (by omega)]
      have hW1 : word f len i < 32769 := by
        by_cases h0 : k = 0
        · rw [hW0 h0]; decide
        · have q := word_lt f len HB.out.2 i k hlt hk (by omega) hk15
          have e : word f len i = first f len k + many f k i := by unfold word; rw [if_pos (by omega), hk]; rfl
          rw [e]; omega
      rw [hk, Int.toNat_natCast] at q3
      rw [hk] at q2
      obtain ⟨W, hW⟩ : ∃ W, word f len i = W := ⟨_, rfl⟩
      rw [hW] at q1 q3 hW0 hW1
      have hilen : (i : Int) < (len : Int) := by omega
      have hi0 : (0 : Int) ≤ (i : Int) := by omega
      clear hW hk f1 f2 hbi
      by_cases h0 : k = 0
      · have hWz := hW0 h0
        have t1 : ((k : Int) == 0) = true := beq_iff_eq.2 (by omega)
        have t2 : ((W : Int) != 0) = false := by rw [hWz]; rfl
        clear hW0 hWz h0
        go_wp2_with fail
        first | go_region_held3 (fun w' => Ext wr w' ∧ w'.cell? ⟨B, i, none⟩ = some (.int .u32 (W : Int)) ∧ w'.cell? (a.add i) = some (.int .i64 (k : Int)) ∧ w'.cell? ⟨D, i, none⟩ = some (.string (bs (Bts.high W k)))) (first | exact ⟨Below.drew (Ext.refl wr), q1, q2, q3⟩ | go_keep | exact ⟨Ext.trans (by first | assumption | exact Below.drew (Ext.refl _)) hx, (hx.cell (p := ⟨B, i, none⟩) (Nat.lt_of_lt_of_le hB1 (show Ext wr _ from by first | assumption | exact Below.drew (Ext.refl _)).size)).trans (by assumption), (hx.cell (p := a.add i) (Nat.lt_of_lt_of_le hA1 (show Ext wr _ from by first | assumption | exact Below.drew (Ext.refl _)).size)).trans (by assumption), (hx.cell (p := ⟨D, i, none⟩) (Nat.lt_of_lt_of_le hD1 (show Ext wr _ from by first | assumption | exact Below.drew (Ext.refl _)).size)).trans (by assumption)⟩)
          ((go_at_call 27; refine (high_any W k (by omega) (by omega) _).mono ?_; rintro e w' ⟨rfl, hx⟩)) | fail
        all_goals
          go_wp2_with fail
          rename_i hSS
          go_roundw
          case rel => exact ⟨i + 1, by omega, by go_num, Lib.hid (HX9.out.trans hSS.1)⟩
          case measure => simp [intOf]; omega
      · have t1 : ((k : Int) == 0) = false := beq_eq_false_iff_ne.2 (by omega)
        have hk1 : 1 ≤ k := by omega
        clear hW0 h0
        go_wp2_with fail
        first | go_region_with ((go_at_call 27; refine (high_any W k (by omega) (by omega) _).mono ?_; rintro e w' ⟨rfl, hx⟩; have r1 := (hx.cell (p := ⟨B, i, none⟩) hB1).trans q1; have r2 := (hx.cell (p := a.add i) hA1).trans q2; have r3 := (hx.cell (p := ⟨D, i, none⟩) hD1).trans q3)) | fail
        all_goals
          go_wp2_with fail
          go_roundw
          case rel => exact ⟨i + 1, by omega, by go_num, Lib.hid (HX9.out.trans (Ext.trans (Below.drew (Ext.refl _)) (by assumption)))⟩
          case measure => simp [intOf]; omega
    · obtain rfl : i = len := by omega
      go_wp2_with fail
      go_ret
      exact ⟨rfl, X9.out.trans HX9.out⟩
theorem hc_any (x : Option Addr) (len cap : Nat) (f : Nat → Int) (w : World) (E : Nat → Addr) (hS : Errs w E) (hx : Ints w x len f) (hl : len ≤ maxLen) (hx0 : x = none → cap = 0) :
    Calls Tryd.prog 7 #[.slice x len cap] w fun e w' => e = .returned (.bool true) ∧ Ext w w' := by
  by_cases h : len ≤ 400
  · by_cases hb : inBounds f len ∧ complete f len
    · exact hc_good x len cap f w E hS hx h hx0 hb
    · exact hc_bad x len cap f w E hS hx h hx0 hb
  · exact hc_out x len cap w E hS (by omega) hl
end Go.Proofs.YtkddbhngffbljaaDoor
