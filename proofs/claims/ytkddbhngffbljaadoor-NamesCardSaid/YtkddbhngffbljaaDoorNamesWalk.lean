/- Names's walk. -/
import Derived.Test.YtkddbhngffbljaaDoorCoded1
import Derived.Test.YtkddbhngffbljaaDoorErrsLaid
import Derived.Test.YtkddbhngffbljaaDoorApart
import Derived.Deep.RegionHeld3
import Derived.Outline
import Derived.IntWalk
import Derived.Laws.Concat
namespace Go.Proofs.YtkddbhngffbljaaDoor
open Go.RowKit
set_option maxRecDepth 100000
theorem sameInts_yes (x y : Option Addr) (n cap cap' : Nat) (f : Nat → Int) (w : World) (hx : Ints w x n f) (hy : Ints w y n f) (hn : n ≤ 1000000) :
    Calls Tryd.prog 41 #[.slice x n cap, .slice y n cap'] w fun e w' => e = .returned (.bool true) ∧ Ext w w' := by
  have HX := Lib.hid hx
  have HY := Lib.hid hy
  have t1 : ((n : Int) != (n : Int)) = false := by simp
  clear hx hy
  go_enter Tryd.func41, Tryd.ntmps41
  go_wp2_with fail
  clear t1
  go_loopw [5] (fun c wr => ∃ (i m : Nat), i ≤ n ∧ c = .int .i64 i ∧ wr = w.drewN m) (fun c _ => n - (intOf c).toNat)
  case atStart => exact ⟨0, 0, by omega, rfl, rfl⟩
  case round =>
    obtain ⟨i, m, hi, rfl, rfl⟩ := hrel
    by_cases hlt : i < n
    · obtain ⟨a, rfl⟩ : ∃ a, x = some a := by
        cases x with
        | none => have := HX.out.1 rfl; omega
        | some a => exact ⟨a, rfl⟩
      obtain ⟨b, rfl⟩ : ∃ a, y = some a := by
        cases y with
        | none => have := HY.out.1 rfl; omega
        | some a => exact ⟨a, rfl⟩
      obtain ⟨ca, a1, a2⟩ := HX.out.2 a rfl i hlt
      obtain ⟨cb, b1, b2⟩ := HY.out.2 b rfl i hlt
      have t1 : (f i != f i) = false := by simp
      go_wp2_with fail
      go_quiet (fail)
      go_wp2_with fail
      go_roundw
      case rel => exact ⟨i + 1, _, by omega, by go_num, rfl⟩
      case measure => simp [intOf]; omega
    · obtain rfl : i = n := by omega
      go_wp2_with fail
      go_ret
      exact ⟨rfl, Ext.drewN (Ext.refl _) _⟩
theorem errNew_calls (s : ByteArray) (w : World) : Calls Tryd.prog 43 #[.string s] w fun e w' => e = .returned (sentV ⟨w.heap.size, 0, none⟩) ∧ w' = w.alloc (.cells #[.string s] 103) := by
  go_enter Tryd.func43, Tryd.ntmps43
  go_wp2
  go_ret
  exact ⟨rfl, rfl⟩
theorem errText_calls (a : Addr) (s : ByteArray) (w : World) (h : w.cell? a = some (.string s)) : Calls Tryd.prog 102 #[.pointer (some a)] w fun e w' => e = .returned (.string s) ∧ w = w' := by
  go_enter Tryd.func102, Tryd.ntmps102
  go_wp2
  go_ret
  exact ⟨rfl, rfl⟩
theorem methodError (n : Nat) (v : Value) (w : World) : (Go.method (n + 1) 101 v "Error").run Tryd.prog w = .ok (102, v) w := by kernel_rfl
set_option maxHeartbeats 4000000 in
theorem code_other (w : World) (E : Nat → Addr) (hE : Errs w E) (a : Addr) (ha : ∃ c t, w.heap[a.block]? = some (.cells c t (0, 0))) (hne : ∀ k, k < 9 → a ≠ E k) : Calls Tryd.prog 42 #[sentV a] w fun e w' => e = .returned (.tuple #[.int .i64 (-1), .int .i64 (-1)]) ∧ Ext w w' := by
  have HE := Lib.hid hE
  have HA := Lib.hid ha
  have HN := Lib.hid hne
  clear hE ha hne
  unfold sentV
  go_enter Tryd.func42, Tryd.ntmps42
  go_wp2_with fail
  refine (as_miss _ _ _ (HE.out.ext ((Ext.refl w).alloc _)).et).mono ?_
  rintro e w2 ⟨rfl, h2⟩
  have HX : Hid (Ext w w2) := Lib.hid (((Ext.refl w).alloc _).trans h2)
  clear h2
  have HE2 := Lib.hid (HE.out.ext HX.out)
  have c0 := HE2.out.var 0 (by decide)
  have c1 := HE2.out.var 1 (by decide)
  have c2 := HE2.out.var 2 (by decide)
  have c3 := HE2.out.var 3 (by decide)
  have c4 := HE2.out.var 4 (by decide)
  have c5 := HE2.out.var 5 (by decide)
  have c6 := HE2.out.var 6 (by decide)
  have c7 := HE2.out.var 7 (by decide)
  have c8 := HE2.out.var 8 (by decide)
  simp only [gk, sentV] at c0 c1 c2 c3 c4 c5 c6 c7 c8
  go_wp2_with fail
  clear c0 c1 c2 c3 c4 c5 c6 c7 c8
  refine wp_world (fun wz => Ext w wz ∧ ∀ j, j < 9 → wz.cell? ⟨w2.heap.size, j, none⟩ = some (.iface 101 (.pointer (some (E j))))) ?_ ?_
  · refine ⟨HX.out.alloc _, fun j hj => ?_⟩
    rw [World.cell?_alloc_at _ _ _ _ rfl]
    match j, hj with
    | 0, _ => rfl
    | 1, _ => rfl
    | 2, _ => rfl
    | 3, _ => rfl
    | 4, _ => rfl
    | 5, _ => rfl
    | 6, _ => rfl
    | 7, _ => rfl
    | 8, _ => rfl
  rintro w3 ⟨hX3, hC3⟩
  have HX3 := Lib.hid hX3
  have HC := Lib.hid hC3
  have HE3 := Lib.hid (HE.out.ext HX3.out)
  clear hX3 hC3
  go_loop [3, 27] (fun p c => ∃ i : Nat, i ≤ 9 ∧ p = .int .i64 (-1) ∧ c = .int .i64 i) (fun _ c => 9 - (intOf c).toNat)
  case atStart => exact ⟨0, by omega, rfl, rfl⟩
  case round =>
    obtain ⟨i, hi, rfl, rfl⟩ := hrel
    by_cases hlt : i < 9
    · have hc := HC.out i (by omega)
      obtain ⟨ca, ta, ha⟩ := HA.out
      obtain ⟨cb, tb, hb⟩ := HE3.out.row i (by omega)
      have HA3 := Lib.hid ((HX3.out.block a.block (lt_of_block ha)).trans ha)
      have HB := Lib.hid hb
      clear ha hb
      go_wp2_with fail
      refine (is_other _ _ ca cb ta tb _ (HN.out i hlt) HA3.out HB.out).mono ?_
      rintro e w4 ⟨rfl, rfl⟩
      go_wp2_with fail
      go_round
      case rel => exact ⟨i + 1, by omega, rfl, by go_num⟩
      case measure => simp [intOf]; omega
    · obtain rfl : i = 9 := by omega
      go_wp2_with fail
      go_ret2
      exact ⟨rfl, HX3.out⟩
def shortE : Nat → List UInt8
  | 0 => [116, 101, 120, 116]
  | 1 => [98, 111, 117, 110, 100]
  | 2 => [115, 104, 97, 112, 101]
  | 3 => [115, 117, 109]
  | 4 => [110, 97, 109, 101]
  | 5 => [110, 111, 110, 101]
  | 6 => [99, 111, 108, 111, 114, 115]
  | 7 => [102, 117, 108, 108]
  | _ => [112, 111, 119, 101, 114]
theorem shortE_text : ∀ k, k < 9 → [108, 97, 121, 101, 114, 99, 97, 107, 101, 58, 32] ++ shortE k = textE k := by decide
@[irreducible] def shortS (k : Nat) : ByteArray := ⟨(shortE k).toArray⟩
theorem shortS_eq (k : Nat) : shortS k = ⟨(shortE k).toArray⟩ := by unfold shortS; rfl
def numsN : Nat → Int
  | 0 => 300000
  | 1 => 15
  | 2 => 300
  | 3 => 32768
  | 4 => 258
  | 5 => 3
  | 6 => 256
  | 7 => 16
  | 8 => 8
  | 9 => 12
  | 10 => 256
  | 11 => 16
  | 12 => 20
  | 13 => 64
  | 14 => 4000
  | 15 => 100
  | _ => 16
set_option maxHeartbeats 4000000 in
theorem names_any (w : World) (E : Nat → Addr) (hS : Errs w E) (hT : ∀ k, k < 9 → ∃ s : ByteArray, w.cell? (E k) = some (.string s) ∧ s.data.toList = textE k) :
    Calls Tryd.prog 11 #[] w fun e w' => e = .returned (.bool true) ∧ Ext w w' := by
  have HS := Lib.hid hS
  have HT := Lib.hid hT
  clear hS hT
  go_enter Tryd.func11, Tryd.ntmps11
  go_wp2_with fail
  refine calls_world (fun wz => Ext w wz ∧ Ints wz (some ⟨w.heap.size, 0, none⟩) 17 numsN ∧ Ints wz (some ⟨w.heap.size + 1, 0, none⟩) 17 numsN) ?_ ?_
  · refine ⟨((Ext.refl w).alloc _).alloc _, ⟨(fun h => by cases h), fun a ha i hi => ?_⟩, ⟨(fun h => by cases h), fun a ha i hi => ?_⟩⟩
    · injection ha with ha; subst ha
      rw [add_plain, World.cell?_alloc_past _ _ _ (by simp), World.cell?_alloc_at _ _ _ _ rfl]
      match i, hi with
      | 0, _ => exact ⟨by rfl, by decide, by decide⟩
      | 1, _ => exact ⟨by rfl, by decide, by decide⟩
      | 2, _ => exact ⟨by rfl, by decide, by decide⟩
      | 3, _ => exact ⟨by rfl, by decide, by decide⟩
      | 4, _ => exact ⟨by rfl, by decide, by decide⟩
      | 5, _ => exact ⟨by rfl, by decide, by decide⟩
      | 6, _ => exact ⟨by rfl, by decide, by decide⟩
      | 7, _ => exact ⟨by rfl, by decide, by decide⟩
      | 8, _ => exact ⟨by rfl, by decide, by decide⟩
      | 9, _ => exact ⟨by rfl, by decide, by decide⟩
      | 10, _ => exact ⟨by rfl, by decide, by decide⟩
      | 11, _ => exact ⟨by rfl, by decide, by decide⟩
      | 12, _ => exact ⟨by rfl, by decide, by decide⟩
      | 13, _ => exact ⟨by rfl, by decide, by decide⟩
      | 14, _ => exact ⟨by rfl, by decide, by decide⟩
      | 15, _ => exact ⟨by rfl, by decide, by decide⟩
      | 16, _ => exact ⟨by rfl, by decide, by decide⟩
      | n + 17, h => exact absurd h (by omega)
    · injection ha with ha; subst ha
      rw [add_plain, World.cell?_alloc_at _ _ _ _ (by simp)]
      match i, hi with
      | 0, _ => exact ⟨by rfl, by decide, by decide⟩
      | 1, _ => exact ⟨by rfl, by decide, by decide⟩
      | 2, _ => exact ⟨by rfl, by decide, by decide⟩
      | 3, _ => exact ⟨by rfl, by decide, by decide⟩
      | 4, _ => exact ⟨by rfl, by decide, by decide⟩
      | 5, _ => exact ⟨by rfl, by decide, by decide⟩
      | 6, _ => exact ⟨by rfl, by decide, by decide⟩
      | 7, _ => exact ⟨by rfl, by decide, by decide⟩
      | 8, _ => exact ⟨by rfl, by decide, by decide⟩
      | 9, _ => exact ⟨by rfl, by decide, by decide⟩
      | 10, _ => exact ⟨by rfl, by decide, by decide⟩
      | 11, _ => exact ⟨by rfl, by decide, by decide⟩
      | 12, _ => exact ⟨by rfl, by decide, by decide⟩
      | 13, _ => exact ⟨by rfl, by decide, by decide⟩
      | 14, _ => exact ⟨by rfl, by decide, by decide⟩
      | 15, _ => exact ⟨by rfl, by decide, by decide⟩
      | 16, _ => exact ⟨by rfl, by decide, by decide⟩
      | n + 17, h => exact absurd h (by omega)
  rintro w2 ⟨X2, hx, hy⟩
  have X2 := Lib.hid X2
  refine (sameInts_yes _ _ 17 17 17 numsN w2 hx hy (by decide)).mono ?_
  rintro e w3 ⟨rfl, h3⟩
  have X3 := Lib.hid (X2.out.trans h3)
  clear hx hy h3
  have HE3 := Lib.hid (HS.out.ext X3.out)
  have c0 := HE3.out.var 0 (by decide)
  have c1 := HE3.out.var 1 (by decide)
  have c2 := HE3.out.var 2 (by decide)
  have c3 := HE3.out.var 3 (by decide)
  have c4 := HE3.out.var 4 (by decide)
  have c5 := HE3.out.var 5 (by decide)
  have c6 := HE3.out.var 6 (by decide)
  have c7 := HE3.out.var 7 (by decide)
  have c8 := HE3.out.var 8 (by decide)
  simp only [gk, sentV] at c0 c1 c2 c3 c4 c5 c6 c7 c8
  go_wp2_with fail
  clear c0 c1 c2 c3 c4 c5 c6 c7 c8
  refine wp_world (fun wz => Ext w wz ∧ w3.heap.size + 1 < wz.heap.size ∧ (∀ j, j < 9 → wz.cell? ⟨w3.heap.size, j, none⟩ = some (.iface 101 (.pointer (some (E j))))) ∧ (∀ j, j < 9 → wz.cell? ⟨w3.heap.size + 1, j, none⟩ = some (.string (shortS j)))) ?_ ?_
  · refine ⟨(X3.out.alloc _).alloc _, by simp, fun j hj => ?_, fun j hj => ?_⟩
    · rw [World.cell?_alloc_past _ _ _ (by simp), World.cell?_alloc_at _ _ _ _ rfl]
      match j, hj with
      | 0, _ => rfl
      | 1, _ => rfl
      | 2, _ => rfl
      | 3, _ => rfl
      | 4, _ => rfl
      | 5, _ => rfl
      | 6, _ => rfl
      | 7, _ => rfl
      | 8, _ => rfl
    · rw [World.cell?_alloc_at _ _ _ _ (by simp), shortS_eq]
      match j, hj with
      | 0, _ => rfl
      | 1, _ => rfl
      | 2, _ => rfl
      | 3, _ => rfl
      | 4, _ => rfl
      | 5, _ => rfl
      | 6, _ => rfl
      | 7, _ => rfl
      | 8, _ => rfl
  rintro w4 ⟨hX4, hz4, hC1, hC2⟩
  have X4 := Lib.hid hX4
  have HC1 := Lib.hid hC1
  have HC2 := Lib.hid hC2
  clear hX4 hC1 hC2
  go_loopw [5] (fun c wr => ∃ i : Nat, i ≤ 9 ∧ c = .int .i64 i ∧ Hid (Ext w4 wr)) (fun c _ => 9 - (intOf c).toNat)
  case atStart => exact ⟨0, by omega, rfl, Lib.hid (Ext.refl _)⟩
  case round =>
    obtain ⟨i, hi, rfl, HX⟩ := hrel
    by_cases hlt : i < 9
    · have h1 : wr.cell? ⟨w3.heap.size, i, none⟩ = some (.iface 101 (.pointer (some (E i)))) := (HX.out.cell (p := ⟨w3.heap.size, i, none⟩) (by simp; omega)).trans (HC1.out i hlt)
      have X5 : Hid (Ext w (wr.alloc (.cells #[.int .i64 7, .iface 101 (.pointer (some (E i)))] 70))) := Lib.hid ((X4.out.trans HX.out).alloc _)
      go_wp2_with fail
      refine (code_any _ E (HS.out.ext X5.out) _ ((i : Int) + 1) 7 (.fault i wr.heap.size 7 hlt (heap_alloc_last _ _) (by decide) (by decide))).mono ?_
      rintro e w6 ⟨rfl, h6⟩
      have X6 : Hid (Ext w4 w6) := Lib.hid ((HX.out.alloc _).trans h6)
      have XW := Lib.hid (X4.out.trans X6.out)
      clear h1 h6
      go_wp2_with fail
      obtain ⟨s, hs1, hs2⟩ := HT.out i hlt
      have k1 : w6.cell? ⟨w3.heap.size, i, none⟩ = some (.iface 101 (.pointer (some (E i)))) := (X6.out.cell (p := ⟨w3.heap.size, i, none⟩) (by simp; omega)).trans (HC1.out i hlt)
      have k2 : w6.cell? ⟨w3.heap.size + 1, i, none⟩ = some (.string (shortS i)) := (X6.out.cell (p := ⟨w3.heap.size + 1, i, none⟩) (by simp; omega)).trans (HC2.out i hlt)
      have hsl : (E i).block < w.heap.size := World.block_lt_of_cell? w _ hs1
      have k3 : w6.cell? (E i) = some (.string s) := (XW.out.cell hsl).trans hs1
      have mE := methodError
      have hTX : s = ⟨#[108, 97, 121, 101, 114, 99, 97, 107, 101, 58, 32]⟩ ++ shortS i := by
        obtain ⟨⟨l⟩⟩ := s
        simp only at hs2
        subst hs2
        rw [← shortE_text i hlt, shortS_eq]; rfl
      subst hTX
      have hsz : (shortS i).size ≤ 6 := by
        rw [shortS_eq]
        match i, hlt with
        | 0, _ => decide
        | 1, _ => decide
        | 2, _ => decide
        | 3, _ => decide
        | 4, _ => decide
        | 5, _ => decide
        | 6, _ => decide
        | 7, _ => decide
        | 8, _ => decide
        | n + 9, h => exact absurd h (by omega)
      clear hs1 hs2
      have hi9 : (i : Int) < 9 := by omega
      have hi0 : (0 : Int) ≤ (i : Int) := by omega
      have hb1 : w3.heap.size < w6.heap.size := by have := X6.out.size; omega
      have hb2 : w3.heap.size + 1 < w6.heap.size := by have := X6.out.size; omega
      have hb3 : (E i).block < w6.heap.size := by have := XW.out.size; omega
      have hadd := fun w => run_string_add_sum (P := Tryd.prog) w ⟨#[108, 97, 121, 101, 114, 99, 97, 107, 101, 58, 32]⟩ (shortS i) (by have e : (⟨#[108, 97, 121, 101, 114, 99, 97, 107, 101, 58, 32]⟩ : ByteArray).size = 11 := rfl; omega)
      have wrp : IntKind.i64.wrap ((i : Int) + 1) = (i : Int) + 1 := IntWalk.i64_in _ (by omega)
      go_region_held3 (fun w' => Ext w6 w' ∧ w'.cell? ⟨w3.heap.size, i, none⟩ = some (.iface 101 (.pointer (some (E i)))) ∧ w'.cell? ⟨w3.heap.size + 1, i, none⟩ = some (.string (shortS i)) ∧ w'.cell? (E i) = some (.string (⟨#[108, 97, 121, 101, 114, 99, 97, 107, 101, 58, 32]⟩ ++ shortS i))) (first | exact ⟨Below.drew (Ext.refl w6), k1, k2, k3⟩ | go_keep | (refine ⟨Ext.trans (by first | assumption | exact Below.drew (Ext.refl _)) hx, ?_, ?_, ?_⟩ <;> (refine (hx.cell (by have := (show Ext w6 _ from by first | assumption | exact Below.drew (Ext.refl _)).size; simp; omega)).trans ?_; assumption)))
        (first
          | (go_at_call 102; refine (errText_calls (E i) _ _ (by assumption)).mono ?_; rintro e w' ⟨rfl, rfl⟩)
          | (go_at_call 25; refine (coded_any _ E (HS.out.ext (XW.out.trans (by first | assumption | exact Below.drew (Ext.refl _)))) (sentV (E i)) ((i : Int) + 1) (-1) ((i : Int) + 1) (.sent i hlt)).mono ?_; rintro e w' ⟨he, hx⟩; obtain rfl : e = .returned (.bool true) := by rw [he]; exact ret_bool (by simp)))
      all_goals
        clear wrp
        go_wp2_with fail
        rename_i hSS
        go_roundw
        case rel => exact ⟨i + 1, by omega, by go_num, Lib.hid (X6.out.trans hSS.1)⟩
        case measure => simp [intOf]; omega
    · obtain rfl : i = 9 := by omega
      have XR := Lib.hid (X4.out.trans HX.out)
      go_wp2_with fail
      refine (errNew_calls _ _).mono ?_
      rintro e w6 ⟨rfl, rfl⟩
      have X7 : Hid (Ext w (wr.alloc (.cells #[.string ⟨#[97, 110, 111, 116, 104, 101, 114, 32, 111, 110, 101]⟩] 103))) := Lib.hid (XR.out.alloc _)
      go_wp2_with fail
      refine (code_other _ E (HS.out.ext X7.out) ⟨wr.heap.size, 0, none⟩ ⟨_, _, heap_alloc_last _ _⟩ (fun k hk e => ?_)).mono ?_
      · obtain ⟨s, hs1, _⟩ := HT.out k hk
        have h1 := World.block_lt_of_cell? w _ hs1
        rw [← e] at h1
        have h2 := XR.out.size
        simp only at h1
        omega
      rintro e w8 ⟨rfl, h8⟩
      have X8 := Lib.hid (X7.out.trans h8)
      clear h8
      go_wp2_with fail
      refine (coded_any _ E (HS.out.ext X8.out) _ 0 (-1) 0 .nil).mono ?_
      rintro e w9 ⟨he, h9⟩
      obtain rfl : e = .returned (.bool true) := by rw [he]; exact ret_bool (by decide)
      have X9 := Lib.hid (X8.out.trans h9)
      clear he h9
      go_wp2_with fail
      go_ret
      exact ⟨rfl, X9.out⟩
end Go.Proofs.YtkddbhngffbljaaDoor
