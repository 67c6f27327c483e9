/-
  plain.Code: the number of an error, and its place.
  Pictures: small functions.
  raster.each: a new picture, pixel by pixel.
  Pictures: own memory for one; the same ones.
  Rows of pixels that are written. No function of the program is named.
  coded: an error's number, without a place.
  raster.New, Flip: what they make.
  raster.Flip: what it makes; the closed fact.
-/
import Derived.Test.YtkfjcgcgfdibaaaDoorRasterFloodsG1
import Derived.StillTailTactics
import Derived.Outline
import Derived.Deep.RegionLaw
import Derived.Laws.AppendOwnNone
namespace Go.Proofs.YtkfjcgcgfdibaaaDoor
open Go.RowKit
set_option maxRecDepth 100000
/-- the variables of the errors, in the order of their numbers -/
def gk : Nat → Nat
  | 0 => 2
  | 1 => 0
  | 2 => 1
  | 3 => 3
  | 4 => 4
  | 5 => 5
  | 6 => 6
  | 7 => 7
  | _ => 8
def sentV (a : Addr) : Value := .iface 171 (.pointer (some a))
/-- the package's errors as they lie in memory -/
structure Errs (w : World) (E : Nat → Addr) : Prop where
  et : ErrType w
  var : ∀ k, k < 9 → w.cell? ⟨gk k, 0, none⟩ = some (sentV (E k))
  row : ∀ k, k < 9 → ∃ c t, w.heap[(E k).block]? = some (.cells c t (0, 0))
  ne : ∀ j k, j < 9 → k < 9 → j ≠ k → E j ≠ E k
theorem Errs.ext {w w' : World} {E : Nat → Addr} (h : Errs w E) (hE : Ext w w') : Errs w' E := by
  refine ⟨?_, fun k hk => ?_, fun k hk => ?_, h.ne⟩
  · exact (hE.cell (p := ⟨9, 0, none⟩) (World.block_lt_of_cell? w _ h.et)).trans h.et
  · exact (hE.cell (p := ⟨gk k, 0, none⟩) (World.block_lt_of_cell? w _ (h.var k hk))).trans (h.var k hk)
  · obtain ⟨c, t, hc⟩ := h.row k hk
    exact ⟨c, t, (hE.block (E k).block (lt_of_block hc)).trans hc⟩
/-- an error value: its number, and its place -/
inductive ErrV (w : World) (E : Nat → Addr) : Value → Int → Int → Prop
  | nil : ErrV w E .nilIface 0 (-1)
  | sent (k : Nat) (hk : k < 9) : ErrV w E (sentV (E k)) ((k : Int) + 1) (-1)
  | fault (k F : Nat) (a : Int) (hk : k < 9) (h : w.heap[F]? = some (.cells #[.int .i64 a, sentV (E k)] 113 (0, 0))) (h1 : -9223372036854775808 ≤ a) (h2 : a ≤ 9223372036854775807) : ErrV w E (.iface 111 (.pointer (some ⟨F, 0, none⟩))) ((k : Int) + 1) a
theorem ErrV.ext {w w' : World} {E : Nat → Addr} {v : Value} {c a : Int} (h : ErrV w E v c a) (hE : Ext w w') : ErrV w' E v c a := by
  cases h with
  | nil => exact .nil
  | sent k hk => exact .sent k hk
  | fault k F a hk h h1 h2 => exact .fault k F a hk ((hE.block F (lt_of_block h)).trans h) h1 h2
theorem code_nil (w : World) : Calls Tryd.prog 63 #[.nilIface] w fun e w' => e = .returned (.tuple #[.int .i64 0, .int .i64 (-1)]) ∧ Ext w w' := by
  go_enter Tryd.func63, Tryd.ntmps63
  go_wp2
  go_ret2
  exact ⟨rfl, Ext.refl _⟩
set_option maxHeartbeats 4000000 in
theorem code_sent (w : World) (E : Nat → Addr) (hE : Errs w E) (k : Nat) (hk : k < 9) : Calls Tryd.prog 63 #[sentV (E k)] w fun e w' => e = .returned (.tuple #[.int .i64 ((k : Int) + 1), .int .i64 (-1)]) ∧ Ext w w' := by
  have HE := Lib.hid hE
  clear hE
  unfold sentV
  go_enter Tryd.func63, Tryd.ntmps63
  go_wp2_with fail
  refine (as_miss _ _ _ (HE.out.ext ((Ext.refl w).alloc _)).et).mono ?_
  rintro e w2 ⟨rfl, h2⟩
  have HX : Hid (Ext w w2) := Lib.hid (((Ext.refl w).alloc _).trans h2)
  clear h2
  have HE2 := Lib.hid (HE.out.ext HX.out)
  have c0 := HE2.out.var 0 (by decide)
  have c1 := HE2.out.var 1 (by decide)
  have c2 := HE2.out.var 2 (by decide)
  have c3 := HE2.out.var 3 (by decide)
  have c4 := HE2.out.var 4 (by decide)
  have c5 := HE2.out.var 5 (by decide)
  have c6 := HE2.out.var 6 (by decide)
  have c7 := HE2.out.var 7 (by decide)
  have c8 := HE2.out.var 8 (by decide)
  simp only [gk, sentV] at c0 c1 c2 c3 c4 c5 c6 c7 c8
  go_wp2_with fail
  have cells : ∀ j, j < 9 → (w2.alloc (.cells #[.iface 171 (.pointer (some (E 0))), .iface 171 (.pointer (some (E 1))), .iface 171 (.pointer (some (E 2))), .iface 171 (.pointer (some (E 3))), .iface 171 (.pointer (some (E 4))), .iface 171 (.pointer (some (E 5))), .iface 171 (.pointer (some (E 6))), .iface 171 (.pointer (some (E 7))), .iface 171 (.pointer (some (E 8)))] 28)).cell? ⟨w2.heap.size, j, none⟩ = some (.iface 171 (.pointer (some (E j)))) := by
    intro j hj
    rw [World.cell?_alloc_at _ _ _ _ rfl]
    match j, hj with
    | 0, _ => rfl
    | 1, _ => rfl
    | 2, _ => rfl
    | 3, _ => rfl
    | 4, _ => rfl
    | 5, _ => rfl
    | 6, _ => rfl
    | 7, _ => rfl
    | 8, _ => rfl
  have HC := Lib.hid cells
  have HX3 : Hid (Ext w (w2.alloc (.cells #[.iface 171 (.pointer (some (E 0))), .iface 171 (.pointer (some (E 1))), .iface 171 (.pointer (some (E 2))), .iface 171 (.pointer (some (E 3))), .iface 171 (.pointer (some (E 4))), .iface 171 (.pointer (some (E 5))), .iface 171 (.pointer (some (E 6))), .iface 171 (.pointer (some (E 7))), .iface 171 (.pointer (some (E 8)))] 28))) := Lib.hid (HX.out.alloc _)
  have HE3 := Lib.hid (HE.out.ext HX3.out)
  clear cells c0 c1 c2 c3 c4 c5 c6 c7 c8
  generalize hw3 : (w2.alloc (.cells #[.iface 171 (.pointer (some (E 0))), .iface 171 (.pointer (some (E 1))), .iface 171 (.pointer (some (E 2))), .iface 171 (.pointer (some (E 3))), .iface 171 (.pointer (some (E 4))), .iface 171 (.pointer (some (E 5))), .iface 171 (.pointer (some (E 6))), .iface 171 (.pointer (some (E 7))), .iface 171 (.pointer (some (E 8)))] 28)) = w3 at *
  clear hw3
  go_loop [3, 27] (fun p c => ∃ i : Nat, i ≤ k ∧ p = .int .i64 (-1) ∧ c = .int .i64 i) (fun _ c => k - (intOf c).toNat)
  case atStart => exact ⟨0, by omega, rfl, rfl⟩
  case round =>
    obtain ⟨i, hi, rfl, rfl⟩ := hrel
    have hc := HC.out i (by omega)
    obtain ⟨ca, ta, ha⟩ := HE3.out.row k hk
    obtain ⟨cb, tb, hb⟩ := HE3.out.row i (by omega)
    have HA := Lib.hid ha
    have HB := Lib.hid hb
    clear ha hb
    by_cases hik : i = k
    · subst hik
      go_wp2_with fail
      refine (is_same _ _).mono ?_
      rintro e w4 ⟨rfl, rfl⟩
      go_wp2_with fail
      go_ret2
      exact ⟨rfl, HX3.out⟩
    · have hne := HE3.out.ne k i hk (by omega) (fun e => hik e.symm)
      have HN := Lib.hid hne
      clear hne
      go_wp2_with fail
      refine (is_other _ _ ca cb ta tb _ HN.out HA.out HB.out).mono ?_
      rintro e w4 ⟨rfl, rfl⟩
      go_wp2_with fail
      go_round
      case rel => exact ⟨i + 1, by omega, rfl, by go_num⟩
      case measure => simp [intOf]; omega
set_option maxHeartbeats 4000000 in
theorem code_fault (w : World) (E : Nat → Addr) (hE : Errs w E) (k F : Nat) (a : Int) (hk : k < 9) (h : w.heap[F]? = some (.cells #[.int .i64 a, sentV (E k)] 113 (0, 0))) : Calls Tryd.prog 63 #[.iface 111 (.pointer (some ⟨F, 0, none⟩))] w fun e w' => e = .returned (.tuple #[.int .i64 ((k : Int) + 1), .int .i64 a]) ∧ Ext w w' := by
  have HF := Lib.hid h
  clear h
  have HE := Lib.hid hE
  clear hE
  go_enter Tryd.func63, Tryd.ntmps63
  go_wp2_with fail
  refine (as_hit ⟨F, 0, none⟩ ⟨w.heap.size, 0, none⟩ (.pointer none) _ (HE.out.ext ((Ext.refl w).alloc _)).et (by simp) (by simp)).mono ?_
  rintro e w2 ⟨rfl, h2, ct, zt⟩
  have HX : Hid (Ext w w2) := Lib.hid (by
    have q := ((Ext.refl w).alloc (.cells #[.pointer none] 111)).keeps (S := fun k => k = w.heap.size) |>.trans h2 (fun _ _ q => q)
    exact q.below (Nat.le_refl _) (fun k hk e => by omega))
  clear h2
  have HF2 : Hid (w2.heap[F]? = some (.cells #[.int .i64 a, sentV (E k)] 113 (0, 0))) := Lib.hid ((HX.out.block F (lt_of_block HF.out)).trans HF.out)
  have hF0 : w2.cell? ⟨F, 0, none⟩ = some (.int .i64 a) := by simp [World.cell?, HF2.out]
  have HE2 := Lib.hid (HE.out.ext HX.out)
  have c0 := HE2.out.var 0 (by decide)
  have c1 := HE2.out.var 1 (by decide)
  have c2 := HE2.out.var 2 (by decide)
  have c3 := HE2.out.var 3 (by decide)
  have c4 := HE2.out.var 4 (by decide)
  have c5 := HE2.out.var 5 (by decide)
  have c6 := HE2.out.var 6 (by decide)
  have c7 := HE2.out.var 7 (by decide)
  have c8 := HE2.out.var 8 (by decide)
  simp only [gk, sentV] at c0 c1 c2 c3 c4 c5 c6 c7 c8
  go_wp2_with fail
  have cells : ∀ j, j < 9 → (w2.alloc (.cells #[.iface 171 (.pointer (some (E 0))), .iface 171 (.pointer (some (E 1))), .iface 171 (.pointer (some (E 2))), .iface 171 (.pointer (some (E 3))), .iface 171 (.pointer (some (E 4))), .iface 171 (.pointer (some (E 5))), .iface 171 (.pointer (some (E 6))), .iface 171 (.pointer (some (E 7))), .iface 171 (.pointer (some (E 8)))] 28)).cell? ⟨w2.heap.size, j, none⟩ = some (.iface 171 (.pointer (some (E j)))) := by
    intro j hj
    rw [World.cell?_alloc_at _ _ _ _ rfl]
    match j, hj with
    | 0, _ => rfl
    | 1, _ => rfl
    | 2, _ => rfl
    | 3, _ => rfl
    | 4, _ => rfl
    | 5, _ => rfl
    | 6, _ => rfl
    | 7, _ => rfl
    | 8, _ => rfl
  have HC := Lib.hid cells
  have HF3 : Hid ((w2.alloc (.cells #[.iface 171 (.pointer (some (E 0))), .iface 171 (.pointer (some (E 1))), .iface 171 (.pointer (some (E 2))), .iface 171 (.pointer (some (E 3))), .iface 171 (.pointer (some (E 4))), .iface 171 (.pointer (some (E 5))), .iface 171 (.pointer (some (E 6))), .iface 171 (.pointer (some (E 7))), .iface 171 (.pointer (some (E 8)))] 28)).cell? ⟨F, 1, none⟩ = some (sentV (E k))) := Lib.hid (by rw [World.cell?_alloc_past _ _ _ (lt_of_block HF2.out)]; simp [World.cell?, HF2.out])
  have HX3 : Hid (Ext w (w2.alloc (.cells #[.iface 171 (.pointer (some (E 0))), .iface 171 (.pointer (some (E 1))), .iface 171 (.pointer (some (E 2))), .iface 171 (.pointer (some (E 3))), .iface 171 (.pointer (some (E 4))), .iface 171 (.pointer (some (E 5))), .iface 171 (.pointer (some (E 6))), .iface 171 (.pointer (some (E 7))), .iface 171 (.pointer (some (E 8)))] 28))) := Lib.hid (HX.out.alloc _)
  have HE3 := Lib.hid (HE.out.ext HX3.out)
  clear cells hF0 ct zt c0 c1 c2 c3 c4 c5 c6 c7 c8
  generalize hw3 : (w2.alloc (.cells #[.iface 171 (.pointer (some (E 0))), .iface 171 (.pointer (some (E 1))), .iface 171 (.pointer (some (E 2))), .iface 171 (.pointer (some (E 3))), .iface 171 (.pointer (some (E 4))), .iface 171 (.pointer (some (E 5))), .iface 171 (.pointer (some (E 6))), .iface 171 (.pointer (some (E 7))), .iface 171 (.pointer (some (E 8)))] 28)) = w3 at *
  clear hw3
  go_loop [3, 27] (fun p c => ∃ i : Nat, i ≤ k ∧ p = .int .i64 a ∧ c = .int .i64 i) (fun _ c => k - (intOf c).toNat)
  case atStart => exact ⟨0, by omega, rfl, rfl⟩
  case round =>
    obtain ⟨i, hi, rfl, rfl⟩ := hrel
    have hc := HC.out i (by omega)
    obtain ⟨ca, ta, ha⟩ := HE3.out.row k hk
    obtain ⟨cb, tb, hb⟩ := HE3.out.row i (by omega)
    have HA := Lib.hid ha
    have HB := Lib.hid hb
    clear ha hb
    by_cases hik : i = k
    · subst hik
      go_wp2_with fail
      refine (is_fault_same F _ _ HF3.out).mono ?_
      rintro e w4 ⟨rfl, rfl⟩
      go_wp2_with fail
      go_ret2
      exact ⟨rfl, HX3.out⟩
    · have hne := HE3.out.ne k i hk (by omega) (fun e => hik e.symm)
      have HN := Lib.hid hne
      clear hne
      go_wp2_with fail
      refine (is_fault_other F _ _ ca cb ta tb _ HF3.out HN.out HA.out HB.out).mono ?_
      rintro e w4 ⟨rfl, rfl⟩
      go_wp2_with fail
      go_round
      case rel => exact ⟨i + 1, by omega, rfl, by go_num⟩
      case measure => simp [intOf]; omega
theorem code_any (w : World) (E : Nat → Addr) (hE : Errs w E) (v : Value) (c a : Int) (h : ErrV w E v c a) : Calls Tryd.prog 63 #[v] w fun e w' => e = .returned (.tuple #[.int .i64 c, .int .i64 a]) ∧ Ext w w' := by
  cases h with
  | nil => exact code_nil w
  | sent k hk => exact code_sent w E hE k hk
  | fault k F a hk h h1 h2 => exact code_fault w E hE k F a hk h
end Go.Proofs.YtkfjcgcgfdibaaaDoor
namespace Go.Proofs.YtkfjcgcgfdibaaaDoor
open Go.RowKit
set_option maxRecDepth 100000
def sideB (n : Int) : Bool := decide (1 ≤ n ∧ n ≤ 256)
theorem sideB_yes {n : Int} (h : sideB n = true) : 1 ≤ n ∧ n ≤ 256 := of_decide_eq_true h
theorem sideB_no {n : Int} (h : sideB n = false) : ¬ (1 ≤ n ∧ n ≤ 256) := of_decide_eq_false h
theorem side_any (n : Int) (w : World) : Calls Tryd.prog 60 #[.int .i64 n] w fun e w' => e = .returned (.bool (sideB n)) ∧ w = w' := by
  by_cases h1 : 1 ≤ n
  · by_cases h2 : n ≤ 256
    · go_enter Tryd.func60, Tryd.ntmps60
      go_wp2_with fail
      go_ret
      exact ⟨ret_bool (by unfold sideB; simp; omega), rfl⟩
    · go_enter Tryd.func60, Tryd.ntmps60
      go_wp2_with fail
      go_ret
      exact ⟨ret_bool (by unfold sideB; simp; omega), rfl⟩
  · go_enter Tryd.func60, Tryd.ntmps60
    go_wp2_with fail
    go_ret
    exact ⟨ret_bool (by unfold sideB; simp; omega), rfl⟩
theorem refSide_any (n : Int) (w : World) : Calls Tryd.prog 21 #[.int .i64 n] w fun e w' => e = .returned (.bool (sideB n)) ∧ w = w' := by
  by_cases h1 : 1 ≤ n
  · by_cases h2 : n ≤ 256
    · go_enter Tryd.func21, Tryd.ntmps21
      go_wp2_with fail
      go_ret
      exact ⟨ret_bool (by unfold sideB; simp; omega), rfl⟩
    · go_enter Tryd.func21, Tryd.ntmps21
      go_wp2_with fail
      go_ret
      exact ⟨ret_bool (by unfold sideB; simp; omega), rfl⟩
  · go_enter Tryd.func21, Tryd.ntmps21
    go_wp2_with fail
    go_ret
    exact ⟨ret_bool (by unfold sideB; simp; omega), rfl⟩
def rightB (W H : Int) (n : Nat) : Bool := sideB W && sideB H && decide ((n : Int) = W * H)
theorem rightB_yes {W H : Int} {n : Nat} (h : rightB W H n = true) : ∃ a b : Nat, W = a ∧ H = b ∧ 1 ≤ a ∧ a ≤ 256 ∧ 1 ≤ b ∧ b ≤ 256 ∧ n = a * b := by
  unfold rightB at h
  simp only [Bool.and_eq_true, decide_eq_true_eq] at h
  obtain ⟨⟨h1, h2⟩, h3⟩ := h
  have q1 := sideB_yes h1
  have q2 := sideB_yes h2
  refine ⟨W.toNat, H.toNat, by omega, by omega, by omega, by omega, by omega, by omega, ?_⟩
  have e : ((W.toNat * H.toNat : Nat) : Int) = W * H := by rw [Int.natCast_mul, Int.toNat_of_nonneg (by omega), Int.toNat_of_nonneg (by omega)]
  omega
theorem prod_bd {W H : Int} (h1 : sideB W = true) (h2 : sideB H = true) : 0 ≤ W * H ∧ W * H ≤ 65536 := by
  have q1 := sideB_yes h1
  have q2 := sideB_yes h2
  exact ⟨Int.mul_nonneg (by omega) (by omega), Int.le_trans (Int.mul_le_mul q1.2 q2.2 (by omega) (by omega)) (by decide)⟩
theorem right_any (W H : Int) (x : Option Addr) (n cap : Nat) (w : World) :
    Calls Tryd.prog 70 #[.agg #[.int .i64 W, .int .i64 H, .slice x n cap]] w fun e w' => e = .returned (.bool (rightB W H n)) ∧ Ext w w' := by
  have hX : Ext w (w.alloc (.cells #[.int .i64 W, .int .i64 H, .slice x n cap] 24)) := (Ext.refl _).alloc _
  have HX := Lib.hid hX
  clear hX
  by_cases h1 : sideB W = true
  · by_cases h2 : sideB H = true
    · obtain ⟨p1, p2⟩ := prod_bd h1 h2
      have H12 := Lib.hid (show sideB W = true ∧ sideB H = true from ⟨h1, h2⟩)
      go_enter Tryd.func70, Tryd.ntmps70
      go_wp2_with fail
      refine (side_any W _).mono ?_
      rintro e w2 ⟨rfl, rfl⟩
      go_wp2_with fail
      refine (side_any H _).mono ?_
      rintro e w2 ⟨rfl, rfl⟩
      go_wp2_with fail
      go_ret
      refine ⟨ret_bool ?_, HX.out⟩
      unfold rightB; rw [H12.out.1, H12.out.2]
      simp only [Bool.true_and]
      rw [Bool.eq_iff_iff]; simp
    · have h2' : sideB H = false := by simpa using h2
      clear h2
      have H12 := Lib.hid (show sideB W = true ∧ sideB H = false from ⟨h1, h2'⟩)
      go_enter Tryd.func70, Tryd.ntmps70
      go_wp2_with fail
      refine (side_any W _).mono ?_
      rintro e w2 ⟨rfl, rfl⟩
      go_wp2_with fail
      refine (side_any H _).mono ?_
      rintro e w2 ⟨rfl, rfl⟩
      go_wp2_with fail
      go_ret
      refine ⟨ret_bool ?_, HX.out⟩
      unfold rightB; rw [H12.out.1, H12.out.2]; rfl
  · have h1' : sideB W = false := by simpa using h1
    clear h1
    have H12 := Lib.hid h1'
    go_enter Tryd.func70, Tryd.ntmps70
    go_wp2_with fail
    refine (side_any W _).mono ?_
    rintro e w2 ⟨rfl, rfl⟩
    go_wp2_with fail
    go_ret
    refine ⟨ret_bool ?_, HX.out⟩
    unfold rightB; rw [H12.out]; rfl
theorem refRight_any (W H : Int) (x : Option Addr) (n cap : Nat) (w : World) :
    Calls Tryd.prog 15 #[.agg #[.int .i64 W, .int .i64 H, .slice x n cap]] w fun e w' => e = .returned (.bool (rightB W H n)) ∧ Ext w w' := by
  have hX : Ext w (w.alloc (.cells #[.int .i64 W, .int .i64 H, .slice x n cap] 24)) := (Ext.refl _).alloc _
  have HX := Lib.hid hX
  clear hX
  by_cases h1 : sideB W = true
  · by_cases h2 : sideB H = true
    · obtain ⟨p1, p2⟩ := prod_bd h1 h2
      have H12 := Lib.hid (show sideB W = true ∧ sideB H = true from ⟨h1, h2⟩)
      go_enter Tryd.func15, Tryd.ntmps15
      go_wp2_with fail
      refine (refSide_any W _).mono ?_
      rintro e w2 ⟨rfl, rfl⟩
      go_wp2_with fail
      refine (refSide_any H _).mono ?_
      rintro e w2 ⟨rfl, rfl⟩
      go_wp2_with fail
      go_ret
      refine ⟨ret_bool ?_, HX.out⟩
      unfold rightB; rw [H12.out.1, H12.out.2]
      simp only [Bool.true_and]
      rw [Bool.eq_iff_iff]; simp
    · have h2' : sideB H = false := by simpa using h2
      clear h2
      have H12 := Lib.hid (show sideB W = true ∧ sideB H = false from ⟨h1, h2'⟩)
      go_enter Tryd.func15, Tryd.ntmps15
      go_wp2_with fail
      refine (refSide_any W _).mono ?_
      rintro e w2 ⟨rfl, rfl⟩
      go_wp2_with fail
      refine (refSide_any H _).mono ?_
      rintro e w2 ⟨rfl, rfl⟩
      go_wp2_with fail
      go_ret
      refine ⟨ret_bool ?_, HX.out⟩
      unfold rightB; rw [H12.out.1, H12.out.2]; rfl
  · have h1' : sideB W = false := by simpa using h1
    clear h1
    have H12 := Lib.hid h1'
    go_enter Tryd.func15, Tryd.ntmps15
    go_wp2_with fail
    refine (refSide_any W _).mono ?_
    rintro e w2 ⟨rfl, rfl⟩
    go_wp2_with fail
    go_ret
    refine ⟨ret_bool ?_, HX.out⟩
    unfold rightB; rw [H12.out]; rfl
theorem small_any (W H : Int) (x : Option Addr) (n cap : Nat) (w : World) (hn : n ≤ maxLen) :
    Calls Tryd.prog 14 #[.agg #[.int .i64 W, .int .i64 H, .slice x n cap]] w fun e w' => e = .returned (.bool (decide (n ≤ 3000))) ∧ Ext w w' := by
  unfold maxLen at hn
  go_enter Tryd.func14, Tryd.ntmps14
  go_wp2_with fail
  go_ret
  exact ⟨ret_bool (by simp; omega), (Ext.refl _).alloc _⟩
def sentE (a : Addr) : Value := .iface 171 (.pointer (some a))
/-- what 'check' says -/
theorem check_shape (W H : Int) (x : Option Addr) (n cap : Nat) (b : Bool) (w : World) (E : Nat → Addr) (hE : Errs w E) (h : rightB W H n = false) :
    Calls Tryd.prog 55 #[.agg #[.int .i64 W, .int .i64 H, .slice x n cap], .bool b] w fun e w' => e = .returned (.iface 171 (.pointer (some (E 2)))) ∧ Ext w w' := by
  have HE := Lib.hid hE
  have HH := Lib.hid h
  clear hE h
  go_enter Tryd.func55, Tryd.ntmps55
  go_wp2_with fail
  refine (right_any W H x n cap _).mono ?_
  rintro e w2 ⟨rfl, h2⟩
  have X2 := Lib.hid (Ext.trans (Ext.alloc (Ext.refl w) _) h2)
  clear h2
  rw [HH.out]
  have hv := (HE.out.ext X2.out).var 2 (by decide)
  simp only [gk, sentV] at hv
  go_wp2_with fail
  go_ret
  exact ⟨rfl, X2.out⟩
theorem check_bound (W H : Int) (x : Option Addr) (n cap : Nat) (w : World) (E : Nat → Addr) (hE : Errs w E) (h : rightB W H n = true) :
    Calls Tryd.prog 55 #[.agg #[.int .i64 W, .int .i64 H, .slice x n cap], .bool false] w fun e w' => e = .returned (.iface 171 (.pointer (some (E 1)))) ∧ Ext w w' := by
  have HE := Lib.hid hE
  have HH := Lib.hid h
  clear hE h
  go_enter Tryd.func55, Tryd.ntmps55
  go_wp2_with fail
  refine (right_any W H x n cap _).mono ?_
  rintro e w2 ⟨rfl, h2⟩
  have X2 := Lib.hid (Ext.trans (Ext.alloc (Ext.refl w) _) h2)
  clear h2
  rw [HH.out]
  have hv := (HE.out.ext X2.out).var 1 (by decide)
  simp only [gk, sentV] at hv
  go_wp2_with fail
  go_ret
  exact ⟨rfl, X2.out⟩
theorem check_ok (W H : Int) (x : Option Addr) (n cap : Nat) (w : World) (h : rightB W H n = true) :
    Calls Tryd.prog 55 #[.agg #[.int .i64 W, .int .i64 H, .slice x n cap], .bool true] w fun e w' => e = .returned .nilIface ∧ Ext w w' := by
  have HH := Lib.hid h
  clear h
  go_enter Tryd.func55, Tryd.ntmps55
  go_wp2_with fail
  refine (right_any W H x n cap _).mono ?_
  rintro e w2 ⟨rfl, h2⟩
  have X2 := Lib.hid (Ext.trans (Ext.alloc (Ext.refl w) _) h2)
  clear h2
  rw [HH.out]
  go_wp2_with fail
  go_ret
  exact ⟨rfl, X2.out⟩
end Go.Proofs.YtkfjcgcgfdibaaaDoor
namespace Go.Proofs.YtkfjcgcgfdibaaaDoor
open Go.RowKit
set_option maxRecDepth 100000
attribute [local go_sem ↓] Go.wp_at_zero Go.wp_at_succ
/-- places of a picture, row by row -/
def lin (wide : Nat) (px : Nat → Nat → P4) (i : Nat) : P4 := px (i % wide) (i / wide)
theorem lin_at (wide : Nat) (px : Nat → Nat → P4) (x y : Nat) (hx : x < wide) : lin wide px (y * wide + x) = px x y := by
  unfold lin
  rw [Nat.mul_comm, Nat.mul_add_mod, Nat.mod_eq_of_lt hx, Nat.mul_add_div (by omega), Nat.div_eq_of_lt hx, Nat.add_zero]
theorem enters_fn {P : Program} {f : FuncId} {fn : Func} {c : Code} (hf : P.funcs[f]? = some fn) (hname : (fn.name == "runtime.NumGoroutine") = false) (hb : fn.body = some c) (args : Array Value) (w : World) : (callFunc f args).run P w = .ok (.enter f args) w := by
  have h1 : fn.name ≠ "runtime.NumGoroutine" := by simpa using hname
  simp [callFunc, hf, h1, hb, mark]
theorem own_slice {w : World} {base : Nat} {e : TypeId} {size : Nat} {v : Value} {n : Nat} {xs : List Value} (h : w.ownsRow base e size v n xs) : ∃ x c, v = .slice x n c := by
  rcases ownsRow_slice h with ⟨h1, h2⟩ | ⟨g, cap, h1⟩
  · exact ⟨none, 0, by rw [h1, h2]⟩
  · exact ⟨_, cap, h1⟩
/-- what 'each' holds while it goes -/
structure EAt (w wr : World) (W H : Int) (v : Value) (k : Nat) (px : Nat → P4) : Prop where
  ext : Ext w wr
  res : PicAt wr w.heap.size 0 0 (.slice none 0 0)
  pic : PicAt wr (w.heap.size + 1) W H v
  fr : ∀ j, wr.frozen? ⟨w.heap.size, j, none⟩ = false
  fp : ∀ j, wr.frozen? ⟨w.heap.size + 1, j, none⟩ = false
  own : wr.ownsRow w.heap.size 36 4 v k (pxV k px)
  ne : v.ownBlock ≠ some w.heap.size ∧ v.ownBlock ≠ some (w.heap.size + 1)
/-- one pixel more -/
theorem each_push {w wr w2 w3 : World} {W H : Int} {v v' : Value} {k : Nat} {px : Nat → P4} {t : TypeId} {g : Nat} {p : P4} (hp : px k = p) (h : EAt w wr W H v k px) (hx : Ext wr.drew w2) (hgrow : (w2.alloc (.cells #[.int .u8 p.r, .int .u8 p.g, .int .u8 p.b, .int .u8 p.a] t)).grownBy w3 v.ownBlock)
    (hown : w3.ownsRow w.heap.size 36 4 v' (k + 1) (pxV k px ++ [.int .u8 p.r, .int .u8 p.g, .int .u8 p.b, .int .u8 p.a])) (hv : v'.ownBlock = some g) (hat : v.ownBlock = some g ∨ g = w2.heap.size + 1) :
    w3.cell? ⟨w.heap.size + 1, 2, none⟩ = some v ∧ w3.frozen? ⟨w.heap.size + 1, 2, none⟩ = false ∧ EAt w (w3.setCell ⟨w.heap.size + 1, 2, none⟩ v') W H v' (k + 1) px := by
  subst hp
  have hT : w.heap.size + 1 < wr.heap.size := World.block_lt_of_cell? wr _ h.pic.c0
  have hs : wr.heap.size ≤ w2.heap.size := hx.size
  have hkk : Keeps (fun k => v.ownBlock = some k) wr w3 := Keeps.trans (Keeps.alloc (Ext.keeps (a := wr) (show Ext wr w2 from ⟨hx.os, hx.tape, hx.output, hx.size, hx.block⟩)) _) (Keeps.grown hgrow) (fun _ _ q => q)
  have n0 : ¬ v.ownBlock = some w.heap.size := h.ne.1
  have n1 : ¬ v.ownBlock = some (w.heap.size + 1) := h.ne.2
  have cc : ∀ b j, b < wr.heap.size → ¬ v.ownBlock = some b → w3.cell? ⟨b, j, none⟩ = wr.cell? ⟨b, j, none⟩ := fun b j hb hn => hkk.cell (p := ⟨b, j, none⟩) hb hn
  have ff : ∀ b j, b < wr.heap.size → ¬ v.ownBlock = some b → w3.frozen? ⟨b, j, none⟩ = wr.frozen? ⟨b, j, none⟩ := fun b j hb hn => hkk.frozen (p := ⟨b, j, none⟩) hb hn
  have hng : v'.ownBlock ≠ some w.heap.size ∧ v'.ownBlock ≠ some (w.heap.size + 1) := by
    rw [hv]
    rcases hat with q | q
    · exact ⟨fun e => n0 (q.trans e), fun e => n1 (q.trans e)⟩
    · exact ⟨fun e => by injection e with e; omega, fun e => by injection e with e; omega⟩
  have hE : Ext w w3 := Below.trans h.ext (hkk.below h.ext.size (fun k hk q => by have := (h.own.lt k q).1; omega))
  have e0 : ∀ j, (⟨w.heap.size + 1, 2, none⟩ : Addr) ≠ ⟨w.heap.size, j, none⟩ := fun j e => by injection e with e; omega
  have e1 : ∀ j, j ≠ 2 → (⟨w.heap.size + 1, 2, none⟩ : Addr) ≠ ⟨w.heap.size + 1, j, none⟩ := fun j hj e => by injection e with _ e; exact hj e.symm
  refine ⟨(cc _ 2 hT n1).trans h.pic.c2, (ff _ 2 hT n1).trans (h.fp 2), ⟨hE.setCell (by show w.heap.size ≤ w.heap.size + 1; omega) _, ⟨?_, ?_, ?_⟩, ⟨?_, ?_, ?_⟩, ?_, ?_, ?_, hng⟩⟩
  · exact (World.cell?_setCell_other _ _ _ _ (e0 0)).trans ((cc _ 0 (by omega) n0).trans h.res.c0)
  · exact (World.cell?_setCell_other _ _ _ _ (e0 1)).trans ((cc _ 1 (by omega) n0).trans h.res.c1)
  · exact (World.cell?_setCell_other _ _ _ _ (e0 2)).trans ((cc _ 2 (by omega) n0).trans h.res.c2)
  · exact (World.cell?_setCell_other _ _ _ _ (e1 0 (by decide))).trans ((cc _ 0 hT n1).trans h.pic.c0)
  · exact (World.cell?_setCell_other _ _ _ _ (e1 1 (by decide))).trans ((cc _ 1 hT n1).trans h.pic.c1)
  · exact World.cell?_setCell_same _ _ _ ((cc _ 2 hT n1).trans h.pic.c2)
  · intro j; rw [World.frozen?_setCell]; exact (ff _ j (by omega) n0).trans (h.fr j)
  · intro j; rw [World.frozen?_setCell]; exact (ff _ j hT n1).trans (h.fp j)
  · rw [pxV_succ]; exact ownsRow_setCell_other hown hng.2 _
/-- out of a closure that gives each pixel -/
theorem each_any (f : Nat) (cs : Array Value) (wide high : Nat) (px : Nat → Nat → P4) (w : World) (hw : wide ≤ 10000) (hh : high ≤ 10000) (hen : ∀ (args : Array Value) (w : World), (callFunc f args).run Tryd.prog w = .ok (.enter f args) w)
    (hcall : ∀ x y w1, Ext w w1 → x < wide → y < high → Calls Tryd.prog f (#[.int .i64 (x : Int), .int .i64 (y : Int)] ++ cs) w1 fun e w2 => e = .returned (.agg #[.int .u8 (px x y).r, .int .u8 (px x y).g, .int .u8 (px x y).b, .int .u8 (px x y).a]) ∧ Ext w1 w2) :
    Calls Tryd.prog 56 #[.int .i64 (wide : Int), .int .i64 (high : Int), .func (.func f) #[] cs] w fun e w' => (∃ v, e = .returned (.agg #[.int .i64 (wide : Int), .int .i64 (high : Int), v]) ∧ w'.ownsRow w.heap.size 36 4 v (wide * high) (pxV (wide * high) (lin wide px))) ∧ Ext w w' := by
  have HC := Lib.hid hcall
  clear hcall
  obtain ⟨i0, hi0, hz0, hz1, hz2⟩ := info_parts pixinfo
  go_enter Tryd.func56, Tryd.ntmps56
  go_wp2_with fail
  refine wp_world (fun wz => EAt w wz (wide : Int) (high : Int) (.slice none 0 0) (0 * wide) (lin wide px)) ?_ ?_
  · refine ⟨(Ext.refl _).alloc _ |>.alloc _, ?_, ?_, ?_, ?_, ?_, ?_⟩
    · exact (PicAt.new w 0 0 (.slice none 0 0) 24).ext ((Ext.refl _).alloc _)
    · have := PicAt.new (w.alloc (.cells #[.int .i64 0, .int .i64 0, .slice none 0 0] 24)) (wide : Int) (high : Int) (.slice none 0 0) 24
      simpa using this
    · intro j; rw [World.frozen?_alloc_past _ _ _ (by simp)]; exact World.frozen?_alloc_at _ _ _ _ rfl
    · intro j; exact World.frozen?_alloc_at _ _ _ _ (by simp)
    · rw [Nat.zero_mul]; exact World.ownsRow_nil _ _ _ _
    · exact ⟨(fun e => by cases e), (fun e => by cases e)⟩
  intro wz hE
  have HE := Lib.hid hE
  clear hE
  go_loopw [14] (fun c wr => ∃ (y : Nat) (v : Value), y ≤ high ∧ c = .int .i64 y ∧ Hid (EAt w wr (wide : Int) (high : Int) v (y * wide) (lin wide px))) (fun c _ => high - (intOf c).toNat)
  case atStart => exact ⟨0, _, by omega, rfl, HE⟩
  case round =>
    clear HE
    obtain ⟨y, v, hy, rfl, HE⟩ := hrel
    by_cases hlt : y < high
    · go_wp2_with fail
      go_loopw [18] (fun c wr => ∃ (x : Nat) (v : Value), x ≤ wide ∧ c = .int .i64 x ∧ Hid (EAt w wr (wide : Int) (high : Int) v (y * wide + x) (lin wide px))) (fun c _ => wide - (intOf c).toNat)
      case atStart => exact ⟨0, v, by omega, rfl, HE⟩
      case round =>
        clear HE
        obtain ⟨x, v, hx, rfl, HE⟩ := hrel
        by_cases hlx : x < wide
        · have c2 := HE.out.pic.c2
          have f2 := HE.out.fp 2
          have own := HE.out.own
          have hk : y * wide + x < 100000000 := by
            have : y * wide ≤ 9999 * 10000 := Nat.mul_le_mul (by omega) hw
            omega
          go_wp2_with fail
          have hT : w.heap.size + 1 < wr.heap.size := World.block_lt_of_cell? wr _ c2
          have hdz : wr.drew.heap.size = wr.heap.size := rfl
          go_region_law
            (first
              | ((go_simp; refine (HC.out x y _ (by first | exact HE.out.ext | exact Below.drew HE.out.ext) hlx hlt).mono ?_; rintro e w2 ⟨rfl, hx2⟩; have hwz := hx2.size; have c2' := (hx2.cell (p := ⟨w.heap.size + 1, 2, none⟩) hT).trans c2; have c2'' : ∀ o : Obj, (w2.alloc o).cell? ⟨w.heap.size + 1, 2, none⟩ = some v := fun o => (World.cell?_alloc_past _ _ _ (show w.heap.size + 1 < w2.heap.size by omega)).trans c2'; go_simp))
              | ((refine step_append_lies _ (by rfl) _ _ _ (by rfl) w.heap.size 36 i0 _ 4 4 Tryd.underlying22 hi0 hz0 hz1 hz2 rfl (by omega) v (y * wide + x) (pxV (y * wide + x) (lin wide px)) (by rfl) (World.ownsRow.alloc (ownsRow_kept (w := wr.drew) (S := fun _ => False) own hx2.keeps (fun _ _ => id)) _) ⟨w2.heap.size, 0, none⟩ 1 1 [.int .u8 (px x y).r, .int .u8 (px x y).g, .int .u8 (px x y).b, .int .u8 (px x y).a] (by rfl) (by rfl) (World.news_of_block (cs := #[.int .u8 (px x y).r, .int .u8 (px x y).g, .int .u8 (px x y).b, .int .u8 (px x y).a]) (t := 36) (fr := (0, 0)) (heap_alloc_new w2 _)) (by simp [Value.oneCell']) (by omega) (by unfold maxLen; omega) (by omega) (by simp; omega) (w2.heap.size + 1) (by simp) ?_; intro g cap w3 hown hgrow hat hlg; have P := each_push (lin_at wide px x y hlx) HE.out hx2 hgrow hown rfl hat; have c3 := P.1; have f3 := P.2.1; have P3 := Lib.hid P.2.2; clear P)))
          all_goals
            clear c3 f3 hown hgrow hat hlg
            go_wp2_with fail
            go_roundw
            case rel => exact ⟨x + 1, _, by omega, by go_num, P3⟩
            case measure => simp [intOf]; omega
        · obtain rfl : x = wide := by omega
          go_wp2_with fail
          go_roundw
          case rel => exact ⟨y + 1, v, by omega, by go_num, by rw [Nat.succ_mul]; exact HE⟩
          case measure => simp [intOf]; omega
    · obtain rfl : y = high := by omega
      obtain ⟨x, c, rfl⟩ := own_slice HE.out.own
      have c0 := HE.out.pic.c0
      have c1 := HE.out.pic.c1
      have c2 := HE.out.pic.c2
      have d0 := HE.out.res.c0
      have d1 := HE.out.res.c1
      have d2 := HE.out.res.c2
      have e0 := HE.out.fr 0
      have e1 := HE.out.fr 1
      have e2 := HE.out.fr 2
      go_wp2_with fail
      have P := HE.out.res.set (W' := (wide : Int)) (H' := (y : Int)) (v' := .slice x (y * wide) c)
      have k0 := P.c0
      have k1 := P.c1
      have k2 := P.c2
      have own := ownsRow_set3 HE.out.own HE.out.ne.1 (.int .i64 (wide : Int)) (.int .i64 (y : Int)) (.slice x (y * wide) c)
      have hX := HE.out.ext.set3 (Nat.le_refl _) (.int .i64 (wide : Int)) (.int .i64 (y : Int)) (.slice x (y * wide) c)
      clear P c0 c1 c2 d0 d1 d2 e0 e1 e2
      rw [Nat.mul_comm y wide] at *
      exact bodyPost_ret (v := .agg #[.int .i64 (wide : Int), .int .i64 (y : Int), .slice x (wide * y) c]) (by simp [results, Tryd.results56, go_sem, k0, k1, k2]) rfl ⟨⟨_, rfl, own⟩, hX⟩
end Go.Proofs.YtkfjcgcgfdibaaaDoor
namespace Go.Proofs.YtkfjcgcgfdibaaaDoor
open Go.RowKit
set_option maxRecDepth 100000
theorem add_add4 (a : Addr) (i c : Nat) (hc : c ≠ 0) : a.add (i * 4 + c) = ⟨(a.add (i * 4)).block, (a.add (i * 4)).off + c, none⟩ := by
  unfold Addr.add
  rw [if_neg (by omega)]
  split
  · rename_i h
    have : i = 0 := by omega
    subst this; simp
  · simp [Nat.add_assoc]
/-- the cells of a row, one behind the other -/
theorem Pxs.cells {w : World} {a : Addr} {n : Nat} {px : Nat → P4} (h : Pxs w (some a) n px) (j : Nat) (u : Value) (hj : (pxV n px)[j]? = some u) : w.cell? (a.add j) = some u := by
  have hl : j < n * 4 := by
    rcases Nat.lt_or_ge j (n * 4) with q | q
    · exact q
    · rw [List.getElem?_eq_none (by rw [pxV_length]; exact q)] at hj; cases hj
  rw [pxV_get _ _ _ hl] at hj
  injection hj with hj
  subst hj
  obtain ⟨c0, c1, c2, c3, _⟩ := h.2 a rfl (j / 4) (by omega)
  obtain ⟨i, c, rfl, hc⟩ : ∃ i c, j = i * 4 + c ∧ c < 4 := ⟨j / 4, j % 4, by omega, by omega⟩
  rw [show (i * 4 + c) / 4 = i by omega] at c0 c1 c2 c3
  match c, hc with
  | 0, _ => rw [Nat.add_zero, cellP_0]; exact c0
  | 1, _ => rw [cellP_1, add_add4 _ _ _ (by decide)]; exact c1
  | 2, _ => rw [cellP_2, add_add4 _ _ _ (by decide)]; exact c2
  | 3, _ => rw [cellP_3, add_add4 _ _ _ (by decide)]; exact c3
theorem cells_one (n : Nat) (px : Nat → P4) : ∀ u ∈ pxV n px, u.oneCell' = true := by
  intro u hu
  obtain ⟨j, _, rfl⟩ := List.mem_map.1 hu
  exact cellP_one px j
/-- three variables that hold pictures, made one behind the other -/
theorem three_pics {w w1 : World} {W H : Int} {u : Value}
    (hg : Ext (((w.alloc (.cells #[.int .i64 W, .int .i64 H, u] 24)).alloc (.cells #[.int .i64 0, .int .i64 0, .slice none 0 0] 24)).alloc (.cells #[.int .i64 W, .int .i64 H, .slice none 0 0] 24)) w1) :
    PicAt w1 (w.heap.size + 1) 0 0 (.slice none 0 0) ∧ PicAt w1 (w.heap.size + 1 + 1) W H (.slice none 0 0) ∧ (∀ j, w1.frozen? ⟨w.heap.size + 1, j, none⟩ = false) ∧ (∀ j, w1.frozen? ⟨w.heap.size + 1 + 1, j, none⟩ = false) ∧ Ext w w1 := by
  have s1 : (w.alloc (.cells #[.int .i64 W, .int .i64 H, u] 24)).heap.size = w.heap.size + 1 := World.size_alloc _ _
  have e1 : Ext w (w.alloc (.cells #[.int .i64 W, .int .i64 H, u] 24)) := (Ext.refl w).alloc _
  generalize w.alloc (.cells #[.int .i64 W, .int .i64 H, u] 24) = wa at *
  have P1 := PicAt.new wa 0 0 (.slice none 0 0) 24
  have f1 : ∀ j, (wa.alloc (.cells #[.int .i64 0, .int .i64 0, .slice none 0 0] 24)).frozen? ⟨wa.heap.size, j, none⟩ = false := fun j => World.frozen?_alloc_at _ _ _ _ rfl
  have s2 : (wa.alloc (.cells #[.int .i64 0, .int .i64 0, .slice none 0 0] 24)).heap.size = wa.heap.size + 1 := World.size_alloc _ _
  have e2 : Ext wa (wa.alloc (.cells #[.int .i64 0, .int .i64 0, .slice none 0 0] 24)) := (Ext.refl wa).alloc _
  generalize wa.alloc (.cells #[.int .i64 0, .int .i64 0, .slice none 0 0] 24) = wb at *
  have P2 := PicAt.new wb W H (.slice none 0 0) 24
  have f2 : ∀ j, (wb.alloc (.cells #[.int .i64 W, .int .i64 H, .slice none 0 0] 24)).frozen? ⟨wb.heap.size, j, none⟩ = false := fun j => World.frozen?_alloc_at _ _ _ _ rfl
  have s3 : (wb.alloc (.cells #[.int .i64 W, .int .i64 H, .slice none 0 0] 24)).heap.size = wb.heap.size + 1 := World.size_alloc _ _
  have e3 : Ext wb (wb.alloc (.cells #[.int .i64 W, .int .i64 H, .slice none 0 0] 24)) := (Ext.refl wb).alloc _
  generalize wb.alloc (.cells #[.int .i64 W, .int .i64 H, .slice none 0 0] 24) = wc at *
  rw [s1] at P1 f1 s2
  rw [s2] at P2 f2 s3
  refine ⟨(P1.ext e3).ext hg, P2.ext hg, fun j => ?_, fun j => ?_, ((e1.trans e2).trans e3).trans hg⟩
  · exact (hg.frozen (p := ⟨w.heap.size + 1, j, none⟩) (by show w.heap.size + 1 < _; omega)).trans ((e3.frozen (p := ⟨w.heap.size + 1, j, none⟩) (by show w.heap.size + 1 < _; omega)).trans (f1 j))
  · exact (hg.frozen (p := ⟨w.heap.size + 1 + 1, j, none⟩) (by show w.heap.size + 1 + 1 < _; omega)).trans (f2 j)
theorem owns_based {w : World} {b b' : Nat} {e : TypeId} {size : Nat} {v : Value} {n : Nat} {xs : List Value} (h : w.ownsRow b e size v n xs) (hb : b' ≤ b) : w.ownsRow b' e size v n xs := by
  obtain ⟨h1, h2⟩ := h
  refine ⟨h1, ?_⟩
  rcases h2 with h2 | ⟨g, cap, cur, hv, hg, r⟩
  · exact .inl h2
  · exact .inr ⟨g, cap, cur, hv, by omega, r⟩
theorem own_any (W H : Int) (x : Option Addr) (n cap : Nat) (px : Nat → P4) (w : World) (hx : Pxs w x n px) (h0 : x = none → cap = 0) (hn : n ≤ 10000000) :
    Calls Tryd.prog 17 #[.agg #[.int .i64 W, .int .i64 H, .slice x n cap]] w fun e w' => (∃ v, e = .returned (.agg #[.int .i64 W, .int .i64 H, v]) ∧ w'.ownsRow w.heap.size 36 4 v n (pxV n px)) ∧ Ext w w' := by
  obtain ⟨i0, hi0, hz0, hz1, hz2⟩ := info_parts pixinfo
  have HX := Lib.hid hx
  clear hx
  cases x with
  | none =>
    obtain rfl := HX.out.1 rfl
    obtain rfl := h0 rfl
    go_enter Tryd.func17, Tryd.ntmps17
    go_wp2_with (at_builtin; refine wpList_append_own_none rfl _ _ 22 rfl 0 36 i0 4 Tryd.underlying22 hi0 (.slice none 0 0) 0 [] rfl (World.ownsRow_nil _ _ _ _) rfl ?_)
    exact bodyPost_ret (v := .agg #[.int .i64 W, .int .i64 H, .slice none 0 0]) (by simp [results, Tryd.results17, go_sem]) rfl ⟨⟨_, rfl, World.ownsRow_nil _ _ _ _⟩, (((Ext.refl _).alloc _).alloc _).alloc _⟩
  | some a =>
    have HA := Lib.hid HX.out.cells
    have HXA : Hid (Pxs (((w.alloc (.cells #[.int .i64 W, .int .i64 H, .slice (some a) n cap] 24)).alloc (.cells #[.int .i64 0, .int .i64 0, .slice none 0 0] 24)).alloc (.cells #[.int .i64 W, .int .i64 H, .slice none 0 0] 24)) (some a) n px) := Lib.hid (HX.out.ext ((((Ext.refl _).alloc _).alloc _).alloc _))
    go_enter Tryd.func17, Tryd.ntmps17
    go_wp2_with (at_builtin; refine wpList_append_own_at _ rfl _ _ 22 rfl (w.heap.size + 3) 36 i0 _ 4 4 Tryd.underlying22 hi0 hz0 hz1 hz2 rfl (by decide) (.slice none 0 0) 0 [] rfl (World.ownsRow_nil _ _ _ _) a n cap (pxV n px) rfl (pxV_length _ _) HXA.out.cells (cells_one _ _) ?c3 ?c4 ?c5 ?_)
    case c3 => unfold maxLen; omega
    case c4 => omega
    case c5 => simp
    intro v' w1 hown hgrow _ _
    have P := three_pics ((Keeps.grown hgrow).below (Nat.le_refl _) (fun k _ q => by cases q))
    obtain ⟨x', c', rfl⟩ := own_slice hown
    have hb : (Value.slice x' n c').ownBlock ≠ some (w.heap.size + 1) ∧ (Value.slice x' n c').ownBlock ≠ some (w.heap.size + 1 + 1) := ⟨fun e => by have := (hown.lt _ e).1; omega, fun e => by have := (hown.lt _ e).1; omega⟩
    have hown1 : (w1.setCell ⟨w.heap.size + 1 + 1, 2, none⟩ (.slice x' n c')).ownsRow (w.heap.size + 3) 36 4 (.slice x' n c') n (pxV n px) := ownsRow_setCell_other hown hb.2 _
    have e2 : ∀ j, (⟨w.heap.size + 1 + 1, 2, none⟩ : Addr) ≠ ⟨w.heap.size + 1, j, none⟩ := fun j e => by injection e with e; omega
    have HP := Lib.hid P
    have HO := Lib.hid hown1
    have HB := Lib.hid hb
    have e3 : ∀ j, j ≠ 2 → (⟨w.heap.size + 1 + 1, 2, none⟩ : Addr) ≠ ⟨w.heap.size + 1 + 1, j, none⟩ := fun j hj e => by injection e with _ e; exact hj e.symm
    have c0 : (w1.setCell ⟨w.heap.size + 1 + 1, 2, none⟩ (.slice x' n c')).cell? ⟨w.heap.size + 1 + 1, 0, none⟩ = some (.int .i64 W) := (World.cell?_setCell_other _ _ _ _ (e3 0 (by decide))).trans P.2.1.c0
    have c1 : (w1.setCell ⟨w.heap.size + 1 + 1, 2, none⟩ (.slice x' n c')).cell? ⟨w.heap.size + 1 + 1, 1, none⟩ = some (.int .i64 H) := (World.cell?_setCell_other _ _ _ _ (e3 1 (by decide))).trans P.2.1.c1
    have d2 := P.2.1.c2
    have g2 := P.2.2.2.1 2
    have hq : PicAt (w1.setCell ⟨w.heap.size + 1 + 1, 2, none⟩ (.slice x' n c')) (w.heap.size + 1) 0 0 (.slice none 0 0) := ⟨(World.cell?_setCell_other _ _ _ _ (e2 0)).trans P.1.c0, (World.cell?_setCell_other _ _ _ _ (e2 1)).trans P.1.c1, (World.cell?_setCell_other _ _ _ _ (e2 2)).trans P.1.c2⟩
    have q0 := hq.c0
    have q1 := hq.c1
    have q2 := hq.c2
    have r0 := P.2.2.1 0
    have r1 := P.2.2.1 1
    have r2 := P.2.2.1 2
    have HQ := Lib.hid hq
    clear hq
    clear P hown hgrow hb hown1 e2 e3
    go_wp2_with fail
    have P := HQ.out.set (W' := W) (H' := H) (v' := .slice x' n c')
    have k0 := P.c0
    have k1 := P.c1
    have k2 := P.c2
    have own := ownsRow_set3 HO.out HB.out.1 (.int .i64 W) (.int .i64 H) (.slice x' n c')
    have hX := (Ext.set3 (b := w.heap.size + 1) (Below.setCell (p := ⟨w.heap.size + 1 + 1, 2, none⟩) HP.out.2.2.2.2 (show w.heap.size ≤ w.heap.size + 1 + 1 by omega) (.slice x' n c')) (by omega) (.int .i64 W) (.int .i64 H) (.slice x' n c'))
    exact bodyPost_ret (v := .agg #[.int .i64 W, .int .i64 H, .slice x' n c']) (by simp [results, Tryd.results17, go_sem, k0, k1, k2]) rfl ⟨⟨_, rfl, owns_based own (by omega)⟩, hX⟩
theorem same_yes (W H : Int) (x y : Option Addr) (n cap cap' : Nat) (px : Nat → P4) (w : World) (hx : Pxs w x n px) (hy : Pxs w y n px) (hn : n ≤ 10000000) :
    Calls Tryd.prog 19 #[.agg #[.int .i64 W, .int .i64 H, .slice x n cap], .agg #[.int .i64 W, .int .i64 H, .slice y n cap']] w fun e w' => e = .returned (.bool true) ∧ Ext w w' := by
  have hE : Ext w ((w.alloc (.cells #[.int .i64 W, .int .i64 H, .slice x n cap] 24)).alloc (.cells #[.int .i64 W, .int .i64 H, .slice y n cap'] 24)) := ((Ext.refl _).alloc _).alloc _
  have HX := Lib.hid (hx.ext hE)
  have HY := Lib.hid (hy.ext hE)
  have HE := Lib.hid hE
  have P1 := Lib.hid ((PicAt.new w W H (.slice x n cap) 24).ext ((Ext.refl _).alloc (.cells #[.int .i64 W, .int .i64 H, .slice y n cap'] 24)))
  have P2 : Hid (PicAt ((w.alloc (.cells #[.int .i64 W, .int .i64 H, .slice x n cap] 24)).alloc (.cells #[.int .i64 W, .int .i64 H, .slice y n cap'] 24)) (w.heap.size + 1) W H (.slice y n cap')) := Lib.hid (by
    have := PicAt.new (w.alloc (.cells #[.int .i64 W, .int .i64 H, .slice x n cap] 24)) W H (.slice y n cap') 24
    rwa [World.size_alloc] at this)
  have t1 : (W != W) = false := by simp
  have t2 : (H != H) = false := by simp
  have t3 : ((n : Int) != (n : Int)) = false := by simp
  clear hx hy hE
  go_enter Tryd.func19, Tryd.ntmps19
  go_wp2_with fail
  clear t1 t2 t3
  generalize ((w.alloc (.cells #[.int .i64 W, .int .i64 H, .slice x n cap] 24)).alloc (.cells #[.int .i64 W, .int .i64 H, .slice y n cap'] 24)) = w2 at *
  go_loopw [5] (fun c wr => ∃ (i m : Nat), i ≤ n ∧ c = .int .i64 i ∧ wr = w2.drewN m) (fun c _ => n - (intOf c).toNat)
  case atStart => exact ⟨0, 0, by omega, rfl, rfl⟩
  case round =>
    obtain ⟨i, m, hi, rfl, rfl⟩ := hrel
    have p2 := P1.out.c2
    have r2 := P2.out.c2
    by_cases hlt : i < n
    · obtain ⟨a, rfl⟩ := HX.out.isSome hlt
      obtain ⟨b, rfl⟩ := HY.out.isSome hlt
      obtain ⟨a0, a1, a2, a3, _⟩ := HX.out.2 a rfl i hlt
      obtain ⟨b0, b1, b2, b3, _⟩ := HY.out.2 b rfl i hlt
      go_wp2_with fail
      go_quiet (fail)
      go_wp2_with fail
      go_roundw
      case rel => exact ⟨i + 1, _, by omega, by go_num, rfl⟩
      case measure => simp [intOf]; omega
    · obtain rfl : i = n := by omega
      go_wp2_with fail
      go_ret
      exact ⟨rfl, Ext.drewN HE.out _⟩
end Go.Proofs.YtkfjcgcgfdibaaaDoor
namespace Go.Proofs.YtkfjcgcgfdibaaaDoor
open Go.RowKit
set_option maxRecDepth 100000
/-- a row of pixels in a block of its own, from its head on, none frozen -/
def Po (w : World) (g n : Nat) (px : Nat → P4) : Prop := ∀ j, j < n * 4 → w.cell? ⟨g, j, none⟩ = some (cellP px j) ∧ w.frozen? ⟨g, j, none⟩ = false
theorem Po.of_own {w : World} {base g n cap : Nat} {px : Nat → P4} (h : w.ownsRow base 36 4 (.slice (some ⟨g, 0, none⟩) n cap) n (pxV n px)) : Po w g n px := by
  intro j hj
  exact ⟨by rw [h.cellAt j hj, pxV_get _ _ _ hj], h.frozenAt j⟩
theorem Po.pxs {w : World} {g n : Nat} {px : Nat → P4} (h : Po w g n px) (hok : ∀ i, i < n → (px i).Ok) : Pxs w (some ⟨g, 0, none⟩) n px := by
  refine ⟨(fun h => by cases h), fun a ha i hi => ?_⟩
  injection ha with ha; subst ha
  rw [add_plain]
  refine ⟨?_, ?_, ?_, ?_, hok i hi⟩
  · rw [(h (i * 4) (by omega)).1, cellP_0]
  · show w.cell? ⟨g, i * 4 + 1, none⟩ = _; rw [(h (i * 4 + 1) (by omega)).1, cellP_1]
  · show w.cell? ⟨g, i * 4 + 2, none⟩ = _; rw [(h (i * 4 + 2) (by omega)).1, cellP_2]
  · show w.cell? ⟨g, i * 4 + 3, none⟩ = _; rw [(h (i * 4 + 3) (by omega)).1, cellP_3]
theorem Po.keeps {S : Nat → Prop} {w w' : World} {g n : Nat} {px : Nat → P4} (h : Po w g n px) (hk : Keeps S w w') (hS : ¬ S g) : Po w' g n px := by
  intro j hj
  obtain ⟨h1, h2⟩ := h j hj
  have hl : g < w.heap.size := World.block_lt_of_cell? w _ h1
  exact ⟨(hk.cell (p := ⟨g, j, none⟩) hl hS).trans h1, (hk.frozen (p := ⟨g, j, none⟩) hl hS).trans h2⟩
theorem Po.ext {w w' : World} {g n : Nat} {px : Nat → P4} (h : Po w g n px) (hE : Ext w w') : Po w' g n px := h.keeps (S := fun _ => False) hE.keeps id
theorem Po.congr {w : World} {g n : Nat} {px qx : Nat → P4} (h : Po w g n px) (hq : ∀ i, i < n → qx i = px i) : Po w g n qx := by
  intro j hj
  have e : cellP qx j = cellP px j := by unfold cellP; rw [hq (j / 4) (by omega)]
  rw [e]; exact h j hj
theorem Po.drewN {w : World} {g n : Nat} {px : Nat → P4} (h : Po w g n px) (m : Nat) : Po (w.drewN m) g n px := h
theorem Po.drew {w : World} {g n : Nat} {px : Nat → P4} (h : Po w g n px) : Po w.drew g n px := h
theorem Po.far {w : World} {g n : Nat} {px : Nat → P4} (h : Po w g n px) {p : Addr} (hp : p.block ≠ g) (u : Value) : Po (w.setCell p u) g n px := by
  intro j hj
  obtain ⟨h1, h2⟩ := h j hj
  rw [World.frozen?_setCell]
  exact ⟨(World.cell?_setCell_other _ _ _ _ (by intro q; rw [q] at hp; exact hp rfl)).trans h1, h2⟩
/-- the world with another pixel at a place -/
def set4 (w : World) (g k : Nat) (p : P4) : World := (((w.setCell ⟨g, k * 4, none⟩ (.int .u8 p.r)).setCell ⟨g, k * 4 + 1, none⟩ (.int .u8 p.g)).setCell ⟨g, k * 4 + 2, none⟩ (.int .u8 p.b)).setCell ⟨g, k * 4 + 3, none⟩ (.int .u8 p.a)
def upd (px : Nat → P4) (k : Nat) (p : P4) : Nat → P4 := fun i => if i = k then p else px i
theorem set4_frozen (w : World) (g k : Nat) (p : P4) (a : Addr) : (set4 w g k p).frozen? a = w.frozen? a := by
  unfold set4; rw [World.frozen?_setCell, World.frozen?_setCell, World.frozen?_setCell, World.frozen?_setCell]
theorem set4_keeps (w : World) (g k : Nat) (p : P4) : Keeps (fun b => b = g) w (set4 w g k p) :=
  ((((Keeps.refl (fun b => b = g) w).setCell (.inl rfl) _).setCell (.inl rfl) _).setCell (.inl rfl) _).setCell (.inl rfl) _
theorem set4_ext {w0 w : World} (h : Ext w0 w) {g : Nat} (hg : w0.heap.size ≤ g) (k : Nat) (p : P4) : Ext w0 (set4 w g k p) :=
  (((Below.setCell h hg _).setCell hg _).setCell hg _).setCell hg _
theorem Po.put {w : World} {g n : Nat} {px : Nat → P4} (h : Po w g n px) (k : Nat) (p : P4) : Po (set4 w g k p) g n (upd px k p) := by
  intro j hj
  obtain ⟨h1, h2⟩ := h j hj
  have ne : ∀ i, j ≠ i → (⟨g, i, none⟩ : Addr) ≠ ⟨g, j, none⟩ := fun i hi e => by injection e with _ e; exact hi e.symm
  refine ⟨?_, by rw [set4_frozen]; exact h2⟩
  unfold set4
  by_cases e3 : j = k * 4 + 3
  · subst e3
    rw [cellP_3]; unfold upd; rw [if_pos rfl]
    refine World.cell?_setCell_same (u := cellP px (k * 4 + 3)) _ _ _ ?_
    rw [World.cell?_setCell_other _ _ _ _ (ne _ (by omega)), World.cell?_setCell_other _ _ _ _ (ne _ (by omega)), World.cell?_setCell_other _ _ _ _ (ne _ (by omega))]; exact h1
  · rw [World.cell?_setCell_other _ _ _ _ (ne _ e3)]
    by_cases e2 : j = k * 4 + 2
    · subst e2
      rw [cellP_2]; unfold upd; rw [if_pos rfl]
      refine World.cell?_setCell_same (u := cellP px (k * 4 + 2)) _ _ _ ?_
      rw [World.cell?_setCell_other _ _ _ _ (ne _ (by omega)), World.cell?_setCell_other _ _ _ _ (ne _ (by omega))]; exact h1
    · rw [World.cell?_setCell_other _ _ _ _ (ne _ e2)]
      by_cases e1 : j = k * 4 + 1
      · subst e1
        rw [cellP_1]; unfold upd; rw [if_pos rfl]
        refine World.cell?_setCell_same (u := cellP px (k * 4 + 1)) _ _ _ ?_
        rw [World.cell?_setCell_other _ _ _ _ (ne _ (by omega))]; exact h1
      · rw [World.cell?_setCell_other _ _ _ _ (ne _ e1)]
        by_cases e0 : j = k * 4
        · subst e0
          rw [cellP_0]; unfold upd; rw [if_pos rfl]
          exact World.cell?_setCell_same (u := cellP px (k * 4)) _ _ _ h1
        · rw [World.cell?_setCell_other _ _ _ _ (ne _ e0), h1]
          unfold cellP upd
          rw [if_neg (show j / 4 ≠ k by omega)]
theorem upd_ok {px : Nat → P4} {n k : Nat} {p : P4} (h : ∀ i, i < n → (px i).Ok) (hp : p.Ok) : ∀ i, i < n → (upd px k p i).Ok := by
  intro i hi; unfold upd; split
  · exact hp
  · exact h i hi
/-- a new row of pixels, all nothing -/
theorem made_pix (n : Nat) : madeCells #[Value.int .u8 0, .int .u8 0, .int .u8 0, .int .u8 0] (n * 4) = (pxV n (fun _ => P4.zero)).toArray := by
  apply Array.ext
  · rw [size_madeCells, List.size_toArray, pxV_length]
  · intro i h1 h2
    have hi : i < n * 4 := by rw [size_madeCells] at h1; exact h1
    have e := pxV_get n (fun _ => P4.zero) i hi
    have e2 : (pxV n (fun _ => P4.zero)).toArray[i] = cellP (fun _ => P4.zero) i := by
      rw [List.getElem?_eq_some_iff] at e
      obtain ⟨_, e⟩ := e
      simpa using e
    rw [e2]
    have h4 : i % 4 < 4 := Nat.mod_lt _ (by decide)
    simp only [madeCells]
    unfold cellP P4.zero
    rcases (show i % 4 = 0 ∨ i % 4 = 1 ∨ i % 4 = 2 ∨ i % 4 = 3 by omega) with q | q | q | q <;> simp [q]
theorem Po.of_bk {w : World} {g n : Nat} (h : Bk w g (madeCells #[Value.int .u8 0, .int .u8 0, .int .u8 0, .int .u8 0] (n * 4))) : Po w g n (fun _ => P4.zero) := by
  intro j hj
  rw [h.cell j, made_pix]
  exact ⟨by simpa using pxV_get n (fun _ => P4.zero) j hj, h.frozen j⟩
end Go.Proofs.YtkfjcgcgfdibaaaDoor
namespace Go.Proofs.YtkfjcgcgfdibaaaDoor
open Go.RowKit
set_option maxRecDepth 100000
theorem coded_any (w : World) (E : Nat → Addr) (hE : Errs w E) (v : Value) (c a n : Int) (h : ErrV w E v c a) : Calls Tryd.prog 26 #[v, .int .i64 n] w fun e w' => e = .returned (.bool (decide (c = n ∧ a = -1))) ∧ Ext w w' := by
  by_cases hc : c = n
  · subst hc
    go_enter Tryd.func26, Tryd.ntmps26
    go_wp2_with fail
    refine (code_any _ E hE _ _ _ h).mono ?_
    rintro e w2 ⟨rfl, h2⟩
    go_wp2_with fail
    go_ret
    exact ⟨ret_bool (by rw [Bool.eq_iff_iff]; simp), h2⟩
  · have t1 : (c == n) = false := beq_eq_false_iff_ne.2 hc
    go_enter Tryd.func26, Tryd.ntmps26
    go_wp2_with fail
    refine (code_any _ E hE _ _ _ h).mono ?_
    rintro e w2 ⟨rfl, h2⟩
    go_wp2_with fail
    go_ret
    exact ⟨ret_bool (by rw [Bool.eq_iff_iff]; simp [hc]), h2⟩
end Go.Proofs.YtkfjcgcgfdibaaaDoor
namespace Go.Proofs.YtkfjcgcgfdibaaaDoor
open Go.RowKit
set_option maxRecDepth 100000
theorem new1_any (x y : Int) (r g b a : Int) (B : Nat) (w : World) (h0 : w.cell? ⟨B, 0, none⟩ = some (.int .u8 r)) (h1 : w.cell? ⟨B, 1, none⟩ = some (.int .u8 g)) (h2 : w.cell? ⟨B, 2, none⟩ = some (.int .u8 b)) (h3 : w.cell? ⟨B, 3, none⟩ = some (.int .u8 a)) :
    Calls Tryd.prog 61 #[.int .i64 x, .int .i64 y, .pointer (some ⟨B, 0, none⟩)] w fun e w' => e = .returned (.agg #[.int .u8 r, .int .u8 g, .int .u8 b, .int .u8 a]) ∧ Ext w w' := by
  have hlt : B < w.heap.size := World.block_lt_of_cell? w _ h0
  go_enter Tryd.func61, Tryd.ntmps61
  go_wp2_with fail
  exact bodyPost_ret (v := .agg #[.int .u8 r, .int .u8 g, .int .u8 b, .int .u8 a]) (by simp [results, Tryd.results61, go_sem]) rfl ⟨rfl, by repeat (first | exact Ext.refl _ | refine Ext.alloc ?_ _)⟩
theorem enters_new1 : ∀ (args : Array Value) (w : World), (callFunc 61 args).run Tryd.prog w = .ok (.enter 61 args) w := enters_fn Tryd.func61 (by kernel_rfl) rfl
theorem new_good (W H : Nat) (p : P4) (w : World) (hW : 1 ≤ W ∧ W ≤ 256) (hH : 1 ≤ H ∧ H ≤ 256) :
    Calls Tryd.prog 20 #[.int .i64 (W : Int), .int .i64 (H : Int), .agg #[.int .u8 p.r, .int .u8 p.g, .int .u8 p.b, .int .u8 p.a]] w fun e w' => (∃ v, e = .returned (.tuple #[.agg #[.int .i64 (W : Int), .int .i64 (H : Int), v], .nilIface]) ∧ w'.ownsRow w.heap.size 36 4 v (W * H) (pxV (W * H) (fun _ => p))) ∧ Ext w w' := by
  have t1 : sideB (W : Int) = true := decide_eq_true (by omega)
  have t2 : sideB (H : Int) = true := decide_eq_true (by omega)
  have HT := Lib.hid (And.intro t1 t2)
  clear t1 t2
  go_enter Tryd.func20, Tryd.ntmps20
  go_wp2_with fail
  refine (side_any _ _).mono ?_
  rintro e w2 ⟨rfl, rfl⟩
  rw [HT.out.1]
  go_wp2_with fail
  refine (side_any _ _).mono ?_
  rintro e w2 ⟨rfl, rfl⟩
  rw [HT.out.2]
  go_wp2_with fail
  have hc0 : ∀ j u, (#[Value.int .u8 p.r, .int .u8 p.g, .int .u8 p.b, .int .u8 p.a])[j]? = some u → (w.alloc (.cells #[.int .u8 p.r, .int .u8 p.g, .int .u8 p.b, .int .u8 p.a] 36)).cell? ⟨w.heap.size, j, none⟩ = some u := by
    intro j u h; rw [World.cell?_alloc_at _ _ _ _ rfl]; exact h
  have x1 : Ext (w.alloc (.cells #[.int .u8 p.r, .int .u8 p.g, .int .u8 p.b, .int .u8 p.a] 36)) ((w.alloc (.cells #[.int .u8 p.r, .int .u8 p.g, .int .u8 p.b, .int .u8 p.a] 36)).alloc (.cells #[.int .i64 0, .int .i64 0, .slice none 0 0] 24)) := (Ext.refl _).alloc _
  have P0 := PicAt.new (w.alloc (.cells #[.int .u8 p.r, .int .u8 p.g, .int .u8 p.b, .int .u8 p.a] 36)) 0 0 (.slice none 0 0) 24
  have s1 : (w.alloc (.cells #[.int .u8 p.r, .int .u8 p.g, .int .u8 p.b, .int .u8 p.a] 36)).heap.size = w.heap.size + 1 := World.size_alloc _ _
  have s2 : ((w.alloc (.cells #[.int .u8 p.r, .int .u8 p.g, .int .u8 p.b, .int .u8 p.a] 36)).alloc (.cells #[.int .i64 0, .int .i64 0, .slice none 0 0] 24)).heap.size = w.heap.size + 1 + 1 := by rw [World.size_alloc, World.size_alloc]
  have f0 : ∀ j, ((w.alloc (.cells #[.int .u8 p.r, .int .u8 p.g, .int .u8 p.b, .int .u8 p.a] 36)).alloc (.cells #[.int .i64 0, .int .i64 0, .slice none 0 0] 24)).frozen? ⟨w.heap.size + 1, j, none⟩ = false := fun j => World.frozen?_alloc_at _ _ _ _ s1.symm
  rw [s1] at P0
  have X0 : Ext w ((w.alloc (.cells #[.int .u8 p.r, .int .u8 p.g, .int .u8 p.b, .int .u8 p.a] 36)).alloc (.cells #[.int .i64 0, .int .i64 0, .slice none 0 0] 24)) := ((Ext.refl _).alloc _).alloc _
  have HCC := Lib.hid hc0
  have X1 := Lib.hid x1
  have PP := Lib.hid P0
  have FF := Lib.hid f0
  have XX := Lib.hid X0
  have SS := Lib.hid (And.intro s1 s2)
  clear hc0 x1 P0 f0 X0 s1 s2
  generalize w.alloc (.cells #[.int .u8 p.r, .int .u8 p.g, .int .u8 p.b, .int .u8 p.a] 36) = wa at *
  generalize wa.alloc (.cells #[.int .i64 0, .int .i64 0, .slice none 0 0] 24) = wb at *
  refine (each_any 61 #[.pointer (some ⟨w.heap.size, 0, none⟩)] W H (fun _ _ => p) wb (by omega) (by omega) enters_new1 (fun x y w1 h1 _ _ => new1_any _ _ p.r p.g p.b p.a w.heap.size w1 (((X1.out.trans h1).cell (p := ⟨w.heap.size, 0, none⟩) (by rw [SS.out.1]; exact Nat.lt_succ_self _)).trans (HCC.out 0 _ rfl)) (((X1.out.trans h1).cell (p := ⟨w.heap.size, 1, none⟩) (by rw [SS.out.1]; exact Nat.lt_succ_self _)).trans (HCC.out 1 _ rfl)) (((X1.out.trans h1).cell (p := ⟨w.heap.size, 2, none⟩) (by rw [SS.out.1]; exact Nat.lt_succ_self _)).trans (HCC.out 2 _ rfl)) (((X1.out.trans h1).cell (p := ⟨w.heap.size, 3, none⟩) (by rw [SS.out.1]; exact Nat.lt_succ_self _)).trans (HCC.out 3 _ rfl)))).mono ?_
  rintro e w3 ⟨⟨v, rfl, hown⟩, h3⟩
  have OWN := Lib.hid (hown)
  have X3 := Lib.hid (h3)
  clear h3 hown
  obtain ⟨x, c, rfl⟩ := own_slice OWN.out
  have P3 := PP.out.ext X3.out
  have d0 := P3.c0
  have d1 := P3.c1
  have d2 := P3.c2
  have hlt : w.heap.size + 1 < wb.heap.size := by rw [SS.out.2]; omega
  have e0 := (X3.out.frozen (p := ⟨w.heap.size + 1, 0, none⟩) hlt).trans (FF.out 0)
  have e1 := (X3.out.frozen (p := ⟨w.heap.size + 1, 1, none⟩) hlt).trans (FF.out 1)
  have e2 := (X3.out.frozen (p := ⟨w.heap.size + 1, 2, none⟩) hlt).trans (FF.out 2)
  have FR := Lib.hid (fill_res (W := (W : Int)) (H := (H : Int)) (XX.out.trans X3.out) (by omega : w.heap.size ≤ w.heap.size + 1) P3 OWN.out hlt)
  clear P3
  go_wp2_with fail
  obtain ⟨P, own, hX⟩ := FR.out
  have k0 := P.c0
  have k1 := P.c1
  have k2 := P.c2
  exact bodyPost_ret (v := .tuple #[.agg #[.int .i64 (W : Int), .int .i64 (H : Int), .slice x (W * H) c], .nilIface]) (by simp [results, Tryd.results20, go_sem, k0, k1, k2]) rfl ⟨⟨_, rfl, owns_based own (by omega)⟩, hX⟩
end Go.Proofs.YtkfjcgcgfdibaaaDoor
namespace Go.Proofs.YtkfjcgcgfdibaaaDoor
open Go.RowKit
set_option maxRecDepth 100000
theorem mul_lt_of {y x W H : Nat} (hy : y < H) (hx : x < W) : y * W + x < W * H := by
  have h : (y + 1) * W ≤ H * W := Nat.mul_le_mul_right _ hy
  rw [Nat.succ_mul, Nat.mul_comm H] at h; omega
theorem flip1_down (x y W H : Nat) (a : Addr) (c P D : Nat) (px : Nat → P4) (w : World) (hP : PicAt w P (W : Int) (H : Int) (.slice (some a) (W * H) c)) (hD : w.cell? ⟨D, 0, none⟩ = some (.bool true)) (hx : Pxs w (some a) (W * H) px) (hW : W ≤ 256) (hH : H ≤ 256) (hxW : x < W) (hyH : y < H) :
    Calls Tryd.prog 57 #[.int .i64 (x : Int), .int .i64 (y : Int), .pointer (some ⟨D, 0, none⟩), .pointer (some ⟨P, 0, none⟩)] w fun e w' => e = .returned (.agg #[.int .u8 (px ((H - 1 - y) * W + x)).r, .int .u8 (px ((H - 1 - y) * W + x)).g, .int .u8 (px ((H - 1 - y) * W + x)).b, .int .u8 (px ((H - 1 - y) * W + x)).a]) ∧ Ext w w' := by
  obtain ⟨K, rfl⟩ : ∃ K, H = K + 1 + y := ⟨H - 1 - y, by omega⟩
  have hi : K * W + x < W * (K + 1 + y) := mul_lt_of (by omega) hxW
  rw [show K + 1 + y - 1 - y = K by omega]
  obtain ⟨M, hM⟩ : ∃ M, K * W = M := ⟨_, rfl⟩
  have hM1 : M ≤ 65536 := by rw [← hM]; exact Nat.mul_le_mul (show K ≤ 256 by omega) hW
  rw [hM] at hi ⊢
  have hMI : (K : Int) * (W : Int) = (M : Int) := by rw [← hM]; simp
  have hKI : (((K + 1 + y : Nat) : Int) - 1 - (y : Int)) = (K : Int) := by omega
  have hX0 : Ext w (w.alloc (.cells #[.int .u8 0, .int .u8 0, .int .u8 0, .int .u8 0] 36)) := (Ext.refl w).alloc _
  obtain ⟨c0, c1, c2, c3, _⟩ := (hx.ext hX0).2 a rfl (M + x) hi
  obtain ⟨p0, p1, p2⟩ := hP.ext hX0
  have d0 := (hX0.cell (p := ⟨D, 0, none⟩) (World.block_lt_of_cell? w _ hD)).trans hD
  clear hX0 hP hD
  obtain ⟨N, hN⟩ : ∃ N, W * (K + 1 + y) = N := ⟨_, rfl⟩
  have hNl : N ≤ 65536 := by rw [← hN]; exact Nat.mul_le_mul hW hH
  obtain ⟨HH, hHH⟩ : ∃ HH, K + 1 + y = HH := ⟨_, rfl⟩
  rw [hN] at hi p2
  rw [hHH] at p1 hKI hH
  have hHK : y + 1 ≤ HH := by omega
  have LL := Lib.hid hHH
  have MM := Lib.hid hM
  have NN := Lib.hid hN
  clear hHH hM hN hx
  go_enter Tryd.func57, Tryd.ntmps57
  go_wp2_with fail
  exact bodyPost_ret (v := .agg #[.int .u8 (px (M + x)).r, .int .u8 (px (M + x)).g, .int .u8 (px (M + x)).b, .int .u8 (px (M + x)).a]) (by simp [results, Tryd.results57, go_sem]) rfl ⟨rfl, by repeat (first | exact Ext.refl _ | refine Ext.alloc ?_ _)⟩
theorem flip1_right (x y W H : Nat) (a : Addr) (c P D : Nat) (px : Nat → P4) (w : World) (hP : PicAt w P (W : Int) (H : Int) (.slice (some a) (W * H) c)) (hD : w.cell? ⟨D, 0, none⟩ = some (.bool false)) (hx : Pxs w (some a) (W * H) px) (hW : W ≤ 256) (hH : H ≤ 256) (hxW : x < W) (hyH : y < H) :
    Calls Tryd.prog 57 #[.int .i64 (x : Int), .int .i64 (y : Int), .pointer (some ⟨D, 0, none⟩), .pointer (some ⟨P, 0, none⟩)] w fun e w' => e = .returned (.agg #[.int .u8 (px (y * W + (W - 1 - x))).r, .int .u8 (px (y * W + (W - 1 - x))).g, .int .u8 (px (y * W + (W - 1 - x))).b, .int .u8 (px (y * W + (W - 1 - x))).a]) ∧ Ext w w' := by
  have hi : y * W + (W - 1 - x) < W * H := mul_lt_of hyH (by omega)
  have hX0 : Ext w (w.alloc (.cells #[.int .u8 0, .int .u8 0, .int .u8 0, .int .u8 0] 36)) := (Ext.refl w).alloc _
  obtain ⟨p0, p1, p2⟩ := hP.ext hX0
  have d0 := (hX0.cell (p := ⟨D, 0, none⟩) (World.block_lt_of_cell? w _ hD)).trans hD
  obtain ⟨M, hM⟩ : ∃ M, y * W = M := ⟨_, rfl⟩
  have hM1 : M ≤ 65536 := by rw [← hM]; exact Nat.mul_le_mul (show y ≤ 256 by omega) hW
  have hMI : (y : Int) * (W : Int) = (M : Int) := by rw [← hM]; simp
  rw [hM] at hi ⊢
  rw [show M + (W - 1 - x) = M + W - 1 - x by omega] at hi ⊢
  obtain ⟨c0, c1, c2, c3, _⟩ := (hx.ext hX0).2 a rfl (M + W - 1 - x) hi
  obtain ⟨N, hN⟩ : ∃ N, W * H = N := ⟨_, rfl⟩
  have hNl : N ≤ 65536 := by rw [← hN]; exact Nat.mul_le_mul hW hH
  rw [hN] at hi p2
  have MM := Lib.hid hM
  have NN := Lib.hid hN
  clear hX0 hP hD hM hN hx
  go_enter Tryd.func57, Tryd.ntmps57
  go_wp2_with fail
  exact bodyPost_ret (v := .agg #[.int .u8 (px (M + W - 1 - x)).r, .int .u8 (px (M + W - 1 - x)).g, .int .u8 (px (M + W - 1 - x)).b, .int .u8 (px (M + W - 1 - x)).a]) (by simp [results, Tryd.results57, go_sem]) rfl ⟨rfl, by repeat (first | exact Ext.refl _ | refine Ext.alloc ?_ _)⟩
theorem turn1_any (x y W H : Nat) (a : Addr) (c P : Nat) (px : Nat → P4) (w : World) (hP : PicAt w P (W : Int) (H : Int) (.slice (some a) (W * H) c)) (hx : Pxs w (some a) (W * H) px) (hW : W ≤ 256) (hH : H ≤ 256) (hxH : x < H) (hyW : y < W) :
    Calls Tryd.prog 59 #[.int .i64 (x : Int), .int .i64 (y : Int), .pointer (some ⟨P, 0, none⟩)] w fun e w' => e = .returned (.agg #[.int .u8 (px ((H - 1 - x) * W + y)).r, .int .u8 (px ((H - 1 - x) * W + y)).g, .int .u8 (px ((H - 1 - x) * W + y)).b, .int .u8 (px ((H - 1 - x) * W + y)).a]) ∧ Ext w w' := by
  obtain ⟨K, rfl⟩ : ∃ K, H = K + 1 + x := ⟨H - 1 - x, by omega⟩
  have hi : K * W + y < W * (K + 1 + x) := mul_lt_of (by omega) hyW
  rw [show K + 1 + x - 1 - x = K by omega]
  have hX0 : Ext w (w.alloc (.cells #[.int .u8 0, .int .u8 0, .int .u8 0, .int .u8 0] 36)) := (Ext.refl w).alloc _
  obtain ⟨p0, p1, p2⟩ := hP.ext hX0
  obtain ⟨M, hM⟩ : ∃ M, K * W = M := ⟨_, rfl⟩
  have hM1 : M ≤ 65536 := by rw [← hM]; exact Nat.mul_le_mul (show K ≤ 256 by omega) hW
  rw [hM] at hi ⊢
  have hMI : (K : Int) * (W : Int) = (M : Int) := by rw [← hM]; simp
  have hKI : (((K + 1 + x : Nat) : Int) - 1 - (x : Int)) = (K : Int) := by omega
  obtain ⟨c0, c1, c2, c3, _⟩ := (hx.ext hX0).2 a rfl (M + y) hi
  obtain ⟨N, hN⟩ : ∃ N, W * (K + 1 + x) = N := ⟨_, rfl⟩
  have hNl : N ≤ 65536 := by rw [← hN]; exact Nat.mul_le_mul hW hH
  obtain ⟨HH, hHH⟩ : ∃ HH, K + 1 + x = HH := ⟨_, rfl⟩
  rw [hN] at hi p2
  rw [hHH] at p1 hKI hH
  have hHK : x + 1 ≤ HH := by omega
  have LL := Lib.hid hHH
  have MM := Lib.hid hM
  have NN := Lib.hid hN
  clear hX0 hP hHH hM hN hx
  go_enter Tryd.func59, Tryd.ntmps59
  go_wp2_with fail
  exact bodyPost_ret (v := .agg #[.int .u8 (px (M + y)).r, .int .u8 (px (M + y)).g, .int .u8 (px (M + y)).b, .int .u8 (px (M + y)).a]) (by simp [results, Tryd.results59, go_sem]) rfl ⟨rfl, by repeat (first | exact Ext.refl _ | refine Ext.alloc ?_ _)⟩
theorem flip1_both (x y W H : Nat) (a : Addr) (c P D : Nat) (px : Nat → P4) (down : Bool) (w : World) (hP : PicAt w P (W : Int) (H : Int) (.slice (some a) (W * H) c)) (hD : w.cell? ⟨D, 0, none⟩ = some (.bool down)) (hx : Pxs w (some a) (W * H) px) (hW : W ≤ 256) (hH : H ≤ 256) (hxW : x < W) (hyH : y < H) :
    Calls Tryd.prog 57 #[.int .i64 (x : Int), .int .i64 (y : Int), .pointer (some ⟨D, 0, none⟩), .pointer (some ⟨P, 0, none⟩)] w fun e w' => e = .returned (.agg #[.int .u8 (px (if down then (H - 1 - y) * W + x else y * W + (W - 1 - x))).r, .int .u8 (px (if down then (H - 1 - y) * W + x else y * W + (W - 1 - x))).g, .int .u8 (px (if down then (H - 1 - y) * W + x else y * W + (W - 1 - x))).b, .int .u8 (px (if down then (H - 1 - y) * W + x else y * W + (W - 1 - x))).a]) ∧ Ext w w' := by
  cases down with
  | true => exact flip1_down x y W H a c P D px w hP hD hx hW hH hxW hyH
  | false => exact flip1_right x y W H a c P D px w hP hD hx hW hH hxW hyH
theorem enters_flip1 : ∀ (args : Array Value) (w : World), (callFunc 57 args).run Tryd.prog w = .ok (.enter 57 args) w := enters_fn Tryd.func57 (by kernel_rfl) rfl
theorem enters_turn1 : ∀ (args : Array Value) (w : World), (callFunc 59 args).run Tryd.prog w = .ok (.enter 59 args) w := enters_fn Tryd.func59 (by kernel_rfl) rfl
end Go.Proofs.YtkfjcgcgfdibaaaDoor
