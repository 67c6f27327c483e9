/- plain.Code: the number of an error, and its place. -/
import Derived.Test.YtdeiolagnheihaaDoorAs
import Derived.Test.YtdeiolagnheihaaDoorOpen
import Derived.StillTailTactics
import Derived.Outline
namespace Go.Proofs.YtdeiolagnheihaaDoor
open Go.RowKit
set_option maxRecDepth 100000
/-- the variables of the errors, in the order of their numbers -/
def gk : Nat → Nat
  | 0 => 2
  | 1 => 0
  | 2 => 1
  | 3 => 3
  | 4 => 4
  | 5 => 5
  | 6 => 6
  | 7 => 7
  | _ => 8
def sentV (a : Addr) : Value := .iface 180 (.pointer (some a))
/-- the package's errors as they lie in memory -/
structure Errs (w : World) (E : Nat → Addr) : Prop where
  et : ErrType w
  var : ∀ k, k < 9 → w.cell? ⟨gk k, 0, none⟩ = some (sentV (E k))
  row : ∀ k, k < 9 → ∃ c t, w.heap[(E k).block]? = some (.cells c t (0, 0))
  ne : ∀ j k, j < 9 → k < 9 → j ≠ k → E j ≠ E k
theorem Errs.ext {w w' : World} {E : Nat → Addr} (h : Errs w E) (hE : Ext w w') : Errs w' E := by
  refine ⟨?_, fun k hk => ?_, fun k hk => ?_, h.ne⟩
  · exact (hE.cell (p := ⟨9, 0, none⟩) (World.block_lt_of_cell? w _ h.et)).trans h.et
  · exact (hE.cell (p := ⟨gk k, 0, none⟩) (World.block_lt_of_cell? w _ (h.var k hk))).trans (h.var k hk)
  · obtain ⟨c, t, hc⟩ := h.row k hk
    exact ⟨c, t, (hE.block (E k).block (lt_of_block hc)).trans hc⟩
/-- an error value: its number, and its place -/
inductive ErrV (w : World) (E : Nat → Addr) : Value → Int → Int → Prop
  | nil : ErrV w E .nilIface 0 (-1)
  | sent (k : Nat) (hk : k < 9) : ErrV w E (sentV (E k)) ((k : Int) + 1) (-1)
  | fault (k F : Nat) (a : Int) (hk : k < 9) (h : w.heap[F]? = some (.cells #[.int .i64 a, sentV (E k)] 70 (0, 0))) (h1 : -9223372036854775808 ≤ a) (h2 : a ≤ 9223372036854775807) : ErrV w E (.iface 68 (.pointer (some ⟨F, 0, none⟩))) ((k : Int) + 1) a
theorem ErrV.ext {w w' : World} {E : Nat → Addr} {v : Value} {c a : Int} (h : ErrV w E v c a) (hE : Ext w w') : ErrV w' E v c a := by
  cases h with
  | nil => exact .nil
  | sent k hk => exact .sent k hk
  | fault k F a hk h h1 h2 => exact .fault k F a hk ((hE.block F (lt_of_block h)).trans h) h1 h2
theorem code_nil (w : World) : Calls Tryd.prog 49 #[.nilIface] w fun e w' => e = .returned (.tuple #[.int .i64 0, .int .i64 (-1)]) ∧ Ext w w' := by
  go_enter Tryd.func49, Tryd.ntmps49
  go_wp2
  go_ret2
  exact ⟨rfl, Ext.refl _⟩
set_option maxHeartbeats 4000000 in
theorem code_sent (w : World) (E : Nat → Addr) (hE : Errs w E) (k : Nat) (hk : k < 9) : Calls Tryd.prog 49 #[sentV (E k)] w fun e w' => e = .returned (.tuple #[.int .i64 ((k : Int) + 1), .int .i64 (-1)]) ∧ Ext w w' := by
  have HE := Lib.hid hE
  clear hE
  unfold sentV
  go_enter Tryd.func49, Tryd.ntmps49
  go_wp2_with fail
  refine (as_miss _ _ _ (HE.out.ext ((Ext.refl w).alloc _)).et).mono ?_
  rintro e w2 ⟨rfl, h2⟩
  have HX : Hid (Ext w w2) := Lib.hid (((Ext.refl w).alloc _).trans h2)
  clear h2
  have HE2 := Lib.hid (HE.out.ext HX.out)
  have c0 := HE2.out.var 0 (by decide)
  have c1 := HE2.out.var 1 (by decide)
  have c2 := HE2.out.var 2 (by decide)
  have c3 := HE2.out.var 3 (by decide)
  have c4 := HE2.out.var 4 (by decide)
  have c5 := HE2.out.var 5 (by decide)
  have c6 := HE2.out.var 6 (by decide)
  have c7 := HE2.out.var 7 (by decide)
  have c8 := HE2.out.var 8 (by decide)
  simp only [gk, sentV] at c0 c1 c2 c3 c4 c5 c6 c7 c8
  go_wp2_with fail
  have cells : ∀ j, j < 9 → (w2.alloc (.cells #[.iface 180 (.pointer (some (E 0))), .iface 180 (.pointer (some (E 1))), .iface 180 (.pointer (some (E 2))), .iface 180 (.pointer (some (E 3))), .iface 180 (.pointer (some (E 4))), .iface 180 (.pointer (some (E 5))), .iface 180 (.pointer (some (E 6))), .iface 180 (.pointer (some (E 7))), .iface 180 (.pointer (some (E 8)))] 25)).cell? ⟨w2.heap.size, j, none⟩ = some (.iface 180 (.pointer (some (E j)))) := by
    intro j hj
    rw [World.cell?_alloc_at _ _ _ _ rfl]
    match j, hj with
    | 0, _ => rfl
    | 1, _ => rfl
    | 2, _ => rfl
    | 3, _ => rfl
    | 4, _ => rfl
    | 5, _ => rfl
    | 6, _ => rfl
    | 7, _ => rfl
    | 8, _ => rfl
  have HC := Lib.hid cells
  have HX3 : Hid (Ext w (w2.alloc (.cells #[.iface 180 (.pointer (some (E 0))), .iface 180 (.pointer (some (E 1))), .iface 180 (.pointer (some (E 2))), .iface 180 (.pointer (some (E 3))), .iface 180 (.pointer (some (E 4))), .iface 180 (.pointer (some (E 5))), .iface 180 (.pointer (some (E 6))), .iface 180 (.pointer (some (E 7))), .iface 180 (.pointer (some (E 8)))] 25))) := Lib.hid (HX.out.alloc _)
  have HE3 := Lib.hid (HE.out.ext HX3.out)
  clear cells c0 c1 c2 c3 c4 c5 c6 c7 c8
  generalize hw3 : (w2.alloc (.cells #[.iface 180 (.pointer (some (E 0))), .iface 180 (.pointer (some (E 1))), .iface 180 (.pointer (some (E 2))), .iface 180 (.pointer (some (E 3))), .iface 180 (.pointer (some (E 4))), .iface 180 (.pointer (some (E 5))), .iface 180 (.pointer (some (E 6))), .iface 180 (.pointer (some (E 7))), .iface 180 (.pointer (some (E 8)))] 25)) = w3 at *
  clear hw3
  go_loop [3, 27] (fun p c => ∃ i : Nat, i ≤ k ∧ p = .int .i64 (-1) ∧ c = .int .i64 i) (fun _ c => k - (intOf c).toNat)
  case atStart => exact ⟨0, by omega, rfl, rfl⟩
  case round =>
    obtain ⟨i, hi, rfl, rfl⟩ := hrel
    have hc := HC.out i (by omega)
    obtain ⟨ca, ta, ha⟩ := HE3.out.row k hk
    obtain ⟨cb, tb, hb⟩ := HE3.out.row i (by omega)
    have HA := Lib.hid ha
    have HB := Lib.hid hb
    clear ha hb
    by_cases hik : i = k
    · subst hik
      go_wp2_with fail
      refine (is_same _ _).mono ?_
      rintro e w4 ⟨rfl, rfl⟩
      go_wp2_with fail
      go_ret2
      exact ⟨rfl, HX3.out⟩
    · have hne := HE3.out.ne k i hk (by omega) (fun e => hik e.symm)
      have HN := Lib.hid hne
      clear hne
      go_wp2_with fail
      refine (is_other _ _ ca cb ta tb _ HN.out HA.out HB.out).mono ?_
      rintro e w4 ⟨rfl, rfl⟩
      go_wp2_with fail
      go_round
      case rel => exact ⟨i + 1, by omega, rfl, by go_num⟩
      case measure => simp [intOf]; omega
set_option maxHeartbeats 4000000 in
theorem code_fault (w : World) (E : Nat → Addr) (hE : Errs w E) (k F : Nat) (a : Int) (hk : k < 9) (h : w.heap[F]? = some (.cells #[.int .i64 a, sentV (E k)] 70 (0, 0))) : Calls Tryd.prog 49 #[.iface 68 (.pointer (some ⟨F, 0, none⟩))] w fun e w' => e = .returned (.tuple #[.int .i64 ((k : Int) + 1), .int .i64 a]) ∧ Ext w w' := by
  have HF := Lib.hid h
  clear h
  have HE := Lib.hid hE
  clear hE
  go_enter Tryd.func49, Tryd.ntmps49
  go_wp2_with fail
  refine (as_hit ⟨F, 0, none⟩ ⟨w.heap.size, 0, none⟩ (.pointer none) _ (HE.out.ext ((Ext.refl w).alloc _)).et (by simp) (by simp)).mono ?_
  rintro e w2 ⟨rfl, h2, ct, zt⟩
  have HX : Hid (Ext w w2) := Lib.hid (by
    have q := ((Ext.refl w).alloc (.cells #[.pointer none] 68)).keeps (S := fun k => k = w.heap.size) |>.trans h2 (fun _ _ q => q)
    exact q.below (Nat.le_refl _) (fun k hk e => by omega))
  clear h2
  have HF2 : Hid (w2.heap[F]? = some (.cells #[.int .i64 a, sentV (E k)] 70 (0, 0))) := Lib.hid ((HX.out.block F (lt_of_block HF.out)).trans HF.out)
  have hF0 : w2.cell? ⟨F, 0, none⟩ = some (.int .i64 a) := by simp [World.cell?, HF2.out]
  have HE2 := Lib.hid (HE.out.ext HX.out)
  have c0 := HE2.out.var 0 (by decide)
  have c1 := HE2.out.var 1 (by decide)
  have c2 := HE2.out.var 2 (by decide)
  have c3 := HE2.out.var 3 (by decide)
  have c4 := HE2.out.var 4 (by decide)
  have c5 := HE2.out.var 5 (by decide)
  have c6 := HE2.out.var 6 (by decide)
  have c7 := HE2.out.var 7 (by decide)
  have c8 := HE2.out.var 8 (by decide)
  simp only [gk, sentV] at c0 c1 c2 c3 c4 c5 c6 c7 c8
  go_wp2_with fail
  have cells : ∀ j, j < 9 → (w2.alloc (.cells #[.iface 180 (.pointer (some (E 0))), .iface 180 (.pointer (some (E 1))), .iface 180 (.pointer (some (E 2))), .iface 180 (.pointer (some (E 3))), .iface 180 (.pointer (some (E 4))), .iface 180 (.pointer (some (E 5))), .iface 180 (.pointer (some (E 6))), .iface 180 (.pointer (some (E 7))), .iface 180 (.pointer (some (E 8)))] 25)).cell? ⟨w2.heap.size, j, none⟩ = some (.iface 180 (.pointer (some (E j)))) := by
    intro j hj
    rw [World.cell?_alloc_at _ _ _ _ rfl]
    match j, hj with
    | 0, _ => rfl
    | 1, _ => rfl
    | 2, _ => rfl
    | 3, _ => rfl
    | 4, _ => rfl
    | 5, _ => rfl
    | 6, _ => rfl
    | 7, _ => rfl
    | 8, _ => rfl
  have HC := Lib.hid cells
  have HF3 : Hid ((w2.alloc (.cells #[.iface 180 (.pointer (some (E 0))), .iface 180 (.pointer (some (E 1))), .iface 180 (.pointer (some (E 2))), .iface 180 (.pointer (some (E 3))), .iface 180 (.pointer (some (E 4))), .iface 180 (.pointer (some (E 5))), .iface 180 (.pointer (some (E 6))), .iface 180 (.pointer (some (E 7))), .iface 180 (.pointer (some (E 8)))] 25)).cell? ⟨F, 1, none⟩ = some (sentV (E k))) := Lib.hid (by rw [World.cell?_alloc_past _ _ _ (lt_of_block HF2.out)]; simp [World.cell?, HF2.out])
  have HX3 : Hid (Ext w (w2.alloc (.cells #[.iface 180 (.pointer (some (E 0))), .iface 180 (.pointer (some (E 1))), .iface 180 (.pointer (some (E 2))), .iface 180 (.pointer (some (E 3))), .iface 180 (.pointer (some (E 4))), .iface 180 (.pointer (some (E 5))), .iface 180 (.pointer (some (E 6))), .iface 180 (.pointer (some (E 7))), .iface 180 (.pointer (some (E 8)))] 25))) := Lib.hid (HX.out.alloc _)
  have HE3 := Lib.hid (HE.out.ext HX3.out)
  clear cells hF0 ct zt c0 c1 c2 c3 c4 c5 c6 c7 c8
  generalize hw3 : (w2.alloc (.cells #[.iface 180 (.pointer (some (E 0))), .iface 180 (.pointer (some (E 1))), .iface 180 (.pointer (some (E 2))), .iface 180 (.pointer (some (E 3))), .iface 180 (.pointer (some (E 4))), .iface 180 (.pointer (some (E 5))), .iface 180 (.pointer (some (E 6))), .iface 180 (.pointer (some (E 7))), .iface 180 (.pointer (some (E 8)))] 25)) = w3 at *
  clear hw3
  go_loop [3, 27] (fun p c => ∃ i : Nat, i ≤ k ∧ p = .int .i64 a ∧ c = .int .i64 i) (fun _ c => k - (intOf c).toNat)
  case atStart => exact ⟨0, by omega, rfl, rfl⟩
  case round =>
    obtain ⟨i, hi, rfl, rfl⟩ := hrel
    have hc := HC.out i (by omega)
    obtain ⟨ca, ta, ha⟩ := HE3.out.row k hk
    obtain ⟨cb, tb, hb⟩ := HE3.out.row i (by omega)
    have HA := Lib.hid ha
    have HB := Lib.hid hb
    clear ha hb
    by_cases hik : i = k
    · subst hik
      go_wp2_with fail
      refine (is_fault_same F _ _ HF3.out).mono ?_
      rintro e w4 ⟨rfl, rfl⟩
      go_wp2_with fail
      go_ret2
      exact ⟨rfl, HX3.out⟩
    · have hne := HE3.out.ne k i hk (by omega) (fun e => hik e.symm)
      have HN := Lib.hid hne
      clear hne
      go_wp2_with fail
      refine (is_fault_other F _ _ ca cb ta tb _ HF3.out HN.out HA.out HB.out).mono ?_
      rintro e w4 ⟨rfl, rfl⟩
      go_wp2_with fail
      go_round
      case rel => exact ⟨i + 1, by omega, rfl, by go_num⟩
      case measure => simp [intOf]; omega
theorem code_any (w : World) (E : Nat → Addr) (hE : Errs w E) (v : Value) (c a : Int) (h : ErrV w E v c a) : Calls Tryd.prog 49 #[v] w fun e w' => e = .returned (.tuple #[.int .i64 c, .int .i64 a]) ∧ Ext w w' := by
  cases h with
  | nil => exact code_nil w
  | sent k hk => exact code_sent w E hE k hk
  | fault k F a hk h h1 h2 => exact code_fault w E hE k F a hk h
end Go.Proofs.YtdeiolagnheihaaDoor
