/-
  plain.Code: the number of an error, and its place.
  coded: an error's number, without a place.
  A disk and its model, side by side.
  disk.Copy; disks and models side by side.
  DiskCopies' walk.
  The package's errors, out of what a row lists.
  Arguments that are rows of acts, and rows of bools, opened.
  The last step of every law's row, once: a call that returns true and turns nothing that was there meets the row's post.
-/
import Derived.Test.YtheidjagcafgnaaDoorDiskCopiesG5
import Derived.StillTailTactics
import Derived.Outline
import Derived.Test.YtheidjagcafgnaaDoorDiskCopiesG4
import Derived.LaidHandle
import Derived.LaidSub
import Derived.Stop.LaidTwo
import Derived.Test.YtheidjagcafgnaaDoorDiskCopiesG2
import Derived.Deep.Grids
import Derived.Lib.SmallJoins
import Derived.Test.YtheidjagcafgnaaDoorRows
import Derived.ProofKit
import Derived.ShutString
import Derived.Below
import Derived.OpenShut
namespace Go.Proofs.YtheidjagcafgnaaDoor
open Go.RowKit
set_option maxRecDepth 100000
/-- the variables of the errors, in the order of their numbers -/
def gk : Nat → Nat
  | 0 => 3
  | 1 => 0
  | 2 => 2
  | 3 => 4
  | 4 => 5
  | 5 => 6
  | 6 => 7
  | 7 => 8
  | _ => 1
def sentV (a : Addr) : Value := .iface 128 (.pointer (some a))
/-- the package's errors as they lie in memory -/
structure Errs (w : World) (E : Nat → Addr) : Prop where
  et : ErrType w
  var : ∀ k, k < 9 → w.cell? ⟨gk k, 0, none⟩ = some (sentV (E k))
  row : ∀ k, k < 9 → ∃ c t, w.heap[(E k).block]? = some (.cells c t (0, 0))
  ne : ∀ j k, j < 9 → k < 9 → j ≠ k → E j ≠ E k
theorem Errs.ext {w w' : World} {E : Nat → Addr} (h : Errs w E) (hE : Ext w w') : Errs w' E := by
  refine ⟨?_, fun k hk => ?_, fun k hk => ?_, h.ne⟩
  · exact (hE.cell (p := ⟨9, 0, none⟩) (World.block_lt_of_cell? w _ h.et)).trans h.et
  · exact (hE.cell (p := ⟨gk k, 0, none⟩) (World.block_lt_of_cell? w _ (h.var k hk))).trans (h.var k hk)
  · obtain ⟨c, t, hc⟩ := h.row k hk
    exact ⟨c, t, (hE.block (E k).block (lt_of_block hc)).trans hc⟩
/-- an error value: its number, and its place -/
inductive ErrV (w : World) (E : Nat → Addr) : Value → Int → Int → Prop
  | nil : ErrV w E .nilIface 0 (-1)
  | sent (k : Nat) (hk : k < 9) : ErrV w E (sentV (E k)) ((k : Int) + 1) (-1)
  | fault (k F : Nat) (a : Int) (hk : k < 9) (h : w.heap[F]? = some (.cells #[.int .i64 a, sentV (E k)] 88 (0, 0))) (h1 : -9223372036854775808 ≤ a) (h2 : a ≤ 9223372036854775807) : ErrV w E (.iface 84 (.pointer (some ⟨F, 0, none⟩))) ((k : Int) + 1) a
theorem ErrV.ext {w w' : World} {E : Nat → Addr} {v : Value} {c a : Int} (h : ErrV w E v c a) (hE : Ext w w') : ErrV w' E v c a := by
  cases h with
  | nil => exact .nil
  | sent k hk => exact .sent k hk
  | fault k F a hk h h1 h2 => exact .fault k F a hk ((hE.block F (lt_of_block h)).trans h) h1 h2
theorem code_nil (w : World) : Calls Tryd.prog 27 #[.nilIface] w fun e w' => e = .returned (.tuple #[.int .i64 0, .int .i64 (-1)]) ∧ Ext w w' := by
  go_enter Tryd.func27, Tryd.ntmps27
  go_wp2
  go_ret2
  exact ⟨rfl, Ext.refl _⟩
set_option maxHeartbeats 4000000 in
theorem code_sent (w : World) (E : Nat → Addr) (hE : Errs w E) (k : Nat) (hk : k < 9) : Calls Tryd.prog 27 #[sentV (E k)] w fun e w' => e = .returned (.tuple #[.int .i64 ((k : Int) + 1), .int .i64 (-1)]) ∧ Ext w w' := by
  have HE := Lib.hid hE
  clear hE
  unfold sentV
  go_enter Tryd.func27, Tryd.ntmps27
  go_wp2_with fail
  refine (as_miss _ _ _ (HE.out.ext ((Ext.refl w).alloc _)).et).mono ?_
  rintro e w2 ⟨rfl, h2⟩
  have HX : Hid (Ext w w2) := Lib.hid (((Ext.refl w).alloc _).trans h2)
  clear h2
  have HE2 := Lib.hid (HE.out.ext HX.out)
  have c0 := HE2.out.var 0 (by decide)
  have c1 := HE2.out.var 1 (by decide)
  have c2 := HE2.out.var 2 (by decide)
  have c3 := HE2.out.var 3 (by decide)
  have c4 := HE2.out.var 4 (by decide)
  have c5 := HE2.out.var 5 (by decide)
  have c6 := HE2.out.var 6 (by decide)
  have c7 := HE2.out.var 7 (by decide)
  have c8 := HE2.out.var 8 (by decide)
  simp only [gk, sentV] at c0 c1 c2 c3 c4 c5 c6 c7 c8
  go_wp2_with fail
  have cells : ∀ j, j < 9 → (w2.alloc (.cells #[.iface 128 (.pointer (some (E 0))), .iface 128 (.pointer (some (E 1))), .iface 128 (.pointer (some (E 2))), .iface 128 (.pointer (some (E 3))), .iface 128 (.pointer (some (E 4))), .iface 128 (.pointer (some (E 5))), .iface 128 (.pointer (some (E 6))), .iface 128 (.pointer (some (E 7))), .iface 128 (.pointer (some (E 8)))] 28)).cell? ⟨w2.heap.size, j, none⟩ = some (.iface 128 (.pointer (some (E j)))) := by
    intro j hj
    rw [World.cell?_alloc_at _ _ _ _ rfl]
    match j, hj with
    | 0, _ => rfl
    | 1, _ => rfl
    | 2, _ => rfl
    | 3, _ => rfl
    | 4, _ => rfl
    | 5, _ => rfl
    | 6, _ => rfl
    | 7, _ => rfl
    | 8, _ => rfl
  have HC := Lib.hid cells
  have HX3 : Hid (Ext w (w2.alloc (.cells #[.iface 128 (.pointer (some (E 0))), .iface 128 (.pointer (some (E 1))), .iface 128 (.pointer (some (E 2))), .iface 128 (.pointer (some (E 3))), .iface 128 (.pointer (some (E 4))), .iface 128 (.pointer (some (E 5))), .iface 128 (.pointer (some (E 6))), .iface 128 (.pointer (some (E 7))), .iface 128 (.pointer (some (E 8)))] 28))) := Lib.hid (HX.out.alloc _)
  have HE3 := Lib.hid (HE.out.ext HX3.out)
  clear cells c0 c1 c2 c3 c4 c5 c6 c7 c8
  generalize hw3 : (w2.alloc (.cells #[.iface 128 (.pointer (some (E 0))), .iface 128 (.pointer (some (E 1))), .iface 128 (.pointer (some (E 2))), .iface 128 (.pointer (some (E 3))), .iface 128 (.pointer (some (E 4))), .iface 128 (.pointer (some (E 5))), .iface 128 (.pointer (some (E 6))), .iface 128 (.pointer (some (E 7))), .iface 128 (.pointer (some (E 8)))] 28)) = w3 at *
  clear hw3
  go_loop [3, 27] (fun p c => ∃ i : Nat, i ≤ k ∧ p = .int .i64 (-1) ∧ c = .int .i64 i) (fun _ c => k - (intOf c).toNat)
  case atStart => exact ⟨0, by omega, rfl, rfl⟩
  case round =>
    obtain ⟨i, hi, rfl, rfl⟩ := hrel
    have hc := HC.out i (by omega)
    obtain ⟨ca, ta, ha⟩ := HE3.out.row k hk
    obtain ⟨cb, tb, hb⟩ := HE3.out.row i (by omega)
    have HA := Lib.hid ha
    have HB := Lib.hid hb
    clear ha hb
    by_cases hik : i = k
    · subst hik
      go_wp2_with fail
      refine (is_same _ _).mono ?_
      rintro e w4 ⟨rfl, rfl⟩
      go_wp2_with fail
      go_ret2
      exact ⟨rfl, HX3.out⟩
    · have hne := HE3.out.ne k i hk (by omega) (fun e => hik e.symm)
      have HN := Lib.hid hne
      clear hne
      go_wp2_with fail
      refine (is_other _ _ ca cb ta tb _ HN.out HA.out HB.out).mono ?_
      rintro e w4 ⟨rfl, rfl⟩
      go_wp2_with fail
      go_round
      case rel => exact ⟨i + 1, by omega, rfl, by go_num⟩
      case measure => simp [intOf]; omega
set_option maxHeartbeats 4000000 in
theorem code_fault (w : World) (E : Nat → Addr) (hE : Errs w E) (k F : Nat) (a : Int) (hk : k < 9) (h : w.heap[F]? = some (.cells #[.int .i64 a, sentV (E k)] 88 (0, 0))) : Calls Tryd.prog 27 #[.iface 84 (.pointer (some ⟨F, 0, none⟩))] w fun e w' => e = .returned (.tuple #[.int .i64 ((k : Int) + 1), .int .i64 a]) ∧ Ext w w' := by
  have HF := Lib.hid h
  clear h
  have HE := Lib.hid hE
  clear hE
  go_enter Tryd.func27, Tryd.ntmps27
  go_wp2_with fail
  refine (as_hit ⟨F, 0, none⟩ ⟨w.heap.size, 0, none⟩ (.pointer none) _ (HE.out.ext ((Ext.refl w).alloc _)).et (by simp) (by simp)).mono ?_
  rintro e w2 ⟨rfl, h2, ct, zt⟩
  have HX : Hid (Ext w w2) := Lib.hid (by
    have q := ((Ext.refl w).alloc (.cells #[.pointer none] 84)).keeps (S := fun k => k = w.heap.size) |>.trans h2 (fun _ _ q => q)
    exact q.below (Nat.le_refl _) (fun k hk e => by omega))
  clear h2
  have HF2 : Hid (w2.heap[F]? = some (.cells #[.int .i64 a, sentV (E k)] 88 (0, 0))) := Lib.hid ((HX.out.block F (lt_of_block HF.out)).trans HF.out)
  have hF0 : w2.cell? ⟨F, 0, none⟩ = some (.int .i64 a) := by simp [World.cell?, HF2.out]
  have HE2 := Lib.hid (HE.out.ext HX.out)
  have c0 := HE2.out.var 0 (by decide)
  have c1 := HE2.out.var 1 (by decide)
  have c2 := HE2.out.var 2 (by decide)
  have c3 := HE2.out.var 3 (by decide)
  have c4 := HE2.out.var 4 (by decide)
  have c5 := HE2.out.var 5 (by decide)
  have c6 := HE2.out.var 6 (by decide)
  have c7 := HE2.out.var 7 (by decide)
  have c8 := HE2.out.var 8 (by decide)
  simp only [gk, sentV] at c0 c1 c2 c3 c4 c5 c6 c7 c8
  go_wp2_with fail
  have cells : ∀ j, j < 9 → (w2.alloc (.cells #[.iface 128 (.pointer (some (E 0))), .iface 128 (.pointer (some (E 1))), .iface 128 (.pointer (some (E 2))), .iface 128 (.pointer (some (E 3))), .iface 128 (.pointer (some (E 4))), .iface 128 (.pointer (some (E 5))), .iface 128 (.pointer (some (E 6))), .iface 128 (.pointer (some (E 7))), .iface 128 (.pointer (some (E 8)))] 28)).cell? ⟨w2.heap.size, j, none⟩ = some (.iface 128 (.pointer (some (E j)))) := by
    intro j hj
    rw [World.cell?_alloc_at _ _ _ _ rfl]
    match j, hj with
    | 0, _ => rfl
    | 1, _ => rfl
    | 2, _ => rfl
    | 3, _ => rfl
    | 4, _ => rfl
    | 5, _ => rfl
    | 6, _ => rfl
    | 7, _ => rfl
    | 8, _ => rfl
  have HC := Lib.hid cells
  have HF3 : Hid ((w2.alloc (.cells #[.iface 128 (.pointer (some (E 0))), .iface 128 (.pointer (some (E 1))), .iface 128 (.pointer (some (E 2))), .iface 128 (.pointer (some (E 3))), .iface 128 (.pointer (some (E 4))), .iface 128 (.pointer (some (E 5))), .iface 128 (.pointer (some (E 6))), .iface 128 (.pointer (some (E 7))), .iface 128 (.pointer (some (E 8)))] 28)).cell? ⟨F, 1, none⟩ = some (sentV (E k))) := Lib.hid (by rw [World.cell?_alloc_past _ _ _ (lt_of_block HF2.out)]; simp [World.cell?, HF2.out])
  have HX3 : Hid (Ext w (w2.alloc (.cells #[.iface 128 (.pointer (some (E 0))), .iface 128 (.pointer (some (E 1))), .iface 128 (.pointer (some (E 2))), .iface 128 (.pointer (some (E 3))), .iface 128 (.pointer (some (E 4))), .iface 128 (.pointer (some (E 5))), .iface 128 (.pointer (some (E 6))), .iface 128 (.pointer (some (E 7))), .iface 128 (.pointer (some (E 8)))] 28))) := Lib.hid (HX.out.alloc _)
  have HE3 := Lib.hid (HE.out.ext HX3.out)
  clear cells hF0 ct zt c0 c1 c2 c3 c4 c5 c6 c7 c8
  generalize hw3 : (w2.alloc (.cells #[.iface 128 (.pointer (some (E 0))), .iface 128 (.pointer (some (E 1))), .iface 128 (.pointer (some (E 2))), .iface 128 (.pointer (some (E 3))), .iface 128 (.pointer (some (E 4))), .iface 128 (.pointer (some (E 5))), .iface 128 (.pointer (some (E 6))), .iface 128 (.pointer (some (E 7))), .iface 128 (.pointer (some (E 8)))] 28)) = w3 at *
  clear hw3
  go_loop [3, 27] (fun p c => ∃ i : Nat, i ≤ k ∧ p = .int .i64 a ∧ c = .int .i64 i) (fun _ c => k - (intOf c).toNat)
  case atStart => exact ⟨0, by omega, rfl, rfl⟩
  case round =>
    obtain ⟨i, hi, rfl, rfl⟩ := hrel
    have hc := HC.out i (by omega)
    obtain ⟨ca, ta, ha⟩ := HE3.out.row k hk
    obtain ⟨cb, tb, hb⟩ := HE3.out.row i (by omega)
    have HA := Lib.hid ha
    have HB := Lib.hid hb
    clear ha hb
    by_cases hik : i = k
    · subst hik
      go_wp2_with fail
      refine (is_fault_same F _ _ HF3.out).mono ?_
      rintro e w4 ⟨rfl, rfl⟩
      go_wp2_with fail
      go_ret2
      exact ⟨rfl, HX3.out⟩
    · have hne := HE3.out.ne k i hk (by omega) (fun e => hik e.symm)
      have HN := Lib.hid hne
      clear hne
      go_wp2_with fail
      refine (is_fault_other F _ _ ca cb ta tb _ HF3.out HN.out HA.out HB.out).mono ?_
      rintro e w4 ⟨rfl, rfl⟩
      go_wp2_with fail
      go_round
      case rel => exact ⟨i + 1, by omega, rfl, by go_num⟩
      case measure => simp [intOf]; omega
theorem code_any (w : World) (E : Nat → Addr) (hE : Errs w E) (v : Value) (c a : Int) (h : ErrV w E v c a) : Calls Tryd.prog 27 #[v] w fun e w' => e = .returned (.tuple #[.int .i64 c, .int .i64 a]) ∧ Ext w w' := by
  cases h with
  | nil => exact code_nil w
  | sent k hk => exact code_sent w E hE k hk
  | fault k F a hk h h1 h2 => exact code_fault w E hE k F a hk h
end Go.Proofs.YtheidjagcafgnaaDoor
namespace Go.Proofs.YtheidjagcafgnaaDoor
open Go.RowKit
set_option maxRecDepth 100000
theorem coded_any (w : World) (E : Nat → Addr) (hE : Errs w E) (v : Value) (c a n : Int) (h : ErrV w E v c a) : Calls Tryd.prog 14 #[v, .int .i64 n] w fun e w' => e = .returned (.bool (decide (c = n ∧ a = -1))) ∧ Ext w w' := by
  by_cases hc : c = n
  · subst hc
    go_enter Tryd.func14, Tryd.ntmps14
    go_wp2_with fail
    refine (code_any _ E hE _ _ _ h).mono ?_
    rintro e w2 ⟨rfl, h2⟩
    go_wp2_with fail
    go_ret
    exact ⟨ret_bool (by rw [Bool.eq_iff_iff]; simp), h2⟩
  · have t1 : (c == n) = false := beq_eq_false_iff_ne.2 hc
    go_enter Tryd.func14, Tryd.ntmps14
    go_wp2_with fail
    refine (code_any _ E hE _ _ _ h).mono ?_
    rintro e w2 ⟨rfl, h2⟩
    go_wp2_with fail
    go_ret
    exact ⟨ret_bool (by rw [Bool.eq_iff_iff]; simp [hc]), h2⟩
end Go.Proofs.YtheidjagcafgnaaDoor
namespace Go.Proofs.YtheidjagcafgnaaDoor
open Go.RowKit
set_option maxRecDepth 100000
structure TD (w0 w : World) (S S2 : Nat → Prop) (d d2 n : Nat) (m1 m2 : Dk.DM) (b1 b2 : Nat) : Prop where
  ld : LD w0 w S d n m1 b1
  ks : KS w S2 d2 n m2 b2
  ge : ∀ k, S2 k → w0.heap.size ≤ k
  dis : ∀ k, S k → ¬ S2 k
section
variable {w0 w w' : World} {S S2 : Nat → Prop} {d d2 n b1 b2 c : Nat} {m1 m2 m' : Dk.DM}
theorem TD.step (h : TD w0 w S S2 d d2 n m1 m2 b1 b2) (hE : Ext w w') : TD w0 w' S S2 d d2 n m1 m2 b1 b2 := ⟨h.ld.step hE, h.ks.ext hE, h.ge, h.dis⟩
theorem TD.doK (h : TD w0 w S S2 d d2 n m1 m2 b1 b2) (ha : KAfter S2 w w' d2 n m' c) : TD w0 w' S (grow S2 w w') d d2 n m1 m' b1 c := by
  have hx := h.ld.ext.size
  refine ⟨⟨h.ld.ds.keeps ha.2 h.dis, Below.trans h.ld.ext (ha.2.below hx (fun k hk q => by have := h.ge k q; omega)), h.ld.ge⟩, ha.1, fun k q => ?_, fun k hk q => ?_⟩
  · rcases q with q | q
    · exact h.ge k q
    · omega
  · rcases q with q | q
    · exact h.dis k hk q
    · have := h.ld.ds.lt k hk; omega
theorem TD.act (h : TD w0 w S S2 d d2 n m1 m2 b1 b2) (ha : After S w w' d n m' c) : TD w0 w' (grow S w w') S2 d d2 n m' m2 c b2 := by
  refine ⟨h.ld.after ha, h.ks.keeps ha.2 (fun k q e => h.dis k e q), h.ge, fun k hk q => ?_⟩
  rcases hk with e | e
  · exact h.dis k e q
  · have := h.ks.lt k q; omega
end
theorem kr_of {w w' : World} {S : Nat → Prop} {x : Option Addr} {n : Nat} {kb : Nat → Bool} (h : Kp w x n kb) (hE : Ext w w') (hS : ∀ k, S k → w.heap.size ≤ k) : KR w' S x n kb :=
  ⟨h.1, fun a ha j hj => ⟨(h.ext hE).2 a ha j hj, fun q => by have h1 := hS _ q; have h2 := World.block_lt_of_cell? w _ (h.2 a ha j hj); omega⟩⟩
theorem erd_of {w : World} {E : Nat → Addr} (h : Errs w E) : ErD w E := ⟨h.var 1 (by decide), h.var 2 (by decide), h.var 8 (by decide)⟩
theorem erV_ok (w : World) (E : Nat → Addr) (c : Nat) (hc : c ≤ 9) : ErrV w E (erV E c) (c : Int) (-1) := by
  cases c with
  | zero => exact .nil
  | succ k => exact .sent k (by omega)
theorem doA_code (n : Nat) (a : Ac) (m : Dk.DM) : (doA n a m).2 ≤ 9 := by
  unfold doA
  repeat' split
  all_goals simp
end Go.Proofs.YtheidjagcafgnaaDoor
namespace Go.Proofs.YtheidjagcafgnaaDoor
open Go.RowKit
set_option maxRecDepth 100000
theorem grow_dis {S T : Nat → Prop} {w w' : World} (h : ∀ k, S k → ¬ T k) (hT : ∀ k, T k → k < w.heap.size) : ∀ k, grow S w w' k → ¬ T k := by
  intro k hk q
  rcases hk with e | e
  · exact h k e q
  · have := hT k q; omega
theorem dis_grow {S T : Nat → Prop} {w w' : World} (h : ∀ k, T k → ¬ S k) (hT : ∀ k, T k → k < w.heap.size) : ∀ k, T k → ¬ grow S w w' k := fun k hk q => grow_dis (fun k a b => h k b a) hT k q hk
theorem grow_ge {S : Nat → Prop} {w0 w w' : World} (h : ∀ k, S k → w0.heap.size ≤ k) (hE : Ext w0 w) : ∀ k, grow S w w' k → w0.heap.size ≤ k := by
  intro k q
  rcases q with q | q
  · exact h k q
  · have := hE.size; omega
theorem ext_keeps {S : Nat → Prop} {w0 w w' : World} (hE : Ext w0 w) (h : ∀ k, S k → w0.heap.size ≤ k) (hk : Keeps S w w') : Ext w0 w' := Below.trans hE (hk.below hE.size (fun k hk q => by have := h k q; omega))
structure Q3 (w0 w : World) (S1 S2 S3 : Nat → Prop) (d1 d2 d3 N : Nat) (m1 m2 m3 : Dk.DM) (b1 b2 b3 : Nat) : Prop where
  x : Ext w0 w
  s1 : DS w S1 d1 N m1 b1
  s2 : KS w S2 d2 N m2 b2
  s3 : KS w S3 d3 N m3 b3
  g1 : ∀ k, S1 k → w0.heap.size ≤ k
  g2 : ∀ k, S2 k → w0.heap.size ≤ k
  g3 : ∀ k, S3 k → w0.heap.size ≤ k
  e12 : ∀ k, S1 k → ¬ S2 k
  e13 : ∀ k, S1 k → ¬ S3 k
  e23 : ∀ k, S2 k → ¬ S3 k
theorem Q3.step {w0 w w' : World} {S1 S2 S3 : Nat → Prop} {d1 d2 d3 N : Nat} {m1 m2 m3 : Dk.DM} {b1 b2 b3 : Nat} (h : Q3 w0 w S1 S2 S3 d1 d2 d3 N m1 m2 m3 b1 b2 b3) (hE : Ext w w') : Q3 w0 w' S1 S2 S3 d1 d2 d3 N m1 m2 m3 b1 b2 b3 := ⟨h.x.trans hE, h.s1.ext hE, h.s2.ext hE, h.s3.ext hE, h.g1, h.g2, h.g3, h.e12, h.e13, h.e23⟩
theorem Q3.op1 {w0 w w' : World} {S1 S2 S3 : Nat → Prop} {d1 d2 d3 N : Nat} {m1 m2 m3 m' : Dk.DM} {b1 b2 b3 c : Nat} (h : Q3 w0 w S1 S2 S3 d1 d2 d3 N m1 m2 m3 b1 b2 b3) (ha : After S1 w w' d1 N m' c) : Q3 w0 w' (grow S1 w w') S2 S3 d1 d2 d3 N m' m2 m3 c b2 b3 :=
  ⟨ext_keeps h.x h.g1 ha.2, ha.1, h.s2.keeps ha.2 (fun k q e => h.e12 k e q), h.s3.keeps ha.2 (fun k q e => h.e13 k e q), grow_ge h.g1 h.x, h.g2, h.g3, grow_dis h.e12 h.s2.lt, grow_dis h.e13 h.s3.lt, h.e23⟩
theorem Q3.op2 {w0 w w' : World} {S1 S2 S3 : Nat → Prop} {d1 d2 d3 N : Nat} {m1 m2 m3 m' : Dk.DM} {b1 b2 b3 c : Nat} (h : Q3 w0 w S1 S2 S3 d1 d2 d3 N m1 m2 m3 b1 b2 b3) (ha : KAfter S2 w w' d2 N m' c) : Q3 w0 w' S1 (grow S2 w w') S3 d1 d2 d3 N m1 m' m3 b1 c b3 :=
  ⟨ext_keeps h.x h.g2 ha.2, h.s1.keeps ha.2 h.e12, ha.1, h.s3.keeps ha.2 (fun k q e => h.e23 k e q), h.g1, grow_ge h.g2 h.x, h.g3, dis_grow h.e12 h.s1.lt, h.e13, grow_dis h.e23 h.s3.lt⟩
theorem Q3.op3 {w0 w w' : World} {S1 S2 S3 : Nat → Prop} {d1 d2 d3 N : Nat} {m1 m2 m3 m' : Dk.DM} {b1 b2 b3 c : Nat} (h : Q3 w0 w S1 S2 S3 d1 d2 d3 N m1 m2 m3 b1 b2 b3) (ha : KAfter S3 w w' d3 N m' c) : Q3 w0 w' S1 S2 (grow S3 w w') d1 d2 d3 N m1 m2 m' b1 b2 c :=
  ⟨ext_keeps h.x h.g3 ha.2, h.s1.keeps ha.2 h.e13, h.s2.keeps ha.2 h.e23, ha.1, h.g1, h.g2, grow_ge h.g3 h.x, h.e12, dis_grow h.e13 h.s1.lt, dis_grow h.e23 h.s2.lt⟩
structure Q4 (w0 w : World) (S1 S2 S3 S4 : Nat → Prop) (d1 d2 d3 d4 N : Nat) (m1 m2 m3 m4 : Dk.DM) (b1 b2 b3 b4 : Nat) : Prop where
  x : Ext w0 w
  s1 : DS w S1 d1 N m1 b1
  s2 : KS w S2 d2 N m2 b2
  s3 : KS w S3 d3 N m3 b3
  s4 : DS w S4 d4 N m4 b4
  g1 : ∀ k, S1 k → w0.heap.size ≤ k
  g2 : ∀ k, S2 k → w0.heap.size ≤ k
  g3 : ∀ k, S3 k → w0.heap.size ≤ k
  g4 : ∀ k, S4 k → w0.heap.size ≤ k
  e12 : ∀ k, S1 k → ¬ S2 k
  e13 : ∀ k, S1 k → ¬ S3 k
  e14 : ∀ k, S1 k → ¬ S4 k
  e23 : ∀ k, S2 k → ¬ S3 k
  e24 : ∀ k, S2 k → ¬ S4 k
  e34 : ∀ k, S3 k → ¬ S4 k
theorem Q4.step {w0 w w' : World} {S1 S2 S3 S4 : Nat → Prop} {d1 d2 d3 d4 N : Nat} {m1 m2 m3 m4 : Dk.DM} {b1 b2 b3 b4 : Nat} (h : Q4 w0 w S1 S2 S3 S4 d1 d2 d3 d4 N m1 m2 m3 m4 b1 b2 b3 b4) (hE : Ext w w') : Q4 w0 w' S1 S2 S3 S4 d1 d2 d3 d4 N m1 m2 m3 m4 b1 b2 b3 b4 := ⟨h.x.trans hE, h.s1.ext hE, h.s2.ext hE, h.s3.ext hE, h.s4.ext hE, h.g1, h.g2, h.g3, h.g4, h.e12, h.e13, h.e14, h.e23, h.e24, h.e34⟩
theorem Q4.op1 {w0 w w' : World} {S1 S2 S3 S4 : Nat → Prop} {d1 d2 d3 d4 N : Nat} {m1 m2 m3 m4 m' : Dk.DM} {b1 b2 b3 b4 c : Nat} (h : Q4 w0 w S1 S2 S3 S4 d1 d2 d3 d4 N m1 m2 m3 m4 b1 b2 b3 b4) (ha : After S1 w w' d1 N m' c) : Q4 w0 w' (grow S1 w w') S2 S3 S4 d1 d2 d3 d4 N m' m2 m3 m4 c b2 b3 b4 :=
  ⟨ext_keeps h.x h.g1 ha.2, ha.1, h.s2.keeps ha.2 (fun k q e => h.e12 k e q), h.s3.keeps ha.2 (fun k q e => h.e13 k e q), h.s4.keeps ha.2 (fun k q e => h.e14 k e q), grow_ge h.g1 h.x, h.g2, h.g3, h.g4, grow_dis h.e12 h.s2.lt, grow_dis h.e13 h.s3.lt, grow_dis h.e14 h.s4.lt, h.e23, h.e24, h.e34⟩
theorem Q4.op2 {w0 w w' : World} {S1 S2 S3 S4 : Nat → Prop} {d1 d2 d3 d4 N : Nat} {m1 m2 m3 m4 m' : Dk.DM} {b1 b2 b3 b4 c : Nat} (h : Q4 w0 w S1 S2 S3 S4 d1 d2 d3 d4 N m1 m2 m3 m4 b1 b2 b3 b4) (ha : KAfter S2 w w' d2 N m' c) : Q4 w0 w' S1 (grow S2 w w') S3 S4 d1 d2 d3 d4 N m1 m' m3 m4 b1 c b3 b4 :=
  ⟨ext_keeps h.x h.g2 ha.2, h.s1.keeps ha.2 h.e12, ha.1, h.s3.keeps ha.2 (fun k q e => h.e23 k e q), h.s4.keeps ha.2 (fun k q e => h.e24 k e q), h.g1, grow_ge h.g2 h.x, h.g3, h.g4, dis_grow h.e12 h.s1.lt, h.e13, h.e14, grow_dis h.e23 h.s3.lt, grow_dis h.e24 h.s4.lt, h.e34⟩
theorem Q4.op3 {w0 w w' : World} {S1 S2 S3 S4 : Nat → Prop} {d1 d2 d3 d4 N : Nat} {m1 m2 m3 m4 m' : Dk.DM} {b1 b2 b3 b4 c : Nat} (h : Q4 w0 w S1 S2 S3 S4 d1 d2 d3 d4 N m1 m2 m3 m4 b1 b2 b3 b4) (ha : KAfter S3 w w' d3 N m' c) : Q4 w0 w' S1 S2 (grow S3 w w') S4 d1 d2 d3 d4 N m1 m2 m' m4 b1 b2 c b4 :=
  ⟨ext_keeps h.x h.g3 ha.2, h.s1.keeps ha.2 h.e13, h.s2.keeps ha.2 h.e23, ha.1, h.s4.keeps ha.2 (fun k q e => h.e34 k e q), h.g1, h.g2, grow_ge h.g3 h.x, h.g4, h.e12, dis_grow h.e13 h.s1.lt, h.e14, dis_grow h.e23 h.s2.lt, h.e24, grow_dis h.e34 h.s4.lt⟩
theorem Q4.op4 {w0 w w' : World} {S1 S2 S3 S4 : Nat → Prop} {d1 d2 d3 d4 N : Nat} {m1 m2 m3 m4 m' : Dk.DM} {b1 b2 b3 b4 c : Nat} (h : Q4 w0 w S1 S2 S3 S4 d1 d2 d3 d4 N m1 m2 m3 m4 b1 b2 b3 b4) (ha : After S4 w w' d4 N m' c) : Q4 w0 w' S1 S2 S3 (grow S4 w w') d1 d2 d3 d4 N m1 m2 m3 m' b1 b2 b3 c :=
  ⟨ext_keeps h.x h.g4 ha.2, h.s1.keeps ha.2 h.e14, h.s2.keeps ha.2 h.e24, h.s3.keeps ha.2 h.e34, ha.1, h.g1, h.g2, h.g3, grow_ge h.g4 h.x, h.e12, h.e13, dis_grow h.e14 h.s1.lt, h.e23, dis_grow h.e24 h.s2.lt, dis_grow h.e34 h.s3.lt⟩
theorem own_zero {w : World} {B : Nat} {e : TypeId} {size n : Nat} {v : Value} {xs : List Value} (h : w.ownsRow B e size v n xs) : w.ownsRow 0 e size v n xs := by
  refine ⟨h.1, ?_⟩
  rcases h.2 with q | ⟨g, cap, cur, hv, _, r⟩
  · exact .inl q
  · exact .inr ⟨g, cap, cur, hv, Nat.zero_le _, r⟩
theorem _root_.Go.World.ownsRow.ext {w w' : World} {B : Nat} {e : TypeId} {size n : Nat} {v : Value} {xs : List Value} (h : w.ownsRow B e size v n xs) (hE : Ext w w') : w'.ownsRow B e size v n xs := own_ext h hE
theorem Sr.ext {w w' : World} {g n : Nat} {f : Nat → ByteArray} (h : Sr w g n f) (hE : Ext w w') : Sr w' g n f := Cv.ext h hE
set_option linter.unusedSimpArgs false in
set_option maxHeartbeats 4000000 in
theorem copy_any (d n b : Nat) (m : Dk.DM) (S : Nat → Prop) (w : World) (h : DS w S d n m b) (hb : b ≤ 5000) :
    Calls Tryd.prog 18 #[.pointer (some ⟨d, 0, none⟩)] w fun e w' => (∃ c, e = .returned (.pointer (some ⟨c, 0, none⟩)) ∧ DS w' (fun k => w.heap.size ≤ k ∧ k < w'.heap.size) c n m b) ∧ Ext w w' := by
  obtain ⟨gk, ck, gn, cn, vw, hx⟩ := h.ex
  obtain ⟨vx, vc, rfl, _, _⟩ := own_form hx.wt
  have hn := h.n1
  have hok := h.ok
  have hwl := h.ok.len
  have HX := Lib.hid hx
  obtain ⟨ln, hln⟩ : ∃ ln, m.ws.length = ln := ⟨_, rfl⟩
  have HLN := Lib.hid hln
  rw [hln] at hwl
  clear hx h hln
  go_enter Tryd.func18, Tryd.ntmps18
  go_upto_region 1 with fail
  have X_0 := Lib.hid (Ext.refl w)
  refine wp_region_held_drew (S := fun w' => w'.cell? ⟨d, 0, none⟩ = some (.int .i64 m.left) ∧ w'.cell? ⟨d, 1, none⟩ = some (.slice (some ⟨gk, 0, none⟩) n ck) ∧ w'.cell? ⟨d, 2, none⟩ = some (.slice (some ⟨gn, 0, none⟩) n cn) ∧ w'.cell? ⟨d, 3, none⟩ = some (.slice vx m.ws.length vc)) (by kernel_rfl) ⟨(HX.out.ext X_0.out).bk.cell 0, (HX.out.ext X_0.out).bk.cell 1, (HX.out.ext X_0.out).bk.cell 2, (HX.out.ext X_0.out).bk.cell 3⟩ (fun hHeld => ?_)
  clear hHeld
  refine anyH_world (fun wz => Ext w wz) (show Ext w w.drew from Below.drew (Ext.refl w)) ?_
  rintro z1 h
  have X_1 := Lib.hid (X_0.out.trans h)
  clear h X_0
  have hHeld : z1.cell? ⟨d, 0, none⟩ = some (.int .i64 m.left) ∧ z1.cell? ⟨d, 1, none⟩ = some (.slice (some ⟨gk, 0, none⟩) n ck) ∧ z1.cell? ⟨d, 2, none⟩ = some (.slice (some ⟨gn, 0, none⟩) n cn) ∧ z1.cell? ⟨d, 3, none⟩ = some (.slice vx m.ws.length vc) := ⟨(HX.out.ext X_1.out).bk.cell 0, (HX.out.ext X_1.out).bk.cell 1, (HX.out.ext X_1.out).bk.cell 2, (HX.out.ext X_1.out).bk.cell 3⟩
  refine wpAnyH_take (i := 0) (v := ?_) rfl (by kernel_rfl) (by kernel_rfl) (by kernel_rfl) (fun _ _ _ h => h) (Or.inl ⟨by kernel_rfl, ?_⟩) hHeld ?_
  rotate_left
  · intro w hSw
    (try dsimp only at hSw)
    go_split_ands
    go_simp
    (try with_reducible rfl)
  try simp only [Act.put, List.getElem_toArray, List.getElem_cons_succ, List.getElem_cons_zero, List.setIfInBounds_toArray, List.set_cons_zero, List.set_cons_succ]
  refine wpAnyH_take (i := 1) (v := ?_) rfl (by kernel_rfl) (by kernel_rfl) (by kernel_rfl) (fun _ _ _ h => h) (Or.inl ⟨by kernel_rfl, ?_⟩) hHeld ?_
  rotate_left
  · intro w hSw
    (try dsimp only at hSw)
    go_split_ands
    go_simp
    (try with_reducible rfl)
  try simp only [Act.put, List.getElem_toArray, List.getElem_cons_succ, List.getElem_cons_zero, List.setIfInBounds_toArray, List.set_cons_zero, List.set_cons_succ]
  refine wpAnyH_take (i := 2) (v := ?_) rfl (by kernel_rfl) (by kernel_rfl) (by kernel_rfl) (fun _ _ _ h => h) (Or.inl ⟨by kernel_rfl, ?_⟩) hHeld ?_
  rotate_left
  · intro w hSw
    (try dsimp only at hSw)
    go_split_ands
    go_simp
    (try with_reducible rfl)
  try simp only [Act.put, List.getElem_toArray, List.getElem_cons_succ, List.getElem_cons_zero, List.setIfInBounds_toArray, List.set_cons_zero, List.set_cons_succ]
  refine wpAnyH_take (i := 3) (v := ?_) rfl (by kernel_rfl) (by kernel_rfl) (by kernel_rfl) (fun _ _ _ h => h) (Or.inl ⟨by kernel_rfl, ?_⟩) hHeld ?_
  rotate_left
  · intro w hSw
    (try dsimp only at hSw)
    go_split_ands
    go_simp
    (try with_reducible rfl)
  try simp only [Act.put, List.getElem_toArray, List.getElem_cons_succ, List.getElem_cons_zero, List.setIfInBounds_toArray, List.set_cons_zero, List.set_cons_succ]
  refine wpAnyH_take (i := 4) (v := ?_) rfl (by kernel_rfl) (by kernel_rfl) (by kernel_rfl) (fun _ _ _ h => h) (Or.inl ⟨by kernel_rfl, ?_⟩) hHeld ?_
  rotate_left
  · intro w hSw
    (try dsimp only at hSw)
    go_split_ands
    go_simp
    (try with_reducible rfl)
  try simp only [Act.put, List.getElem_toArray, List.getElem_cons_succ, List.getElem_cons_zero, List.setIfInBounds_toArray, List.set_cons_zero, List.set_cons_succ]
  refine wpAnyH_take (i := 5) (v := ?_) rfl (by kernel_rfl) (by kernel_rfl) (by kernel_rfl) (fun _ _ _ h => h) (Or.inl ⟨by kernel_rfl, ?_⟩) hHeld ?_
  rotate_left
  · intro w hSw
    (try dsimp only at hSw)
    go_split_ands
    go_simp
    (try with_reducible rfl)
  try simp only [Act.put, List.getElem_toArray, List.getElem_cons_succ, List.getElem_cons_zero, List.setIfInBounds_toArray, List.set_cons_zero, List.set_cons_succ]
  refine wpAnyH_take (i := 6) (v := ?_) rfl (by kernel_rfl) (by kernel_rfl) (by kernel_rfl) (fun _ _ _ h => h) (Or.inl ⟨by kernel_rfl, ?_⟩) hHeld ?_
  rotate_left
  · intro w hSw
    (try dsimp only at hSw)
    go_split_ands
    go_simp
    (try with_reducible rfl)
  try simp only [Act.put, List.getElem_toArray, List.getElem_cons_succ, List.getElem_cons_zero, List.setIfInBounds_toArray, List.set_cons_zero, List.set_cons_succ]
  refine wpAnyH_take (i := 7) (v := ?_) rfl (by kernel_rfl) (by kernel_rfl) (by kernel_rfl) (fun _ _ _ h => h) (Or.inl ⟨by kernel_rfl, ?_⟩) hHeld ?_
  rotate_left
  · intro w hSw
    (try dsimp only at hSw)
    go_split_ands
    go_simp
    (try with_reducible rfl)
  try simp only [Act.put, List.getElem_toArray, List.getElem_cons_succ, List.getElem_cons_zero, List.setIfInBounds_toArray, List.set_cons_zero, List.set_cons_succ]
  refine wpAnyH_take (i := 9) (v := ?_) rfl (by kernel_rfl) (by kernel_rfl) (by kernel_rfl) (fun _ _ _ h => h) (Or.inl ⟨by kernel_rfl, ?_⟩) hHeld ?_
  rotate_left
  · intro w hSw
    (try dsimp only at hSw)
    go_split_ands
    go_simp
    (try with_reducible rfl)
  try simp only [Act.put, List.getElem_toArray, List.getElem_cons_succ, List.getElem_cons_zero, List.setIfInBounds_toArray, List.set_cons_zero, List.set_cons_succ]
  refine wpAnyH_take (i := 10) (v := ?_) rfl (by kernel_rfl) (by kernel_rfl) (by kernel_rfl) (fun _ _ _ h => h) (Or.inl ⟨by kernel_rfl, ?_⟩) hHeld ?_
  rotate_left
  · intro w hSw
    (try dsimp only at hSw)
    go_split_ands
    go_simp
    (try with_reducible rfl)
  try simp only [Act.put, List.getElem_toArray, List.getElem_cons_succ, List.getElem_cons_zero, List.setIfInBounds_toArray, List.set_cons_zero, List.set_cons_succ]
  refine wpAnyH_take (i := 11) (v := ?_) rfl (by kernel_rfl) (by kernel_rfl) (by kernel_rfl) (fun _ _ _ h => h) (Or.inl ⟨by kernel_rfl, ?_⟩) hHeld ?_
  rotate_left
  · intro w hSw
    (try dsimp only at hSw)
    go_split_ands
    go_simp
    (try with_reducible rfl)
  try simp only [Act.put, List.getElem_toArray, List.getElem_cons_succ, List.getElem_cons_zero, List.setIfInBounds_toArray, List.set_cons_zero, List.set_cons_succ]
  refine wpAnyH_take (i := 12) (v := ?_) rfl (by kernel_rfl) (by kernel_rfl) (by kernel_rfl) (fun _ _ _ h => h) (Or.inl ⟨by kernel_rfl, ?_⟩) hHeld ?_
  rotate_left
  · intro w hSw
    (try dsimp only at hSw)
    go_split_ands
    go_simp
    (try with_reducible rfl)
  try simp only [Act.put, List.getElem_toArray, List.getElem_cons_succ, List.getElem_cons_zero, List.setIfInBounds_toArray, List.set_cons_zero, List.set_cons_succ]
  refine wpAnyH_take (i := 14) (v := ?_) rfl (by kernel_rfl) (by kernel_rfl) (by kernel_rfl) (fun _ _ _ h => h) (Or.inl ⟨by kernel_rfl, ?_⟩) hHeld ?_
  rotate_left
  · intro w hSw
    (try dsimp only at hSw)
    go_split_ands
    go_simp
    (try with_reducible rfl)
  try simp only [Act.put, List.getElem_toArray, List.getElem_cons_succ, List.getElem_cons_zero, List.setIfInBounds_toArray, List.set_cons_zero, List.set_cons_succ]
  refine wpAnyH_take (i := 15) (v := ?_) rfl (by kernel_rfl) (by kernel_rfl) (by kernel_rfl) (fun _ _ _ h => h) (Or.inl ⟨by kernel_rfl, ?_⟩) hHeld ?_
  rotate_left
  · intro w hSw
    (try dsimp only at hSw)
    go_split_ands
    go_simp
    (try with_reducible rfl)
  try simp only [Act.put, List.getElem_toArray, List.getElem_cons_succ, List.getElem_cons_zero, List.setIfInBounds_toArray, List.set_cons_zero, List.set_cons_succ]
  refine wpAnyH_take (i := 16) (v := ?_) rfl (by kernel_rfl) (by kernel_rfl) (by kernel_rfl) (fun _ _ _ h => h) (Or.inl ⟨by kernel_rfl, ?_⟩) hHeld ?_
  rotate_left
  · intro w hSw
    (try dsimp only at hSw)
    go_split_ands
    go_simp
    (try with_reducible rfl)
  try simp only [Act.put, List.getElem_toArray, List.getElem_cons_succ, List.getElem_cons_zero, List.setIfInBounds_toArray, List.set_cons_zero, List.set_cons_succ]
  refine wpAnyH_take (i := 17) (v := ?_) rfl (by kernel_rfl) (by kernel_rfl) (by kernel_rfl) (fun _ _ _ h => h) (Or.inl ⟨by kernel_rfl, ?_⟩) hHeld ?_
  rotate_left
  · intro w hSw
    (try dsimp only at hSw)
    go_split_ands
    go_simp
    (try with_reducible rfl)
  try simp only [Act.put, List.getElem_toArray, List.getElem_cons_succ, List.getElem_cons_zero, List.setIfInBounds_toArray, List.set_cons_zero, List.set_cons_succ]
  refine wpAnyH_ready (rs := [8]) (by kernel_rfl) (by simp) ?_
  refine AllReadyH.cons rfl (fun KK hK => ?_) AllReadyH.nil
  clear hHeld
  go_simp
  refine (clone_strs gk n ck m.kept _ (HX.out.ext X_1.out).ks (by omega) (by omega)).mono ?_
  rintro e z2 ⟨⟨g1, c1, rfl, hg, hg1, hg2⟩, h⟩
  have r1h := Lib.hid hg
  have G1 := Lib.hid (And.intro (Nat.le_trans X_1.out.size hg1) hg2)
  have X_2 := Lib.hid (X_1.out.trans h)
  clear h hg hg1 hg2 X_1
  have R1_2 := Lib.hid (r1h.out)
  go_simp
  refine hK.out _ _ ⟨(HX.out.ext X_2.out).bk.cell 0, (HX.out.ext X_2.out).bk.cell 1, (HX.out.ext X_2.out).bk.cell 2, (HX.out.ext X_2.out).bk.cell 3⟩ (fun hHeld => ?_)
  clear hK KK
  try simp only [Act.put, List.getElem_toArray, List.getElem_cons_succ, List.getElem_cons_zero, List.setIfInBounds_toArray, List.set_cons_zero, List.set_cons_succ]
  refine wpAnyH_ready (rs := [13]) (by kernel_rfl) (by simp) ?_
  refine AllReadyH.cons rfl (fun KK hK => ?_) AllReadyH.nil
  clear hHeld
  go_simp
  refine (clone_strs gn n cn m.now _ (HX.out.ext X_2.out).ns (by omega) (by omega)).mono ?_
  rintro e z3 ⟨⟨g2, c2, rfl, hg, hg1, hg2⟩, h⟩
  have r2h := Lib.hid hg
  have G2 := Lib.hid (And.intro hg1 (And.intro hg2 h.size))
  have X_3 := Lib.hid (X_2.out.trans h)
  have R1_3 := Lib.hid (R1_2.out.ext h)
  clear h hg hg1 hg2 X_2 R1_2
  have R2_3 := Lib.hid (r2h.out)
  go_simp
  refine hK.out _ _ ⟨(HX.out.ext X_3.out).bk.cell 0, (HX.out.ext X_3.out).bk.cell 1, (HX.out.ext X_3.out).bk.cell 2, (HX.out.ext X_3.out).bk.cell 3⟩ (fun hHeld => ?_)
  clear hK KK
  try simp only [Act.put, List.getElem_toArray, List.getElem_cons_succ, List.getElem_cons_zero, List.setIfInBounds_toArray, List.set_cons_zero, List.set_cons_succ]
  refine wpAnyH_ready (rs := [18]) (by kernel_rfl) (by simp) ?_
  refine AllReadyH.cons rfl (fun KK hK => ?_) AllReadyH.nil
  clear hHeld
  go_simp
  refine (clone_wr 0 _ m.ws _ (HX.out.ext X_3.out).wt (by rw [HLN.out]; omega)).mono ?_
  rintro e z4 ⟨⟨v3, rfl, ho⟩, h⟩
  obtain ⟨x3, k3, rfl⟩ := own_lit ho
  have r3h := Lib.hid ho
  have G3 := Lib.hid h.size
  have X_4 := Lib.hid (X_3.out.trans h)
  have R1_4 := Lib.hid (R1_3.out.ext h)
  have R2_4 := Lib.hid (R2_3.out.ext h)
  clear h ho X_3 R1_3 R2_3
  have R3_4 := Lib.hid (r3h.out)
  go_simp
  refine hK.out _ _ ⟨(HX.out.ext X_4.out).bk.cell 0, (HX.out.ext X_4.out).bk.cell 1, (HX.out.ext X_4.out).bk.cell 2, (HX.out.ext X_4.out).bk.cell 3⟩ (fun hHeld => ?_)
  clear hK KK
  try simp only [Act.put, List.getElem_toArray, List.getElem_cons_succ, List.getElem_cons_zero, List.setIfInBounds_toArray, List.set_cons_zero, List.set_cons_succ]
  refine wpAnyH_take (i := 19) (v := ?_) rfl (by kernel_rfl) (by kernel_rfl) (by kernel_rfl) (fun _ _ _ h => h) (Or.inl ⟨by kernel_rfl, ?_⟩) hHeld ?_
  rotate_left
  · intro w hSw
    (try dsimp only at hSw)
    go_split_ands
    go_simp
    (try with_reducible rfl)
  try simp only [Act.put, List.getElem_toArray, List.getElem_cons_succ, List.getElem_cons_zero, List.setIfInBounds_toArray, List.set_cons_zero, List.set_cons_succ]
  refine wpAnyH_ready (rs := [20]) (by kernel_rfl) (by simp) ?_
  refine AllReadyH.cons rfl (fun KK hK => ?_) AllReadyH.nil
  clear hHeld
  go_simp
  refine hK.out _ _ ⟨(HX.out.ext (X_4.out.trans (Ext.alloc (Ext.refl z4) _))).bk.cell 0, (HX.out.ext (X_4.out.trans (Ext.alloc (Ext.refl z4) _))).bk.cell 1, (HX.out.ext (X_4.out.trans (Ext.alloc (Ext.refl z4) _))).bk.cell 2, (HX.out.ext (X_4.out.trans (Ext.alloc (Ext.refl z4) _))).bk.cell 3⟩ (fun hHeld => ?_)
  clear hK KK
  try simp only [Act.put, List.getElem_toArray, List.getElem_cons_succ, List.getElem_cons_zero, List.setIfInBounds_toArray, List.set_cons_zero, List.set_cons_succ]
  refine wpAnyH_take (i := 21) (v := ?_) rfl (by kernel_rfl) (by kernel_rfl) (by kernel_rfl) (fun _ _ _ h => h) (Or.inl ⟨by kernel_rfl, ?_⟩) hHeld ?_
  rotate_left
  · intro w hSw
    (try dsimp only at hSw)
    go_split_ands
    go_simp
    (try with_reducible rfl)
  try simp only [Act.put, List.getElem_toArray, List.getElem_cons_succ, List.getElem_cons_zero, List.setIfInBounds_toArray, List.set_cons_zero, List.set_cons_succ]
  refine wpAnyH_done (by kernel_rfl) ?_ _
  clear hHeld
  go_wp2_with fail
  go_ret
  have E_ := Ext.alloc (Ext.refl z4) (.cells #[.int .i64 m.left, .slice (some ⟨g1, 0, none⟩) n c1, .slice (some ⟨g2, 0, none⟩) n c2, .slice x3 m.ws.length k3] 60)
  have a1 := G1.out
  have a2 := G2.out
  have a3 := G3.out
  have a4 := X_4.out.size
  exact ⟨⟨z4.heap.size, rfl, ⟨g1, c1, g2, c2, .slice x3 m.ws.length k3, ⟨Bk.at rfl, Cv.ext R1_4.out E_, Cv.ext R2_4.out E_, own_zero (own_ext R3_4.out E_), ⟨by omega, by simp⟩, ⟨by omega, by simp; omega⟩, ⟨by omega, by simp; omega⟩, (fun b hb => by have q := R3_4.out.lt b hb; exact ⟨⟨by omega, by simp; omega⟩, by omega, by omega, by omega⟩), by omega, by omega, by omega, by simp; omega, by simp; omega⟩⟩, hok, fun k q => q.2, hn⟩, X_4.out.trans E_⟩
end Go.Proofs.YtheidjagcafgnaaDoor
namespace Go.Proofs.YtheidjagcafgnaaDoor
open Go.RowKit
set_option maxRecDepth 100000
theorem kr_none (w : World) (S : Nat → Prop) : KR w S none 0 (fun _ => false) := ⟨fun _ => rfl, fun a ha => by cases ha⟩
set_option linter.unusedSimpArgs false in
set_option maxHeartbeats 8000000 in
theorem copies_any (n : Int) (nl cl nm cm : Nat) (xl xm : Option Addr) (l mo : Nat → Ac) (w : World) (E : Nat → Addr) (hE : Errs w E) (hl : Acs w xl nl l) (hm : Acs w xm nm mo) (hnl : nl ≤ maxLen) (hnm : nm ≤ maxLen) :
    Calls Tryd.prog 5 #[.int .i64 n, .slice xl nl cl, .slice xm nm cm] w fun e w' => e = .returned (.bool true) ∧ Ext w w' := by
  have HE := Lib.hid hE
  have HL := Lib.hid hl
  have HM := Lib.hid hm
  clear hE hl hm
  go_enter Tryd.func5, Tryd.ntmps5
  go_wp2_with fail
  refine (fresh_any w E (erd_of HE.out)).mono ?_
  rintro e w1 ⟨rfl, hX⟩
  have X1 := Lib.hid hX
  clear hX
  go_wp2_with fail
  refine (few_any xl nl cl l w1 (HL.out.ext X1.out) hnl).mono ?_
  rintro e w9 ⟨⟨b1, rfl, hb1⟩, rfl⟩
  cases b1
  · go_wp2_with fail
    go_ret
    exact ⟨rfl, X1.out⟩
  have FL := Lib.hid (hb1 rfl)
  clear hb1
  go_wp2_with fail
  refine (few_any xm nm cm mo w9 (HM.out.ext X1.out) hnm).mono ?_
  rintro e w8 ⟨⟨b2, rfl, hb2⟩, rfl⟩
  cases b2
  · go_wp2_with fail
    go_ret
    exact ⟨rfl, X1.out⟩
  have FM := Lib.hid (hb2 rfl)
  clear hb2 hnl hnm
  by_cases q1 : n < 1
  · have t1 : decide (n < 1) = true := decide_eq_true q1
    go_wp2_with fail
    go_ret
    exact ⟨rfl, X1.out⟩
  have t1 : decide (n < 1) = false := decide_eq_false q1
  by_cases q2 : 50 < n
  · have t2 : decide (50 < n) = true := decide_eq_true q2
    go_wp2_with fail
    go_ret
    exact ⟨rfl, X1.out⟩
  have t2 : decide (50 < n) = false := decide_eq_false q2
  obtain ⟨N, rfl⟩ : ∃ N : Nat, n = N := ⟨n.toNat, by omega⟩
  have hN1 : 1 ≤ N ∧ N ≤ 50 := by omega
  clear q1 q2
  go_wp2_with fail
  refine (new_ok N w8 (by omega)).mono ?_
  rintro e w2 ⟨⟨d1, rfl, hd⟩, hX⟩
  have X2 := Lib.hid (And.intro (X1.out.trans hX) (And.intro hd (show ∀ k, (w8.heap.size ≤ k ∧ k < w2.heap.size) → w.heap.size ≤ k from fun k q => Nat.le_trans X1.out.size q.1)))
  clear hd hX t1 t2
  go_wp2_with fail
  refine (knew_any N w2 (by omega)).mono ?_
  rintro e w3 ⟨⟨d2, rfl, hd⟩, hX⟩
  have X3 := Lib.hid (And.intro (X2.out.1.trans hX) (And.intro (X2.out.2.1.ext hX) hd))
  clear hd hX
  go_wp2_with fail
  refine (knew_any N w3 (by omega)).mono ?_
  rintro e w4 ⟨⟨d3, rfl, hd⟩, hX⟩
  have T0 := Lib.hid (show Q3 w w4 _ _ _ d1 d2 d3 N Dk.new Dk.new Dk.new 0 0 0 from
    ⟨X3.out.1.trans hX, X3.out.2.1.ext hX, X3.out.2.2.ext hX, hd, X2.out.2.2, fun k q => Nat.le_trans X2.out.1.size q.1, fun k q => Nat.le_trans X3.out.1.size q.1, fun k q e => by have := q.2; have := e.1; omega, fun k q e => by have h1 := X3.out.2.1.lt k q; have h2 := e.1; omega, fun k q e => by have h1 := q.2; have h2 := e.1; omega⟩)
  clear hd hX X2 X3
  have hl60 : nl ≤ 60 := FL.out.1
  have hm60 : nm ≤ 60 := FM.out.1
  go_wp2_with fail
  go_loopw [12] (fun cc wr => ∃ (i : Nat) (S1 S2 S3 : Nat → Prop) (m : Dk.DM), i ≤ nl ∧ cc = .int .i64 (i : Int) ∧ Hid (Q3 w wr S1 S2 S3 d1 d2 d3 N m m m i i i)) (fun cc _ => nl - (intOf cc).toNat)
  case atStart => exact ⟨0, _, _, _, _, by omega, rfl, T0⟩
  case round =>
    clear T0
    obtain ⟨i, S1, S2, S3, m, hi, rfl, T⟩ := hrel
    by_cases hlt : i < nl
    · have ht : (i : Int) < (nl : Int) := by omega
      obtain ⟨a, rfl⟩ : ∃ a, xl = some a := by
        cases xl with
        | none => have := HL.out.1 rfl; omega
        | some a => exact ⟨a, rfl⟩
      obtain ⟨_, _, _, _, ok0⟩ := HL.out.2 a rfl i hlt
      have HO := Lib.hid ok0
      clear ok0
      obtain ⟨c0, c1, c2, c3, _⟩ := (HL.out.ext T.out.x).2 a rfl i hlt
      have wi : ∀ z, z = (i : Int) + 1 → IntKind.i64.wrap z = z := by rintro _ rfl; rw [IntKind.wrap_i64]; omega
      go_wp2_with fail
      refine (do_any d2 N i m (l i) S2 wr T.out.s2 (by omega) HO.out.n (kr_of HO.out.kp T.out.x T.out.g2)).mono ?_
      rintro e w4 ⟨rfl, hA⟩
      have T4 := Lib.hid (T.out.op2 hA)
      clear hA c0 c1 c2 c3 T
      obtain ⟨c, hc⟩ : ∃ c, (doA N (l i) m).2 = c := ⟨_, rfl⟩
      rw [hc]
      have HC := Lib.hid hc
      clear hc
      obtain ⟨c0, c1, c2, c3, _⟩ := (HL.out.ext T4.out.x).2 a rfl i hlt
      go_wp2_with fail
      refine (do_any d3 N i m (l i) S3 w4 T4.out.s3 (by omega) HO.out.n (kr_of HO.out.kp T4.out.x T4.out.g3)).mono ?_
      rintro e w5 ⟨rfl, hA⟩
      have T5 := Lib.hid (T4.out.op3 hA)
      clear hA c0 c1 c2 c3 T4
      rw [HC.out]
      obtain ⟨c0, c1, c2, c3, _⟩ := (HL.out.ext T5.out.x).2 a rfl i hlt
      go_wp2_with fail
      refine (act_any d1 N i m (l i) S1 w5 E ((erd_of HE.out).ext T5.out.x) T5.out.s1 (by omega) HO.out.n (FL.out.2 i hlt).2 (HO.out.kp.ext T5.out.x)).mono ?_
      rintro e w6 ⟨rfl, hA⟩
      have T6 := Lib.hid (T5.out.op1 hA)
      clear hA c0 c1 c2 c3 T5
      obtain ⟨v, hv⟩ : ∃ v, erV E (doA N (l i) m).2 = v := ⟨_, rfl⟩
      rw [hv]
      clear hv
      go_wp2_with fail
      go_roundw
      case rel => exact ⟨i + 1, _, _, _, _, by omega, by go_num, T6⟩
      case measure => simp [intOf]; omega
    · obtain rfl : i = nl := by omega
      go_wp2_with fail
      refine (copy_any d1 N i m S1 wr T.out.s1 (by omega)).mono ?_
      rintro e w4 ⟨⟨d4, rfl, hd⟩, hX⟩
      have T4 := Lib.hid (show Q4 w w4 S1 S2 S3 _ d1 d2 d3 d4 N m m m m i i i i from
        ⟨T.out.x.trans hX, T.out.s1.ext hX, T.out.s2.ext hX, T.out.s3.ext hX, hd, T.out.g1, T.out.g2, T.out.g3, fun k q => Nat.le_trans T.out.x.size q.1, T.out.e12, T.out.e13, fun k q e => by have h1 := T.out.s1.lt k q; have h2 := e.1; omega, T.out.e23, fun k q e => by have h1 := T.out.s2.lt k q; have h2 := e.1; omega, fun k q e => by have h1 := T.out.s3.lt k q; have h2 := e.1; omega⟩)
      clear hd hX T
      go_wp2_with fail
      refine (alike_any d4 d2 N i i m _ S2 w4 E ((erd_of HE.out).ext T4.out.x) T4.out.s4 T4.out.s2).mono ?_
      rintro e w5 ⟨rfl, hX⟩
      have T5 := Lib.hid (T4.out.step hX)
      clear hX T4
      go_wp2_with fail
      go_loopw [14] (fun cc wr => ∃ (j : Nat) (S3 S4 : Nat → Prop) (m4 : Dk.DM), j ≤ nm ∧ cc = .int .i64 (j : Int) ∧ Hid (Q4 w wr S1 S2 S3 S4 d1 d2 d3 d4 N m m m4 m4 i i (i + j) (i + j))) (fun cc _ => nm - (intOf cc).toNat)
      case atStart => exact ⟨0, _, _, _, by omega, rfl, T5⟩
      case round =>
        clear T5
        obtain ⟨j, S3, S4, m4, hj, rfl, T⟩ := hrel
        by_cases hjt : j < nm
        · have ht : (j : Int) < (nm : Int) := by omega
          obtain ⟨a, rfl⟩ : ∃ a, xm = some a := by
            cases xm with
            | none => have := HM.out.1 rfl; omega
            | some a => exact ⟨a, rfl⟩
          obtain ⟨_, _, _, _, ok0⟩ := HM.out.2 a rfl j hjt
          have HO := Lib.hid ok0
          clear ok0
          obtain ⟨c0, c1, c2, c3, _⟩ := (HM.out.ext T.out.x).2 a rfl j hjt
          have wi : ∀ z, z = (j : Int) + 1 → IntKind.i64.wrap z = z := by rintro _ rfl; rw [IntKind.wrap_i64]; omega
          go_wp2_with fail
          refine (do_any d3 N (i + j) m4 (mo j) S3 wr T.out.s3 (by omega) HO.out.n (kr_of HO.out.kp T.out.x T.out.g3)).mono ?_
          rintro e w4 ⟨rfl, hA⟩
          have T4 := Lib.hid (T.out.op3 hA)
          clear hA c0 c1 c2 c3 T
          have hc9 := doA_code N (mo j) m4
          obtain ⟨c, hc⟩ : ∃ c, (doA N (mo j) m4).2 = c := ⟨_, rfl⟩
          rw [hc] at hc9 ⊢
          have HC := Lib.hid hc
          clear hc
          obtain ⟨c0, c1, c2, c3, _⟩ := (HM.out.ext T4.out.x).2 a rfl j hjt
          go_wp2_with fail
          refine (act_any d4 N (i + j) m4 (mo j) S4 w4 E ((erd_of HE.out).ext T4.out.x) T4.out.s4 (by omega) HO.out.n (FM.out.2 j hjt).2 (HO.out.kp.ext T4.out.x)).mono ?_
          rintro e w5 ⟨rfl, hA⟩
          have T5 := Lib.hid (T4.out.op4 hA)
          clear hA c0 c1 c2 c3 T4
          rw [HC.out]
          have HV := Lib.hid (erV_ok w5 E c hc9)
          obtain ⟨v, hv⟩ : ∃ v, erV E c = v := ⟨_, rfl⟩
          rw [hv] at HV ⊢
          clear hv
          go_wp2_with fail
          refine (coded_any w5 E (HE.out.ext T5.out.x) v (c : Int) (-1) (c : Int) HV.out).mono ?_
          rintro e w6 ⟨rfl, hX⟩
          have T6 := Lib.hid (T5.out.step hX)
          clear hX T5 HV
          rw [show decide ((c : Int) = (c : Int) ∧ (-1 : Int) = -1) = true from by simp]
          go_wp2_with fail
          go_roundw
          case rel => exact ⟨j + 1, _, _, _, by omega, by go_num, T6⟩
          case measure => simp [intOf]; omega
        · obtain rfl : j = nm := by omega
          go_wp2_with fail
          refine (alike_any d4 d3 N (i + j) (i + j) m4 S4 S3 wr E ((erd_of HE.out).ext T.out.x) T.out.s4 T.out.s3).mono ?_
          rintro e w4 ⟨rfl, hX⟩
          have T4 := Lib.hid (T.out.step hX)
          clear hX T
          go_wp2_with fail
          refine (alike_any d1 d2 N i i m S1 S2 w4 E ((erd_of HE.out).ext T4.out.x) T4.out.s1 T4.out.s2).mono ?_
          rintro e w5 ⟨rfl, hX⟩
          have T5 := Lib.hid (T4.out.step hX)
          clear hX T4
          go_wp2_with fail
          refine (crash_any d1 N i m S1 w5 T5.out.s1 (by omega) none 0 0 (fun _ => false) (kr_none _ _) (by omega)).mono ?_
          rintro e w6 ⟨rfl, hA⟩
          have T6 := Lib.hid (T5.out.op1 hA)
          clear hA T5
          go_wp2_with fail
          refine (kcrash_any d2 N i m S2 w6 T6.out.s2 (by omega) none 0 0 (fun _ => false) (kr_none _ _)).mono ?_
          rintro e w7 ⟨rfl, hA⟩
          have T7 := Lib.hid (T6.out.op2 hA)
          clear hA T6
          go_wp2_with fail
          refine (crash_any d4 N (i + j) m4 S4 w7 T7.out.s4 (by omega) none 0 0 (fun _ => false) (kr_none _ _) (by omega)).mono ?_
          rintro e w8 ⟨rfl, hA⟩
          have T8 := Lib.hid (T7.out.op4 hA)
          clear hA T7
          go_wp2_with fail
          refine (kcrash_any d3 N (i + j) m4 S3 w8 T8.out.s3 (by omega) none 0 0 (fun _ => false) (kr_none _ _)).mono ?_
          rintro e w9 ⟨rfl, hA⟩
          have T9 := Lib.hid (T8.out.op3 hA)
          clear hA T8
          go_wp2_with fail
          refine (alike_any d1 d2 N i i _ _ _ w9 E ((erd_of HE.out).ext T9.out.x) T9.out.s1 T9.out.s2).mono ?_
          rintro e w10 ⟨rfl, hX⟩
          have T10 := Lib.hid (T9.out.step hX)
          clear hX T9
          go_wp2_with fail
          refine (alike_any d4 d3 N (i + j) (i + j) _ _ _ w10 E ((erd_of HE.out).ext T10.out.x) T10.out.s4 T10.out.s3).mono ?_
          rintro e w11 ⟨rfl, hX⟩
          have T11 := Lib.hid (T10.out.step hX)
          clear hX T10
          go_wp2_with fail
          go_ret
          exact ⟨rfl, T11.out.x⟩
end Go.Proofs.YtheidjagcafgnaaDoor
namespace Go.Proofs.YtheidjagcafgnaaDoor
open Go.RowKit Go.ChangeShapes
set_option maxRecDepth 100000
theorem rowName : (Tryd.prog.cutTypes.find? (·.1 == "internal/reflectlite.rtype")).map (·.2) = some 115 := by kernel_rfl
theorem oneRow : ((List.range Tryd.prog.types.size).filter fun t => Tryd.prog.rowNamed t [101, 114, 114, 111, 114]) = [28] := by kernel_rfl
theorem etName : Tryd.prog.globalNamed "errors.errorType" = some 9 := by kernel_rfl
theorem errType_of_laid {l : List (String × DataW Unit)} {W : World} (h : laidMetH Tryd.prog l W)
    (hl : l.filter (fun x => x.1 == "errors.errorType") = [("errors.errorType", .iface "internal/reflectlite.rtype" (.agg [.ptr (.lit (.string [101, 114, 114, 111, 114]))]))]) : ErrType W := by
  have h1 := laidMetH.filter (fun x => x.1 == "errors.errorType") h
  rw [hl] at h1
  have h' : laidMet Tryd.prog [] W ∧ handlesMet Tryd.prog [("errors.errorType", .iface "internal/reflectlite.rtype" (.agg [.ptr (.lit (.string [101, 114, 114, 111, 114]))]))] W := h1
  obtain ⟨name, u, ty, e1, e2, e3, e4, e5⟩ := h'.2 _ (List.mem_singleton.2 rfl)
  have en : name = [101, 114, 114, 111, 114] := (Option.some.inj e1).symm
  subst en
  obtain rfl := Option.some.inj (rowName.symm.trans e2)
  have hm : ty ∈ (List.range Tryd.prog.types.size).filter fun t => Tryd.prog.rowNamed t [101, 114, 114, 111, 114] := List.mem_filter.2 ⟨List.mem_range.2 e3, e4⟩
  rw [oneRow] at hm
  obtain rfl := List.mem_singleton.1 hm
  have hh : typeHandle Tryd.prog 28 = hdl 28 := by kernel_rfl
  rw [hh] at e5
  unfold ErrType
  simpa using World.var?_cell etName e5 0
theorem sentinel_row {l : List (String × DataW Unit)} {W : World} {n : String} {g : Nat} {text : List UInt8} {ti : TypeId} {ms : Array (String × TypeId)} (h : laidMetH Tryd.prog l W)
    (hl : l.filter (fun x => x.1 == n) = [(n, .iface "*errors.errorString" (.ptr (.agg [.lit (.string text)])))]) (hg : Tryd.prog.globalNamed n = some g)
    (ht : (Tryd.prog.globals[g]?).map (·.type) = some ti) (hi : Tryd.prog.underlying ti = some (.interface ms)) :
    ∃ (E : Addr), W.cell? ⟨g, 0, none⟩ = some (sentV E) ∧ (∃ s : ByteArray, W.cell? E = some (.string s) ∧ s.data.toList = text) ∧ ∃ c t, W.heap[E.block]? = some (.cells c t (0, 0)) := by
  have h1 := laidMetH.filter (fun x => x.1 == n) h
  rw [hl] at h1
  have h2 : laidMet Tryd.prog [(n, .iface "*errors.errorString" (.ptr (.agg [.lit (.string text)])))] W := h1
  obtain ⟨ps, ⟨g0, t0, cs0, f0, p0, q0, hg0, ht0, hv0, hd0, _, e0⟩, _, hrows⟩ := h2
  obtain rfl := Option.some.inj (hg.symm.trans hg0)
  obtain rfl := Option.some.inj (ht.symm.trans ht0)
  subst e0
  obtain ⟨l0⟩ := cs0
  have ok0 : ∀ u v, l0 = [.iface u v] → Value.okWide Tryd.prog W .any 0 u v := fun u v e => by
    subst e
    exact (hrows g 0 (by simp [MemPlace.row])).2 u v (by simpa using World.var?_cell hg0 hv0 0)
  obtain ⟨a0, s0, rfl, hc0, hs0, hz0, rfl⟩ := errorString_of_trod hi sent_row Tryd.underlying128 Tryd.underlying146 rfl rfl Tryd.underlying9 (by kernel_rfl) (by kernel_rfl) hd0 ok0
  obtain ⟨c, t, hb⟩ := (hrows a0.block a0.off (by simp [MemPlace.row])).1
  exact ⟨a0, by unfold sentV; simpa using World.var?_cell hg0 hv0 0, ⟨s0, hc0, hs0⟩, c, t, hb⟩
def nameE : Nat → String
  | 0 => "layercake/api.ErrText"
  | 1 => "layercake/api.ErrBound"
  | 2 => "layercake/api.ErrShape"
  | 3 => "layercake/api.ErrSum"
  | 4 => "layercake/api.ErrName"
  | 5 => "layercake/api.ErrNone"
  | 6 => "layercake/api.ErrColors"
  | 7 => "layercake/api.ErrFull"
  | _ => "layercake/api.ErrPower"
def textE : Nat → List UInt8
  | 0 => [108, 97, 121, 101, 114, 99, 97, 107, 101, 58, 32, 116, 101, 120, 116]
  | 1 => [108, 97, 121, 101, 114, 99, 97, 107, 101, 58, 32, 98, 111, 117, 110, 100]
  | 2 => [108, 97, 121, 101, 114, 99, 97, 107, 101, 58, 32, 115, 104, 97, 112, 101]
  | 3 => [108, 97, 121, 101, 114, 99, 97, 107, 101, 58, 32, 115, 117, 109]
  | 4 => [108, 97, 121, 101, 114, 99, 97, 107, 101, 58, 32, 110, 97, 109, 101]
  | 5 => [108, 97, 121, 101, 114, 99, 97, 107, 101, 58, 32, 110, 111, 110, 101]
  | 6 => [108, 97, 121, 101, 114, 99, 97, 107, 101, 58, 32, 99, 111, 108, 111, 114, 115]
  | 7 => [108, 97, 121, 101, 114, 99, 97, 107, 101, 58, 32, 102, 117, 108, 108]
  | _ => [108, 97, 121, 101, 114, 99, 97, 107, 101, 58, 32, 112, 111, 119, 101, 114]
def errD (k : Nat) : List (String × DataW Unit) := [(nameE k, .iface "*errors.errorString" (.ptr (.agg [.lit (.string (textE k))])))]
theorem textE_ne : ∀ j, j < 9 → ∀ k, k < 9 → j ≠ k → textE j ≠ textE k := by decide
theorem errs_of_laid {l : List (String × DataW Unit)} {W : World} (h : laidMetH Tryd.prog l W)
    (het : l.filter (fun x => x.1 == "errors.errorType") = [("errors.errorType", .iface "internal/reflectlite.rtype" (.agg [.ptr (.lit (.string [101, 114, 114, 111, 114]))]))])
    (hl0 : l.filter (fun x => x.1 == nameE 0) = errD 0) (hl1 : l.filter (fun x => x.1 == nameE 1) = errD 1) (hl2 : l.filter (fun x => x.1 == nameE 2) = errD 2)
    (hl3 : l.filter (fun x => x.1 == nameE 3) = errD 3) (hl4 : l.filter (fun x => x.1 == nameE 4) = errD 4) (hl5 : l.filter (fun x => x.1 == nameE 5) = errD 5)
    (hl6 : l.filter (fun x => x.1 == nameE 6) = errD 6) (hl7 : l.filter (fun x => x.1 == nameE 7) = errD 7) (hl8 : l.filter (fun x => x.1 == nameE 8) = errD 8) :
    ∃ E, Errs W E ∧ ∀ k, k < 9 → ∃ s : ByteArray, W.cell? (E k) = some (.string s) ∧ s.data.toList = textE k := by
  have key : ∀ k, k < 9 → ∃ (E : Addr), W.cell? ⟨gk k, 0, none⟩ = some (sentV E) ∧ (∃ s : ByteArray, W.cell? E = some (.string s) ∧ s.data.toList = textE k) ∧ ∃ c t, W.heap[E.block]? = some (.cells c t (0, 0)) := by
    intro k hk
    match k, hk with
    | 0, _ => exact sentinel_row h hl0 (by kernel_rfl) (by kernel_rfl) Tryd.underlying28
    | 1, _ => exact sentinel_row h hl1 (by kernel_rfl) (by kernel_rfl) Tryd.underlying28
    | 2, _ => exact sentinel_row h hl2 (by kernel_rfl) (by kernel_rfl) Tryd.underlying28
    | 3, _ => exact sentinel_row h hl3 (by kernel_rfl) (by kernel_rfl) Tryd.underlying28
    | 4, _ => exact sentinel_row h hl4 (by kernel_rfl) (by kernel_rfl) Tryd.underlying28
    | 5, _ => exact sentinel_row h hl5 (by kernel_rfl) (by kernel_rfl) Tryd.underlying28
    | 6, _ => exact sentinel_row h hl6 (by kernel_rfl) (by kernel_rfl) Tryd.underlying28
    | 7, _ => exact sentinel_row h hl7 (by kernel_rfl) (by kernel_rfl) Tryd.underlying28
    | 8, _ => exact sentinel_row h hl8 (by kernel_rfl) (by kernel_rfl) Tryd.underlying28
  let E : Nat → Addr := fun k => if hk : k < 9 then (key k hk).choose else ⟨0, 0, none⟩
  have hE : ∀ k (hk : k < 9), E k = (key k hk).choose := fun k hk => by simp [E, hk]
  refine ⟨E, ⟨errType_of_laid h het, fun k hk => ?_, fun k hk => ?_, fun j k hj hk hjk => ?_⟩, fun k hk => ?_⟩
  · rw [hE k hk]; exact (key k hk).choose_spec.1
  · rw [hE k hk]; exact (key k hk).choose_spec.2.2
  · rw [hE j hj, hE k hk]
    intro e
    obtain ⟨s, h1, h2⟩ := (key j hj).choose_spec.2.1
    obtain ⟨s', h3, h4⟩ := (key k hk).choose_spec.2.1
    rw [e, h3] at h1
    injection h1 with h1; injection h1 with h1
    subst h1
    exact textE_ne j hj k hk hjk (h2.symm.trans h4)
  · rw [hE k hk]; exact (key k hk).choose_spec.2.1
end Go.Proofs.YtheidjagcafgnaaDoor
namespace Go.Proofs.YtheidjagcafgnaaDoor
open Go.ChangeShapes Go.WideShapes Go.RowKit Go.Deep Go.Joins
set_option maxRecDepth 100000
theorem ac_string {H : Type} {enc : TypeId × Value → H} {w : World} {base : Nat} {spare : Nat → Bool} {held : Bool} {n : Nat} {v : Value} {y : DataW H × List MemPlace} (h : DataW.trod enc Tryd.prog w base spare held n 9 [v] = some y) : ∃ s : ByteArray, v = .string s ∧ s.size ≤ maxLen := by
  obtain ⟨s, e, _, z⟩ := DataW.trod_string Tryd.underlying9 h
  simp only [List.cons.injEq, and_true] at e
  exact ⟨s, e, z⟩
theorem ac_int {H : Type} {enc : TypeId × Value → H} {w : World} {base : Nat} {spare : Nat → Bool} {held : Bool} {n : Nat} {v : Value} {y : DataW H × List MemPlace} (h : DataW.trod enc Tryd.prog w base spare held n 3 [v] = some y) : ∃ k : Int, v = .int .i64 k ∧ -9223372036854775808 ≤ k ∧ k ≤ 9223372036854775807 := by
  obtain ⟨k, e, _, wf⟩ := DataW.trod_int Tryd.underlying3 h
  simp only [List.cons.injEq, and_true] at e
  exact ⟨k, e, bounds_i64 wf⟩
theorem ac_bools {H : Type} {enc : TypeId × Value → H} {w : World} {base : Nat} {held : Bool} {n : Nat} {v : Value} {y : DataW H × List MemPlace} (h : DataW.trod enc Tryd.prog w base (fun _ => true) held n 23 [v] = some y) : ∃ (x : Option Addr) (len cap : Nat) (kb : Nat → Bool), v = .slice x len cap ∧ len ≤ maxLen ∧ Kp w x len kb := by
  rcases open_bools Tryd.underlying23 Tryd.underlying4 (by kernel_rfl) h with ⟨h0, _⟩ | ⟨a, len, cap, B, h0, _, hl, hm, _, hB⟩
  · simp only [List.cons.injEq, and_true] at h0
    exact ⟨none, 0, 0, fun _ => false, h0, Nat.zero_le _, fun _ => rfl, fun a h => by cases h⟩
  · simp only [List.cons.injEq, and_true] at h0
    exact ⟨some a, len, cap, B, h0, by omega, (fun h => by cases h), fun a' ha j hj => by injection ha with ha; subst ha; exact hB j (by omega)⟩
theorem open_kp {H : Type} {enc : TypeId × Value → H} {w : World} {base : Nat} {held : Bool} {v : Value} {d : DataW H} {pl : List MemPlace}
    (h : DataW.Trod enc Tryd.prog w base (fun _ => true) held 23 v d pl) (hv : ∃ x len cap, v = .slice x len cap) : ∃ (x : Option Addr) (len cap : Nat) (kb : Nat → Bool), v = .slice x len cap ∧ len ≤ maxLen ∧ Kp w x len kb := by
  obtain ⟨x, len, cap, rfl⟩ := hv
  obtain ⟨fuel, hf⟩ := h
  exact ac_bools hf
theorem open_acs {H : Type} {enc : TypeId × Value → H} {w : World} {base : Nat} {held : Bool} {v : Value} {d : DataW H} {pl : List MemPlace}
    (h : DataW.Trod enc Tryd.prog w base (fun _ => true) held 22 v d pl) (hv : ∃ x len cap, v = .slice x len cap) :
    ∃ (a : Option Addr) (n cap : Nat) (ac : Nat → Ac), v = .slice a n cap ∧ n ≤ maxLen ∧ Acs w a n ac := by
  obtain ⟨x, len, cap, rfl⟩ := hv
  obtain ⟨fuel, hf⟩ := h
  rcases open_recs Tryd.underlying22 Tryd.underlying33 (by kernel_rfl) (show Tryd.prog.cellsOf 33 = _ by kernel_rfl) hf with h0 | ⟨a, n, c, h0, hn, hc, hf⟩
  · simp [Value.cells] at h0
    obtain ⟨rfl, rfl, rfl⟩ := h0
    exact ⟨none, 0, 0, fun _ => ⟨⟨#[]⟩, 0, ⟨#[]⟩, none, 0, 0, fun _ => false⟩, rfl, Nat.zero_le _, fun _ => rfl, fun a h => by cases h⟩
  · simp [Value.cells] at h0
    obtain ⟨rfl, rfl, rfl⟩ := h0
    have key : ∀ i, i < len → ∃ p : Ac, w.cell? (a.add (i * 4)) = some (.string p.kind) ∧ w.cell? ⟨(a.add (i * 4)).block, (a.add (i * 4)).off + 1, none⟩ = some (.int .i64 p.n) ∧
        w.cell? ⟨(a.add (i * 4)).block, (a.add (i * 4)).off + 2, none⟩ = some (.string p.s) ∧ w.cell? ⟨(a.add (i * 4)).block, (a.add (i * 4)).off + 3, none⟩ = some (.slice p.kx p.kn p.kc) ∧ p.Ok w := by
      intro i hi
      obtain ⟨v0, y0, n0, c0, t0⟩ := hf i hi 0 _ rfl
      obtain ⟨v1, y1, n1, c1, t1⟩ := hf i hi 1 _ rfl
      obtain ⟨v2, y2, n2, c2, t2⟩ := hf i hi 2 _ rfl
      obtain ⟨v3, y3, n3, c3, t3⟩ := hf i hi 3 _ rfl
      obtain ⟨k0, rfl, z0⟩ := ac_string t0
      obtain ⟨k1, rfl, b1⟩ := ac_int t1
      obtain ⟨k2, rfl, z2⟩ := ac_string t2
      obtain ⟨kx, kn, kc, kb, rfl, z3, hk⟩ := ac_bools t3
      exact ⟨⟨k0, k1, k2, kx, kn, kc, kb⟩, c0, cell_add (by decide) c1, cell_add (by decide) c2, cell_add (by decide) c3, ⟨b1, by unfold maxLen at z2; simp only; omega, by unfold maxLen at z3; simp only; omega, hk⟩⟩
    haveI : Inhabited Ac := ⟨⟨⟨#[]⟩, 0, ⟨#[]⟩, none, 0, 0, fun _ => false⟩⟩
    obtain ⟨ac, hac⟩ := Go.Deep.choose_lt (α := Ac) key
    exact ⟨some a, len, cap, ac, rfl, by omega, (fun h => by cases h), fun a' ha i hi => by injection ha with ha; subst ha; exact hac i hi⟩
/-- three errors, out of what a row lists -/
theorem erD_of_laid {l : List (String × DataW Unit)} {W : World} {x1 x2 x8 : List UInt8} (h : laidMetH Tryd.prog l W)
    (f1 : l.filter (fun x => x.1 == "layercake/api.ErrBound") = [("layercake/api.ErrBound", .iface "*errors.errorString" (.ptr (.agg [.lit (.string x1)])))])
    (f2 : l.filter (fun x => x.1 == "layercake/api.ErrShape") = [("layercake/api.ErrShape", .iface "*errors.errorString" (.ptr (.agg [.lit (.string x2)])))])
    (f8 : l.filter (fun x => x.1 == "layercake/api.ErrPower") = [("layercake/api.ErrPower", .iface "*errors.errorString" (.ptr (.agg [.lit (.string x8)])))]) : ∃ E : Nat → Addr, ErD W E := by
  obtain ⟨E1, s1, v1, _⟩ := sentinel (g := 0) h f1 (by kernel_rfl) (by kernel_rfl) Tryd.underlying28
  obtain ⟨E2, s2, v2, _⟩ := sentinel (g := 2) h f2 (by kernel_rfl) (by kernel_rfl) Tryd.underlying28
  obtain ⟨E8, s8, v8, _⟩ := sentinel (g := 1) h f8 (by kernel_rfl) (by kernel_rfl) Tryd.underlying28
  exact ⟨fun k => if k = 1 then E1 else if k = 2 then E2 else E8, ⟨by simpa using v1, by simpa using v2, by simpa using v8⟩⟩
end Go.Proofs.YtheidjagcafgnaaDoor
namespace Go.Proofs.YtheidjagcafgnaaDoor
open Go.ChangeShapes Go.WideShapes Go.ChangeAt Go.RowKit
theorem law_readAll {H : Type} {enc : TypeId × Value → H} {P : Program} (hl : laidOutB P = true) {W W' : World} (sp : Nat → Bool) (hB : Below W.heap.size W W') :
    ∀ (ts : List TypeId) (vs : List Value) (ds : List (DataW H)) (ps : List MemPlace),
      (∀ t ∈ ts, P.readableRec t = true ∧ t < P.types.size) → (∀ p ∈ ps, p.block < W.heap.size) → (∀ p ∈ ps, sp p.block = true) →
      DataW.TrodAll enc P W 0 (fun _ => true) true ts vs ds ps → DataW.TrodAll enc P W' 0 sp true ts vs ds ps
  | [], [], [], _, _, _, _, h => h
  | t :: ts, v :: vs, d :: ds, ps, hr, hlt, hsp, h => by
    obtain ⟨p, q, h1, h2, rfl⟩ := h
    have ht := hr t (List.mem_cons_self ..)
    refine ⟨p, q, ?_, ?_, rfl⟩
    · exact WideElems.Trod_stays hl ht.1 ht.2 h1 (fun x hx => hB.same (hlt x (List.mem_append_left _ hx))) (fun x hx => hsp x (List.mem_append_left _ hx))
    · exact law_readAll hl sp hB ts vs ds q (fun t' ht' => hr t' (List.mem_cons_of_mem _ ht')) (fun x hx => hlt x (List.mem_append_right _ hx)) (fun x hx => hsp x (List.mem_append_right _ hx)) h2
  | [], [], _ :: _, _, _, _, _, h => h.elim
  | [], _ :: _, _, _, _, _, _, h => h.elim
  | _ :: _, [], _, _, _, _, _, h => h.elim
  | _ :: _, _ :: _, [], _, _, _, _, h => h.elim
theorem law_post {H : Type} {enc : TypeId × Value → H} {P : Program} (hl : laidOutB P = true) {f : Func} {s : ChangeSpec} {apart fresh handsOn : Bool} {W W' : World} {args : Array Value} {ds : List (DataW H)} {before : List MemPlace} {tb : TypeId}
    (hW : DataW.Whole enc P f.params.toList s.vars apart W args.toList ds [] before) (hv : s.vars = [])
    (hfn : s.fn H (ds ++ []) = { results := [.lit (.bool true)], args := ds })
    (hread : f.params.toList.all (fun t => P.readableRec t && decide (t < P.types.size)) = true)
    (hres : f.resultTypes = #[tb]) (hb : P.underlying tb = some .bool) (hB : Below W.heap.size W W') :
    s.post enc P f apart fresh handsOn false W args (.bool true) W' := by
  have hlt : ∀ p ∈ before, p.block < W.heap.size := fun p hp => hW.lt p hp
  have hr : ∀ t ∈ f.params.toList, P.readableRec t = true ∧ t < P.types.size := by
    intro t ht
    have := List.all_eq_true.1 hread t ht
    simpa using this
  have hW0 := hW
  obtain ⟨p, q, hA, hV, hpq, hfz, hnd⟩ := hW
  rw [hv] at hV
  have hq : q = [] := by simpa [DataW.TrodVars] using hV
  subst hq
  rw [List.append_nil] at hpq
  subst hpq
  have hargs : ∀ sp : Nat → Bool, (∀ x ∈ before, sp x.block = true) → DataW.TrodAll enc P W' 0 sp true f.params.toList args.toList ds before :=
    fun sp hsp => law_readAll hl sp hB _ _ _ _ hr hlt hsp hA
  have hold : ∀ x ∈ before, (fun b => decide (b < W.heap.size)) x.block = true := fun x hx => by simpa using hlt x hx
  have hresults : ∀ (b : Nat) (sp : Nat → Bool) (hd : Bool), DataW.TrodAll enc P W' b sp hd f.resultTypes.toList ((Value.bool true).resultList f.resultTypes.size) [.lit (.bool true)] [] := by
    intro b sp hd
    rw [hres]
    exact trodAll_mk1 (shut_bool hb true)
  refine ⟨ds, [], before, [], before, [], hW0, ?_, ?_, ?_, World.keptBut_mono (fun x hx => ⟨hx, ?_⟩) (hB.frame (· ∈ before)), fun _ => ?_⟩
  · rw [hfn]; exact hresults _ _ _
  · rw [hfn]; exact hargs _ hold
  · rw [hfn, hv]; rfl
  · exact Or.inr (Or.inl hx)
  · cases ‹false = true›
end Go.Proofs.YtheidjagcafgnaaDoor
