/-
  Arguments and package variables, opened to cells: slices of records, sentinels of errors.
  plain.Code: the number of an error, and its place.
  pixel.Fade, and the document's.
  Rows of cells of whole numbers of one kind: arrays and slices that a call made. No function of the program is named.
  Blocks that are known whole: variables that a call made. No function of the program is named.
  Rows of pixels as they lie in memory. No function of the program is named.
  Quiet regions that draw, step by step (as in XRfA; for seats without the reader).
  pixel.Mix.
-/
import Derived.Test.YteacjlalekbhpaaDoorPixelFadesG1
import Derived.Deep.Fields
import Derived.Stop.LaidErr
import Derived.LaidSub
import Derived.ProofKit
import Derived.OpenShut
import Derived.Test.YteacjlalekbhpaaDoorPixelFadesG2
import Derived.StillTailTactics
import Derived.Outline
import Derived.Deep.WholeRow
import Derived.Deep.OwnRows
import Derived.Deep.AppendLies
import Derived.Deep.RegionHeld3
import Derived.Deep.DrawnRows
import Derived.IntWalk
import Derived.StillTactics
import Derived.Deep.LoopGhost
import Derived.Deep.DeepCutAuto
import Derived.Deep.CutBlock
namespace Go.Proofs.YteacjlalekbhpaaDoor
open Go.ChangeShapes Go.WideShapes Go.RowKit Go.Deep
set_option linter.unusedSimpArgs false
/-- a slice of records of one-cell fields: every field's cell and how it reads -/
theorem open_recs {H : Type} {enc : TypeId × Value → H} {P : Program} {w : World} {base : Nat} {spare : Nat → Bool} {held : Bool} {t e : TypeId} {fs : Array Field} {fuel : Nat} {cs : List Value} {x : DataW H × List MemPlace}
    (ht : P.underlying t = some (.slice e)) (he : P.underlying e = some (.struct fs)) (hone : oneCellFields P fs = true) (hC : P.cellsOf e = fs.size) (h : DataW.trod enc P w base spare held fuel t cs = some x) :
    cs = [.slice none 0 0] ∨ ∃ (a : Addr) (len cap : Nat), cs = [.slice (some a) len cap] ∧ len ≤ cap ∧ cap ≤ maxLen ∧
      ∀ i, i < len → ∀ (j : Nat) (f : Field), fs[j]? = some f → ∃ (v : Value) (y : DataW H × List MemPlace) (n : Nat), w.cell? ((a.add (i * fs.size)).add j) = some v ∧ DataW.trod enc P w base spare held n f.type [v] = some y := by
  rcases open_slice ht h with ⟨h0, _⟩ | ⟨a, len, cap, m, n, D, Pl, hcs, _, hl, hm, hmm, _, hi⟩
  · exact .inl h0
  · refine .inr ⟨a, len, cap, hcs, hl, hm, fun i hlt j f hj => ?_⟩
    have him : i < m := by rw [hmm]; split <;> omega
    obtain ⟨cs', hc, hr⟩ := hi i him
    obtain ⟨xs, k, _, _, _, hxl, hx⟩ := DataW.trod_struct he hr
    obtain ⟨_, hcl, hat⟩ := World.cells?_some hc
    rw [hC] at hcl hat
    have hjs : j < fs.size := (Array.getElem?_eq_some_iff.1 hj).1
    obtain ⟨o1, o2⟩ := hone_of hone j f hj
    have hxj := hx j f hj
    rw [o1, o2, List.drop_eq_getElem_cons (by omega)] at hxj
    have e1 : xs[j]? = some (xs[j]'(by omega)) := List.getElem?_eq_getElem (by omega)
    have e2 : w.cell? ((a.add (i * fs.size)).add j) = some (cs'[j]'(by omega)) := by
      rw [hat j hjs]; exact List.getElem?_eq_getElem (by omega)
    exact ⟨_, _, k, e2, hxj.trans e1⟩
theorem cell_add {w : World} {q : Addr} {v : Value} {k : Nat} (hk : k ≠ 0) (h : w.cell? (q.add k) = some v) : w.cell? ⟨q.block, q.off + k, none⟩ = some v := by
  unfold Addr.add at h; rw [if_neg hk] at h; exact h
/-- a sentinel of the list: its variable holds an error's pointer -/
theorem sent_star : Tryd.prog.typeName? 3 127 = some "*errors.errorString" := by kernel_rfl
theorem sent_row (u : TypeId) (h : Tryd.prog.typeName? 3 u = some "*errors.errorString") : u = 127 :=
  typeName_ptr_named (nm := "errors.errorString") (by kernel_rfl) (by kernel_rfl) (by decide) u h
theorem sentinel {l : List (String × DataW Unit)} {W : World} {n : String} {g : Nat} {text : List UInt8} {ti : TypeId} {ms : Array (String × TypeId)} (h : laidMetH Tryd.prog l W)
    (hl : l.filter (fun x => x.1 == n) = [(n, .iface "*errors.errorString" (.ptr (.agg [.lit (.string text)])))]) (hg : Tryd.prog.globalNamed n = some g)
    (ht : (Tryd.prog.globals[g]?).map (·.type) = some ti) (hi : Tryd.prog.underlying ti = some (.interface ms)) :
    ∃ (E : Addr) (s : ByteArray), W.cell? ⟨g, 0, none⟩ = some (.iface 127 (.pointer (some E))) ∧ W.cell? E = some (.string s) ∧ s.data.toList = text ∧ s.size ≤ maxLen := by
  have h1 := laidMetH.filter (fun x => x.1 == n) h
  rw [hl] at h1
  have h2 : laidMet Tryd.prog [(n, .iface "*errors.errorString" (.ptr (.agg [.lit (.string text)])))] W := h1
  obtain ⟨E, s, hv, hc, hs, hz⟩ := laid_sentinel h2 hg ht hi sent_row Tryd.underlying127 Tryd.underlying129 rfl rfl Tryd.underlying9 (by kernel_rfl) (by kernel_rfl)
  exact ⟨E, s, by simpa using World.var?_cell hg hv 0, hc, hs, hz⟩
end Go.Proofs.YteacjlalekbhpaaDoor
namespace Go.Proofs.YteacjlalekbhpaaDoor
open Go.RowKit
set_option linter.unusedSimpArgs false
set_option maxRecDepth 100000
/-- the variables of the errors, in the order of their numbers -/
def gk : Nat → Nat
  | 0 => 1
  | 1 => 0
  | 2 => 2
  | 3 => 3
  | 4 => 4
  | 5 => 5
  | 6 => 6
  | 7 => 7
  | _ => 8
def sentV (a : Addr) : Value := .iface 127 (.pointer (some a))
/-- the package's errors as they lie in memory -/
structure Errs (w : World) (E : Nat → Addr) : Prop where
  et : ErrType w
  var : ∀ k, k < 9 → w.cell? ⟨gk k, 0, none⟩ = some (sentV (E k))
  row : ∀ k, k < 9 → ∃ c t, w.heap[(E k).block]? = some (.cells c t (0, 0))
  ne : ∀ j k, j < 9 → k < 9 → j ≠ k → E j ≠ E k
theorem Errs.ext {w w' : World} {E : Nat → Addr} (h : Errs w E) (hE : Ext w w') : Errs w' E := by
  refine ⟨?_, fun k hk => ?_, fun k hk => ?_, h.ne⟩
  · exact (hE.cell (p := ⟨9, 0, none⟩) (World.block_lt_of_cell? w _ h.et)).trans h.et
  · exact (hE.cell (p := ⟨gk k, 0, none⟩) (World.block_lt_of_cell? w _ (h.var k hk))).trans (h.var k hk)
  · obtain ⟨c, t, hc⟩ := h.row k hk
    exact ⟨c, t, (hE.block (E k).block (lt_of_block hc)).trans hc⟩
/-- an error value: its number, and its place -/
inductive ErrV (w : World) (E : Nat → Addr) : Value → Int → Int → Prop
  | nil : ErrV w E .nilIface 0 (-1)
  | sent (k : Nat) (hk : k < 9) : ErrV w E (sentV (E k)) ((k : Int) + 1) (-1)
  | fault (k F : Nat) (a : Int) (hk : k < 9) (h : w.heap[F]? = some (.cells #[.int .i64 a, sentV (E k)] 80 (0, 0))) (h1 : -9223372036854775808 ≤ a) (h2 : a ≤ 9223372036854775807) : ErrV w E (.iface 76 (.pointer (some ⟨F, 0, none⟩))) ((k : Int) + 1) a
theorem ErrV.ext {w w' : World} {E : Nat → Addr} {v : Value} {c a : Int} (h : ErrV w E v c a) (hE : Ext w w') : ErrV w' E v c a := by
  cases h with
  | nil => exact .nil
  | sent k hk => exact .sent k hk
  | fault k F a hk h h1 h2 => exact .fault k F a hk ((hE.block F (lt_of_block h)).trans h) h1 h2
theorem code_nil (w : World) : Calls Tryd.prog 36 #[.nilIface] w fun e w' => e = .returned (.tuple #[.int .i64 0, .int .i64 (-1)]) ∧ Ext w w' := by
  go_enter Tryd.func36, Tryd.ntmps36
  go_wp2
  go_ret2
  exact ⟨rfl, Ext.refl _⟩
set_option maxHeartbeats 4000000 in
theorem code_sent (w : World) (E : Nat → Addr) (hE : Errs w E) (k : Nat) (hk : k < 9) : Calls Tryd.prog 36 #[sentV (E k)] w fun e w' => e = .returned (.tuple #[.int .i64 ((k : Int) + 1), .int .i64 (-1)]) ∧ Ext w w' := by
  have HE := Lib.hid hE
  clear hE
  unfold sentV
  go_enter Tryd.func36, Tryd.ntmps36
  go_wp2_with fail
  refine (as_miss _ _ _ (HE.out.ext ((Ext.refl w).alloc _)).et).mono ?_
  rintro e w2 ⟨rfl, h2⟩
  have HX : Hid (Ext w w2) := Lib.hid (((Ext.refl w).alloc _).trans h2)
  clear h2
  have HE2 := Lib.hid (HE.out.ext HX.out)
  have c0 := HE2.out.var 0 (by decide)
  have c1 := HE2.out.var 1 (by decide)
  have c2 := HE2.out.var 2 (by decide)
  have c3 := HE2.out.var 3 (by decide)
  have c4 := HE2.out.var 4 (by decide)
  have c5 := HE2.out.var 5 (by decide)
  have c6 := HE2.out.var 6 (by decide)
  have c7 := HE2.out.var 7 (by decide)
  have c8 := HE2.out.var 8 (by decide)
  simp only [gk, sentV] at c0 c1 c2 c3 c4 c5 c6 c7 c8
  go_wp2_with fail
  have cells : ∀ j, j < 9 → (w2.alloc (.cells #[.iface 127 (.pointer (some (E 0))), .iface 127 (.pointer (some (E 1))), .iface 127 (.pointer (some (E 2))), .iface 127 (.pointer (some (E 3))), .iface 127 (.pointer (some (E 4))), .iface 127 (.pointer (some (E 5))), .iface 127 (.pointer (some (E 6))), .iface 127 (.pointer (some (E 7))), .iface 127 (.pointer (some (E 8)))] 25)).cell? ⟨w2.heap.size, j, none⟩ = some (.iface 127 (.pointer (some (E j)))) := by
    intro j hj
    rw [World.cell?_alloc_at _ _ _ _ rfl]
    match j, hj with
    | 0, _ => rfl
    | 1, _ => rfl
    | 2, _ => rfl
    | 3, _ => rfl
    | 4, _ => rfl
    | 5, _ => rfl
    | 6, _ => rfl
    | 7, _ => rfl
    | 8, _ => rfl
  have HC := Lib.hid cells
  have HX3 : Hid (Ext w (w2.alloc (.cells #[.iface 127 (.pointer (some (E 0))), .iface 127 (.pointer (some (E 1))), .iface 127 (.pointer (some (E 2))), .iface 127 (.pointer (some (E 3))), .iface 127 (.pointer (some (E 4))), .iface 127 (.pointer (some (E 5))), .iface 127 (.pointer (some (E 6))), .iface 127 (.pointer (some (E 7))), .iface 127 (.pointer (some (E 8)))] 25))) := Lib.hid (HX.out.alloc _)
  have HE3 := Lib.hid (HE.out.ext HX3.out)
  clear cells c0 c1 c2 c3 c4 c5 c6 c7 c8
  generalize hw3 : (w2.alloc (.cells #[.iface 127 (.pointer (some (E 0))), .iface 127 (.pointer (some (E 1))), .iface 127 (.pointer (some (E 2))), .iface 127 (.pointer (some (E 3))), .iface 127 (.pointer (some (E 4))), .iface 127 (.pointer (some (E 5))), .iface 127 (.pointer (some (E 6))), .iface 127 (.pointer (some (E 7))), .iface 127 (.pointer (some (E 8)))] 25)) = w3 at *
  clear hw3
  go_loop [3, 27] (fun p c => ∃ i : Nat, i ≤ k ∧ p = .int .i64 (-1) ∧ c = .int .i64 i) (fun _ c => k - (intOf c).toNat)
  case atStart => exact ⟨0, by omega, rfl, rfl⟩
  case round =>
    obtain ⟨i, hi, rfl, rfl⟩ := hrel
    have hc := HC.out i (by omega)
    obtain ⟨ca, ta, ha⟩ := HE3.out.row k hk
    obtain ⟨cb, tb, hb⟩ := HE3.out.row i (by omega)
    have HA := Lib.hid ha
    have HB := Lib.hid hb
    clear ha hb
    by_cases hik : i = k
    · subst hik
      go_wp2_with fail
      refine (is_same _ _).mono ?_
      rintro e w4 ⟨rfl, rfl⟩
      go_wp2_with fail
      go_ret2
      exact ⟨rfl, HX3.out⟩
    · have hne := HE3.out.ne k i hk (by omega) (fun e => hik e.symm)
      have HN := Lib.hid hne
      clear hne
      go_wp2_with fail
      refine (is_other _ _ ca cb ta tb _ HN.out HA.out HB.out).mono ?_
      rintro e w4 ⟨rfl, rfl⟩
      go_wp2_with fail
      go_round
      case rel => exact ⟨i + 1, by omega, rfl, by go_num⟩
      case measure => simp [intOf]; omega
set_option maxHeartbeats 4000000 in
theorem code_fault (w : World) (E : Nat → Addr) (hE : Errs w E) (k F : Nat) (a : Int) (hk : k < 9) (h : w.heap[F]? = some (.cells #[.int .i64 a, sentV (E k)] 80 (0, 0))) : Calls Tryd.prog 36 #[.iface 76 (.pointer (some ⟨F, 0, none⟩))] w fun e w' => e = .returned (.tuple #[.int .i64 ((k : Int) + 1), .int .i64 a]) ∧ Ext w w' := by
  have HF := Lib.hid h
  clear h
  have HE := Lib.hid hE
  clear hE
  go_enter Tryd.func36, Tryd.ntmps36
  go_wp2_with fail
  refine (as_hit ⟨F, 0, none⟩ ⟨w.heap.size, 0, none⟩ (.pointer none) _ (HE.out.ext ((Ext.refl w).alloc _)).et (by simp) (by simp)).mono ?_
  rintro e w2 ⟨rfl, h2, ct, zt⟩
  have HX : Hid (Ext w w2) := Lib.hid (by
    have q := ((Ext.refl w).alloc (.cells #[.pointer none] 76)).keeps (S := fun k => k = w.heap.size) |>.trans h2 (fun _ _ q => q)
    exact q.below (Nat.le_refl _) (fun k hk e => by omega))
  clear h2
  have HF2 : Hid (w2.heap[F]? = some (.cells #[.int .i64 a, sentV (E k)] 80 (0, 0))) := Lib.hid ((HX.out.block F (lt_of_block HF.out)).trans HF.out)
  have hF0 : w2.cell? ⟨F, 0, none⟩ = some (.int .i64 a) := by simp [World.cell?, HF2.out]
  have HE2 := Lib.hid (HE.out.ext HX.out)
  have c0 := HE2.out.var 0 (by decide)
  have c1 := HE2.out.var 1 (by decide)
  have c2 := HE2.out.var 2 (by decide)
  have c3 := HE2.out.var 3 (by decide)
  have c4 := HE2.out.var 4 (by decide)
  have c5 := HE2.out.var 5 (by decide)
  have c6 := HE2.out.var 6 (by decide)
  have c7 := HE2.out.var 7 (by decide)
  have c8 := HE2.out.var 8 (by decide)
  simp only [gk, sentV] at c0 c1 c2 c3 c4 c5 c6 c7 c8
  go_wp2_with fail
  have cells : ∀ j, j < 9 → (w2.alloc (.cells #[.iface 127 (.pointer (some (E 0))), .iface 127 (.pointer (some (E 1))), .iface 127 (.pointer (some (E 2))), .iface 127 (.pointer (some (E 3))), .iface 127 (.pointer (some (E 4))), .iface 127 (.pointer (some (E 5))), .iface 127 (.pointer (some (E 6))), .iface 127 (.pointer (some (E 7))), .iface 127 (.pointer (some (E 8)))] 25)).cell? ⟨w2.heap.size, j, none⟩ = some (.iface 127 (.pointer (some (E j)))) := by
    intro j hj
    rw [World.cell?_alloc_at _ _ _ _ rfl]
    match j, hj with
    | 0, _ => rfl
    | 1, _ => rfl
    | 2, _ => rfl
    | 3, _ => rfl
    | 4, _ => rfl
    | 5, _ => rfl
    | 6, _ => rfl
    | 7, _ => rfl
    | 8, _ => rfl
  have HC := Lib.hid cells
  have HF3 : Hid ((w2.alloc (.cells #[.iface 127 (.pointer (some (E 0))), .iface 127 (.pointer (some (E 1))), .iface 127 (.pointer (some (E 2))), .iface 127 (.pointer (some (E 3))), .iface 127 (.pointer (some (E 4))), .iface 127 (.pointer (some (E 5))), .iface 127 (.pointer (some (E 6))), .iface 127 (.pointer (some (E 7))), .iface 127 (.pointer (some (E 8)))] 25)).cell? ⟨F, 1, none⟩ = some (sentV (E k))) := Lib.hid (by rw [World.cell?_alloc_past _ _ _ (lt_of_block HF2.out)]; simp [World.cell?, HF2.out])
  have HX3 : Hid (Ext w (w2.alloc (.cells #[.iface 127 (.pointer (some (E 0))), .iface 127 (.pointer (some (E 1))), .iface 127 (.pointer (some (E 2))), .iface 127 (.pointer (some (E 3))), .iface 127 (.pointer (some (E 4))), .iface 127 (.pointer (some (E 5))), .iface 127 (.pointer (some (E 6))), .iface 127 (.pointer (some (E 7))), .iface 127 (.pointer (some (E 8)))] 25))) := Lib.hid (HX.out.alloc _)
  have HE3 := Lib.hid (HE.out.ext HX3.out)
  clear cells hF0 ct zt c0 c1 c2 c3 c4 c5 c6 c7 c8
  generalize hw3 : (w2.alloc (.cells #[.iface 127 (.pointer (some (E 0))), .iface 127 (.pointer (some (E 1))), .iface 127 (.pointer (some (E 2))), .iface 127 (.pointer (some (E 3))), .iface 127 (.pointer (some (E 4))), .iface 127 (.pointer (some (E 5))), .iface 127 (.pointer (some (E 6))), .iface 127 (.pointer (some (E 7))), .iface 127 (.pointer (some (E 8)))] 25)) = w3 at *
  clear hw3
  go_loop [3, 27] (fun p c => ∃ i : Nat, i ≤ k ∧ p = .int .i64 a ∧ c = .int .i64 i) (fun _ c => k - (intOf c).toNat)
  case atStart => exact ⟨0, by omega, rfl, rfl⟩
  case round =>
    obtain ⟨i, hi, rfl, rfl⟩ := hrel
    have hc := HC.out i (by omega)
    obtain ⟨ca, ta, ha⟩ := HE3.out.row k hk
    obtain ⟨cb, tb, hb⟩ := HE3.out.row i (by omega)
    have HA := Lib.hid ha
    have HB := Lib.hid hb
    clear ha hb
    by_cases hik : i = k
    · subst hik
      go_wp2_with fail
      refine (is_fault_same F _ _ HF3.out).mono ?_
      rintro e w4 ⟨rfl, rfl⟩
      go_wp2_with fail
      go_ret2
      exact ⟨rfl, HX3.out⟩
    · have hne := HE3.out.ne k i hk (by omega) (fun e => hik e.symm)
      have HN := Lib.hid hne
      clear hne
      go_wp2_with fail
      refine (is_fault_other F _ _ ca cb ta tb _ HF3.out HN.out HA.out HB.out).mono ?_
      rintro e w4 ⟨rfl, rfl⟩
      go_wp2_with fail
      go_round
      case rel => exact ⟨i + 1, by omega, rfl, by go_num⟩
      case measure => simp [intOf]; omega
theorem code_any (w : World) (E : Nat → Addr) (hE : Errs w E) (v : Value) (c a : Int) (h : ErrV w E v c a) : Calls Tryd.prog 36 #[v] w fun e w' => e = .returned (.tuple #[.int .i64 c, .int .i64 a]) ∧ Ext w w' := by
  cases h with
  | nil => exact code_nil w
  | sent k hk => exact code_sent w E hE k hk
  | fault k F a hk h h1 h2 => exact code_fault w E hE k F a hk h
end Go.Proofs.YteacjlalekbhpaaDoor
namespace Go.Proofs.YteacjlalekbhpaaDoor
open Go.RowKit
set_option linter.unusedSimpArgs false
set_option maxRecDepth 100000
/-- a pixel faded -/
def fadeV (r g b a o : Int) : Value := if Pix.rnd (a * o) 255 = 0 then pixv 0 0 0 0 else pixv r g b (Pix.rnd (a * o) 255)
theorem fade_bad (r g b a o : Int) (w : World) (E : Nat → Addr) (hE : Errs w E) (ho : o < 0 ∨ 255 < o) :
    Calls Tryd.prog 24 #[pixv r g b a, .int .i64 o] w fun e w' => e = .returned (.tuple #[pixv 0 0 0 0, sentV (E 1)]) ∧ Ext w w' := by
  have hv := hE.var 1 (by decide)
  have hl := World.block_lt_of_cell? w _ hv
  simp only [gk, sentV] at hv hl ⊢
  clear hE
  by_cases h0 : o < 0
  · have t0 : decide (o < 0) = true := decide_eq_true h0
    go_enter Tryd.func24, Tryd.ntmps24
    go_wp2_with fail
    go_region
    all_goals (try go_wp2_with fail)
    all_goals (refine bodyPost_ret (v := _) (by simp [results, Tryd.results24, go_sem, *]) rfl ⟨rfl, ?_⟩)
    all_goals (repeat (first | exact Ext.refl _ | refine Below.setCell ?_ (by simp) _ | apply below_drewN | refine Ext.alloc ?_ _))
  · have t0 : decide (o < 0) = false := decide_eq_false h0
    have t1 : decide (255 < o) = true := decide_eq_true (by omega)
    clear ho
    go_enter Tryd.func24, Tryd.ntmps24
    go_wp2_with fail
    go_region
    all_goals (try go_wp2_with fail)
    all_goals (refine bodyPost_ret (v := _) (by simp [results, Tryd.results24, go_sem, *]) rfl ⟨rfl, ?_⟩)
    all_goals (repeat (first | exact Ext.refl _ | refine Below.setCell ?_ (by simp) _ | apply below_drewN | refine Ext.alloc ?_ _))
theorem fade_any (r g b a o : Int) (w : World) (ha : Pix.Byte a) (ho : 0 ≤ o ∧ o ≤ 255) :
    Calls Tryd.prog 24 #[pixv r g b a, .int .i64 o] w fun e w' => e = .returned (.tuple #[fadeV r g b a o, .nilIface]) ∧ Ext w w' := by
  have hb := Pix.mul_bd ha.1 ha.2 ho.1 ho.2
  obtain ⟨n, hn⟩ : ∃ n, a * o = n := ⟨_, rfl⟩
  rw [hn] at hb
  have t0 : decide (o < 0) = false := decide_eq_false (by omega)
  have t1 : decide (255 < o) = false := decide_eq_false (by omega)
  have wn : ∀ z, z = n → IntKind.i64.wrap z = z := by rintro _ rfl; rw [IntKind.wrap_i64]; omega
  have wa : ∀ z, z = a → IntKind.i64.wrap z = z := by rintro _ rfl; rw [IntKind.wrap_i64]; have := ha.1; have := ha.2; omega
  obtain ⟨q, hq⟩ : ∃ q, Pix.rnd n 255 = q := ⟨_, rfl⟩
  have HR := Lib.hid (fun w => round_any n 255 w (by omega) (by omega) (by omega) (by omega))
  rw [hq] at HR
  have HF : Hid (fadeV r g b a o = if q = 0 then pixv 0 0 0 0 else pixv r g b q) := Lib.hid (by unfold fadeV; rw [hn, hq])
  clear hq ha ho
  go_enter Tryd.func24, Tryd.ntmps24
  go_wp2_with fail
  refine (HR.out _).mono ?_
  rintro e _ ⟨rfl, rfl⟩
  by_cases hq0 : q = 0
  · have t2 : (q == 0) = true := beq_iff_eq.2 hq0
    have HQ := Lib.hid hq0
    clear hq0
    go_wp2_with fail
    refine bodyPost_ret (v := _) (by simp [results, Tryd.results24, go_sem]; rfl) rfl ⟨by rw [HF.out, if_pos HQ.out], ?_⟩
    repeat (first | exact Ext.refl _ | refine Below.setCell ?_ (by simp) _ | apply below_drewN | refine Ext.alloc ?_ _)
  · have t2 : (q == 0) = false := beq_eq_false_iff_ne.2 hq0
    have HQ := Lib.hid hq0
    clear hq0
    go_wp2_with fail
    refine bodyPost_ret (v := _) (by simp [results, Tryd.results24, go_sem]; rfl) rfl ⟨by rw [HF.out, if_neg HQ.out], ?_⟩
    repeat (first | exact Ext.refl _ | refine Below.setCell ?_ (by simp) _ | apply below_drewN | refine Ext.alloc ?_ _)
theorem fadeOf_any (r g b a o : Int) (w : World) (ha : Pix.Byte a) (ho : 0 ≤ o ∧ o ≤ 255) :
    Calls Tryd.prog 25 #[pixv r g b a, .int .i64 o] w fun e w' => e = .returned (fadeV r g b a o) ∧ Ext w w' := by
  have hb := Pix.mul_bd ha.1 ha.2 ho.1 ho.2
  obtain ⟨n, hn⟩ : ∃ n, a * o = n := ⟨_, rfl⟩
  rw [hn] at hb
  have wn : ∀ z, z = n → IntKind.i64.wrap z = z := by rintro _ rfl; rw [IntKind.wrap_i64]; omega
  have wa : ∀ z, z = a → IntKind.i64.wrap z = z := by rintro _ rfl; rw [IntKind.wrap_i64]; have := ha.1; have := ha.2; omega
  obtain ⟨q, hq⟩ : ∃ q, (2 * n + 255) / (2 * 255) = q := ⟨_, rfl⟩
  have hqb : 0 ≤ q ∧ q ≤ 255 := by omega
  have HR := Lib.hid (fun w => rounded_any n 255 w (by omega) (by omega) (by omega) (by omega))
  rw [hq] at HR
  have hq2 : Pix.rnd n 255 = q := by unfold Pix.rnd; omega
  have HF : Hid (fadeV r g b a o = if q = 0 then pixv 0 0 0 0 else pixv r g b q) := Lib.hid (by unfold fadeV; rw [hn, hq2])
  have hqm : q % 256 = q := by omega
  have wq : ∀ z, z = q → IntKind.u8.wrap z = z := by rintro _ rfl; rw [IntKind.wrap_u8']; omega
  clear hq hq2 ha ho
  go_enter Tryd.func25, Tryd.ntmps25
  go_wp2_with fail
  refine (HR.out _).mono ?_
  rintro e _ ⟨rfl, rfl⟩
  by_cases hq0 : q = 0
  · have t2 : (q == 0) = true := beq_iff_eq.2 hq0
    have HQ := Lib.hid hq0
    clear hq0 hqm wq
    go_wp2_with fail
    refine bodyPost_ret (v := _) (by simp [results, Tryd.results25, go_sem]; rfl) rfl ⟨by rw [HF.out, if_pos HQ.out], ?_⟩
    repeat (first | exact Ext.refl _ | refine Below.setCell ?_ (by simp) _ | apply below_drewN | refine Ext.alloc ?_ _)
  · have t2 : (q == 0) = false := beq_eq_false_iff_ne.2 hq0
    have HQ := Lib.hid hq0
    clear hq0
    go_wp2_with fail
    refine bodyPost_ret (v := _) (by simp [results, Tryd.results25, go_sem]; rfl) rfl ⟨by rw [HF.out, if_neg HQ.out], ?_⟩
    repeat (first | exact Ext.refl _ | refine Below.setCell ?_ (by simp) _ | apply below_drewN | refine Ext.alloc ?_ _)
end Go.Proofs.YteacjlalekbhpaaDoor
namespace Go.Proofs.YteacjlalekbhpaaDoor
open Go.RowKit
set_option linter.unusedSimpArgs false
@[irreducible] def cellsI (k : IntKind) (n : Nat) (f : Nat → Int) : Array Value := (List.map (fun i : Nat => Value.int k (f i)) (List.range n)).toArray
theorem cellsI_get (k : IntKind) (n : Nat) (f : Nat → Int) (i : Nat) (h : i < n) : (cellsI k n f)[i]? = some (.int k (f i)) := by
  unfold cellsI; simp [h]
@[go_sem] theorem cellsI_size (k : IntKind) (n : Nat) (f : Nat → Int) : (cellsI k n f).size = n := by unfold cellsI; simp
@[go_sem] theorem cellsI_getElem (k : IntKind) (n : Nat) (f : Nat → Int) (i : Nat) (h : i < (cellsI k n f).size) : (cellsI k n f)[i] = .int k (f i) := by
  have e1 := cellsI_get k n f i (by rw [← cellsI_size k n f]; exact h)
  rw [Array.getElem?_eq_getElem h] at e1
  exact Option.some.inj e1
theorem cellsI_set (k : IntKind) (n : Nat) (f : Nat → Int) (j : Nat) (x : Int) (g : Nat → Int) (hg : ∀ i, i < n → g i = if i = j then x else f i) : (cellsI k n f).setIfInBounds j (.int k x) = cellsI k n g := by
  apply Array.ext
  · simp [cellsI_size]
  · intro i h1 h2
    have h3 : i < n := by simpa [cellsI_size] using h2
    have e2 := cellsI_get k n g i h3
    have e1 := cellsI_get k n f i h3
    rw [Array.getElem?_eq_getElem h2] at e2
    rw [Array.getElem?_eq_getElem (by rw [cellsI_size]; exact h3)] at e1
    rw [Option.some_inj] at e1 e2
    rw [Array.getElem_setIfInBounds (by rw [cellsI_size]; exact h3), e2, e1, hg i h3]
    by_cases hij : j = i
    · subst hij; simp
    · rw [if_neg hij, if_neg (fun e => hij e.symm)]
theorem cellsI_zero (k : IntKind) (n : Nat) : Array.replicate n (Value.int k 0) = cellsI k n (fun _ => 0) := by
  unfold cellsI; apply Array.ext
  · simp
  · intro i h1 h2; simp
theorem cells16_eq (k : IntKind) (F : Nat → Int) : cellsI k 16 F = #[.int k (F 0), .int k (F 1), .int k (F 2), .int k (F 3), .int k (F 4), .int k (F 5), .int k (F 6), .int k (F 7), .int k (F 8), .int k (F 9), .int k (F 10), .int k (F 11), .int k (F 12), .int k (F 13), .int k (F 14), .int k (F 15)] := by unfold cellsI; rfl
theorem cellsI_same (k : IntKind) (n : Nat) (F : Nat → Int) (j : Nat) (v : Value) (hv : v = .int k (F j)) : (cellsI k n F).setIfInBounds j v = cellsI k n F := by
  rw [hv]; exact cellsI_set k n F j (F j) F (fun i _ => by by_cases h : i = j <;> simp [h])
/-- a row of cells of one kind, none frozen -/
def Cs (w : World) (B n : Nat) (k : IntKind) (g : Nat → Int) : Prop := ∀ i, i < n → w.cell? ⟨B, i, none⟩ = some (.int k (g i)) ∧ w.frozen? ⟨B, i, none⟩ = false
theorem Cs.congr {w : World} {B n : Nat} {k : IntKind} {g g' : Nat → Int} (h : Cs w B n k g) (hg : ∀ i, i < n → g' i = g i) : Cs w B n k g' := by
  intro i hi; rw [hg i hi]; exact h i hi
theorem Cs.put {w : World} {B n : Nat} {k : IntKind} {g : Nat → Int} (h : Cs w B n k g) (j : Nat) (x : Int) (g' : Nat → Int) (hj : j < n) (hg : ∀ i, i < n → g' i = if i = j then x else g i) : Cs (w.setCell ⟨B, j, none⟩ (.int k x)) B n k g' := by
  intro i hi
  obtain ⟨h1, h2⟩ := h i hi
  rw [hg i hi, World.frozen?_setCell]
  refine ⟨?_, h2⟩
  by_cases e : i = j
  · subst e; rw [if_pos rfl]; exact World.cell?_setCell_same _ _ _ h1
  · rw [if_neg e]; exact (World.cell?_setCell_other _ _ _ _ (by intro q; injection q with _ q2; exact e q2.symm)).trans h1
theorem Cs.other {w : World} {B n : Nat} {k : IntKind} {g : Nat → Int} (h : Cs w B n k g) (p : Addr) (v : Value) (hp : p.block ≠ B) : Cs (w.setCell p v) B n k g := by
  intro i hi
  obtain ⟨h1, h2⟩ := h i hi
  rw [World.frozen?_setCell]
  exact ⟨(World.cell?_setCell_other _ _ _ _ (by intro q; rw [q] at hp; exact hp rfl)).trans h1, h2⟩
theorem Cs.drew {w : World} {B n : Nat} {k : IntKind} {g : Nat → Int} (h : Cs w B n k g) : Cs w.drew B n k g := h
theorem Cs.alloc {w : World} {B n : Nat} {k : IntKind} {g : Nat → Int} (h : Cs w B n k g) (hB : B < w.heap.size) (o : Obj) : Cs (w.alloc o) B n k g := by
  intro i hi
  rw [World.cell?_alloc_past _ _ _ hB, World.frozen?_alloc_past _ _ _ hB]; exact h i hi
theorem Cs.born (w : World) (k : IntKind) (n : Nat) (g : Nat → Int) (t : TypeId) : Cs (w.alloc (.cells (cellsI k n g) t)) w.heap.size n k g := by
  intro i hi
  rw [World.cell?_alloc_at _ _ _ _ rfl, World.frozen?_alloc_at _ _ _ _ rfl]; exact ⟨cellsI_get k n g i hi, rfl⟩
theorem made_eq (k : IntKind) (n : Nat) : madeCells #[Value.int k 0] n = cellsI k n (fun _ => 0) := by
  apply Array.ext
  · rw [size_madeCells, cellsI_size]
  · intro i h1 h2
    rw [cellsI_getElem]; simp [madeCells, Nat.mod_one]
theorem still_of {P : Program} {f : Nat} {args : Array Value} {w : World} {v : Value} (h : Calls P f args w fun e w' => e = .returned v ∧ w = w') : Calls P f args w fun e w' => e = .returned v ∧ w' = w :=
  h.mono fun _ _ ⟨a, b⟩ => ⟨a, b.symm⟩
end Go.Proofs.YteacjlalekbhpaaDoor
namespace Go.Proofs.YteacjlalekbhpaaDoor
open Go.RowKit
set_option linter.unusedSimpArgs false
def Bk (w : World) (b : Nat) (cs : Array Value) : Prop := ∃ t, w.heap[b]? = some (.cells cs t (0, 0))
theorem Bk.lt {w : World} {b : Nat} {cs : Array Value} (h : Bk w b cs) : b < w.heap.size := by obtain ⟨t, h⟩ := h; exact lt_of_block h
theorem Bk.at {w : World} {k : Nat} {cs : Array Value} {t : TypeId} (h : w.heap.size = k) : Bk (w.alloc (.cells cs t)) k cs := ⟨t, by rw [← h]; exact heap_alloc_new w _⟩
theorem Bk.old {w : World} {b : Nat} {cs : Array Value} {o : Obj} (h : Bk w b cs) : Bk (w.alloc o) b cs := by
  have hl := h.lt
  obtain ⟨t, h⟩ := h
  exact ⟨t, (Below.heap_alloc w o b hl).trans h⟩
theorem Bk.keeps {S : Nat → Prop} {w w' : World} {b : Nat} {cs : Array Value} (h : Bk w b cs) (hk : Keeps S w w') (hS : ¬ S b) : Bk w' b cs := by
  have hl := h.lt
  obtain ⟨t, h⟩ := h
  exact ⟨t, (hk.block b hl hS).trans h⟩
theorem Bk.ext {w w' : World} {b : Nat} {cs : Array Value} (h : Bk w b cs) (hE : Ext w w') : Bk w' b cs := h.keeps (S := fun _ => False) hE.keeps id
theorem Bk.cell {w : World} {b : Nat} {cs : Array Value} (h : Bk w b cs) (i : Nat) : w.cell? ⟨b, i, none⟩ = cs[i]? := by
  obtain ⟨t, h⟩ := h
  exact cell_of_row w b i cs t (0, 0) h
theorem Bk.frozen {w : World} {b : Nat} {cs : Array Value} (h : Bk w b cs) (i : Nat) : w.frozen? ⟨b, i, none⟩ = false := by
  obtain ⟨t, h⟩ := h
  simp [World.frozen?, h]
theorem Bk.set_ {w : World} {b : Nat} {cs : Array Value} (h : Bk w b cs) (i : Nat) (u : Value) : Bk (w.setCell ⟨b, i, none⟩ u) b (cs.setIfInBounds i u) := by
  obtain ⟨t, h⟩ := h
  exact ⟨t, by simp [World.setCell, Array.getElem?_modify, h]⟩
theorem Bk.far {w : World} {b : Nat} {cs : Array Value} (h : Bk w b cs) {p : Addr} (hp : b ≠ p.block) (u : Value) : Bk (w.setCell p u) b cs := by
  obtain ⟨t, h⟩ := h
  exact ⟨t, (Below.heap_setCell w p u b hp).trans h⟩
theorem Bk.drewN {w : World} {b : Nat} {cs : Array Value} (h : Bk w b cs) (n : Nat) : Bk (w.drewN n) b cs := h
theorem Bk.drew {w : World} {b : Nat} {cs : Array Value} (h : Bk w b cs) : Bk w.drew b cs := h
end Go.Proofs.YteacjlalekbhpaaDoor
namespace Go.Proofs.YteacjlalekbhpaaDoor
open Go.RowKit
set_option linter.unusedSimpArgs false
/-- a row of pixels, wherever it lies -/
def Pxs (w : World) (x : Option Addr) (n : Nat) (px : Nat → P4) : Prop :=
  (x = none → n = 0) ∧ ∀ a, x = some a → ∀ i, i < n →
    w.cell? (a.add (i * 4)) = some (.int .u8 (px i).r) ∧ w.cell? ⟨(a.add (i * 4)).block, (a.add (i * 4)).off + 1, none⟩ = some (.int .u8 (px i).g) ∧
    w.cell? ⟨(a.add (i * 4)).block, (a.add (i * 4)).off + 2, none⟩ = some (.int .u8 (px i).b) ∧ w.cell? ⟨(a.add (i * 4)).block, (a.add (i * 4)).off + 3, none⟩ = some (.int .u8 (px i).a) ∧ (px i).Ok
theorem add_block (a : Addr) (k : Nat) : (a.add k).block = a.block := by unfold Addr.add; split <;> rfl
theorem Pxs.keeps {S : Nat → Prop} {w w' : World} {x : Option Addr} {n : Nat} {px : Nat → P4} (h : Pxs w x n px) (hk : Keeps S w w') (hS : ∀ a, x = some a → ¬ S a.block) : Pxs w' x n px := by
  refine ⟨h.1, fun a ha i hi => ?_⟩
  obtain ⟨c0, c1, c2, c3, ok⟩ := h.2 a ha i hi
  have hs : ¬ S (a.add (i * 4)).block := by rw [add_block]; exact hS a ha
  have hl : (a.add (i * 4)).block < w.heap.size := World.block_lt_of_cell? w _ c0
  exact ⟨(hk.cell hl hs).trans c0, (hk.cell (p := ⟨_, _, none⟩) hl hs).trans c1, (hk.cell (p := ⟨_, _, none⟩) hl hs).trans c2, (hk.cell (p := ⟨_, _, none⟩) hl hs).trans c3, ok⟩
theorem Pxs.ext {w w' : World} {x : Option Addr} {n : Nat} {px : Nat → P4} (h : Pxs w x n px) (hE : Ext w w') : Pxs w' x n px := h.keeps (S := fun _ => False) hE.keeps (fun _ _ => id)
theorem Pxs.congr {w : World} {x : Option Addr} {n : Nat} {px qx : Nat → P4} (h : Pxs w x n px) (hq : ∀ i, i < n → qx i = px i) : Pxs w x n qx :=
  ⟨h.1, fun a ha i hi => by rw [hq i hi]; exact h.2 a ha i hi⟩
theorem Pxs.isSome {w : World} {x : Option Addr} {n : Nat} {px : Nat → P4} (h : Pxs w x n px) {i : Nat} (hi : i < n) : ∃ a, x = some a := by
  cases x with
  | none => have := h.1 rfl; omega
  | some a => exact ⟨a, rfl⟩
/-- the cells of pixels, one behind the other -/
def cellP (px : Nat → P4) (j : Nat) : Value := if j % 4 = 0 then .int .u8 (px (j / 4)).r else if j % 4 = 1 then .int .u8 (px (j / 4)).g else if j % 4 = 2 then .int .u8 (px (j / 4)).b else .int .u8 (px (j / 4)).a
def pxV (n : Nat) (px : Nat → P4) : List Value := (List.range (n * 4)).map (cellP px)
theorem pxV_length (n : Nat) (px : Nat → P4) : (pxV n px).length = n * 4 := by simp [pxV]
theorem pxV_get (n : Nat) (px : Nat → P4) (j : Nat) (h : j < n * 4) : (pxV n px)[j]? = some (cellP px j) := by simp [pxV, h]
theorem cellP_0 (px : Nat → P4) (i : Nat) : cellP px (i * 4) = .int .u8 (px i).r := by
  unfold cellP; rw [if_pos (by omega), show i * 4 / 4 = i by omega]
theorem cellP_1 (px : Nat → P4) (i : Nat) : cellP px (i * 4 + 1) = .int .u8 (px i).g := by
  unfold cellP; rw [if_neg (by omega), if_pos (by omega), show (i * 4 + 1) / 4 = i by omega]
theorem cellP_2 (px : Nat → P4) (i : Nat) : cellP px (i * 4 + 2) = .int .u8 (px i).b := by
  unfold cellP; rw [if_neg (by omega), if_neg (by omega), if_pos (by omega), show (i * 4 + 2) / 4 = i by omega]
theorem cellP_3 (px : Nat → P4) (i : Nat) : cellP px (i * 4 + 3) = .int .u8 (px i).a := by
  unfold cellP; rw [if_neg (by omega), if_neg (by omega), if_neg (by omega), show (i * 4 + 3) / 4 = i by omega]
theorem cellP_one (px : Nat → P4) (j : Nat) : (cellP px j).oneCell' = true := by
  unfold cellP; split
  · rfl
  · split
    · rfl
    · split <;> rfl
theorem pxV_ext (n : Nat) (px qx : Nat → P4) (h : ∀ i, i < n → px i = qx i) : pxV n px = pxV n qx := by
  unfold pxV
  apply List.map_congr_left
  intro j hj
  have hj' : j / 4 < n := by have := List.mem_range.1 hj; omega
  unfold cellP; rw [h _ hj']
theorem pxV_succ (n : Nat) (px : Nat → P4) : pxV (n + 1) px = pxV n px ++ [.int .u8 (px n).r, .int .u8 (px n).g, .int .u8 (px n).b, .int .u8 (px n).a] := by
  unfold pxV
  rw [show (n + 1) * 4 = n * 4 + 1 + 1 + 1 + 1 by omega, List.range_succ, List.range_succ, List.range_succ, List.range_succ]
  simp only [List.map_append, List.map_cons, List.map_nil, cellP_0, cellP_1, cellP_2, cellP_3, List.append_assoc, List.cons_append, List.nil_append]
theorem pixinfo : (Tryd.prog.info? 34).map (fun i => (i.zero, i.size, i.bytes)) = some (some (pixv 0 0 0 0), 4, 4) := by kernel_rfl
theorem Pxs.of_own {w : World} {base : Nat} {v : Value} {n : Nat} {px : Nat → P4} (h : w.ownsRow base 34 4 v n (pxV n px)) (hb : ∀ i, i < n → (px i).Ok) :
    ∃ x c, v = .slice x n c ∧ Pxs w x n px ∧ ∀ a, x = some a → base ≤ a.block := by
  rcases ownsRow_slice h with ⟨rfl, h0⟩ | ⟨g, cap, rfl⟩
  · subst h0; exact ⟨none, 0, rfl, ⟨fun _ => rfl, fun a h => by cases h⟩, fun a h => by cases h⟩
  · refine ⟨some ⟨g, 0, none⟩, cap, rfl, ⟨(fun h => by cases h), fun a ha i hi => ?_⟩, fun a ha => ?_⟩
    · injection ha with ha; subst ha
      have e : ∀ k, (⟨g, 0, none⟩ : Addr).add k = ⟨g, k, none⟩ := add_plain g
      rw [e]
      refine ⟨?_, ?_, ?_, ?_, hb i hi⟩
      · rw [h.cellAt _ (by omega), pxV_get _ _ _ (by omega), cellP_0]
      · show w.cell? ⟨g, i * 4 + 1, none⟩ = _; rw [h.cellAt _ (by omega), pxV_get _ _ _ (by omega), cellP_1]
      · show w.cell? ⟨g, i * 4 + 2, none⟩ = _; rw [h.cellAt _ (by omega), pxV_get _ _ _ (by omega), cellP_2]
      · show w.cell? ⟨g, i * 4 + 3, none⟩ = _; rw [h.cellAt _ (by omega), pxV_get _ _ _ (by omega), cellP_3]
    · injection ha with ha; subst ha
      exact (h.lt g rfl).1
/-- a variable that holds a picture -/
structure PicAt (w : World) (b : Nat) (W H : Int) (v : Value) : Prop where
  c0 : w.cell? ⟨b, 0, none⟩ = some (.int .i64 W)
  c1 : w.cell? ⟨b, 1, none⟩ = some (.int .i64 H)
  c2 : w.cell? ⟨b, 2, none⟩ = some v
theorem PicAt.ext {w w' : World} {b : Nat} {W H : Int} {v : Value} (h : PicAt w b W H v) (hE : Ext w w') : PicAt w' b W H v := by
  have hl := World.block_lt_of_cell? w _ h.c0
  exact ⟨(hE.cell (p := ⟨b, 0, none⟩) hl).trans h.c0, (hE.cell (p := ⟨b, 1, none⟩) hl).trans h.c1, (hE.cell (p := ⟨b, 2, none⟩) hl).trans h.c2⟩
theorem PicAt.new (w : World) (W H : Int) (v : Value) (t : TypeId) : PicAt (w.alloc (.cells #[.int .i64 W, .int .i64 H, v] t)) w.heap.size W H v := by
  refine ⟨?_, ?_, ?_⟩ <;> (rw [World.cell?_alloc_at _ _ _ _ rfl]; rfl)
theorem PicAt.set {w : World} {b : Nat} {W H W' H' : Int} {v v' : Value} (h : PicAt w b W H v) : PicAt (((w.setCell ⟨b, 0, none⟩ (.int .i64 W')).setCell ⟨b, 1, none⟩ (.int .i64 H')).setCell ⟨b, 2, none⟩ v') b W' H' v' := by
  have e : ∀ i j, i ≠ j → (⟨b, i, none⟩ : Addr) ≠ ⟨b, j, none⟩ := fun i j hij q => by injection q with _ q; exact hij q
  refine ⟨?_, ?_, ?_⟩
  · rw [World.cell?_setCell_other _ _ _ _ (e 2 0 (by decide)), World.cell?_setCell_other _ _ _ _ (e 1 0 (by decide))]
    exact World.cell?_setCell_same _ _ _ h.c0
  · rw [World.cell?_setCell_other _ _ _ _ (e 2 1 (by decide))]
    exact World.cell?_setCell_same _ _ _ ((World.cell?_setCell_other _ _ _ _ (e 0 1 (by decide))).trans h.c1)
  · exact World.cell?_setCell_same _ _ _ ((World.cell?_setCell_other _ _ _ _ (e 1 2 (by decide))).trans ((World.cell?_setCell_other _ _ _ _ (e 0 2 (by decide))).trans h.c2))
theorem PicAt.frozen_set {w : World} {b : Nat} {W' H' : Int} {v' : Value} (p : Addr) : (((w.setCell ⟨b, 0, none⟩ (.int .i64 W')).setCell ⟨b, 1, none⟩ (.int .i64 H')).setCell ⟨b, 2, none⟩ v').frozen? p = w.frozen? p := by
  rw [World.frozen?_setCell, World.frozen?_setCell, World.frozen?_setCell]
theorem Ext.set3 {w0 w : World} {b : Nat} (h : Ext w0 w) (hb : w0.heap.size ≤ b) (x y z : Value) : Ext w0 (((w.setCell ⟨b, 0, none⟩ x).setCell ⟨b, 1, none⟩ y).setCell ⟨b, 2, none⟩ z) := ((Below.setCell h hb _).setCell hb _).setCell hb _
theorem ownsRow_set3 {w : World} {base : Nat} {e : TypeId} {size : Nat} {v : Value} {n : Nat} {xs : List Value} (h : w.ownsRow base e size v n xs) {b : Nat} (hb : v.ownBlock ≠ some b) (x y z : Value) : (((w.setCell ⟨b, 0, none⟩ x).setCell ⟨b, 1, none⟩ y).setCell ⟨b, 2, none⟩ z).ownsRow base e size v n xs :=
  ownsRow_setCell_other (ownsRow_setCell_other (ownsRow_setCell_other h hb _) hb _) hb _
theorem Bk.pic {w : World} {b : Nat} {W H : Int} {v : Value} (h : Bk w b #[.int .i64 W, .int .i64 H, v]) : PicAt w b W H v := ⟨h.cell 0, h.cell 1, h.cell 2⟩
/-- a result's variable, filled: what it holds, the row, the world -/
theorem fill_res {w wz : World} {b base n : Nat} {W0 H0 W H : Int} {v0 v : Value} {xs : List Value} (hX : Ext w wz) (hb : w.heap.size ≤ b) (P : PicAt wz b W0 H0 v0) (own : wz.ownsRow base 34 4 v n xs) (hlt : b < base) :
    PicAt (((wz.setCell ⟨b, 0, none⟩ (.int .i64 W)).setCell ⟨b, 1, none⟩ (.int .i64 H)).setCell ⟨b, 2, none⟩ v) b W H v ∧
    (((wz.setCell ⟨b, 0, none⟩ (.int .i64 W)).setCell ⟨b, 1, none⟩ (.int .i64 H)).setCell ⟨b, 2, none⟩ v).ownsRow base 34 4 v n xs ∧
    Ext w (((wz.setCell ⟨b, 0, none⟩ (.int .i64 W)).setCell ⟨b, 1, none⟩ (.int .i64 H)).setCell ⟨b, 2, none⟩ v) :=
  ⟨P.set, ownsRow_set3 own (fun e => by have := (own.lt _ e).1; omega) _ _ _, hX.set3 hb _ _ _⟩
end Go.Proofs.YteacjlalekbhpaaDoor
namespace Go.Proofs.YteacjlalekbhpaaDoor
open Go.RowKit
set_option linter.unusedSimpArgs false
/-- a still region, step by step (the kernel alone reckons which operations are wanted) -/
@[irreducible] def wpQ (P : Program) (ops : Array Oper) (w : World) (Q : Act → Prop) (l : List Oper) (a : Act) : Prop := wpStill P ops w Q l a
theorem wpQ_eq {P : Program} {ops : Array Oper} {w : World} {Q : Act → Prop} {l : List Oper} {a : Act} : wpQ P ops w Q l a = wpStill P ops w Q l a := by unfold wpQ; rfl
theorem wpQ_nil {P : Program} {ops : Array Oper} {w : World} {Q : Act → Prop} {a : Act} (h : Q a) : wpQ P ops w Q [] a := by rw [wpQ_eq]; exact h
theorem wpQ_no {P : Program} {ops : Array Oper} {w : World} {Q : Act → Prop} {a : Act} {o : Oper} {rest : List Oper} (hw : Region.wanted o (yielded ops a.tmps) = false) (h : wpQ P ops w Q rest (a.put o.dst undef)) : wpQ P ops w Q (o :: rest) a := by
  rw [wpQ_eq] at h ⊢
  unfold wpStill; rw [hw]; exact h
theorem wpQ_yes {P : Program} {ops : Array Oper} {w : World} {Q : Act → Prop} {a : Act} {o : Oper} {rest : List Oper} (hw : Region.wanted o (yielded ops a.tmps) = true)
    (h : ∀ K : Act → Prop, (∀ a, wpQ P ops w Q rest a → K a) → o.still P a w K) : wpQ P ops w Q (o :: rest) a := by
  rw [wpQ_eq]
  unfold wpStill; rw [hw]; exact h _ (fun _ q => by rw [wpQ_eq] at q; exact q)
theorem wp_regionQ {P : Program} {id : Nat} {Q : Exit → Act → World → Prop} {a : Act} {w : World} {l : List Oper} (hm : P.follows .mixedOrders = true) (hB : Region.lexB .any l.toArray = true)
    (h : wpQ P l.toArray w.drew (fun a' => Q .normal a' w.drew) l a) : (Code.region id l.toArray true).wp P Q a w :=
  wp_region_still_lit hm hB (by rw [wpQ_eq] at h; exact h)
theorem wp_region_tailQ {P : Program} {id : Nat} {Q : Exit → Act → World → Prop} {a : Act} {w : World} {l : List Oper} (n : Nat) (hm : P.follows .mixedOrders = true) (hB : Region.lexTailB .any l.toArray n = true)
    (h : wpQ P l.toArray w.drew (fun a' => wpList P l.toArray Q (l.drop n) a' w.drew) (l.take n) a) : (Code.region id l.toArray true).wp P Q a w :=
  wp_region_still_tail n hm hB (by rw [wpQ_eq] at h; exact h)
end Go.Proofs.YteacjlalekbhpaaDoor
namespace Go.Proofs.YteacjlalekbhpaaDoor
open Go.RowKit
set_option linter.unusedSimpArgs false
set_option maxRecDepth 100000
def sumA (px : Nat → P4) : Nat → Int
  | 0 => 0
  | k + 1 => sumA px k + (px k).a
def sumC (c : P4 → Int) (px : Nat → P4) : Nat → Int
  | 0 => 0
  | k + 1 => sumC c px k + (px k).a * c (px k)
theorem sum_bd (px : Nat → P4) (n : Nat) (h : ∀ i, i < n → (px i).Ok) : ∀ k, k ≤ n → (0 ≤ sumC (fun p => p.r) px k ∧ sumC (fun p => p.r) px k ≤ 65025 * k) ∧ (0 ≤ sumC (fun p => p.g) px k ∧ sumC (fun p => p.g) px k ≤ 65025 * k) ∧ (0 ≤ sumC (fun p => p.b) px k ∧ sumC (fun p => p.b) px k ≤ 65025 * k) ∧ 0 ≤ sumA px k ∧ sumA px k ≤ 255 * k := by
  intro k
  induction k with
  | zero => intro _; simp [sumA, sumC]
  | succ k ih =>
    intro hk
    have ih := ih (by omega)
    have ok := h k (by omega)
    have h1 := Pix.mul_bd ok.a.1 ok.a.2 ok.r.1 ok.r.2
    have h2 := Pix.mul_bd ok.a.1 ok.a.2 ok.g.1 ok.g.2
    have h3 := Pix.mul_bd ok.a.1 ok.a.2 ok.b.1 ok.b.2
    have h4 := ok.a.1
    have h5 := ok.a.2
    simp only [sumA, sumC]
    omega
/-- pixels mixed -/
def mixV (px : Nat → P4) (n : Nat) : Value := if sumA px n = 0 then pixv 0 0 0 0 else pixv (Pix.rnd (sumC (fun p => p.r) px n) (sumA px n)) (Pix.rnd (sumC (fun p => p.g) px n) (sumA px n)) (Pix.rnd (sumC (fun p => p.b) px n) (sumA px n)) (Pix.rnd (sumA px n) (n : Int))
set_option linter.unusedSimpArgs false in
set_option maxHeartbeats 4000000 in
theorem mix_any (x : Option Addr) (n cap : Nat) (px : Nat → P4) (w : World) (hP : Pxs w x n px) (hn : n ≤ 100) :
    Calls Tryd.prog 26 #[.slice x n cap] w fun e w' => e = .returned (mixV px n) ∧ Ext w w' := by
  have HP := Lib.hid hP
  have HOk : Hid (∀ i, i < n → (px i).Ok) := Lib.hid (fun i hi => by obtain ⟨a, ha⟩ := hP.isSome hi; exact (hP.2 a ha i hi).2.2.2.2)
  obtain ⟨B, hB⟩ : ∃ B, w.heap.size = B := ⟨_, rfl⟩
  have HBB := Lib.hid hB
  clear hP
  go_enter Tryd.func26, Tryd.ntmps26
  go_upto_block 0 with fail
  refine wp_world (fun wz => Hid (Ext w wz) ∧ Hid (Bk wz B #[.int .u8 0, .int .u8 0, .int .u8 0, .int .u8 0])) ⟨Lib.hid ((Ext.refl w).alloc _), Lib.hid (Bk.at hB)⟩ ?_
  (try rw [hB])
  clear hB
  rintro w1 ⟨HX, HR⟩
  go_wp2_with fail
  go_loopw [3, 4, 5, 6, 12] (fun r g b a c wr => ∃ k : Nat, k ≤ n ∧ c = .int .i64 (k : Int) ∧ r = .int .i64 (sumC (fun p => p.r) px k) ∧ g = .int .i64 (sumC (fun p => p.g) px k) ∧ b = .int .i64 (sumC (fun p => p.b) px k) ∧ a = .int .i64 (sumA px k) ∧ Hid (Ext w wr) ∧ Hid (Bk wr B #[.int .u8 0, .int .u8 0, .int .u8 0, .int .u8 0])) (fun _ _ _ _ c _ => n - (intOf c).toNat)
  case atStart => exact ⟨0, by omega, rfl, rfl, rfl, rfl, rfl, HX, HR⟩
  case round =>
    clear HX HR
    obtain ⟨k, hk, rfl, rfl, rfl, rfl, rfl, HX, HR⟩ := hrel
    by_cases hlt : k < n
    · obtain ⟨a, ha⟩ := HP.out.isSome hlt
      subst ha
      obtain ⟨c0, c1, c2, c3, ok⟩ := (HP.out.ext HX.out).2 a rfl k hlt
      obtain ⟨q, hq⟩ : ∃ q, px k = q := ⟨_, rfl⟩
      rw [hq] at c0 c1 c2 c3 ok
      have hbk := sum_bd px n HOk.out k hk
      obtain ⟨Sr, hSr⟩ : ∃ z, sumC (fun p => p.r) px k = z := ⟨_, rfl⟩
      obtain ⟨Pr, hPr⟩ : ∃ z, q.a * q.r = z := ⟨_, rfl⟩
      have hpr := Pix.mul_bd ok.a.1 ok.a.2 ok.r.1 ok.r.2
      rw [hPr] at hpr
      have HSr : Hid (sumC (fun p => p.r) px (k + 1) = Sr + Pr) := Lib.hid (by show sumC (fun p => p.r) px k + (px k).a * (px k).r = _; rw [hSr, hq, hPr])
      obtain ⟨Sg, hSg⟩ : ∃ z, sumC (fun p => p.g) px k = z := ⟨_, rfl⟩
      obtain ⟨Pg, hPg⟩ : ∃ z, q.a * q.g = z := ⟨_, rfl⟩
      have hpg := Pix.mul_bd ok.a.1 ok.a.2 ok.g.1 ok.g.2
      rw [hPg] at hpg
      have HSg : Hid (sumC (fun p => p.g) px (k + 1) = Sg + Pg) := Lib.hid (by show sumC (fun p => p.g) px k + (px k).a * (px k).g = _; rw [hSg, hq, hPg])
      obtain ⟨Sb, hSb⟩ : ∃ z, sumC (fun p => p.b) px k = z := ⟨_, rfl⟩
      obtain ⟨Pb, hPb⟩ : ∃ z, q.a * q.b = z := ⟨_, rfl⟩
      have hpb := Pix.mul_bd ok.a.1 ok.a.2 ok.b.1 ok.b.2
      rw [hPb] at hpb
      have HSb : Hid (sumC (fun p => p.b) px (k + 1) = Sb + Pb) := Lib.hid (by show sumC (fun p => p.b) px k + (px k).a * (px k).b = _; rw [hSb, hq, hPb])
      obtain ⟨Sa, hSa⟩ : ∃ z, sumA px k = z := ⟨_, rfl⟩
      have HSa : Hid (sumA px (k + 1) = Sa + q.a) := Lib.hid (by show sumA px k + (px k).a = _; rw [hSa, hq])
      rw [hSr, hSg, hSb, hSa] at hbk ⊢
      have hn100 : n ≤ 100 := hn
      have w1r : ∀ z, z = q.r → IntKind.i64.wrap z = z := by rintro _ rfl; have h := ok.r.1; have h2 := ok.r.2; rw [IntKind.wrap_i64]; omega
      have w2r : ∀ z, z = Pr → IntKind.i64.wrap z = z := by rintro _ rfl; rw [IntKind.wrap_i64]; omega
      have w3r : ∀ z, z = Sr + Pr → IntKind.i64.wrap z = z := by rintro _ rfl; rw [IntKind.wrap_i64]; omega
      have w1g : ∀ z, z = q.g → IntKind.i64.wrap z = z := by rintro _ rfl; have h := ok.g.1; have h2 := ok.g.2; rw [IntKind.wrap_i64]; omega
      have w2g : ∀ z, z = Pg → IntKind.i64.wrap z = z := by rintro _ rfl; rw [IntKind.wrap_i64]; omega
      have w3g : ∀ z, z = Sg + Pg → IntKind.i64.wrap z = z := by rintro _ rfl; rw [IntKind.wrap_i64]; omega
      have w1b : ∀ z, z = q.b → IntKind.i64.wrap z = z := by rintro _ rfl; have h := ok.b.1; have h2 := ok.b.2; rw [IntKind.wrap_i64]; omega
      have w2b : ∀ z, z = Pb → IntKind.i64.wrap z = z := by rintro _ rfl; rw [IntKind.wrap_i64]; omega
      have w3b : ∀ z, z = Sb + Pb → IntKind.i64.wrap z = z := by rintro _ rfl; rw [IntKind.wrap_i64]; omega
      have w1a : ∀ z, z = q.a → IntKind.i64.wrap z = z := by rintro _ rfl; have h := ok.a.1; have h2 := ok.a.2; rw [IntKind.wrap_i64]; omega
      have w3a : ∀ z, z = Sa + q.a → IntKind.i64.wrap z = z := by rintro _ rfl; have h := ok.a.1; have h2 := ok.a.2; rw [IntKind.wrap_i64]; omega
      have wk : ∀ z, z = (k : Int) + 1 → IntKind.i64.wrap z = z := by rintro _ rfl; rw [IntKind.wrap_i64]; omega
      have t0 : decide ((k : Int) < (n : Int)) = true := decide_eq_true (by omega)
      have hk0 : (0 : Int) ≤ (k : Int) := by omega
      have hkI : (k : Int) < (n : Int) := by omega
      clear hSr hSg hSb hSa hpr hpg hpb hbk hq ok
      go_wp2_with fail
      obtain ⟨D, hD⟩ : ∃ D, wr.heap.size = D := ⟨_, rfl⟩
      refine wp_world (fun wz => Hid (Ext wr wz) ∧ Hid (Bk wz D #[.int .u8 q.r, .int .u8 q.g, .int .u8 q.b, .int .u8 q.a])) ⟨Lib.hid (by repeat (first | exact Ext.refl _ | refine Below.setCell ?_ (by simp) _ | refine Ext.alloc ?_ _)), Lib.hid (by first | exact Bk.at hD | exact Bk.at (by simp [hD]))⟩ ?_
      (try rw [hD])
      clear hD c0 c1 c2 c3
      rintro wn ⟨HXn, HD⟩
      have HX2 := Lib.hid (HX.out.trans HXn.out)
      have HR2 := Lib.hid (HR.out.ext HXn.out)
      have d0 : wn.drew.cell? ⟨D, 0, none⟩ = some (.int .u8 q.r) := HD.out.cell 0
      have d1 : wn.drew.cell? ⟨D, 1, none⟩ = some (.int .u8 q.g) := HD.out.cell 1
      have d2 : wn.drew.cell? ⟨D, 2, none⟩ = some (.int .u8 q.b) := HD.out.cell 2
      have d3 : wn.drew.cell? ⟨D, 3, none⟩ = some (.int .u8 q.a) := HD.out.cell 3
      refine wp_regionQ (by kernel_rfl) (by kernel_rfl) ?_
      refine wpQ_yes (by kernel_rfl) (fun K hK => ?_)
      go_simp
      refine hK _ ?_
      clear hK K
      refine wpQ_yes (by kernel_rfl) (fun K hK => ?_)
      go_simp
      refine hK _ ?_
      clear hK K
      refine wpQ_yes (by kernel_rfl) (fun K hK => ?_)
      go_simp
      refine hK _ ?_
      clear hK K
      refine wpQ_yes (by kernel_rfl) (fun K hK => ?_)
      go_simp
      refine hK _ ?_
      clear hK K
      refine wpQ_yes (by kernel_rfl) (fun K hK => ?_)
      go_simp
      refine hK _ ?_
      clear hK K
      refine wpQ_yes (by kernel_rfl) (fun K hK => ?_)
      go_simp
      refine hK _ ?_
      clear hK K
      refine wpQ_yes (by kernel_rfl) (fun K hK => ?_)
      go_simp
      refine hK _ ?_
      clear hK K
      refine wpQ_yes (by kernel_rfl) (fun K hK => ?_)
      go_simp
      refine hK _ ?_
      clear hK K
      refine wpQ_yes (by kernel_rfl) (fun K hK => ?_)
      go_simp
      refine hK _ ?_
      clear hK K
      refine wpQ_yes (by kernel_rfl) (fun K hK => ?_)
      go_simp
      refine hK _ ?_
      clear hK K
      refine wpQ_yes (by kernel_rfl) (fun K hK => ?_)
      go_simp
      refine hK _ ?_
      clear hK K
      refine wpQ_yes (by kernel_rfl) (fun K hK => ?_)
      go_simp
      refine hK _ ?_
      clear hK K
      refine wpQ_yes (by kernel_rfl) (fun K hK => ?_)
      go_simp
      refine hK _ ?_
      clear hK K
      refine wpQ_yes (by kernel_rfl) (fun K hK => ?_)
      go_simp
      refine hK _ ?_
      clear hK K
      refine wpQ_yes (by kernel_rfl) (fun K hK => ?_)
      go_simp
      refine hK _ ?_
      clear hK K
      refine wpQ_yes (by kernel_rfl) (fun K hK => ?_)
      go_simp
      refine hK _ ?_
      clear hK K
      refine wpQ_yes (by kernel_rfl) (fun K hK => ?_)
      go_simp
      refine hK _ ?_
      clear hK K
      refine wpQ_yes (by kernel_rfl) (fun K hK => ?_)
      go_simp
      refine hK _ ?_
      clear hK K
      refine wpQ_yes (by kernel_rfl) (fun K hK => ?_)
      go_simp
      refine hK _ ?_
      clear hK K
      refine wpQ_yes (by kernel_rfl) (fun K hK => ?_)
      go_simp
      refine hK _ ?_
      clear hK K
      refine wpQ_yes (by kernel_rfl) (fun K hK => ?_)
      go_simp
      refine hK _ ?_
      clear hK K
      refine wpQ_yes (by kernel_rfl) (fun K hK => ?_)
      go_simp
      refine hK _ ?_
      clear hK K
      refine wpQ_yes (by kernel_rfl) (fun K hK => ?_)
      go_simp
      refine hK _ ?_
      clear hK K
      refine wpQ_yes (by kernel_rfl) (fun K hK => ?_)
      go_simp
      refine hK _ ?_
      clear hK K
      refine wpQ_yes (by kernel_rfl) (fun K hK => ?_)
      go_simp
      refine hK _ ?_
      clear hK K
      refine wpQ_yes (by kernel_rfl) (fun K hK => ?_)
      go_simp
      refine hK _ ?_
      clear hK K
      refine wpQ_yes (by kernel_rfl) (fun K hK => ?_)
      go_simp
      refine hK _ ?_
      clear hK K
      refine wpQ_yes (by kernel_rfl) (fun K hK => ?_)
      go_simp
      refine hK _ ?_
      clear hK K
      refine wpQ_nil ?_
      clear d0 d1 d2 d3
      go_wp2_with fail
      go_roundw
      case rel => exact ⟨k + 1, by omega, by go_num, by rw [HSr.out], by rw [HSg.out], by rw [HSb.out], by rw [HSa.out], Lib.hid (Below.drew HX2.out), Lib.hid HR2.out.drew⟩
      case measure => simp [intOf]; omega
    · obtain rfl : k = n := by omega
      have hbk := sum_bd px k HOk.out k (Nat.le_refl _)
      have t0 : decide ((k : Int) < (k : Int)) = false := decide_eq_false (by omega)
      have HM : Hid (mixV px k = if sumA px k = 0 then pixv 0 0 0 0 else pixv (Pix.rnd (sumC (fun p => p.r) px k) (sumA px k)) (Pix.rnd (sumC (fun p => p.g) px k) (sumA px k)) (Pix.rnd (sumC (fun p => p.b) px k) (sumA px k)) (Pix.rnd (sumA px k) (k : Int))) := Lib.hid rfl
      obtain ⟨Sr, hSr⟩ : ∃ z, sumC (fun p => p.r) px k = z := ⟨_, rfl⟩
      obtain ⟨Sg, hSg⟩ : ∃ z, sumC (fun p => p.g) px k = z := ⟨_, rfl⟩
      obtain ⟨Sb, hSb⟩ : ∃ z, sumC (fun p => p.b) px k = z := ⟨_, rfl⟩
      obtain ⟨Sa, hSa⟩ : ∃ z, sumA px k = z := ⟨_, rfl⟩
      rw [hSr, hSg, hSb, hSa] at hbk HM ⊢
      have k0 := HR.out.cell 0
      have k1 := HR.out.cell 1
      have k2 := HR.out.cell 2
      have k3 := HR.out.cell 3
      have f0 := HR.out.frozen 0
      have f1 := HR.out.frozen 1
      have f2 := HR.out.frozen 2
      have f3 := HR.out.frozen 3
      by_cases h0 : Sa = 0
      · have t1 : (Sa == 0) = true := beq_iff_eq.2 h0
        have HQ := Lib.hid h0
        clear h0 hbk hSr hSg hSb hSa
        go_wp2_with fail
        refine bodyPost_ret (v := _) (by simp [results, Tryd.results26, go_sem, k0, k1, k2, k3]; rfl) rfl ⟨by rw [HM.out, if_pos HQ.out], ?_⟩
        repeat (first | exact HX.out | refine Below.setCell ?_ (by rw [HBB.out]; exact Nat.le_refl _) _ | apply below_drewN | refine Ext.alloc ?_ _)
      · have t1 : (Sa == 0) = false := beq_eq_false_iff_ne.2 h0
        have HQ := Lib.hid h0
        have hk1 : 1 ≤ k := by omega
        have Rr := Lib.hid (fun w => round_any Sr Sa w (by omega) (by omega) (by omega) (by omega))
        have Rg := Lib.hid (fun w => round_any Sg Sa w (by omega) (by omega) (by omega) (by omega))
        have Rb := Lib.hid (fun w => round_any Sb Sa w (by omega) (by omega) (by omega) (by omega))
        have Ra := Lib.hid (fun w => round_any Sa (k : Int) w (by omega) (by omega) (by omega) (by omega))
        clear h0 hbk hSr hSg hSb hSa
        go_wp2_with fail
        refine (Rr.out _).mono ?_
        rintro e _ ⟨rfl, rfl⟩
        go_wp2_with fail
        refine (Rg.out _).mono ?_
        rintro e _ ⟨rfl, rfl⟩
        go_wp2_with fail
        refine (Rb.out _).mono ?_
        rintro e _ ⟨rfl, rfl⟩
        go_wp2_with fail
        refine (Ra.out _).mono ?_
        rintro e _ ⟨rfl, rfl⟩
        go_wp2_with fail
        refine bodyPost_ret (v := _) (by simp [results, Tryd.results26, go_sem, k0, k1, k2, k3]; rfl) rfl ⟨by rw [HM.out, if_neg HQ.out], ?_⟩
        repeat (first | exact HX.out | refine Below.setCell ?_ (by rw [HBB.out]; exact Nat.le_refl _) _ | apply below_drewN | refine Ext.alloc ?_ _)
end Go.Proofs.YteacjlalekbhpaaDoor
