/- Arguments and package variables, opened to cells: slices of records, sentinels of errors. -/
import Derived.Test.YtdeiolagnheihaaDoorMem
import Derived.Deep.Fields
import Derived.Stop.LaidErr
import Derived.LaidSub
import Derived.ProofKit
import Derived.OpenShut
namespace Go.Proofs.YtdeiolagnheihaaDoor
open Go.ChangeShapes Go.WideShapes Go.RowKit Go.Deep
/-- a slice of records of one-cell fields: every field's cell and how it reads -/
theorem open_recs {H : Type} {enc : TypeId × Value → H} {P : Program} {w : World} {base : Nat} {spare : Nat → Bool} {held : Bool} {t e : TypeId} {fs : Array Field} {fuel : Nat} {cs : List Value} {x : DataW H × List MemPlace}
    (ht : P.underlying t = some (.slice e)) (he : P.underlying e = some (.struct fs)) (hone : oneCellFields P fs = true) (hC : P.cellsOf e = fs.size) (h : DataW.trod enc P w base spare held fuel t cs = some x) :
    cs = [.slice none 0 0] ∨ ∃ (a : Addr) (len cap : Nat), cs = [.slice (some a) len cap] ∧ len ≤ cap ∧ cap ≤ maxLen ∧
      ∀ i, i < len → ∀ (j : Nat) (f : Field), fs[j]? = some f → ∃ (v : Value) (y : DataW H × List MemPlace) (n : Nat), w.cell? ((a.add (i * fs.size)).add j) = some v ∧ DataW.trod enc P w base spare held n f.type [v] = some y := by
  rcases open_slice ht h with ⟨h0, _⟩ | ⟨a, len, cap, m, n, D, Pl, hcs, _, hl, hm, hmm, _, hi⟩
  · exact .inl h0
  · refine .inr ⟨a, len, cap, hcs, hl, hm, fun i hlt j f hj => ?_⟩
    have him : i < m := by rw [hmm]; split <;> omega
    obtain ⟨cs', hc, hr⟩ := hi i him
    obtain ⟨xs, k, _, _, _, hxl, hx⟩ := DataW.trod_struct he hr
    obtain ⟨_, hcl, hat⟩ := World.cells?_some hc
    rw [hC] at hcl hat
    have hjs : j < fs.size := (Array.getElem?_eq_some_iff.1 hj).1
    obtain ⟨o1, o2⟩ := hone_of hone j f hj
    have hxj := hx j f hj
    rw [o1, o2, List.drop_eq_getElem_cons (by omega)] at hxj
    have e1 : xs[j]? = some (xs[j]'(by omega)) := List.getElem?_eq_getElem (by omega)
    have e2 : w.cell? ((a.add (i * fs.size)).add j) = some (cs'[j]'(by omega)) := by
      rw [hat j hjs]; exact List.getElem?_eq_getElem (by omega)
    exact ⟨_, _, k, e2, hxj.trans e1⟩
theorem cell_add {w : World} {q : Addr} {v : Value} {k : Nat} (hk : k ≠ 0) (h : w.cell? (q.add k) = some v) : w.cell? ⟨q.block, q.off + k, none⟩ = some v := by
  unfold Addr.add at h; rw [if_neg hk] at h; exact h
/-- a sentinel of the list: its variable holds an error's pointer -/
theorem sent_star : Tryd.prog.typeName? 3 180 = some "*errors.errorString" := by kernel_rfl
theorem sent_row (u : TypeId) (h : Tryd.prog.typeName? 3 u = some "*errors.errorString") : u = 180 :=
  typeName_ptr_named (nm := "errors.errorString") (by kernel_rfl) (by kernel_rfl) (by decide) u h
theorem sentinel {l : List (String × DataW Unit)} {W : World} {n : String} {g : Nat} {text : List UInt8} {ti : TypeId} {ms : Array (String × TypeId)} (h : laidMetH Tryd.prog l W)
    (hl : l.filter (fun x => x.1 == n) = [(n, .iface "*errors.errorString" (.ptr (.agg [.lit (.string text)])))]) (hg : Tryd.prog.globalNamed n = some g)
    (ht : (Tryd.prog.globals[g]?).map (·.type) = some ti) (hi : Tryd.prog.underlying ti = some (.interface ms)) :
    ∃ (E : Addr) (s : ByteArray), W.cell? ⟨g, 0, none⟩ = some (.iface 180 (.pointer (some E))) ∧ W.cell? E = some (.string s) ∧ s.data.toList = text ∧ s.size ≤ maxLen := by
  have h1 := laidMetH.filter (fun x => x.1 == n) h
  rw [hl] at h1
  have h2 : laidMet Tryd.prog [(n, .iface "*errors.errorString" (.ptr (.agg [.lit (.string text)])))] W := h1
  obtain ⟨E, s, hv, hc, hs, hz⟩ := laid_sentinel h2 hg ht hi sent_row Tryd.underlying180 Tryd.underlying199 rfl rfl Tryd.underlying9 (by kernel_rfl) (by kernel_rfl)
  exact ⟨E, s, by simpa using World.var?_cell hg hv 0, hc, hs, hz⟩
end Go.Proofs.YtdeiolagnheihaaDoor
