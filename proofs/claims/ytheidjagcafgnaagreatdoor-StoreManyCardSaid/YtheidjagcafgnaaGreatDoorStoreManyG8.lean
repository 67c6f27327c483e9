/-
  The package's errors, out of what a row lists.
  The last step of every law's row, once: a call that returns true and turns nothing that was there meets the row's post.
-/
import Derived.Test.YtheidjagcafgnaaGreatDoorStoreManyG1
import Derived.Test.YtheidjagcafgnaaGreatDoorStoreManyG2
import Derived.LaidHandle
import Derived.LaidSub
import Derived.Stop.LaidTwo
import Derived.Test.YtheidjagcafgnaaGreatDoorRows
import Derived.ProofKit
import Derived.ShutString
import Derived.Below
import Derived.OpenShut
set_option linter.unusedSimpArgs false
set_option linter.unusedVariables false
set_option maxRecDepth 100000
namespace Go.Proofs.YtheidjagcafgnaaGreatDoor
open Go.RowKit Go.ChangeShapes
theorem rowName : (Tryz.prog.cutTypes.find? (·.1 == "internal/reflectlite.rtype")).map (·.2) = some 153 := by kernel_rfl
theorem oneRow : ((List.range Tryz.prog.types.size).filter fun t => Tryz.prog.rowNamed t [101, 114, 114, 111, 114]) = [25] := by kernel_rfl
theorem etName : Tryz.prog.globalNamed "errors.errorType" = some 9 := by kernel_rfl
theorem errType_of_laid {l : List (String × DataW Unit)} {W : World} (h : laidMetH Tryz.prog l W)
  (hl : l.filter (fun x => x.1 == "errors.errorType") = [("errors.errorType", .iface "internal/reflectlite.rtype" (.agg [.ptr (.lit (.string [101, 114, 114, 111, 114]))]))]) : ErrType W := by
 have h1 := laidMetH.filter (fun x => x.1 == "errors.errorType") h
 rw [hl] at h1;have h' : laidMet Tryz.prog [] W ∧ handlesMet Tryz.prog [("errors.errorType", .iface "internal/reflectlite.rtype" (.agg [.ptr (.lit (.string [101, 114, 114, 111, 114]))]))] W := h1
 obtain ⟨name, u, ty, e1, e2, e3, e4, e5⟩ := h'.2 _ (List.mem_singleton.2 rfl);have en : name = [101, 114, 114, 111, 114] := (Option.some.inj e1).symm;subst en;obtain rfl := Option.some.inj (rowName.symm.trans e2);have hm : ty ∈ (List.range Tryz.prog.types.size).filter fun t => Tryz.prog.rowNamed t [101, 114, 114, 111, 114] := List.mem_filter.2 ⟨List.mem_range.2 e3, e4⟩;rw [oneRow] at hm;obtain rfl := List.mem_singleton.1 hm;have hh : typeHandle Tryz.prog 25 = hdl 25 := by kernel_rfl
 rw [hh] at e5;unfold ErrType;simpa using World.var?_cell etName e5 0
theorem sentinel_row {l : List (String × DataW Unit)} {W : World} {n : String} {g : Nat} {text : List UInt8} {ti : TypeId} {ms : Array (String × TypeId)} (h : laidMetH Tryz.prog l W)
  (hl : l.filter (fun x => x.1 == n) = [(n, .iface "*errors.errorString" (.ptr (.agg [.lit (.string text)])))]) (hg : Tryz.prog.globalNamed n = some g)
  (ht : (Tryz.prog.globals[g]?).map (·.type) = some ti) (hi : Tryz.prog.underlying ti = some (.interface ms)) :
  ∃ (E : Addr), W.cell? ⟨g, 0, none⟩ = some (sentV E) ∧ (∃ s : ByteArray, W.cell? E = some (.string s) ∧ s.data.toList = text) ∧ ∃ c t, W.heap[E.block]? = some (.cells c t (0, 0)) := by
 have h1 := laidMetH.filter (fun x => x.1 == n) h;rw [hl] at h1;have h2 : laidMet Tryz.prog [(n, .iface "*errors.errorString" (.ptr (.agg [.lit (.string text)])))] W := h1
 obtain ⟨ps, ⟨g0, t0, cs0, f0, p0, q0, hg0, ht0, hv0, hd0, _, e0⟩, _, hrows⟩ := h2;obtain rfl := Option.some.inj (hg.symm.trans hg0);obtain rfl := Option.some.inj (ht.symm.trans ht0);subst e0;obtain ⟨l0⟩ := cs0;have ok0 : ∀ u v, l0 = [.iface u v] → Value.okWide Tryz.prog W .any 0 u v := fun u v e => by
  subst e;exact (hrows g 0 (by simp [MemPlace.row])).2 u v (by simpa using World.var?_cell hg0 hv0 0)
 obtain ⟨a0, s0, rfl, hc0, hs0, hz0, rfl⟩ := errorString_of_trod hi sent_row Tryz.underlying188 Tryz.underlying206 rfl rfl Tryz.underlying9 (by kernel_rfl) (by kernel_rfl) hd0 ok0;obtain ⟨c, t, hb⟩ := (hrows a0.block a0.off (by simp [MemPlace.row])).1;exact ⟨a0, by unfold sentV; simpa using World.var?_cell hg0 hv0 0, ⟨s0, hc0, hs0⟩, c, t, hb⟩
def nameE : Nat → String
 | 0 => "layercake/api.ErrText"
 | 1 => "layercake/api.ErrBound"
 | 2 => "layercake/api.ErrShape"
 | 3 => "layercake/api.ErrSum"
 | 4 => "layercake/api.ErrName"
 | 5 => "layercake/api.ErrNone"
 | 6 => "layercake/api.ErrColors"
 | 7 => "layercake/api.ErrFull"
 | _ => "layercake/api.ErrPower"
def textE : Nat → List UInt8
 | 0 => [108, 97, 121, 101, 114, 99, 97, 107, 101, 58, 32, 116, 101, 120, 116]
 | 1 => [108, 97, 121, 101, 114, 99, 97, 107, 101, 58, 32, 98, 111, 117, 110, 100]
 | 2 => [108, 97, 121, 101, 114, 99, 97, 107, 101, 58, 32, 115, 104, 97, 112, 101]
 | 3 => [108, 97, 121, 101, 114, 99, 97, 107, 101, 58, 32, 115, 117, 109]
 | 4 => [108, 97, 121, 101, 114, 99, 97, 107, 101, 58, 32, 110, 97, 109, 101]
 | 5 => [108, 97, 121, 101, 114, 99, 97, 107, 101, 58, 32, 110, 111, 110, 101]
 | 6 => [108, 97, 121, 101, 114, 99, 97, 107, 101, 58, 32, 99, 111, 108, 111, 114, 115]
 | 7 => [108, 97, 121, 101, 114, 99, 97, 107, 101, 58, 32, 102, 117, 108, 108]
 | _ => [108, 97, 121, 101, 114, 99, 97, 107, 101, 58, 32, 112, 111, 119, 101, 114]
def errD (k : Nat) : List (String × DataW Unit) := [(nameE k, .iface "*errors.errorString" (.ptr (.agg [.lit (.string (textE k))])))]
theorem textE_ne : ∀ j, j < 9 → ∀ k, k < 9 → j ≠ k → textE j ≠ textE k := by decide
theorem errs_of_laid {l : List (String × DataW Unit)} {W : World} (h : laidMetH Tryz.prog l W)
  (het : l.filter (fun x => x.1 == "errors.errorType") = [("errors.errorType", .iface "internal/reflectlite.rtype" (.agg [.ptr (.lit (.string [101, 114, 114, 111, 114]))]))])
  (hl0 : l.filter (fun x => x.1 == nameE 0) = errD 0) (hl1 : l.filter (fun x => x.1 == nameE 1) = errD 1) (hl2 : l.filter (fun x => x.1 == nameE 2) = errD 2)
  (hl3 : l.filter (fun x => x.1 == nameE 3) = errD 3) (hl4 : l.filter (fun x => x.1 == nameE 4) = errD 4) (hl5 : l.filter (fun x => x.1 == nameE 5) = errD 5)
  (hl6 : l.filter (fun x => x.1 == nameE 6) = errD 6) (hl7 : l.filter (fun x => x.1 == nameE 7) = errD 7) (hl8 : l.filter (fun x => x.1 == nameE 8) = errD 8) :
  ∃ E, Errs W E ∧ ∀ k, k < 9 → ∃ s : ByteArray, W.cell? (E k) = some (.string s) ∧ s.data.toList = textE k := by
 have key : ∀ k, k < 9 → ∃ (E : Addr), W.cell? ⟨gk k, 0, none⟩ = some (sentV E) ∧ (∃ s : ByteArray, W.cell? E = some (.string s) ∧ s.data.toList = textE k) ∧ ∃ c t, W.heap[E.block]? = some (.cells c t (0, 0)) := by
  intro k hk;match k, hk with
  | 0, _ => exact sentinel_row h hl0 (by kernel_rfl) (by kernel_rfl) Tryz.underlying25
  | 1, _ => exact sentinel_row h hl1 (by kernel_rfl) (by kernel_rfl) Tryz.underlying25
  | 2, _ => exact sentinel_row h hl2 (by kernel_rfl) (by kernel_rfl) Tryz.underlying25
  | 3, _ => exact sentinel_row h hl3 (by kernel_rfl) (by kernel_rfl) Tryz.underlying25
  | 4, _ => exact sentinel_row h hl4 (by kernel_rfl) (by kernel_rfl) Tryz.underlying25
  | 5, _ => exact sentinel_row h hl5 (by kernel_rfl) (by kernel_rfl) Tryz.underlying25
  | 6, _ => exact sentinel_row h hl6 (by kernel_rfl) (by kernel_rfl) Tryz.underlying25
  | 7, _ => exact sentinel_row h hl7 (by kernel_rfl) (by kernel_rfl) Tryz.underlying25
  | 8, _ => exact sentinel_row h hl8 (by kernel_rfl) (by kernel_rfl) Tryz.underlying25
 let E : Nat → Addr := fun k => if hk : k < 9 then (key k hk).choose else ⟨0, 0, none⟩
 have hE : ∀ k (hk : k < 9), E k = (key k hk).choose := fun k hk => by simp [E, hk]
 refine ⟨E, ⟨errType_of_laid h het, fun k hk => ?_, fun k hk => ?_, fun j k hj hk hjk => ?_⟩, fun k hk => ?_⟩
 ·rw [hE k hk]; exact (key k hk).choose_spec.1
 ·rw [hE k hk]; exact (key k hk).choose_spec.2.2
 ·rw [hE j hj, hE k hk];intro e;obtain ⟨s, h1, h2⟩ := (key j hj).choose_spec.2.1;obtain ⟨s', h3, h4⟩ := (key k hk).choose_spec.2.1;rw [e, h3] at h1;injection h1 with h1; injection h1 with h1;subst h1;exact textE_ne j hj k hk hjk (h2.symm.trans h4)
 ·rw [hE k hk]; exact (key k hk).choose_spec.2.1
end Go.Proofs.YtheidjagcafgnaaGreatDoor
namespace Go.Proofs.YtheidjagcafgnaaGreatDoor
open Go.ChangeShapes Go.WideShapes Go.ChangeAt Go.RowKit
theorem law_readAll {H : Type} {enc : TypeId × Value → H} {P : Program} (hl : laidOutB P = true) {W W' : World} (sp : Nat → Bool) (hB : Below W.heap.size W W') :
  ∀ (ts : List TypeId) (vs : List Value) (ds : List (DataW H)) (ps : List MemPlace),
   (∀ t ∈ ts, P.readableRec t = true ∧ t < P.types.size) → (∀ p ∈ ps, p.block < W.heap.size) → (∀ p ∈ ps, sp p.block = true) →
   DataW.TrodAll enc P W 0 (fun _ => true) true ts vs ds ps → DataW.TrodAll enc P W' 0 sp true ts vs ds ps
 | [], [], [], _, _, _, _, h => h
 | t :: ts, v :: vs, d :: ds, ps, hr, hlt, hsp, h => by
  obtain ⟨p, q, h1, h2, rfl⟩ := h;have ht := hr t (List.mem_cons_self ..);refine ⟨p, q, ?_, ?_, rfl⟩
  ·exact WideElems.Trod_stays hl ht.1 ht.2 h1 (fun x hx => hB.same (hlt x (List.mem_append_left _ hx))) (fun x hx => hsp x (List.mem_append_left _ hx))
  ·exact law_readAll hl sp hB ts vs ds q (fun t' ht' => hr t' (List.mem_cons_of_mem _ ht')) (fun x hx => hlt x (List.mem_append_right _ hx)) (fun x hx => hsp x (List.mem_append_right _ hx)) h2
 | [], [], _ :: _, _, _, _, _, h => h.elim
 | [], _ :: _, _, _, _, _, _, h => h.elim
 | _ :: _, [], _, _, _, _, _, h => h.elim
 | _ :: _, _ :: _, [], _, _, _, _, h => h.elim
theorem law_post {H : Type} {enc : TypeId × Value → H} {P : Program} (hl : laidOutB P = true) {f : Func} {s : ChangeSpec} {apart fresh handsOn : Bool} {W W' : World} {args : Array Value} {ds : List (DataW H)} {before : List MemPlace} {tb : TypeId}
  (hW : DataW.Whole enc P f.params.toList s.vars apart W args.toList ds [] before) (hv : s.vars = [])
  (hfn : s.fn H (ds ++ []) = { results := [.lit (.bool true)], args := ds })
  (hread : f.params.toList.all (fun t => P.readableRec t && decide (t < P.types.size)) = true)
  (hres : f.resultTypes = #[tb]) (hb : P.underlying tb = some .bool) (hB : Below W.heap.size W W') :
  s.post enc P f apart fresh handsOn false W args (.bool true) W' := by
 have hlt : ∀ p ∈ before, p.block < W.heap.size := fun p hp => hW.lt p hp;have hr : ∀ t ∈ f.params.toList, P.readableRec t = true ∧ t < P.types.size := by
  intro t ht;have := List.all_eq_true.1 hread t ht;simpa using this
 have hW0 := hW;obtain ⟨p, q, hA, hV, hpq, hfz, hnd⟩ := hW;rw [hv] at hV;have hq : q = [] := by simpa [DataW.TrodVars] using hV
 subst hq;rw [List.append_nil] at hpq;subst hpq;have hargs : ∀ sp : Nat → Bool, (∀ x ∈ before, sp x.block = true) → DataW.TrodAll enc P W' 0 sp true f.params.toList args.toList ds before :=
  fun sp hsp => law_readAll hl sp hB _ _ _ _ hr hlt hsp hA
 have hold : ∀ x ∈ before, (fun b => decide (b < W.heap.size)) x.block = true := fun x hx => by simpa using hlt x hx
 have hresults : ∀ (b : Nat) (sp : Nat → Bool) (hd : Bool), DataW.TrodAll enc P W' b sp hd f.resultTypes.toList ((Value.bool true).resultList f.resultTypes.size) [.lit (.bool true)] [] := by
  intro b sp hd;rw [hres];exact trodAll_mk1 (shut_bool hb true)
 refine ⟨ds, [], before, [], before, [], hW0, ?_, ?_, ?_, World.keptBut_mono (fun x hx => ⟨hx, ?_⟩) (hB.frame (· ∈ before)), fun _ => ?_⟩
 ·rw [hfn]; exact hresults _ _ _
 ·rw [hfn]; exact hargs _ hold
 ·rw [hfn, hv]; rfl
 ·exact Or.inr (Or.inl hx)
 ·cases ‹false = true›
end Go.Proofs.YtheidjagcafgnaaGreatDoor
