/-
  The package's errors, out of what a row lists.
  Arguments that are rows of acts, and rows of bools, opened.
  Arguments that are rows of changes, opened; how long their texts may be.
  The last step of every law's row, once: a call that returns true and turns nothing that was there meets the row's post.
-/
import Derived.Test.YtheidjagcafgnaaGreatDoorStoreFailsG1
import Derived.Test.YtheidjagcafgnaaGreatDoorStoreFailsG2
import Derived.LaidHandle
import Derived.LaidSub
import Derived.Stop.LaidTwo
import Derived.Test.YtheidjagcafgnaaGreatDoorStoreFailsG9
import Derived.Deep.Grids
import Derived.Lib.SmallJoins
import Derived.Test.YtheidjagcafgnaaGreatDoorStoreFailsG8
import Derived.SizedLaws
import Derived.Test.YtheidjagcafgnaaGreatDoorRows
import Derived.ProofKit
import Derived.ShutString
import Derived.Below
import Derived.OpenShut
set_option linter.unusedSimpArgs false
set_option linter.unusedVariables false
set_option maxRecDepth 100000
namespace Go.Proofs.YtheidjagcafgnaaGreatDoor
open Go.RowKit Go.ChangeShapes
theorem rowName : (Tryz.prog.cutTypes.find? (·.1 == "internal/reflectlite.rtype")).map (·.2) = some 153 := by kernel_rfl
theorem oneRow : ((List.range Tryz.prog.types.size).filter fun t => Tryz.prog.rowNamed t [101, 114, 114, 111, 114]) = [25] := by kernel_rfl
theorem etName : Tryz.prog.globalNamed "errors.errorType" = some 9 := by kernel_rfl
theorem errType_of_laid {l : List (String × DataW Unit)} {W : World} (h : laidMetH Tryz.prog l W)
  (hl : l.filter (fun x => x.1 == "errors.errorType") = [("errors.errorType", .iface "internal/reflectlite.rtype" (.agg [.ptr (.lit (.string [101, 114, 114, 111, 114]))]))]) : ErrType W := by
 have h1 := laidMetH.filter (fun x => x.1 == "errors.errorType") h
 rw [hl] at h1;have h' : laidMet Tryz.prog [] W ∧ handlesMet Tryz.prog [("errors.errorType", .iface "internal/reflectlite.rtype" (.agg [.ptr (.lit (.string [101, 114, 114, 111, 114]))]))] W := h1
 obtain ⟨name, u, ty, e1, e2, e3, e4, e5⟩ := h'.2 _ (List.mem_singleton.2 rfl);have en : name = [101, 114, 114, 111, 114] := (Option.some.inj e1).symm;subst en;obtain rfl := Option.some.inj (rowName.symm.trans e2);have hm : ty ∈ (List.range Tryz.prog.types.size).filter fun t => Tryz.prog.rowNamed t [101, 114, 114, 111, 114] := List.mem_filter.2 ⟨List.mem_range.2 e3, e4⟩;rw [oneRow] at hm;obtain rfl := List.mem_singleton.1 hm;have hh : typeHandle Tryz.prog 25 = hdl 25 := by kernel_rfl
 rw [hh] at e5;unfold ErrType;simpa using World.var?_cell etName e5 0
theorem sentinel_row {l : List (String × DataW Unit)} {W : World} {n : String} {g : Nat} {text : List UInt8} {ti : TypeId} {ms : Array (String × TypeId)} (h : laidMetH Tryz.prog l W)
  (hl : l.filter (fun x => x.1 == n) = [(n, .iface "*errors.errorString" (.ptr (.agg [.lit (.string text)])))]) (hg : Tryz.prog.globalNamed n = some g)
  (ht : (Tryz.prog.globals[g]?).map (·.type) = some ti) (hi : Tryz.prog.underlying ti = some (.interface ms)) :
  ∃ (E : Addr), W.cell? ⟨g, 0, none⟩ = some (sentV E) ∧ (∃ s : ByteArray, W.cell? E = some (.string s) ∧ s.data.toList = text) ∧ ∃ c t, W.heap[E.block]? = some (.cells c t (0, 0)) := by
 have h1 := laidMetH.filter (fun x => x.1 == n) h;rw [hl] at h1;have h2 : laidMet Tryz.prog [(n, .iface "*errors.errorString" (.ptr (.agg [.lit (.string text)])))] W := h1
 obtain ⟨ps, ⟨g0, t0, cs0, f0, p0, q0, hg0, ht0, hv0, hd0, _, e0⟩, _, hrows⟩ := h2;obtain rfl := Option.some.inj (hg.symm.trans hg0);obtain rfl := Option.some.inj (ht.symm.trans ht0);subst e0;obtain ⟨l0⟩ := cs0;have ok0 : ∀ u v, l0 = [.iface u v] → Value.okWide Tryz.prog W .any 0 u v := fun u v e => by
  subst e;exact (hrows g 0 (by simp [MemPlace.row])).2 u v (by simpa using World.var?_cell hg0 hv0 0)
 obtain ⟨a0, s0, rfl, hc0, hs0, hz0, rfl⟩ := errorString_of_trod hi sent_row Tryz.underlying188 Tryz.underlying206 rfl rfl Tryz.underlying9 (by kernel_rfl) (by kernel_rfl) hd0 ok0;obtain ⟨c, t, hb⟩ := (hrows a0.block a0.off (by simp [MemPlace.row])).1;exact ⟨a0, by unfold sentV; simpa using World.var?_cell hg0 hv0 0, ⟨s0, hc0, hs0⟩, c, t, hb⟩
def nameE : Nat → String
 | 0 => "layercake/api.ErrText"
 | 1 => "layercake/api.ErrBound"
 | 2 => "layercake/api.ErrShape"
 | 3 => "layercake/api.ErrSum"
 | 4 => "layercake/api.ErrName"
 | 5 => "layercake/api.ErrNone"
 | 6 => "layercake/api.ErrColors"
 | 7 => "layercake/api.ErrFull"
 | _ => "layercake/api.ErrPower"
def textE : Nat → List UInt8
 | 0 => [108, 97, 121, 101, 114, 99, 97, 107, 101, 58, 32, 116, 101, 120, 116]
 | 1 => [108, 97, 121, 101, 114, 99, 97, 107, 101, 58, 32, 98, 111, 117, 110, 100]
 | 2 => [108, 97, 121, 101, 114, 99, 97, 107, 101, 58, 32, 115, 104, 97, 112, 101]
 | 3 => [108, 97, 121, 101, 114, 99, 97, 107, 101, 58, 32, 115, 117, 109]
 | 4 => [108, 97, 121, 101, 114, 99, 97, 107, 101, 58, 32, 110, 97, 109, 101]
 | 5 => [108, 97, 121, 101, 114, 99, 97, 107, 101, 58, 32, 110, 111, 110, 101]
 | 6 => [108, 97, 121, 101, 114, 99, 97, 107, 101, 58, 32, 99, 111, 108, 111, 114, 115]
 | 7 => [108, 97, 121, 101, 114, 99, 97, 107, 101, 58, 32, 102, 117, 108, 108]
 | _ => [108, 97, 121, 101, 114, 99, 97, 107, 101, 58, 32, 112, 111, 119, 101, 114]
def errD (k : Nat) : List (String × DataW Unit) := [(nameE k, .iface "*errors.errorString" (.ptr (.agg [.lit (.string (textE k))])))]
theorem textE_ne : ∀ j, j < 9 → ∀ k, k < 9 → j ≠ k → textE j ≠ textE k := by decide
theorem errs_of_laid {l : List (String × DataW Unit)} {W : World} (h : laidMetH Tryz.prog l W)
  (het : l.filter (fun x => x.1 == "errors.errorType") = [("errors.errorType", .iface "internal/reflectlite.rtype" (.agg [.ptr (.lit (.string [101, 114, 114, 111, 114]))]))])
  (hl0 : l.filter (fun x => x.1 == nameE 0) = errD 0) (hl1 : l.filter (fun x => x.1 == nameE 1) = errD 1) (hl2 : l.filter (fun x => x.1 == nameE 2) = errD 2)
  (hl3 : l.filter (fun x => x.1 == nameE 3) = errD 3) (hl4 : l.filter (fun x => x.1 == nameE 4) = errD 4) (hl5 : l.filter (fun x => x.1 == nameE 5) = errD 5)
  (hl6 : l.filter (fun x => x.1 == nameE 6) = errD 6) (hl7 : l.filter (fun x => x.1 == nameE 7) = errD 7) (hl8 : l.filter (fun x => x.1 == nameE 8) = errD 8) :
  ∃ E, Errs W E ∧ ∀ k, k < 9 → ∃ s : ByteArray, W.cell? (E k) = some (.string s) ∧ s.data.toList = textE k := by
 have key : ∀ k, k < 9 → ∃ (E : Addr), W.cell? ⟨gk k, 0, none⟩ = some (sentV E) ∧ (∃ s : ByteArray, W.cell? E = some (.string s) ∧ s.data.toList = textE k) ∧ ∃ c t, W.heap[E.block]? = some (.cells c t (0, 0)) := by
  intro k hk;match k, hk with
  | 0, _ => exact sentinel_row h hl0 (by kernel_rfl) (by kernel_rfl) Tryz.underlying25
  | 1, _ => exact sentinel_row h hl1 (by kernel_rfl) (by kernel_rfl) Tryz.underlying25
  | 2, _ => exact sentinel_row h hl2 (by kernel_rfl) (by kernel_rfl) Tryz.underlying25
  | 3, _ => exact sentinel_row h hl3 (by kernel_rfl) (by kernel_rfl) Tryz.underlying25
  | 4, _ => exact sentinel_row h hl4 (by kernel_rfl) (by kernel_rfl) Tryz.underlying25
  | 5, _ => exact sentinel_row h hl5 (by kernel_rfl) (by kernel_rfl) Tryz.underlying25
  | 6, _ => exact sentinel_row h hl6 (by kernel_rfl) (by kernel_rfl) Tryz.underlying25
  | 7, _ => exact sentinel_row h hl7 (by kernel_rfl) (by kernel_rfl) Tryz.underlying25
  | 8, _ => exact sentinel_row h hl8 (by kernel_rfl) (by kernel_rfl) Tryz.underlying25
 let E : Nat → Addr := fun k => if hk : k < 9 then (key k hk).choose else ⟨0, 0, none⟩
 have hE : ∀ k (hk : k < 9), E k = (key k hk).choose := fun k hk => by simp [E, hk]
 refine ⟨E, ⟨errType_of_laid h het, fun k hk => ?_, fun k hk => ?_, fun j k hj hk hjk => ?_⟩, fun k hk => ?_⟩
 ·rw [hE k hk]; exact (key k hk).choose_spec.1
 ·rw [hE k hk]; exact (key k hk).choose_spec.2.2
 ·rw [hE j hj, hE k hk];intro e;obtain ⟨s, h1, h2⟩ := (key j hj).choose_spec.2.1;obtain ⟨s', h3, h4⟩ := (key k hk).choose_spec.2.1;rw [e, h3] at h1;injection h1 with h1; injection h1 with h1;subst h1;exact textE_ne j hj k hk hjk (h2.symm.trans h4)
 ·rw [hE k hk]; exact (key k hk).choose_spec.2.1
end Go.Proofs.YtheidjagcafgnaaGreatDoor
namespace Go.Proofs.YtheidjagcafgnaaGreatDoor
open Go.ChangeShapes Go.WideShapes Go.RowKit Go.Deep Go.Joins
theorem ac_bools {H : Type} {enc : TypeId × Value → H} {w : World} {base : Nat} {held : Bool} {n : Nat} {v : Value} {y : DataW H × List MemPlace} (h : DataW.trod enc Tryz.prog w base (fun _ => true) held n 49 [v] = some y) : ∃ (x : Option Addr) (len cap : Nat) (kb : Nat → Bool), v = .slice x len cap ∧ len ≤ maxLen ∧ Kp w x len kb := by
  rcases open_bools Tryz.underlying49 Tryz.underlying4 (by kernel_rfl) h with ⟨h0, _⟩ | ⟨a, len, cap, B, h0, _, hl, hm, _, hB⟩
  · simp only [List.cons.injEq, and_true] at h0;exact ⟨none, 0, 0, fun _ => false, h0, Nat.zero_le _, fun _ => rfl, fun a h => by cases h⟩
  · simp only [List.cons.injEq, and_true] at h0;exact ⟨some a, len, cap, B, h0, by omega, (fun h => by cases h), fun a' ha j hj => by injection ha with ha; subst ha; exact hB j (by omega)⟩
theorem open_kp {H : Type} {enc : TypeId × Value → H} {w : World} {base : Nat} {held : Bool} {v : Value} {d : DataW H} {pl : List MemPlace}
    (h : DataW.Trod enc Tryz.prog w base (fun _ => true) held 49 v d pl) (hv : ∃ x len cap, v = .slice x len cap) : ∃ (x : Option Addr) (len cap : Nat) (kb : Nat → Bool), v = .slice x len cap ∧ len ≤ maxLen ∧ Kp w x len kb := by
  obtain ⟨x, len, cap, rfl⟩ := hv;obtain ⟨fuel, hf⟩ := h;exact ac_bools hf
end Go.Proofs.YtheidjagcafgnaaGreatDoor
namespace Go.Proofs.YtheidjagcafgnaaGreatDoor
open Go.ChangeShapes Go.WideShapes Go.RowKit Go.Deep Go.Joins
theorem wAll_memS {H : Type} {P : Program} {e : TypeId} : ∀ {l : List (DataW H)} {d : DataW H}, d ∈ l → ∀ n ∈ d.weights P e, n ∈ DataW.weightsAll P e l := by
 intro l;induction l with
 | nil => intro d h; cases h
 | cons x l ih =>
  intro d h n hn;rw [DataW.weightsAll];rcases List.mem_cons.1 h with rfl | h
  ·exact List.mem_append_left _ hn
  ·exact List.mem_append_right _ (ih h n hn)
theorem open_chs {H : Type} {enc : TypeId × Value → H} {w : World} {base : Nat} {spare : Nat → Bool} {held : Bool} {v : Value} {d : DataW H} {pl : List MemPlace}
  (h : DataW.Trod enc Tryz.prog w base spare held 36 v d pl) (hv : ∃ x len cap, v = .slice x len cap) :
  ∃ (a : Option Addr) (n cap : Nat) (ch : Nat → Ch), v = .slice a n cap ∧ n ≤ maxLen ∧ Chs w a n ch ∧ (∀ i, i < n → (ch i).text.size ∈ d.weights Tryz.prog 36) := by
 obtain ⟨x, len, cap, rfl⟩ := hv;obtain ⟨fuel, hf⟩ := h;have he := Tryz.underlying42;have hC : Tryz.prog.cellsOf 42 = 3 := by kernel_rfl
 rcases open_slice Tryz.underlying36 hf with ⟨h0, _⟩ | ⟨a, n, c, m, k, D, Pl, h0, _, hl, hm, hmm, hx, hi⟩
 ·simp [Value.cells] at h0;obtain ⟨rfl, rfl, rfl⟩ := h0;exact ⟨none, 0, 0, fun _ => ⟨⟨#[]⟩, ⟨#[]⟩, ⟨#[]⟩⟩, rfl, Nat.zero_le _, ⟨fun _ => rfl, fun a h => by cases h⟩, fun i h => by omega⟩
 ·simp [Value.cells] at h0;obtain ⟨rfl, rfl, rfl⟩ := h0;have hd : d = .slice ((List.range len).map D) ((List.range (m - len)).map fun j => D (len + j)) := congrArg Prod.fst hx;have key : ∀ i, i < len → ∃ p : Ch, (w.cell? (a.add (i * 3)) = some (.string p.kind) ∧ w.cell? ⟨(a.add (i * 3)).block, (a.add (i * 3)).off + 1, none⟩ = some (.string p.name) ∧
    w.cell? ⟨(a.add (i * 3)).block, (a.add (i * 3)).off + 2, none⟩ = some (.string p.text)) ∧ p.text.size ∈ d.weights Tryz.prog 36 := by
   intro i hlt;have him : i < m := by rw [hmm]; split <;> omega
   obtain ⟨cs', hc, hr⟩ := hi i him;obtain ⟨xs, q, _, hag, _, hxl, hxx⟩ := DataW.trod_struct he hr;obtain ⟨_, hcl, hat⟩ := World.cells?_some hc;rw [hC] at hcl hat;obtain ⟨x0, x1, x2, rfl⟩ : ∃ x0 x1 x2, xs = [x0, x1, x2] := by
    match xs, hxl with
    | [x0, x1, x2], _ => exact ⟨x0, x1, x2, rfl⟩
   obtain ⟨v0, v1, v2, rfl⟩ : ∃ v0 v1 v2, cs' = [v0, v1, v2] := by
    match cs', hcl with
    | [v0, v1, v2], _ => exact ⟨v0, v1, v2, rfl⟩
   have h0 := hxx 0 _ rfl;have h1 := hxx 1 _ rfl;have h2 := hxx 2 _ rfl;simp only [List.getElem?_cons_zero, List.getElem?_cons_succ] at h0 h1 h2;obtain ⟨s0, e0, y0, z0⟩ := DataW.trod_string Tryz.underlying9 h0;obtain ⟨s1, e1, y1, z1⟩ := DataW.trod_string Tryz.underlying9 h1;obtain ⟨s2, e2, y2, z2⟩ := DataW.trod_string Tryz.underlying9 h2;injection e0 with e0 _;injection e1 with e1 _;injection e2 with e2 _;subst e0 e1 e2;refine ⟨⟨s0, s1, s2⟩, ⟨(hat 0 (by omega)).trans rfl, cell_add (by decide) ((hat 1 (by omega)).trans rfl), cell_add (by decide) ((hat 2 (by omega)).trans rfl)⟩, ?_⟩;rw [hd];simp only [DataW.weights, Tryz.underlying36];refine List.mem_cons_of_mem _ (List.mem_append_left _ (wAll_memS (d := D i) (List.mem_map.2 ⟨i, List.mem_range.2 hlt, rfl⟩) _ ?_));have hDi : D i = .agg [x0.1, x1.1, x2.1] := congrArg Prod.fst hag;rw [hDi, y0, y1, y2];simp only [DataW.weights, he];simp [DataW.weightsEach, DataW.weights]
  haveI : Inhabited Ch := ⟨⟨⟨#[]⟩, ⟨#[]⟩, ⟨#[]⟩⟩⟩
  obtain ⟨ch, hch⟩ := Go.Deep.choose_lt (α := Ch) key;exact ⟨some a, len, cap, ch, rfl, by omega, ⟨(fun h => by cases h), fun a' ha i hi => by injection ha with ha; subst ha; exact (hch i hi).1⟩, fun i hi => (hch i hi).2⟩
end Go.Proofs.YtheidjagcafgnaaGreatDoor
namespace Go.Proofs.YtheidjagcafgnaaGreatDoor
open Go.ChangeShapes Go.WideShapes Go.ChangeAt Go.RowKit
theorem law_readAll {H : Type} {enc : TypeId × Value → H} {P : Program} (hl : laidOutB P = true) {W W' : World} (sp : Nat → Bool) (hB : Below W.heap.size W W') :
  ∀ (ts : List TypeId) (vs : List Value) (ds : List (DataW H)) (ps : List MemPlace),
   (∀ t ∈ ts, P.readableRec t = true ∧ t < P.types.size) → (∀ p ∈ ps, p.block < W.heap.size) → (∀ p ∈ ps, sp p.block = true) →
   DataW.TrodAll enc P W 0 (fun _ => true) true ts vs ds ps → DataW.TrodAll enc P W' 0 sp true ts vs ds ps
 | [], [], [], _, _, _, _, h => h
 | t :: ts, v :: vs, d :: ds, ps, hr, hlt, hsp, h => by
  obtain ⟨p, q, h1, h2, rfl⟩ := h;have ht := hr t (List.mem_cons_self ..);refine ⟨p, q, ?_, ?_, rfl⟩
  ·exact WideElems.Trod_stays hl ht.1 ht.2 h1 (fun x hx => hB.same (hlt x (List.mem_append_left _ hx))) (fun x hx => hsp x (List.mem_append_left _ hx))
  ·exact law_readAll hl sp hB ts vs ds q (fun t' ht' => hr t' (List.mem_cons_of_mem _ ht')) (fun x hx => hlt x (List.mem_append_right _ hx)) (fun x hx => hsp x (List.mem_append_right _ hx)) h2
 | [], [], _ :: _, _, _, _, _, h => h.elim
 | [], _ :: _, _, _, _, _, _, h => h.elim
 | _ :: _, [], _, _, _, _, _, h => h.elim
 | _ :: _, _ :: _, [], _, _, _, _, h => h.elim
theorem law_post {H : Type} {enc : TypeId × Value → H} {P : Program} (hl : laidOutB P = true) {f : Func} {s : ChangeSpec} {apart fresh handsOn : Bool} {W W' : World} {args : Array Value} {ds : List (DataW H)} {before : List MemPlace} {tb : TypeId}
  (hW : DataW.Whole enc P f.params.toList s.vars apart W args.toList ds [] before) (hv : s.vars = [])
  (hfn : s.fn H (ds ++ []) = { results := [.lit (.bool true)], args := ds })
  (hread : f.params.toList.all (fun t => P.readableRec t && decide (t < P.types.size)) = true)
  (hres : f.resultTypes = #[tb]) (hb : P.underlying tb = some .bool) (hB : Below W.heap.size W W') :
  s.post enc P f apart fresh handsOn false W args (.bool true) W' := by
 have hlt : ∀ p ∈ before, p.block < W.heap.size := fun p hp => hW.lt p hp;have hr : ∀ t ∈ f.params.toList, P.readableRec t = true ∧ t < P.types.size := by
  intro t ht;have := List.all_eq_true.1 hread t ht;simpa using this
 have hW0 := hW;obtain ⟨p, q, hA, hV, hpq, hfz, hnd⟩ := hW;rw [hv] at hV;have hq : q = [] := by simpa [DataW.TrodVars] using hV
 subst hq;rw [List.append_nil] at hpq;subst hpq;have hargs : ∀ sp : Nat → Bool, (∀ x ∈ before, sp x.block = true) → DataW.TrodAll enc P W' 0 sp true f.params.toList args.toList ds before :=
  fun sp hsp => law_readAll hl sp hB _ _ _ _ hr hlt hsp hA
 have hold : ∀ x ∈ before, (fun b => decide (b < W.heap.size)) x.block = true := fun x hx => by simpa using hlt x hx
 have hresults : ∀ (b : Nat) (sp : Nat → Bool) (hd : Bool), DataW.TrodAll enc P W' b sp hd f.resultTypes.toList ((Value.bool true).resultList f.resultTypes.size) [.lit (.bool true)] [] := by
  intro b sp hd;rw [hres];exact trodAll_mk1 (shut_bool hb true)
 refine ⟨ds, [], before, [], before, [], hW0, ?_, ?_, ?_, World.keptBut_mono (fun x hx => ⟨hx, ?_⟩) (hB.frame (· ∈ before)), fun _ => ?_⟩
 ·rw [hfn]; exact hresults _ _ _
 ·rw [hfn]; exact hargs _ hold
 ·rw [hfn, hv]; rfl
 ·exact Or.inr (Or.inl hx)
 ·cases ‹false = true›
end Go.Proofs.YtheidjagcafgnaaGreatDoor
