/-
  Short names.
  Small laws on memory: which blocks a call may have turned. No function of the program is named.
  Arguments and package variables, opened to cells: slices of records, sentinels of errors.
  Rows of cells of whole numbers of one kind: arrays and slices that a call made. No function of the program is named.
  Code lengths: words, Valid: what they compute.
  Valid: what it says of lengths.
  Codes: the words of lengths.
  Symbols of a code in the order of their words. No program's function is named.
  Rows of ints as values; no word of a code begins another one. No function of the program is named.
  Bits as texts of '0' and '1'. No program in sight.
  The symbol that comes next: plain laws. No function of the program is named.
  Four of the package's errors, for a statement that lists no more: put in the place of Errs (merge.py, bb.py: ALIAS=Errs:Errs4).
  The document's word on lengths.
-/
import Derived.Outline
import Derived.OrdersHeld
import Derived.WalkKit
import Derived.Test.YtnhbjgmfbcedaaaDoorProg
import Derived.WalkSpells
import Derived.WalkSmall
import Derived.Lib.Hide
import Derived.Deep.QuietTactic
import Derived.BigQuiet
import Derived.RegionTactic
import Derived.WalkLawsBesides
import Derived.Maps.AppendAt
import Derived.Deep.Fields
import Derived.Stop.LaidErr
import Derived.LaidSub
import Derived.ProofKit
import Derived.OpenShut
import Derived.Deep.WholeRow
import Derived.Deep.OwnRows
import Derived.Laws.EntriesVeiled
import Derived.Laws.AppendOwnNone
import Derived.StillTailTactics
set_option linter.unusedSimpArgs false
set_option linter.unusedVariables false
set_option maxRecDepth 100000
namespace Go.Proofs.YtnhbjgmfbcedaaaDoor
open Go.RowKit
theorem xa {α : Type} : type_of% (@List.getElem_toArray α) := @List.getElem_toArray α
theorem xb {α : Type} : type_of% (@List.getElem_cons_succ α) := @List.getElem_cons_succ α
theorem xc {α : Type} : type_of% (@List.getElem_cons_zero α) := @List.getElem_cons_zero α
theorem xd {α : Type} : type_of% (@List.setIfInBounds_toArray α) := @List.setIfInBounds_toArray α
theorem xe {α : Type} : type_of% (@List.set_cons_zero α) := @List.set_cons_zero α
theorem xf {α : Type} : type_of% (@List.set_cons_succ α) := @List.set_cons_succ α
theorem xg {α : Type} : type_of% (@List.getElem?_toArray α) := @List.getElem?_toArray α
theorem xh {α : Type} : type_of% (@List.getElem?_cons_succ α) := @List.getElem?_cons_succ α
theorem xi {α : Type} : type_of% (@List.getElem?_cons_zero α) := @List.getElem?_cons_zero α
theorem tkH {P : Program} {ops : Array Oper} {Q : Exit → Act → World → Prop} {md : Region.Mode} {S : World → Prop} {oi : Oper} {v : Value} {fuel : Nat} {listed : Array Bool} {a : Act} {w : World} (i : Nat) (hi : ops[i]? = some oi) (hS : S w) (hy : ∀ w, S w → (execOp a.eval oi).run P w = .ok (.value v) w) (h : wpAnyH P md ops Q S fuel (listed.setIfInBounds i true) (a.put oi.dst v) w) (hs : Region.noSelect ops = true := by kernel_rfl) (hf : Region.free md ops listed i = true := by kernel_rfl) (hr : (Region.ready md ops listed).contains i = true := by kernel_rfl) (hQ : ∀ c a w, Q (.panic c) (a.put oi.dst v) w → Q (.panic c) a w := by exact fun _ _ _ h => h) (hg : Region.wanted oi (yielded ops a.tmps) = true := by kernel_rfl) : wpAnyH P md ops Q S (fuel + 1) listed a w :=
  wpAnyH_take hi hs hf hr hQ (.inl ⟨hg, hy⟩) hS h
end Go.Proofs.YtnhbjgmfbcedaaaDoor
namespace Go.Proofs.YtnhbjgmfbcedaaaDoor
open Go.RowKit
/-- of the blocks that were there only those in S may have turned -/
structure Keeps (S : Nat → Prop) (w w' : World) : Prop where
 os : w'.os = w.os
 tape : w'.tape = w.tape
 output : w'.output = w.output
 size : w.heap.size ≤ w'.heap.size
 block : ∀ k, k < w.heap.size → ¬ S k → w'.heap[k]? = w.heap[k]?
theorem Keeps.refl (S : Nat → Prop) (w : World) : Keeps S w w := ⟨rfl, rfl, rfl, Nat.le_refl _, fun _ _ _ => rfl⟩
theorem Keeps.trans {S S' : Nat → Prop} {a b c : World} (h : Keeps S a b) (k : Keeps S' b c) (hs : ∀ i, i < a.heap.size → S' i → S i) : Keeps S a c :=
 ⟨k.os.trans h.os, k.tape.trans h.tape, k.output.trans h.output, Nat.le_trans h.size k.size,
  fun i hi hn => (k.block i (Nat.lt_of_lt_of_le hi h.size) fun q => hn (hs i hi q)).trans (h.block i hi hn)⟩
theorem Keeps.mono {S S' : Nat → Prop} {a b : World} (h : Keeps S a b) (hs : ∀ i, i < a.heap.size → S i → S' i) : Keeps S' a b :=
 ⟨h.os, h.tape, h.output, h.size, fun i hi hn => h.block i hi fun q => hn (hs i hi q)⟩
theorem Keeps.grown {a b : World} {row : Option Nat} (h : a.grownBy b row) : Keeps (fun k => row = some k) a b :=
 ⟨h.os, h.tape, h.output, h.size, fun i hi hn => h.block i hi fun e => hn e.symm⟩
theorem Keeps.alloc {S : Nat → Prop} {a b : World} (h : Keeps S a b) (o : Obj) : Keeps S a (b.alloc o) :=
 ⟨h.os, h.tape, h.output, by have := h.size; simp; omega, fun i hi hn => (Below.heap_alloc _ _ _ (Nat.lt_of_lt_of_le hi h.size)).trans (h.block i hi hn)⟩
theorem Keeps.drewN {S : Nat → Prop} {a b : World} (h : Keeps S a b) (n : Nat) : Keeps S a (b.drewN n) := ⟨h.os, h.tape, h.output, h.size, h.block⟩
theorem Keeps.drew {S : Nat → Prop} {a b : World} (h : Keeps S a b) : Keeps S a b.drew := ⟨h.os, h.tape, h.output, h.size, h.block⟩
theorem Keeps.setCell {S : Nat → Prop} {a b : World} (h : Keeps S a b) {p : Addr} (hp : S p.block ∨ a.heap.size ≤ p.block) (u : Value) : Keeps S a (b.setCell p u) :=
 ⟨h.os, h.tape, h.output, by simpa using h.size, fun i hi hn => (Below.heap_setCell _ _ _ _ (fun e => by subst e; rcases hp with hp | hp; exact hn hp; omega)).trans (h.block i hi hn)⟩
theorem Keeps.below {S : Nat → Prop} {a b : World} (h : Keeps S a b) {B : Nat} (hB : B ≤ a.heap.size) (hs : ∀ k, k < B → ¬ S k) : Below B a b :=
 ⟨h.os, h.tape, h.output, h.size, fun k hk => h.block k (by omega) (hs k hk)⟩
theorem Keeps.of_below {B : Nat} {a b : World} (h : Below B a b) : Keeps (fun k => B ≤ k) a b :=
 ⟨h.os, h.tape, h.output, h.size, fun k _ hn => h.block k (by omega)⟩
theorem Keeps.cell {S : Nat → Prop} {a b : World} (h : Keeps S a b) {p : Addr} (hp : p.block < a.heap.size) (hn : ¬ S p.block) : b.cell? p = a.cell? p :=
 World.cell?_of_block (w := a) (h.block p.block hp hn)
theorem Keeps.frozen {S : Nat → Prop} {a b : World} (h : Keeps S a b) {p : Addr} (hp : p.block < a.heap.size) (hn : ¬ S p.block) : b.frozen? p = a.frozen? p :=
 World.frozen?_of_block (w := a) (h.block p.block hp hn)
def Ext (w w' : World) : Prop := Below w.heap.size w w'
theorem Ext.refl (w : World) : Ext w w := Below.refl _ _
theorem Ext.trans {a b c : World} (h : Ext a b) (k : Ext b c) : Ext a c := Below.trans h (Below.mono k h.size)
theorem Ext.alloc {a b : World} (h : Ext a b) (o : Obj) : Ext a (b.alloc o) := Below.alloc h h.size o
theorem Ext.drewN {a b : World} (h : Ext a b) (n : Nat) : Ext a (b.drewN n) := below_drewN h n
theorem Ext.keeps {S : Nat → Prop} {a b : World} (h : Ext a b) : Keeps S a b := (Keeps.of_below h).mono fun i hi q => by have : a.heap.size ≤ i := q; omega
theorem ret_bool {a b : Bool} (h : a = b) : Ending.returned (.bool a) = .returned (.bool b) := by rw [h]
theorem val_int {k : IntKind} {a b : Int} (h : a = b) : Value.int k a = Value.int k b := by rw [h]
theorem ownsRow_kept {S : Nat → Prop} {w w' : World} {base : Nat} {e : TypeId} {size : Nat} {v : Value} {n : Nat} {xs : List Value}
  (h : w.ownsRow base e size v n xs) (hk : Keeps S w w') (hn : ∀ k, v.ownBlock = some k → ¬ S k) : w'.ownsRow base e size v n xs := by
 obtain ⟨h1, h2⟩ := h;refine ⟨h1, ?_⟩;rcases h2 with h2 | ⟨g, cap, cur, hv, hg, hh, r⟩
 ·exact Or.inl h2
 ·subst hv;have hlt : g < w.heap.size := lt_of_block hh;exact Or.inr ⟨g, cap, cur, rfl, hg, by rw [hk.block g hlt (hn g rfl)]; exact hh, r⟩
theorem ownsRow_lt {w : World} {base : Nat} {e : TypeId} {size : Nat} {v : Value} {n : Nat} {xs : List Value}
  (h : w.ownsRow base e size v n xs) {k : Nat} (hk : v.ownBlock = some k) : k < w.heap.size := (h.lt k hk).2
/-- a row that holds something begins at the head of a block -/
theorem ownsRow_some {w : World} {base : Nat} {e : TypeId} {size : Nat} {v : Value} {n : Nat} {xs : List Value}
  (h : w.ownsRow base e size v n xs) (hn : 0 < n) : ∃ g cap, v = .slice (some ⟨g, 0, none⟩) n cap ∧ n ≤ cap ∧ g < w.heap.size := by
 rcases h.2 with ⟨_, h0⟩ | ⟨g, cap, cur, hv, _, hh, hc, _⟩
 ·omega
 ·exact ⟨g, cap, hv, hc, lt_of_block hh⟩
theorem ownsRow_slice {w : World} {base : Nat} {e : TypeId} {size : Nat} {v : Value} {n : Nat} {xs : List Value}
  (h : w.ownsRow base e size v n xs) : (v = .slice none 0 0 ∧ n = 0) ∨ ∃ g cap, v = .slice (some ⟨g, 0, none⟩) n cap := by
 rcases h.2 with h0 | ⟨g, cap, cur, hv, _⟩
 ·exact .inl h0
 ·exact .inr ⟨g, cap, hv⟩
theorem add_plain (b j : Nat) : (⟨b, 0, none⟩ : Addr).add j = ⟨b, j, none⟩ := by unfold Addr.add; split <;> simp_all
/-- the world under a name: what is said of it is all that is known -/
theorem wp_world {P : Program} {c : Code} {Q : Exit → Act → World → Prop} {a : Act} {W : World} (F : World → Prop) (h1 : F W) (h2 : ∀ wz, F wz → Code.wp P c Q a wz) : Code.wp P c Q a W := h2 W h1
theorem calls_world {P : Program} {f : Nat} {args : Array Value} {W : World} {Q : Ending → World → Prop} (F : World → Prop) (h1 : F W) (h2 : ∀ wz, F wz → Calls P f args wz Q) : Calls P f args W Q := h2 W h1
end Go.Proofs.YtnhbjgmfbcedaaaDoor
namespace Go.Proofs.YtnhbjgmfbcedaaaDoor
open Go.ChangeShapes Go.WideShapes Go.RowKit Go.Deep
theorem sent_row (u : TypeId) (h : Tryd.prog.typeName? 3 u = some "*errors.errorString") : u = 210 :=
  typeName_ptr_named (nm := "errors.errorString") (by kernel_rfl) (by kernel_rfl) (by decide) u h
theorem sentinel {l : List (String × DataW Unit)} {W : World} {n : String} {g : Nat} {text : List UInt8} {ti : TypeId} {ms : Array (String × TypeId)} (h : laidMetH Tryd.prog l W)
    (hl : l.filter (fun x => x.1 == n) = [(n, .iface "*errors.errorString" (.ptr (.agg [.lit (.string text)])))]) (hg : Tryd.prog.globalNamed n = some g)
    (ht : (Tryd.prog.globals[g]?).map (·.type) = some ti) (hi : Tryd.prog.underlying ti = some (.interface ms)) :
    ∃ (E : Addr) (s : ByteArray), W.cell? ⟨g, 0, none⟩ = some (.iface 210 (.pointer (some E))) ∧ W.cell? E = some (.string s) ∧ s.data.toList = text ∧ s.size ≤ maxLen := by
  have h1 := laidMetH.filter (fun x => x.1 == n) h;rw [hl] at h1;have h2 : laidMet Tryd.prog [(n, .iface "*errors.errorString" (.ptr (.agg [.lit (.string text)])))] W := h1
  obtain ⟨E, s, hv, hc, hs, hz⟩ := laid_sentinel h2 hg ht hi sent_row Tryd.underlying210 Tryd.underlying229 rfl rfl Tryd.underlying9 (by kernel_rfl) (by kernel_rfl);exact ⟨E, s, by simpa using World.var?_cell hg hv 0, hc, hs, hz⟩
end Go.Proofs.YtnhbjgmfbcedaaaDoor
namespace Go.Proofs.YtnhbjgmfbcedaaaDoor
open Go.RowKit
@[irreducible] def cellsI (k : IntKind) (n : Nat) (f : Nat → Int) : Array Value := (List.map (fun i : Nat => Value.int k (f i)) (List.range n)).toArray
theorem cellsI_get (k : IntKind) (n : Nat) (f : Nat → Int) (i : Nat) (h : i < n) : (cellsI k n f)[i]? = some (.int k (f i)) := by
 unfold cellsI; simp [h]
@[go_sem] theorem cellsI_size (k : IntKind) (n : Nat) (f : Nat → Int) : (cellsI k n f).size = n := by unfold cellsI; simp
@[go_sem] theorem cellsI_getElem (k : IntKind) (n : Nat) (f : Nat → Int) (i : Nat) (h : i < (cellsI k n f).size) : (cellsI k n f)[i] = .int k (f i) := by
 have e1 := cellsI_get k n f i (by rw [← cellsI_size k n f]; exact h);rw [Array.getElem?_eq_getElem h] at e1;exact Option.some.inj e1
theorem cellsI_set (k : IntKind) (n : Nat) (f : Nat → Int) (j : Nat) (x : Int) (g : Nat → Int) (hg : ∀ i, i < n → g i = if i = j then x else f i) : (cellsI k n f).setIfInBounds j (.int k x) = cellsI k n g := by
 apply Array.ext
 ·simp [cellsI_size]
 ·intro i h1 h2;have h3 : i < n := by simpa [cellsI_size] using h2
  have e2 := cellsI_get k n g i h3;have e1 := cellsI_get k n f i h3;rw [Array.getElem?_eq_getElem h2] at e2;rw [Array.getElem?_eq_getElem (by rw [cellsI_size]; exact h3)] at e1;rw [Option.some_inj] at e1 e2;rw [Array.getElem_setIfInBounds (by rw [cellsI_size]; exact h3), e2, e1, hg i h3];by_cases hij : j = i
  ·subst hij; simp
  ·rw [if_neg hij, if_neg (fun e => hij e.symm)]
theorem cellsI_zero (k : IntKind) (n : Nat) : Array.replicate n (Value.int k 0) = cellsI k n (fun _ => 0) := by
 unfold cellsI; apply Array.ext
 ·simp
 ·intro i h1 h2; simp
theorem cells16_eq (k : IntKind) (F : Nat → Int) : cellsI k 16 F = #[.int k (F 0), .int k (F 1), .int k (F 2), .int k (F 3), .int k (F 4), .int k (F 5), .int k (F 6), .int k (F 7), .int k (F 8), .int k (F 9), .int k (F 10), .int k (F 11), .int k (F 12), .int k (F 13), .int k (F 14), .int k (F 15)] := by unfold cellsI; rfl
theorem cellsI_same (k : IntKind) (n : Nat) (F : Nat → Int) (j : Nat) (v : Value) (hv : v = .int k (F j)) : (cellsI k n F).setIfInBounds j v = cellsI k n F := by
 rw [hv]; exact cellsI_set k n F j (F j) F (fun i _ => by by_cases h : i = j <;> simp [h])
/-- a row of cells of one kind, none frozen -/
def Cs (w : World) (B n : Nat) (k : IntKind) (g : Nat → Int) : Prop := ∀ i, i < n → w.cell? ⟨B, i, none⟩ = some (.int k (g i)) ∧ w.frozen? ⟨B, i, none⟩ = false
theorem Cs.congr {w : World} {B n : Nat} {k : IntKind} {g g' : Nat → Int} (h : Cs w B n k g) (hg : ∀ i, i < n → g' i = g i) : Cs w B n k g' := by
 intro i hi; rw [hg i hi]; exact h i hi
theorem Cs.put {w : World} {B n : Nat} {k : IntKind} {g : Nat → Int} (h : Cs w B n k g) (j : Nat) (x : Int) (g' : Nat → Int) (hj : j < n) (hg : ∀ i, i < n → g' i = if i = j then x else g i) : Cs (w.setCell ⟨B, j, none⟩ (.int k x)) B n k g' := by
 intro i hi;obtain ⟨h1, h2⟩ := h i hi;rw [hg i hi, World.frozen?_setCell];refine ⟨?_, h2⟩;by_cases e : i = j
 ·subst e; rw [if_pos rfl]; exact World.cell?_setCell_same _ _ _ h1
 ·rw [if_neg e]; exact (World.cell?_setCell_other _ _ _ _ (by intro q; injection q with _ q2; exact e q2.symm)).trans h1
theorem Cs.other {w : World} {B n : Nat} {k : IntKind} {g : Nat → Int} (h : Cs w B n k g) (p : Addr) (v : Value) (hp : p.block ≠ B) : Cs (w.setCell p v) B n k g := by
 intro i hi;obtain ⟨h1, h2⟩ := h i hi;rw [World.frozen?_setCell];exact ⟨(World.cell?_setCell_other _ _ _ _ (by intro q; rw [q] at hp; exact hp rfl)).trans h1, h2⟩
theorem Cs.drew {w : World} {B n : Nat} {k : IntKind} {g : Nat → Int} (h : Cs w B n k g) : Cs w.drew B n k g := h
theorem Cs.alloc {w : World} {B n : Nat} {k : IntKind} {g : Nat → Int} (h : Cs w B n k g) (hB : B < w.heap.size) (o : Obj) : Cs (w.alloc o) B n k g := by
 intro i hi;rw [World.cell?_alloc_past _ _ _ hB, World.frozen?_alloc_past _ _ _ hB]; exact h i hi
theorem Cs.born (w : World) (k : IntKind) (n : Nat) (g : Nat → Int) (t : TypeId) : Cs (w.alloc (.cells (cellsI k n g) t)) w.heap.size n k g := by
 intro i hi;rw [World.cell?_alloc_at _ _ _ _ rfl, World.frozen?_alloc_at _ _ _ _ rfl]; exact ⟨cellsI_get k n g i hi, rfl⟩
theorem made_eq (k : IntKind) (n : Nat) : madeCells #[Value.int k 0] n = cellsI k n (fun _ => 0) := by
 apply Array.ext
 ·rw [size_madeCells, cellsI_size]
 ·intro i h1 h2;rw [cellsI_getElem]; simp [madeCells, Nat.mod_one]
theorem still_of {P : Program} {f : Nat} {args : Array Value} {w : World} {v : Value} (h : Calls P f args w fun e w' => e = .returned v ∧ w = w') : Calls P f args w fun e w' => e = .returned v ∧ w' = w :=
 h.mono fun _ _ ⟨a, b⟩ => ⟨a, b.symm⟩
end Go.Proofs.YtnhbjgmfbcedaaaDoor
namespace Go.Proofs.YtnhbjgmfbcedaaaDoor
open Go.RowKit
/-- a row of whole numbers as they lie in memory -/
def Ints (w : World) (x : Option Addr) (len : Nat) (f : Nat → Int) : Prop :=
 (x = none → len = 0) ∧ ∀ a, x = some a → ∀ i, i < len → w.cell? (a.add i) = some (.int .i64 (f i)) ∧ -9223372036854775808 ≤ f i ∧ f i ≤ 9223372036854775807
theorem Ints.block {w : World} {a : Addr} {len : Nat} {f : Nat → Int} (h : Ints w (some a) len f) (hl : 0 < len) : a.block < w.heap.size := by
 have q := World.block_lt_of_cell? w _ (h.2 a rfl 0 hl).1;simpa [Addr.add] using q
theorem Ints.on {w w' : World} {x : Option Addr} {len : Nat} {f : Nat → Int} {S : Nat → Prop} (h : Ints w x len f) (hB : Keeps S w w') (ha : ∀ a, x = some a → ¬ S a.block) : Ints w' x len f := by
 refine ⟨h.1, fun a hx i hi => ?_⟩;subst hx;have hb : (a.add i).block < w.heap.size := by
  have := h.block (by omega);unfold Addr.add; split <;> simpa using this
 have hs : ¬ S (a.add i).block := by
  have := ha a rfl;unfold Addr.add; split <;> simpa using this
 rw [hB.cell hb hs];exact h.2 a rfl i hi
theorem Ints.ext {w w' : World} {x : Option Addr} {len : Nat} {f : Nat → Int} (h : Ints w x len f) (hB : Ext w w') : Ints w' x len f :=
 h.on (S := fun _ => False) hB.keeps (fun _ _ => id)
theorem validF_calls (x : Int) (w : World) (hx1 : -9223372036854775808 ≤ x) (hx2 : x ≤ 9223372036854775807) :
  Calls Tryd.prog 131 #[.int .i64 x] w fun e w' => e = .returned (.bool (decide (x < 0 ∨ 15 < x))) ∧ w = w' := by
 go_enter Tryd.func131, Tryd.ntmps131
 go_wp2_with fail
 ·go_ret;exact ⟨ret_bool (by simp), rfl⟩
 ·go_ret;exact ⟨rfl, rfl⟩
theorem indexV_calls (x : Option Addr) (len cap : Nat) (f : Nat → Int) (w : World) (hx : Ints w x len f) (hl : len ≤ maxLen) :
  Calls Tryd.prog 122 #[.slice x len cap, .func (.func 131) #[] #[]] w fun e w' => (∃ i : Int, e = .returned (.int .i64 i) ∧ ((i = -1 ∧ ∀ j, j < len → 0 ≤ f j ∧ f j ≤ 15) ∨ (0 ≤ i ∧ ∃ j, j < len ∧ (f j < 0 ∨ 15 < f j)))) ∧ w = w' := by
 unfold maxLen at hl;have HX := Lib.hid hx;clear hx;go_enter Tryd.func122, Tryd.ntmps122
 go_wp2
 go_loop [5, 8] (fun _ c => ∃ i : Nat, i ≤ len ∧ c = .int .i64 i ∧ Hid (∀ j, j < i → 0 ≤ f j ∧ f j ≤ 15)) (fun _ c => len - (intOf c).toNat)
 case atStart => exact ⟨0, by omega, rfl, Lib.hid fun j hj => by omega⟩
 case round =>
  obtain ⟨i, hi, rfl, HF⟩ := hrel;by_cases hlt : i < len
  ·obtain ⟨a, rfl⟩ : ∃ a, x = some a := by
    cases x with
    | none => have := HX.out.1 rfl; omega
    | some a => exact ⟨a, rfl⟩
   obtain ⟨hc, h1, h2⟩ := HX.out.2 a rfl i hlt;go_wp2_with fail;refine (validF_calls _ _ h1 h2).mono ?_;rintro e w1 ⟨rfl, rfl⟩;by_cases hbad : f i < 0 ∨ 15 < f i
   ·have hb := decide_eq_true hbad;have HBAD := Lib.hid hbad;clear hbad;go_wp2_with fail;go_ret;exact ⟨⟨i, rfl, .inr ⟨by omega, i, hlt, HBAD.out⟩⟩, rfl⟩
   ·have hb := decide_eq_false hbad;have HBAD := Lib.hid hbad;clear hbad;go_wp2_with fail;go_round
    case rel =>
     refine ⟨i + 1, by omega, by go_num, Lib.hid fun j hj => ?_⟩;rcases Nat.lt_succ_iff_lt_or_eq.1 hj with q | rfl
     ·exact HF.out j q
     ·have := HBAD.out; omega
    case measure => simp [intOf]; omega
  ·obtain rfl : i = len := by omega
   go_wp2
   go_ret;exact ⟨⟨-1, rfl, .inl ⟨rfl, HF.out⟩⟩, rfl⟩
/-- how many of the first i elements are n -/
def many (f : Nat → Int) (n : Nat) : Nat → Nat
 | 0 => 0
 | i + 1 => many f n i + if f i = n then 1 else 0
theorem many_le (f : Nat → Int) (n : Nat) : ∀ i, many f n i ≤ i := by
 intro i;induction i with
 | zero => exact Nat.le_refl _
 | succ i ih => unfold many; split <;> omega
theorem zero16 (w : World) : (zeroValue 175).run Tryd.prog w = .ok (.agg (Array.replicate 16 (.int .i64 0))) w := by kernel_rfl
theorem words_calls (x : Option Addr) (len cap : Nat) (f : Nat → Int) (w : World) (hx : Ints w x len f) (hl : len ≤ maxLen) (hf : ∀ j, j < len → 0 ≤ f j ∧ f j ≤ 15) :
  Calls Tryd.prog 119 #[.slice x len cap] w fun e w' => e = .returned (.agg (cellsI .i64 16 fun n => (many f n len : Int))) ∧ w' = w.alloc (.cells (cellsI .i64 16 fun n => (many f n len : Int)) 175) := by
 unfold maxLen at hl;have HX := Lib.hid hx;have HF := Lib.hid hf;clear hx hf;go_enter Tryd.func119, Tryd.ntmps119
 have hz := zero16;go_wp2
 rw [cellsI_zero];clear hz;go_loopw [4, 7] (fun _ c wr => ∃ i : Nat, i ≤ len ∧ c = .int .i64 i ∧ wr = w.alloc (.cells (cellsI .i64 16 fun n => (many f n i : Int)) 175)) (fun _ c _ => len - (intOf c).toNat)
 case atStart => exact ⟨0, by omega, rfl, rfl⟩
 case round =>
  obtain ⟨i, hi, rfl, rfl⟩ := hrel;by_cases hlt : i < len
  ·obtain ⟨a, rfl⟩ : ∃ a, x = some a := by
    cases x with
    | none => have := HX.out.1 rfl; omega
    | some a => exact ⟨a, rfl⟩
   obtain ⟨hc, h1, h2⟩ := (HX.out.ext ((Below.refl _ _).alloc (Nat.le_refl _) (.cells (cellsI .i64 16 fun n => (many f n i : Int)) 175))).2 a rfl i hlt;obtain ⟨q1, q2⟩ := HF.out i hlt;obtain ⟨k, hk⟩ : ∃ k : Nat, f i = k := ⟨(f i).toNat, by omega⟩;have HK := Lib.hid hk;rw [hk] at hc h1 h2 q1 q2;clear hk;have hg := cellsI_get .i64 16 (fun n => (many f n i : Int)) k (by omega);have hml := many_le f k i;go_wp2
   rw [cellsI_set .i64 16 (fun n => (many f n i : Int)) k ((many f k i : Int) + 1) (fun n => (many f n (i + 1) : Int))]
   ·exact ⟨⟨i + 1, by omega, by go_num, rfl⟩, by simp [intOf]; omega⟩
   ·intro n _;have := HK.out;by_cases hn : n = k
    ·subst hn; simp [many, this]
    ·have : ¬ f i = n := by omega
     simp [many, this, hn]
  ·obtain rfl : i = len := by omega
   have hg0 := cellsI_get .i64 16 (fun n => (many f n i : Int)) 0 (by decide);have hg1 := cellsI_get .i64 16 (fun n => (many f n i : Int)) 1 (by decide);have hg2 := cellsI_get .i64 16 (fun n => (many f n i : Int)) 2 (by decide);have hg3 := cellsI_get .i64 16 (fun n => (many f n i : Int)) 3 (by decide);have hg4 := cellsI_get .i64 16 (fun n => (many f n i : Int)) 4 (by decide);have hg5 := cellsI_get .i64 16 (fun n => (many f n i : Int)) 5 (by decide);have hg6 := cellsI_get .i64 16 (fun n => (many f n i : Int)) 6 (by decide);have hg7 := cellsI_get .i64 16 (fun n => (many f n i : Int)) 7 (by decide);have hg8 := cellsI_get .i64 16 (fun n => (many f n i : Int)) 8 (by decide);have hg9 := cellsI_get .i64 16 (fun n => (many f n i : Int)) 9 (by decide);have hg10 := cellsI_get .i64 16 (fun n => (many f n i : Int)) 10 (by decide);have hg11 := cellsI_get .i64 16 (fun n => (many f n i : Int)) 11 (by decide);have hg12 := cellsI_get .i64 16 (fun n => (many f n i : Int)) 12 (by decide);have hg13 := cellsI_get .i64 16 (fun n => (many f n i : Int)) 13 (by decide);have hg14 := cellsI_get .i64 16 (fun n => (many f n i : Int)) 14 (by decide);have hg15 := cellsI_get .i64 16 (fun n => (many f n i : Int)) 15 (by decide);go_wp2
   clear hg0 hg1 hg2 hg3 hg4 hg5 hg6 hg7 hg8 hg9 hg10 hg11 hg12 hg13 hg14 hg15;rw [cellsI_same _ _ _ 0 _ rfl, cellsI_same _ _ _ 1 _ rfl, cellsI_same _ _ _ 2 _ rfl, cellsI_same _ _ _ 3 _ rfl, cellsI_same _ _ _ 4 _ rfl, cellsI_same _ _ _ 5 _ rfl, cellsI_same _ _ _ 6 _ rfl, cellsI_same _ _ _ 7 _ rfl, cellsI_same _ _ _ 8 _ rfl, cellsI_same _ _ _ 9 _ rfl, cellsI_same _ _ _ 10 _ rfl, cellsI_same _ _ _ 11 _ rfl, cellsI_same _ _ _ 12 _ rfl, cellsI_same _ _ _ 13 _ rfl, cellsI_same _ _ _ 14 _ rfl, cellsI_same _ _ _ 15 _ rfl];exact bodyPost_ret (v := .agg (cellsI .i64 16 fun n => (many f n i : Int))) (results_cell_row rfl _ _ w.heap.size 175 _ (0, 0) _ rfl (heap_alloc_last w _) Tryd.underlying175 rfl (by rw [cellsI_size]; kernel_rfl)) rfl ⟨rfl, rfl⟩
end Go.Proofs.YtnhbjgmfbcedaaaDoor
namespace Go.Proofs.YtnhbjgmfbcedaaaDoor
open Go.RowKit
/-- the sum of Kraft, in parts of 2^15: lengths 1 to n -/
def kraft (f : Nat → Int) (len : Nat) : Nat → Nat
 | 0 => 0
 | n + 1 => kraft f len n + many f (n + 1) len * 2 ^ (14 - n)
def inBounds (f : Nat → Int) (len : Nat) : Prop := len ≤ 300 ∧ ∀ j, j < len → 0 ≤ f j ∧ f j ≤ 15
def complete (f : Nat → Int) (len : Nat) : Prop := len = many f 0 len ∨ (len = many f 0 len + 1 ∧ many f 1 len = 1) ∨ kraft f len 15 = 32768
theorem kraft_le (f : Nat → Int) (len : Nat) : ∀ n, n ≤ 15 → kraft f len n ≤ n * (len * 16384) := by
 intro n;induction n with
 | zero => intro _; exact Nat.zero_le _
 | succ n ih =>
  intro h;have h1 := ih (by omega);have h2 : many f (n + 1) len * 2 ^ (14 - n) ≤ len * 16384 := Nat.mul_le_mul (many_le _ _ _) (Nat.pow_le_pow_right (n := 2) (by decide) (show 14 - n ≤ 14 by omega));unfold kraft; rw [Nat.add_mul, Nat.one_mul]; omega
theorem kraft_bound (f : Nat → Int) (len n : Nat) (h : len ≤ 300) (hn : n ≤ 15) : kraft f len n ≤ 73728000 := by
 have h1 := kraft_le f len n hn;have h2 : n * (len * 16384) ≤ 15 * (300 * 16384) := Nat.mul_le_mul hn (Nat.mul_le_mul_right _ h);omega
theorem term_bound (f : Nat → Int) (len n : Nat) (h : len ≤ 300) : many f (n + 1) len * 2 ^ (14 - n) ≤ 4915200 := by
 have h2 : many f (n + 1) len * 2 ^ (14 - n) ≤ 300 * 16384 := Nat.mul_le_mul (Nat.le_trans (many_le _ _ _) h) (Nat.pow_le_pow_right (n := 2) (by decide) (show 14 - n ≤ 14 by omega));omega
theorem containsV_calls (x : Option Addr) (len cap : Nat) (f : Nat → Int) (w : World) (hx : Ints w x len f) (hl : len ≤ maxLen) :
  Calls Tryd.prog 96 #[.slice x len cap, .func (.func 131) #[] #[]] w fun e w' => (∃ b : Bool, e = .returned (.bool b) ∧ (b = false ↔ ∀ j, j < len → 0 ≤ f j ∧ f j ≤ 15)) ∧ w = w' := by
 have HX := Lib.hid hx;clear hx;go_enter Tryd.func96, Tryd.ntmps96
 go_wp2_with fail;refine (indexV_calls _ _ _ _ _ HX.out hl).mono ?_;rintro e w1 ⟨⟨i, rfl, hi⟩, rfl⟩;have HI := Lib.hid hi;clear hi;go_wp2_with fail;go_ret;refine ⟨⟨_, rfl, ?_⟩, rfl⟩;rcases HI.out with ⟨rfl, h⟩ | ⟨h, j, hj, hb⟩
 ·simp; exact h
 ·constructor
  ·intro q; simp at q; omega
  ·intro q; have := q j hj; omega
theorem valid_calls (x : Option Addr) (len cap : Nat) (f : Nat → Int) (w : World) (hx : Ints w x len f) (hl : len ≤ maxLen)
  (EB ES : Value) (hB : w.cell? ⟨0, 0, none⟩ = some EB) (hS : w.cell? ⟨3, 0, none⟩ = some ES) :
  Calls Tryd.prog 118 #[.slice x len cap] w fun e w' => Ext w w' ∧
   ((e = .returned .nilIface ∧ inBounds f len ∧ complete f len) ∨ (e = .returned EB ∧ ¬ inBounds f len) ∨ (e = .returned ES ∧ inBounds f len ∧ ¬ complete f len)) := by
 have HX := Lib.hid hx;have hl2 := hl;unfold maxLen at hl2;clear hx;by_cases h300 : 300 < len
 ·go_enter Tryd.func118, Tryd.ntmps118
  go_wp2
  go_ret;exact ⟨Below.refl _ _, .inr (.inl ⟨rfl, fun h => by have := h.1; omega⟩)⟩
 go_enter Tryd.func118, Tryd.ntmps118
 go_wp2_with fail;refine (containsV_calls _ _ _ _ _ HX.out hl).mono ?_;rintro e w1 ⟨⟨b, rfl, hb⟩, rfl⟩;cases b with
 | true =>
  have HB := Lib.hid hb;clear hb;go_wp2_with fail;go_ret;refine ⟨Below.refl _ _, .inr (.inl ⟨rfl, fun h => ?_⟩)⟩;have := HB.out.2 h.2; cases this
 | false =>
  have hbd : inBounds f len := ⟨by omega, hb.1 rfl⟩;have HB := Lib.hid hbd;clear hb hbd;go_wp2_with fail;refine (words_calls _ _ _ _ _ HX.out hl HB.out.2).mono ?_;rintro e w1 ⟨rfl, rfl⟩;have hst := run_storeCells_new (P := Tryd.prog) (w.alloc (.cells (cellsI .i64 16 fun n => (many f n len : Int)) 175)) 175 (Array.replicate 16 (.int .i64 0)) (cellsI .i64 16 fun n => (many f n len : Int)) (by rw [cellsI_size]; kernel_rfl) (by rw [cellsI_size]; rfl) (by simp [cellsI, Value.oneCell']);rw [show (w.alloc (.cells (cellsI .i64 16 fun n => (many f n len : Int)) 175)).heap.size = w.heap.size + 1 by simp] at hst;have hz := zero16;have hg0 := cellsI_get .i64 16 (fun n => (many f n len : Int)) 0 (by decide);have hm0 := many_le f 0 len;go_wp2_with fail;clear hst hz;go_loop [5, 6] (fun s c => ∃ n : Nat, n ≤ 15 ∧ c = .int .i64 (n + 1) ∧ s = .int .i64 (kraft f len n : Int)) (fun _ c => 16 - (intOf c).toNat)
  case atStart => exact ⟨0, by omega, rfl, rfl⟩
  case round =>
   obtain ⟨n, hn, rfl, rfl⟩ := hrel;by_cases hlt : n < 15
   ·have hg := cellsI_get .i64 16 (fun n => (many f n len : Int)) (n + 1) (by omega);have k1 := kraft_bound f len n (by omega) (by omega);have k2 : (0 : Int) ≤ (many f (n + 1) len : Int) * 2 ^ (14 - n) ∧ (many f (n + 1) len : Int) * 2 ^ (14 - n) ≤ 4915200 := by
     have := term_bound f len n (by omega);rw [show (many f (n + 1) len : Int) * 2 ^ (14 - n) = ((many f (n + 1) len * 2 ^ (14 - n) : Nat) : Int) by simp];omega
    obtain ⟨k3, k4⟩ := k2;go_wp2_with fail;refine ⟨⟨n + 1, by omega, by go_num, val_int ?_⟩, by simp [intOf]; omega⟩;show wrap64 ((kraft f len n : Int) + wrap64 ((many f (n + 1) len : Int) * 2 ^ (14 - n))) = ((kraft f len n + many f (n + 1) len * 2 ^ (14 - n) : Nat) : Int);rw [show ((kraft f len n + many f (n + 1) len * 2 ^ (14 - n) : Nat) : Int) = (kraft f len n : Int) + (many f (n + 1) len : Int) * 2 ^ (14 - n) by simp];generalize (many f (n + 1) len : Int) * 2 ^ (14 - n) = t at *;unfold wrap64; omega
   ·obtain rfl : n = 15 := by omega
    have hx1 : Ext w ((w.alloc (.cells (cellsI .i64 16 fun n => (many f n len : Int)) 175)).alloc (.cells (cellsI .i64 16 fun n => (many f n len : Int)) 175)) := ((Ext.refl w).alloc _).alloc _;have hS2 := (hx1.cell (p := ⟨3, 0, none⟩) (World.block_lt_of_cell? w _ hS)).trans hS;have hg1 := cellsI_get .i64 16 (fun n => (many f n len : Int)) 1 (by omega);have hm1 := many_le f 1 len;have k1 := kraft_bound f len 15 (by omega) (by omega);have HX1 := Lib.hid hx1;clear hx1 hg0;go_wp2_with fail;all_goals (go_ret; refine ⟨HX1.out, ?_⟩)
    all_goals (first | exact .inl ⟨rfl, HB.out, by unfold complete; (try simp only [beq_iff_eq, beq_eq_false_iff_ne, ne_eq] at *); omega⟩ | exact .inr (.inr ⟨rfl, HB.out, by unfold complete; (try simp only [beq_eq_false_iff_ne, ne_eq] at *); omega⟩))
end Go.Proofs.YtnhbjgmfbcedaaaDoor
namespace Go.Proofs.YtnhbjgmfbcedaaaDoor
open Go.RowKit
/-- the first word of each length -/
def first (f : Nat → Int) (len : Nat) : Nat → Nat
  | 0 => 0
  | 1 => 0
  | n + 2 => (first f len (n + 1) + many f (n + 1) len) * 2
/-- the word of element i -/
def word (f : Nat → Int) (len i : Nat) : Nat := if 0 < f i then first f len (f i).toNat + many f (f i).toNat i else 0
theorem first_succ (f : Nat → Int) (len n : Nat) (h : 1 ≤ n) : first f len (n + 1) = (first f len n + many f n len) * 2 := by
  match n, h with
  | n + 1, _ => rfl
theorem first_kraft (f : Nat → Int) (len : Nat) : ∀ n, n ≤ 14 → first f len (n + 1) * 2 ^ (14 - n) = kraft f len n := by
  intro n
  induction n with
  | zero => intro _; rfl
  | succ n ih =>
    intro h
    have h1 := ih (by omega)
    show (first f len (n + 1) + many f (n + 1) len) * 2 * 2 ^ (14 - (n + 1)) = kraft f len n + many f (n + 1) len * 2 ^ (14 - n)
    rw [← h1, ← Nat.add_mul, Nat.mul_assoc, show 14 - n = (14 - (n + 1)) + 1 by omega, Nat.pow_succ, Nat.mul_comm 2]
theorem many_mono (f : Nat → Int) (n : Nat) : ∀ j i, i ≤ j → many f n i ≤ many f n j := by
  intro j
  induction j with
  | zero => intro i h; have : i = 0 := by omega
            subst this; exact Nat.le_refl _
  | succ j ih =>
    intro i h
    rcases Nat.lt_or_ge i (j + 1) with q | q
    · exact Nat.le_trans (ih i (by omega)) (by show _ ≤ many f n j + _; omega)
    · have : i = j + 1 := by omega
      subst this; exact Nat.le_refl _
theorem many_at (f : Nat → Int) (n i : Nat) (h : f i = n) : many f n (i + 1) = many f n i + 1 := by simp [many, h]
theorem many_not (f : Nat → Int) (n i : Nat) (h : ¬ f i = n) : many f n (i + 1) = many f n i := by simp [many, h]
theorem many_disj (f : Nat → Int) (n m : Nat) (hnm : n ≠ m) : ∀ i, many f n i + many f m i ≤ i := by
  intro i
  induction i with
  | zero => exact Nat.le_refl _
  | succ i ih =>
    show (many f n i + if f i = n then 1 else 0) + (many f m i + if f i = m then 1 else 0) ≤ i + 1
    split <;> split <;> omega
theorem many_three (f : Nat → Int) (n m k : Nat) (h1 : n ≠ m) (h2 : n ≠ k) (h3 : m ≠ k) : ∀ i, many f n i + many f m i + many f k i ≤ i := by
  intro i
  induction i with
  | zero => exact Nat.le_refl _
  | succ i ih =>
    show (many f n i + if f i = n then 1 else 0) + (many f m i + if f i = m then 1 else 0) + (many f k i + if f i = k then 1 else 0) ≤ i + 1
    split <;> split <;> split <;> omega
theorem kraft_mono (f : Nat → Int) (len : Nat) : ∀ m n, n ≤ m → kraft f len n ≤ kraft f len m := by
  intro m
  induction m with
  | zero => intro n h; have : n = 0 := by omega
            subst this; exact Nat.le_refl _
  | succ m ih =>
    intro n h
    rcases Nat.lt_or_ge n (m + 1) with q | q
    · exact Nat.le_trans (ih n (by omega)) (by show _ ≤ kraft f len m + _; omega)
    · have : n = m + 1 := by omega
      subst this; exact Nat.le_refl _
theorem kraft_zero (f : Nat → Int) (len : Nat) (h : len = many f 0 len) : ∀ n, kraft f len n = 0 := by
  intro n
  induction n with
  | zero => rfl
  | succ n ih =>
    have h1 := many_disj f 0 (n + 1) (by omega) len
    have h2 : many f (n + 1) len = 0 := by omega
    show kraft f len n + many f (n + 1) len * _ = 0
    rw [ih, h2]; simp
theorem kraft_one (f : Nat → Int) (len : Nat) (h : len = many f 0 len + 1) (h1 : many f 1 len = 1) : ∀ n, kraft f len n ≤ 16384 := by
  intro n
  induction n with
  | zero => exact Nat.zero_le _
  | succ n ih =>
    show kraft f len n + many f (n + 1) len * _ ≤ 16384
    by_cases hn : n = 0
    · subst hn; show 0 + many f 1 len * 2 ^ 14 ≤ _; rw [h1]; decide
    · have h3 := many_three f 0 1 (n + 1) (by omega) (by omega) (by omega) len
      have h2 : many f (n + 1) len = 0 := by omega
      rw [h2]; simpa using ih
/-- words of a length stay below what the length allows -/
theorem room (f : Nat → Int) (len : Nat) (h : complete f len) (n : Nat) (hn : n ≤ 14) : first f len (n + 1) + many f (n + 1) len ≤ 2 ^ (n + 1) := by
  have hk : kraft f len (n + 1) ≤ 32768 := by
    rcases h with h | ⟨h, h1⟩ | h
    · rw [kraft_zero f len h]; decide
    · have := kraft_one f len h h1 (n + 1); omega
    · rw [← h]; exact kraft_mono f len 15 (n + 1) (by omega)
  have h1 := first_kraft f len n hn
  have h2 : kraft f len (n + 1) = (first f len (n + 1) + many f (n + 1) len) * 2 ^ (14 - n) := by
    show kraft f len n + _ = _; rw [← h1, Nat.add_mul]
  rw [h2] at hk
  have h3 : (32768 : Nat) = 2 ^ (n + 1) * 2 ^ (14 - n) := by rw [← Nat.pow_add, show n + 1 + (14 - n) = 15 by omega]
  rw [h3] at hk
  exact Nat.le_of_mul_le_mul_right hk (Nat.two_pow_pos _)
theorem room' (f : Nat → Int) (len : Nat) (h : complete f len) (k : Nat) (h1 : 1 ≤ k) (h2 : k ≤ 15) : first f len k + many f k len ≤ 2 ^ k := by
  have := room f len h (k - 1) (by omega)
  rwa [show k - 1 + 1 = k by omega] at this
/-- a word is below its length's room -/
theorem word_lt (f : Nat → Int) (len : Nat) (hc : complete f len) (i k : Nat) (hi : i < len) (hk : f i = k) (h1 : 1 ≤ k) (h2 : k ≤ 15) : first f len k + many f k i + 1 ≤ first f len k + many f k len ∧ first f len k + many f k len ≤ 2 ^ k ∧ (2 : Nat) ^ k ≤ 2 ^ 15 := by
  have h := many_mono f k len (i + 1) hi
  rw [many_at f k i hk] at h
  have hr := room' f len hc k h1 h2
  exact ⟨by omega, hr, Nat.pow_le_pow_right (by decide) h2⟩
theorem zero16u (w : World) : (zeroValue 177).run Tryd.prog w = .ok (.agg (Array.replicate 16 (.int .u32 0))) w := by kernel_rfl
theorem u32info : (Tryd.prog.info? 70).map (fun i => (i.zero, i.size, i.bytes)) = some (some (.int .u32 0), 1, 4) := by kernel_rfl
def U32s (w : World) (x : Option Addr) (len : Nat) (g : Nat → Nat) : Prop := (x = none → len = 0) ∧ ∀ a, x = some a → ∀ i, i < len → w.cell? (a.add i) = some (.int .u32 (g i : Int))
theorem codes_good (x : Option Addr) (len cap : Nat) (f : Nat → Int) (w : World) (hx : Ints w x len f) (hl : len ≤ maxLen) (hb : inBounds f len) (hc : complete f len)
    (EB ES : Value) (hB : w.cell? ⟨0, 0, none⟩ = some EB) (hS : w.cell? ⟨3, 0, none⟩ = some ES) :
    Calls Tryd.prog 91 #[.slice x len cap] w fun e w' => Ext w w' ∧ ∃ B, w.heap.size ≤ B ∧ e = .returned (.tuple #[.slice (some ⟨B, 0, none⟩) len len, .nilIface]) ∧ Cs w' B len .u32 (fun i => (word f len i : Int)) := by
  have HX := Lib.hid hx
  have HB := Lib.hid hb
  have HC := Lib.hid hc
  have h300 := hb.1
  clear hb hc
  go_enter Tryd.func91, Tryd.ntmps91
  go_wp2_with fail
  refine (valid_calls x len cap f w hx hl _ _ hB hS).mono ?_
  rintro e w1 ⟨hE, h1 | h1 | h1⟩
  · obtain ⟨rfl, _⟩ := h1
    have HX1 := Lib.hid (HX.out.ext hE)
    have HE := Lib.hid hE
    clear hx hE
    go_wp2_with fail
    refine (words_calls x len cap f w1 HX1.out hl HB.out.2).mono ?_
    rintro e w2 ⟨rfl, rfl⟩
    have hst := run_storeCells_new (P := Tryd.prog) (w1.alloc (.cells (cellsI .i64 16 fun n => (many f n len : Int)) 175)) 175 (Array.replicate 16 (.int .i64 0)) (cellsI .i64 16 fun n => (many f n len : Int)) (by rw [cellsI_size]; kernel_rfl) (by rw [cellsI_size]; rfl) (by simp [cellsI, Value.oneCell'])
    rw [show (w1.alloc (.cells (cellsI .i64 16 fun n => (many f n len : Int)) 175)).heap.size = w1.heap.size + 1 by simp] at hst
    have hz := zero16
    have hzu := zero16u
    go_wp2_with fail
    clear hst hz hzu
    rw [cellsI_zero]
    have f1 := Cs.born w1 .i64 16 (fun n => (many f n len : Int)) 175
    have f2 := Cs.born (w1.alloc (.cells (cellsI .i64 16 fun n => (many f n len : Int)) 175)) .i64 16 (fun n => (many f n len : Int)) 175
    have f3 := Cs.born ((w1.alloc (.cells (cellsI .i64 16 fun n => (many f n len : Int)) 175)).alloc (.cells (cellsI .i64 16 fun n => (many f n len : Int)) 175)) .u32 16 (fun _ => 0) 177
    have g2 := f2.alloc (by simp) (.cells (cellsI .u32 16 fun _ => 0) 177)
    have hE3 : Ext w (((w1.alloc (.cells (cellsI .i64 16 fun n => (many f n len : Int)) 175)).alloc (.cells (cellsI .i64 16 fun n => (many f n len : Int)) 175)).alloc (.cells (cellsI .u32 16 fun _ => 0) 177)) := ((HE.out.alloc _).alloc _).alloc _
    have G2 : Hid (Cs (((w1.alloc (.cells (cellsI .i64 16 fun n => (many f n len : Int)) 175)).alloc (.cells (cellsI .i64 16 fun n => (many f n len : Int)) 175)).alloc (.cells (cellsI .u32 16 fun _ => 0) 177)) (w1.heap.size + 1) 16 .i64 (fun n => (many f n len : Int))) := Lib.hid (by simpa using g2)
    have G3 : Hid (Cs (((w1.alloc (.cells (cellsI .i64 16 fun n => (many f n len : Int)) 175)).alloc (.cells (cellsI .i64 16 fun n => (many f n len : Int)) 175)).alloc (.cells (cellsI .u32 16 fun _ => 0) 177)) (w1.heap.size + 1 + 1) 16 .u32 (fun _ => 0)) := Lib.hid (by simpa using f3)
    have H3 := Lib.hid hE3
    have hw1 : w.heap.size ≤ w1.heap.size := HE.out.size
    clear f1 f2 f3 g2 hE3
    generalize (((w1.alloc (.cells (cellsI .i64 16 fun n => (many f n len : Int)) 175)).alloc (.cells (cellsI .i64 16 fun n => (many f n len : Int)) 175)).alloc (.cells (cellsI .u32 16 fun _ => 0) 177)) = w3 at *
    go_loopw [7] (fun v wr => ∃ n : Nat, 1 ≤ n ∧ n ≤ 15 ∧ v = .int .i64 (n + 1) ∧ Hid (Cs wr (w1.heap.size + 1) 16 .i64 (fun n => (many f n len : Int))) ∧ Hid (Cs wr (w1.heap.size + 1 + 1) 16 .u32 (fun k => if k ≤ n then (first f len k : Int) else 0)) ∧ Hid (Below w.heap.size w wr)) (fun v _ => 16 - (intOf v).toNat)
    case atStart =>
      refine ⟨1, by omega, by omega, rfl, G2, ?_, H3⟩
      have : (fun k : Nat => if k ≤ 1 then (first f len k : Int) else 0) = fun _ => 0 := by
        funext k
        match k with
        | 0 => rfl
        | 1 => rfl
        | k + 2 => simp
      rw [this]; exact G3
    case round =>
      obtain ⟨n, hn1, hn, rfl, HM, HN, HW⟩ := hrel
      by_cases hlt : n < 15
      · obtain ⟨c1, _⟩ := HM.out n (by omega)
        have c2 : wr.cell? ⟨w1.heap.size + 1 + 1, n, none⟩ = some (.int .u32 (first f len n : Int)) := by have := (HN.out n (by omega)).1; simpa using this
        have c3 : wr.cell? ⟨w1.heap.size + 1 + 1, n + 1, none⟩ = some (.int .u32 0) := by have := (HN.out (n + 1) (by omega)).1; simpa [show ¬ n + 1 ≤ n by omega] using this
        have c4 := (HN.out (n + 1) (by omega)).2
        have hroom : first f len n + many f n len ≤ 2 ^ n := by
          have := room f len HC.out (n - 1) (by omega)
          rwa [show n - 1 + 1 = n by omega] at this
        have hp : 2 ^ n ≤ 2 ^ 14 := Nat.pow_le_pow_right (by decide) (by omega)
        have b1 : first f len n + many f n len ≤ 16384 := by omega
        clear hroom hp
        go_wp2_with fail
        go_region
        go_wp2_with fail
        have e1 : (((first f len n : Nat) : Int) + (many f n len : Int)) * 2 = (first f len (n + 1) : Int) := by rw [first_succ f len n hn1]; omega
        rw [e1]
        refine ⟨⟨n + 1, by omega, by omega, by go_num, Lib.hid ?_, Lib.hid ?_, Lib.hid ?_⟩, by simp [intOf]; omega⟩
        · exact (HM.out.other _ _ (by show w1.heap.size + 1 + 1 ≠ w1.heap.size + 1; omega)).drew
        · refine (HN.out.put (n + 1) _ _ (by omega) ?_).drew
          intro k hk
          by_cases e : k = n + 1
          · subst e; simp
          · rw [if_neg e]
            by_cases e2 : k ≤ n
            · rw [if_pos e2, if_pos (by omega)]
            · rw [if_neg e2, if_neg (by omega)]
        · exact (HW.out.setCell (by show w.heap.size ≤ w1.heap.size + 1 + 1; omega) _).drew
      · obtain rfl : n = 15 := by omega
        have hmk := run_make_row' (P := Tryd.prog) 117 70 (.int .u32 0) 4 Tryd.underlying117 u32info rfl .i64 .i64 len (by omega) (by omega)
        have hlt2 : w1.heap.size + 1 + 1 < wr.heap.size := World.block_lt_of_cell? wr _ (HN.out 0 (by omega)).1
        go_wp2_with fail
        rw [made_eq]
        clear hmk
        have H1 := Lib.hid (Cs.born wr .u32 len (fun _ => 0) 70)
        have H2 := Lib.hid (HN.out.alloc hlt2 (.cells (cellsI .u32 len fun _ => 0) 70))
        have H4 := Lib.hid (HW.out.alloc HW.out.size (.cells (cellsI .u32 len fun _ => 0) 70))
        have hwr : w.heap.size ≤ wr.heap.size := HW.out.size
        generalize (wr.alloc (.cells (cellsI .u32 len fun _ => 0) 70)) = w4 at *
        clear HM HN HW G2 G3 H3
        generalize wr.heap.size = BO at *
        clear wr
        go_loopw [9, 10, 40] (fun _ _ v wr => ∃ i : Nat, i ≤ len ∧ v = .int .i64 i ∧ Hid (Cs wr (w1.heap.size + 1 + 1) 16 .u32 (fun k => if k = 0 then 0 else ((first f len k + many f k i : Nat) : Int))) ∧ Hid (Cs wr BO len .u32 (fun j => if j < i then (word f len j : Int) else 0)) ∧ Hid (Below w.heap.size w wr)) (fun _ _ v _ => len - (intOf v).toNat)
        case atStart =>
          refine ⟨0, by omega, rfl, Lib.hid (H2.out.congr ?_), Lib.hid (H1.out.congr ?_), H4⟩
          · intro k hk
            by_cases e : k = 0
            · subst e; rfl
            · rw [if_neg e, if_pos (by omega)]; rfl
          · intro j hj; rw [if_neg (by omega)]
        case round =>
          obtain ⟨i, hi, rfl, HN, HO, HW⟩ := hrel
          by_cases hlt : i < len
          · obtain ⟨a, rfl⟩ : ∃ a, x = some a := by
              cases x with
              | none => have := HX.out.1 rfl; omega
              | some a => exact ⟨a, rfl⟩
            have hab := HX.out.block (by omega)
            obtain ⟨hc, h1, h2⟩ := (HX.out.on (S := fun k => w.heap.size ≤ k) (Keeps.of_below HW.out) (fun b hb => by injection hb with hb; subst hb; show ¬ _ ≤ _; omega)).2 a rfl i hlt
            obtain ⟨q1, q2⟩ := HB.out.2 i hlt
            obtain ⟨k, hk⟩ : ∃ k : Nat, f i = k := ⟨(f i).toNat, by omega⟩
            have HK := Lib.hid hk
            rw [hk] at hc h1 h2 q1 q2
            clear hk
            by_cases hk0 : k = 0
            · subst hk0
              go_wp2_with fail
              refine ⟨⟨i + 1, by omega, by go_num, Lib.hid (HN.out.congr ?_), Lib.hid (HO.out.congr ?_), HW⟩, by simp [intOf]; omega⟩
              · intro k hk
                by_cases e : k = 0
                · rw [if_pos e, if_pos e]
                · rw [if_neg e, if_neg e, many_not f k i (by have := HK.out; omega)]
              · intro j hj
                by_cases e : j = i
                · subst e
                  have : ¬ 0 < f j := by have := HK.out; omega
                  simp [word, this]
                · by_cases e2 : j < i
                  · rw [if_pos e2, if_pos (by omega)]
                  · rw [if_neg e2, if_neg (by omega)]
            · have c1 : wr.cell? ⟨w1.heap.size + 1 + 1, k, none⟩ = some (.int .u32 ((first f len k + many f k i : Nat) : Int)) := by have := (HN.out k (by omega)).1; simpa [hk0] using this
              have c2 := (HN.out k (by omega)).2
              have c3 := (HO.out i hlt).1
              have c4 := (HO.out i hlt).2
              obtain ⟨w1', w2', w3'⟩ := word_lt f len HC.out i k hlt HK.out (by omega) (by omega)
              have wb : first f len k + many f k i + 1 ≤ 32768 := by omega
              clear w1' w2' w3'
              go_wp2_with fail
              have e1 : ((first f len k : Nat) : Int) + (many f k i : Int) + 1 = ((first f len k + many f k (i + 1) : Nat) : Int) := by rw [many_at f k i HK.out]; omega
              have e2 : ((first f len k : Nat) : Int) + (many f k i : Int) = (word f len i : Int) := by
                have h0 : 0 < f i := by have := HK.out; omega
                have h3 : (f i).toNat = k := by have := HK.out; omega
                unfold word; rw [if_pos h0, h3]; omega
              rw [e1, e2]
              refine ⟨⟨i + 1, by omega, by go_num, Lib.hid ?_, Lib.hid ?_, Lib.hid ?_⟩, by simp [intOf]; omega⟩
              · refine (HN.out.other _ _ (by show BO ≠ _; omega)).put k _ _ (by omega) ?_
                intro m hm
                by_cases e : m = k
                · subst e; simp [hk0]
                · rw [if_neg e]
                  by_cases e2 : m = 0
                  · rw [if_pos e2, if_pos e2]
                  · rw [if_neg e2, if_neg e2, many_not f m i (by have := HK.out; omega)]
              · refine (HO.out.put i _ _ hlt ?_).other _ _ (by show w1.heap.size + 1 + 1 ≠ _; omega)
                intro j hj
                by_cases e : j = i
                · subst e; simp
                · rw [if_neg e]
                  by_cases e2 : j < i
                  · rw [if_pos e2, if_pos (by omega)]
                  · rw [if_neg e2, if_neg (by omega)]
              · exact (HW.out.setCell (by show w.heap.size ≤ BO; omega) _).setCell (by show w.heap.size ≤ w1.heap.size + 1 + 1; omega) _
          · obtain rfl : i = len := by omega
            go_wp2_with fail
            exact bodyPost_ret (v := .tuple #[.slice (some ⟨BO, 0, none⟩) i i, .nilIface]) (by simp [results, Tryd.results91, go_sem, *]) rfl ⟨HW.out, BO, hwr, rfl, HO.out.congr fun j hj => by rw [if_pos hj]⟩
  · exact absurd HB.out h1.2
  · exact absurd HC.out h1.2.2
end Go.Proofs.YtnhbjgmfbcedaaaDoor
namespace Go.Proofs.YtnhbjgmfbcedaaaDoor
open Go.RowKit
/-- elements of length n among the first i -/
def symL (f : Nat → Int) (n : Nat) : Nat → List Nat
  | 0 => []
  | i + 1 => symL f n i ++ (if f i = n then [i] else [])
/-- symbols of lengths 1 to n -/
def symA (f : Nat → Int) (len : Nat) : Nat → List Nat
  | 0 => []
  | n + 1 => symA f len n ++ symL f (n + 1) len
theorem symL_length (f : Nat → Int) (n : Nat) : ∀ i, (symL f n i).length = many f n i := by
  intro i
  induction i with
  | zero => rfl
  | succ i ih => simp only [symL, List.length_append, ih, many]; split <;> simp
theorem symL_yes (f : Nat → Int) (n i : Nat) (h : f i = n) : symL f n (i + 1) = symL f n i ++ [i] := by simp [symL, h]
theorem symL_no (f : Nat → Int) (n i : Nat) (h : ¬ f i = n) : symL f n (i + 1) = symL f n i := by simp [symL, h]
/-- how many symbols have lengths 1 to n -/
def upTo (f : Nat → Int) (len : Nat) : Nat → Nat
  | 0 => 0
  | n + 1 => upTo f len n + many f (n + 1) len
theorem symA_length (f : Nat → Int) (len : Nat) : ∀ n, (symA f len n).length = upTo f len n := by
  intro n
  induction n with
  | zero => rfl
  | succ n ih => simp only [symA, List.length_append, ih, symL_length, upTo]
theorem symA_get (f : Nat → Int) (len : Nat) : ∀ N n j x, n < N → (symL f (n + 1) len)[j]? = some x → (symA f len N)[upTo f len n + j]? = some x := by
  intro N
  induction N with
  | zero => intro n j x h; omega
  | succ N ih =>
    intro n j x h hx
    simp only [symA]
    rcases Nat.lt_succ_iff_lt_or_eq.1 h with q | q
    · have h1 := ih n j x q hx
      have hlt : upTo f len n + j < (symA f len N).length := by
        rcases Nat.lt_or_ge (upTo f len n + j) (symA f len N).length with r | r
        · exact r
        · rw [List.getElem?_eq_none r] at h1; cases h1
      rw [List.getElem?_append_left hlt, h1]
    · subst q
      rw [List.getElem?_append_right (by rw [symA_length]; omega), symA_length, Nat.add_sub_cancel_left, hx]
theorem upTo_le (f : Nat → Int) (len : Nat) : ∀ n m, n ≤ m → upTo f len n ≤ upTo f len m := by
  intro n m h
  induction m with
  | zero => have : n = 0 := by omega
            subst this; exact Nat.le_refl _
  | succ m ih =>
    rcases Nat.lt_or_ge n (m + 1) with q | q
    · have := ih (by omega); simp only [upTo]; omega
    · have : n = m + 1 := by omega
      subst this; exact Nat.le_refl _
end Go.Proofs.YtnhbjgmfbcedaaaDoor
namespace Go.Proofs.YtnhbjgmfbcedaaaDoor
open Go.RowKit Go.ChangeShapes Go.WideShapes
theorem i64info : (Tryd.prog.info? 3).map (fun i => (i.zero, i.size, i.bytes)) = some (some (.int .i64 0), 1, 8) := by kernel_rfl
def intsV (len : Nat) (f : Nat → Int) : List Value := (List.range len).map fun i => Value.int .i64 (f i)
theorem intsV_get (len : Nat) (f : Nat → Int) (i : Nat) (h : i < len) : (intsV len f)[i]? = some (.int .i64 (f i)) := by simp [intsV, h]
theorem Ints.of_own {w : World} {base : Nat} {v : Value} {len : Nat} {f : Nat → Int} (h : w.ownsRow base 3 1 v len (intsV len f)) (hb : ∀ i, i < len → -9223372036854775808 ≤ f i ∧ f i ≤ 9223372036854775807) :
  ∃ x cap, v = .slice x len cap ∧ Ints w x len f := by
 rcases ownsRow_slice h with ⟨rfl, h0⟩ | ⟨g, cap, rfl⟩
 ·subst h0; exact ⟨none, 0, rfl, fun _ => rfl, fun a h => by cases h⟩
 ·refine ⟨some ⟨g, 0, none⟩, cap, rfl, (fun h => by cases h), fun a ha i hi => ?_⟩;injection ha with ha; subst ha;rw [add_plain, h.cellAt i (by omega), intsV_get len f i hi];exact ⟨rfl, hb i hi⟩
theorem first_ge (f : Nat → Int) (len n : Nat) (h1 : 1 ≤ n) : ∀ d, 2 ^ (d + 1) * (first f len n + many f n len) ≤ first f len (n + d + 1) := by
 intro d;induction d with
 | zero => rw [Nat.add_zero, first_succ f len n h1, Nat.mul_comm]; exact Nat.le_refl _
 | succ d ih =>
  rw [show n + (d + 1) + 1 = (n + d + 1) + 1 by omega, first_succ f len (n + d + 1) (by omega), Nat.pow_succ, Nat.mul_comm (2 ^ (d + 1)) 2, Nat.mul_assoc, Nat.mul_comm 2];exact Nat.mul_le_mul_right _ (by omega)
/-- no word begins another one -/
theorem apart (f : Nat → Int) (len : Nat) (i k : Nat) (hi : i < len) (hik : i ≠ k) (h0 : 0 < f i) (hle : f i ≤ f k) : word f len k / 2 ^ (f k - f i).toNat ≠ word f len i := by
 obtain ⟨n, hn⟩ : ∃ n : Nat, f i = n := ⟨(f i).toNat, by omega⟩;obtain ⟨m, hm⟩ : ∃ m : Nat, f k = m := ⟨(f k).toNat, by omega⟩;have hwi : word f len i = first f len n + many f n i := by unfold word; rw [if_pos h0, hn]; rfl
 have hwk : word f len k = first f len m + many f m k := by unfold word; rw [if_pos (by omega), hm]; rfl
 rw [hwi, hwk, show (f k - f i).toNat = m - n by omega];rcases Nat.lt_or_ge n m with h | h
 ·obtain ⟨d, rfl⟩ : ∃ d, m = n + d + 1 := ⟨m - n - 1, by omega⟩;have h1 := first_ge f len n (by omega) d;have h2 := many_mono f n len (i + 1) hi;rw [many_at f n i hn] at h2;rw [show n + d + 1 - n = d + 1 by omega];have h3 : first f len n + many f n len ≤ (first f len (n + d + 1) + many f (n + d + 1) k) / 2 ^ (d + 1) := by
   rw [Nat.le_div_iff_mul_le (Nat.two_pow_pos _), Nat.mul_comm]; omega
  omega
 ·obtain rfl : m = n := by omega
  rw [Nat.sub_self, Nat.pow_zero, Nat.div_one];rcases Nat.lt_or_ge i k with q | q
  ·have h2 := many_mono f m k (i + 1) q;rw [many_at f m i hn] at h2; omega
  ·have h2 := many_mono f m i (k + 1) (by omega);rw [many_at f m k hm] at h2; omega
end Go.Proofs.YtnhbjgmfbcedaaaDoor
namespace Bts
def ch (b : Bool) : UInt8 := if b then 49 else 48
def str (L : List Bool) : List UInt8 := L.map ch
def val : List Bool → Nat
  | [] => 0
  | b :: L => (if b then 1 else 0) + 2 * val L
theorem val_append (L M : List Bool) : val (L ++ M) = val L + val M * 2 ^ L.length := by
  induction L with
  | nil => simp [val]
  | cons b L ih =>
    simp only [List.cons_append, val, ih, List.length_cons, Nat.pow_succ];rw [Nat.mul_add, Nat.mul_comm 2 (val M * 2 ^ L.length), Nat.mul_assoc]; omega
theorem val_lt (L : List Bool) : val L < 2 ^ L.length := by
  induction L with
  | nil => decide
  | cons b L ih => simp only [val, List.length_cons, Nat.pow_succ]; split <;> omega
theorem val_snoc (L : List Bool) (b : Bool) : val (L ++ [b]) = val L + (if b then 1 else 0) * 2 ^ L.length := by
  rw [val_append]; simp [val]
def low (x : Nat) : Nat → List Bool
  | 0 => []
  | k + 1 => low x k ++ [x / 2 ^ k % 2 == 1]
def high (x : Nat) : Nat → List Bool
  | 0 => []
  | k + 1 => (x / 2 ^ k % 2 == 1) :: high x k
theorem low_length (x k : Nat) : (low x k).length = k := by induction k with | zero => rfl | succ k ih => simp [low, ih]
theorem high_length (x k : Nat) : (high x k).length = k := by induction k with | zero => rfl | succ k ih => simp [high, ih]
theorem bit_val (y : Nat) : (if (y % 2 == 1) = true then 1 else 0) = y % 2 := by
  rcases Nat.mod_two_eq_zero_or_one y with h | h <;> simp [h]
theorem val_low (x k : Nat) : val (low x k) = x % 2 ^ k := by
  induction k with
  | zero => simp [low, val, Nat.mod_one]
  | succ k ih => rw [low, val_snoc, ih, low_length, bit_val, Nat.pow_succ, Nat.mod_mul, Nat.mul_comm (2 ^ k)]
theorem val_high_succ (x k : Nat) : val (high x (k + 1)) = x / 2 ^ k % 2 + 2 * val (high x k) := by
  simp only [high, val]; rw [bit_val]
end Bts
namespace Go.Proofs.YtnhbjgmfbcedaaaDoor
open Go.RowKit
/-- the number of n bits of a text's number from a place on, the first one the highest -/
def codeAt (N a : Nat) : Nat → Nat
 | 0 => 0
 | n + 1 => 2 * codeAt N a n + N / 2 ^ (a + n) % 2
def NoHit (f : Nat → Int) (len N a n : Nat) : Prop := ∀ j, 1 ≤ j → j ≤ n → first f len j + many f j len ≤ codeAt N a j
theorem codeAt_lt (N a : Nat) : ∀ n, codeAt N a n < 2 ^ n := by
 intro n;induction n with
 | zero => exact (by decide : 0 < 1)
 | succ n ih => simp only [codeAt, Nat.pow_succ]; have := Nat.mod_lt (N / 2 ^ (a + n)) (show 0 < 2 by decide); omega
theorem codeAt_div (N a n : Nat) : ∀ d, codeAt N a (n + d) / 2 ^ d = codeAt N a n := by
 intro d;induction d with
 | zero => simp
 | succ d ih =>
  rw [show n + (d + 1) = n + d + 1 by omega, Nat.pow_succ, Nat.mul_comm, ← Nat.div_div_eq_div_mul];simp only [codeAt];rw [show (2 * codeAt N a (n + d) + N / 2 ^ (a + (n + d)) % 2) / 2 = codeAt N a (n + d) by have := Nat.mod_lt (N / 2 ^ (a + (n + d))) (show 0 < 2 by decide); omega, ih]
theorem codeAt_first (N a : Nat) : ∀ k, codeAt N a (k + 1) = N / 2 ^ a % 2 * 2 ^ k + codeAt N (a + 1) k := by
 intro k;induction k with
 | zero => simp [codeAt]
 | succ k ih =>
  have e : codeAt N a (k + 1 + 1) = 2 * codeAt N a (k + 1) + N / 2 ^ (a + (k + 1)) % 2 := rfl;rw [e, ih];simp only [codeAt];rw [show a + 1 + k = a + (k + 1) by omega, Nat.pow_succ, Nat.mul_add, ← Nat.mul_assoc, Nat.mul_comm 2 (N / 2 ^ a % 2), Nat.mul_assoc (N / 2 ^ a % 2), Nat.mul_comm 2 (2 ^ k)]; omega
/-- what was laid with the highest bit first is read so -/
theorem codeAt_high (x : Nat) : ∀ k N a, N / 2 ^ a % 2 ^ k = Bts.val (Bts.high x k) → codeAt N a k = x % 2 ^ k := by
 intro k;induction k with
 | zero => intro N a _; simp [codeAt, Nat.mod_one]
 | succ k ih =>
  intro N a h;rw [Bts.val_high_succ, Nat.pow_succ, Nat.mul_comm (2 ^ k) 2] at h;have h1 : N / 2 ^ a % 2 = x / 2 ^ k % 2 := by
   have := congrArg (· % 2) h;rw [Nat.mod_mul_right_mod] at this;omega
  have h2 : N / 2 ^ (a + 1) % 2 ^ k = Bts.val (Bts.high x k) := by
   have := congrArg (· / 2) h;rw [Nat.mod_mul_right_div_self] at this;rw [Nat.pow_succ, ← Nat.div_div_eq_div_mul, this];have := Nat.mod_lt (x / 2 ^ k) (show 0 < 2 by decide); omega
  rw [codeAt_first, ih N (a + 1) h2, h1, Nat.pow_succ, Nat.mod_mul, Nat.mul_comm (2 ^ k)]; omega
theorem NoHit.next {f : Nat → Int} {len N a n : Nat} (h : NoHit f len N a n) : first f len (n + 1) ≤ 2 * codeAt N a n := by
 cases n with
 | zero => exact Nat.zero_le _
 | succ n =>
  have := h (n + 1) (by omega) (Nat.le_refl _);rw [first_succ f len (n + 1) (by omega)]; omega
theorem NoHit.zero (f : Nat → Int) (len N a : Nat) : NoHit f len N a 0 := fun j h1 h2 => by omega
theorem NoHit.succ {f : Nat → Int} {len N a n : Nat} (h : NoHit f len N a n) (h1 : first f len (n + 1) + many f (n + 1) len ≤ codeAt N a (n + 1)) : NoHit f len N a (n + 1) := by
 intro j h2 h3;rcases Nat.lt_or_ge j (n + 1) with q | q
 ·exact h j h2 (by omega)
 ·have : j = n + 1 := by omega
  subst this; exact h1
theorem NoHit.all {f : Nat → Int} {len N a n : Nat} (h : NoHit f len N a n) (hu : upTo f len 15 ≤ upTo f len n) (hn : n ≤ 15) : NoHit f len N a 15 := by
 have key : ∀ d, n + d ≤ 15 → NoHit f len N a (n + d) := by
  intro d;induction d with
  | zero => intro _; exact h
  | succ d ih =>
   intro hd;have h1 := ih (by omega);have u1 := upTo_le f len n (n + d) (by omega);have u2 := upTo_le f len (n + d + 1) 15 (by omega);have u3 : upTo f len (n + d + 1) = upTo f len (n + d) + many f (n + d + 1) len := rfl;have u4 : many f (n + d + 1) len = 0 := by omega
   refine h1.succ ?_;have := h1.next;show first f len (n + d + 1) + many f (n + d + 1) len ≤ 2 * codeAt N a (n + d) + _
   omega
 have := key (15 - n) (by omega);rwa [show n + (15 - n) = 15 by omega] at this
theorem nohit_word {f : Nat → Int} {len N a k m : Nat} (hk : f k = m) (h1 : 1 ≤ m) (hc : codeAt N a m = word f len k) : NoHit f len N a (m - 1) := by
 intro j hj1 hj2;obtain ⟨d, rfl⟩ : ∃ d, m = j + d + 1 := ⟨m - j - 1, by omega⟩;have e := codeAt_div N a j (d + 1);rw [show j + (d + 1) = j + d + 1 by omega, hc] at e;have hw : word f len k = first f len (j + d + 1) + many f (j + d + 1) k := by unfold word; rw [if_pos (by omega), hk]; rfl
 have hg := first_ge f len j hj1 d;rw [← e, Nat.le_div_iff_mul_le (Nat.two_pow_pos _), Nat.mul_comm, hw]; omega
theorem symL_inv (f : Nat → Int) (n : Nat) : ∀ i j x, (symL f n i)[j]? = some x → x < i ∧ f x = n ∧ many f n x = j := by
 intro i;induction i with
 | zero => intro j x h; simp [symL] at h
 | succ i ih =>
  intro j x h;simp only [symL] at h;rcases Nat.lt_or_ge j (symL f n i).length with q | q
  ·rw [List.getElem?_append_left q] at h;have := ih j x h;exact ⟨by omega, this.2⟩
  ·rw [List.getElem?_append_right q] at h;split at h
   ·have hj : j - (symL f n i).length = 0 := by
     rcases Nat.eq_zero_or_pos (j - (symL f n i).length) with r | r
     ·exact r
     ·rw [List.getElem?_eq_none (show [i].length ≤ _ from r)] at h; cases h
    rw [hj] at h;simp at h; subst h;refine ⟨by omega, by assumption, ?_⟩;rw [← symL_length]; omega
   ·simp at h
/-- the symbol of a word that is met -/
theorem hit_sym (f : Nat → Int) (len c n : Nat) (hn1 : 1 ≤ n) (hn : n ≤ 15) (h1 : first f len n ≤ c) (h2 : c < first f len n + many f n len) :
  ∃ k, (symA f len 15)[upTo f len (n - 1) + (c - first f len n)]? = some k ∧ k < len ∧ f k = n ∧ word f len k = c := by
 have hlt : c - first f len n < (symL f n len).length := by rw [symL_length]; omega
 refine ⟨(symL f n len)[c - first f len n], ?_, ?_⟩
 ·obtain ⟨m, rfl⟩ : ∃ m, n = m + 1 := ⟨n - 1, by omega⟩;exact symA_get f len 15 m _ _ (by omega) (List.getElem?_eq_getElem hlt)
 ·obtain ⟨q1, q2, q3⟩ := symL_inv f n len _ _ (List.getElem?_eq_getElem hlt);refine ⟨q1, q2, ?_⟩;unfold word; rw [if_pos (by omega), q2];simp only [Int.toNat_natCast];rw [q3]; omega
end Go.Proofs.YtnhbjgmfbcedaaaDoor
namespace Go.Proofs.YtnhbjgmfbcedaaaDoor
open Go.RowKit
/-- the variables of the errors, in the order of their numbers -/
def gk : Nat → Nat
  | 0 => 1
  | 1 => 0
  | 2 => 3
  | _ => 2
def sentV (a : Addr) : Value := .iface 210 (.pointer (some a))
/-- the package's errors as they lie in memory -/
structure Errs (w : World) (E : Nat → Addr) : Prop where
  var : ∀ k, k < 4 → w.cell? ⟨gk k, 0, none⟩ = some (sentV (E k))
theorem Errs.ext {w w' : World} {E : Nat → Addr} (h : Errs w E) (hE : Ext w w') : Errs w' E :=
  ⟨fun k hk => (hE.cell (p := ⟨gk k, 0, none⟩) (World.block_lt_of_cell? w _ (h.var k hk))).trans (h.var k hk)⟩
theorem Errs.four {w : World} {e0 e1 e2 e3 : Addr} (h0 : w.cell? ⟨1, 0, none⟩ = some (.iface 210 (.pointer (some e0)))) (h1 : w.cell? ⟨0, 0, none⟩ = some (.iface 210 (.pointer (some e1)))) (h2 : w.cell? ⟨3, 0, none⟩ = some (.iface 210 (.pointer (some e2)))) (h3 : w.cell? ⟨2, 0, none⟩ = some (.iface 210 (.pointer (some e3)))) :
    Errs w (fun k => if k = 0 then e0 else if k = 1 then e1 else if k = 2 then e2 else e3) := by
  refine ⟨fun k hk => ?_⟩;match k, hk with
  | 0, _ => exact h0
  | 1, _ => exact h1
  | 2, _ => exact h2
  | 3, _ => exact h3
end Go.Proofs.YtnhbjgmfbcedaaaDoor
namespace Go.Proofs.YtnhbjgmfbcedaaaDoor
open Go.RowKit
noncomputable def vcode (f : Nat → Int) (len : Nat) : Int :=
  open Classical in if inBounds f len then if complete f len then 0 else 3 else 2
end Go.Proofs.YtnhbjgmfbcedaaaDoor
