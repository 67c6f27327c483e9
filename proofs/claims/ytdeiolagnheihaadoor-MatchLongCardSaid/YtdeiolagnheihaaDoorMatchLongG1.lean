/-
  Small laws on memory: which blocks a call may have turned. No function of the program is named.
  Matches of a text: ways of tokens, the longest match, the fewest tokens, greed. No function of the program is named.
  Blocks that are known whole: variables that a call made. No function of the program is named.
  A map whose keys are three bytes, in memory.
  A finder of matches in memory. No function of the program is named.
  Rows of cells of whole numbers of one kind: arrays and slices that a call made. No function of the program is named.
  Rows of cells of whatever values. No function of the program is named.
  match: newFinder, bad.
  The world of a region that draws its order, under a name. No function of the program is named.
-/
import Derived.Test.YtdeiolagnheihaaDoorProg
import Derived.WalkKit
import Derived.WalkSpells
import Derived.WalkSmall
import Derived.Lib.Hide
import Derived.Deep.QuietTactic
import Derived.BigQuiet
import Derived.RegionTactic
import Derived.WalkLawsBesides
import Derived.Maps.AppendAt
import Derived.Maps.OwnSet
import Derived.DeepKeys4
import Derived.Deep.WholeRow
import Derived.Deep.OwnRows
import Derived.Deep.RegionHeld3
namespace Go.Proofs.YtdeiolagnheihaaDoor
open Go.RowKit
/-- of the blocks that were there only those in S may have turned -/
structure Keeps (S : Nat → Prop) (w w' : World) : Prop where
  os : w'.os = w.os
  tape : w'.tape = w.tape
  output : w'.output = w.output
  size : w.heap.size ≤ w'.heap.size
  block : ∀ k, k < w.heap.size → ¬ S k → w'.heap[k]? = w.heap[k]?
theorem Keeps.refl (S : Nat → Prop) (w : World) : Keeps S w w := ⟨rfl, rfl, rfl, Nat.le_refl _, fun _ _ _ => rfl⟩
theorem Keeps.trans {S S' : Nat → Prop} {a b c : World} (h : Keeps S a b) (k : Keeps S' b c) (hs : ∀ i, i < a.heap.size → S' i → S i) : Keeps S a c :=
  ⟨k.os.trans h.os, k.tape.trans h.tape, k.output.trans h.output, Nat.le_trans h.size k.size,
    fun i hi hn => (k.block i (Nat.lt_of_lt_of_le hi h.size) fun q => hn (hs i hi q)).trans (h.block i hi hn)⟩
theorem Keeps.mono {S S' : Nat → Prop} {a b : World} (h : Keeps S a b) (hs : ∀ i, i < a.heap.size → S i → S' i) : Keeps S' a b :=
  ⟨h.os, h.tape, h.output, h.size, fun i hi hn => h.block i hi fun q => hn (hs i hi q)⟩
theorem Keeps.grown {a b : World} {row : Option Nat} (h : a.grownBy b row) : Keeps (fun k => row = some k) a b :=
  ⟨h.os, h.tape, h.output, h.size, fun i hi hn => h.block i hi fun e => hn e.symm⟩
theorem Keeps.alloc {S : Nat → Prop} {a b : World} (h : Keeps S a b) (o : Obj) : Keeps S a (b.alloc o) :=
  ⟨h.os, h.tape, h.output, by have := h.size; simp; omega, fun i hi hn => (Below.heap_alloc _ _ _ (Nat.lt_of_lt_of_le hi h.size)).trans (h.block i hi hn)⟩
theorem Keeps.drewN {S : Nat → Prop} {a b : World} (h : Keeps S a b) (n : Nat) : Keeps S a (b.drewN n) := ⟨h.os, h.tape, h.output, h.size, h.block⟩
theorem Keeps.drew {S : Nat → Prop} {a b : World} (h : Keeps S a b) : Keeps S a b.drew := ⟨h.os, h.tape, h.output, h.size, h.block⟩
theorem Keeps.setCell {S : Nat → Prop} {a b : World} (h : Keeps S a b) {p : Addr} (hp : S p.block ∨ a.heap.size ≤ p.block) (u : Value) : Keeps S a (b.setCell p u) :=
  ⟨h.os, h.tape, h.output, by simpa using h.size, fun i hi hn => (Below.heap_setCell _ _ _ _ (fun e => by subst e; rcases hp with hp | hp; exact hn hp; omega)).trans (h.block i hi hn)⟩
theorem Keeps.below {S : Nat → Prop} {a b : World} (h : Keeps S a b) {B : Nat} (hB : B ≤ a.heap.size) (hs : ∀ k, k < B → ¬ S k) : Below B a b :=
  ⟨h.os, h.tape, h.output, h.size, fun k hk => h.block k (by omega) (hs k hk)⟩
theorem Keeps.of_below {B : Nat} {a b : World} (h : Below B a b) : Keeps (fun k => B ≤ k) a b :=
  ⟨h.os, h.tape, h.output, h.size, fun k _ hn => h.block k (by omega)⟩
theorem Keeps.cell {S : Nat → Prop} {a b : World} (h : Keeps S a b) {p : Addr} (hp : p.block < a.heap.size) (hn : ¬ S p.block) : b.cell? p = a.cell? p :=
  World.cell?_of_block (w := a) (h.block p.block hp hn)
theorem Keeps.frozen {S : Nat → Prop} {a b : World} (h : Keeps S a b) {p : Addr} (hp : p.block < a.heap.size) (hn : ¬ S p.block) : b.frozen? p = a.frozen? p :=
  World.frozen?_of_block (w := a) (h.block p.block hp hn)
def Ext (w w' : World) : Prop := Below w.heap.size w w'
theorem Ext.refl (w : World) : Ext w w := Below.refl _ _
theorem Ext.trans {a b c : World} (h : Ext a b) (k : Ext b c) : Ext a c := Below.trans h (Below.mono k h.size)
theorem Ext.alloc {a b : World} (h : Ext a b) (o : Obj) : Ext a (b.alloc o) := Below.alloc h h.size o
theorem Ext.drewN {a b : World} (h : Ext a b) (n : Nat) : Ext a (b.drewN n) := below_drewN h n
theorem Ext.keeps {S : Nat → Prop} {a b : World} (h : Ext a b) : Keeps S a b := (Keeps.of_below h).mono fun i hi q => by have : a.heap.size ≤ i := q; omega
theorem ret_int {k : IntKind} {a b : Int} (h : a = b) : Ending.returned (.int k a) = .returned (.int k b) := by rw [h]
theorem ret_bool {a b : Bool} (h : a = b) : Ending.returned (.bool a) = .returned (.bool b) := by rw [h]
theorem val_int {k : IntKind} {a b : Int} (h : a = b) : Value.int k a = Value.int k b := by rw [h]
theorem ownsRow_kept {S : Nat → Prop} {w w' : World} {base : Nat} {e : TypeId} {size : Nat} {v : Value} {n : Nat} {xs : List Value}
    (h : w.ownsRow base e size v n xs) (hk : Keeps S w w') (hn : ∀ k, v.ownBlock = some k → ¬ S k) : w'.ownsRow base e size v n xs := by
  obtain ⟨h1, h2⟩ := h
  refine ⟨h1, ?_⟩
  rcases h2 with h2 | ⟨g, cap, cur, hv, hg, hh, r⟩
  · exact Or.inl h2
  · subst hv
    have hlt : g < w.heap.size := lt_of_block hh
    exact Or.inr ⟨g, cap, cur, rfl, hg, by rw [hk.block g hlt (hn g rfl)]; exact hh, r⟩
theorem ownsRow_lt {w : World} {base : Nat} {e : TypeId} {size : Nat} {v : Value} {n : Nat} {xs : List Value}
    (h : w.ownsRow base e size v n xs) {k : Nat} (hk : v.ownBlock = some k) : k < w.heap.size := (h.lt k hk).2
/-- a row that holds something begins at the head of a block -/
theorem ownsRow_some {w : World} {base : Nat} {e : TypeId} {size : Nat} {v : Value} {n : Nat} {xs : List Value}
    (h : w.ownsRow base e size v n xs) (hn : 0 < n) : ∃ g cap, v = .slice (some ⟨g, 0, none⟩) n cap ∧ n ≤ cap ∧ g < w.heap.size := by
  rcases h.2 with ⟨_, h0⟩ | ⟨g, cap, cur, hv, _, hh, hc, _⟩
  · omega
  · exact ⟨g, cap, hv, hc, lt_of_block hh⟩
theorem ownsRow_slice {w : World} {base : Nat} {e : TypeId} {size : Nat} {v : Value} {n : Nat} {xs : List Value}
    (h : w.ownsRow base e size v n xs) : (v = .slice none 0 0 ∧ n = 0) ∨ ∃ g cap, v = .slice (some ⟨g, 0, none⟩) n cap := by
  rcases h.2 with h0 | ⟨g, cap, cur, hv, _⟩
  · exact .inl h0
  · exact .inr ⟨g, cap, hv⟩
theorem add_plain (b j : Nat) : (⟨b, 0, none⟩ : Addr).add j = ⟨b, j, none⟩ := by unfold Addr.add; split <;> simp_all
/-- the world under a name: what is said of it is all that is known -/
theorem wp_world {P : Program} {c : Code} {Q : Exit → Act → World → Prop} {a : Act} {W : World} (F : World → Prop) (h1 : F W) (h2 : ∀ wz, F wz → Code.wp P c Q a wz) : Code.wp P c Q a W := h2 W h1
theorem calls_world {P : Program} {f : Nat} {args : Array Value} {W : World} {Q : Ending → World → Prop} (F : World → Prop) (h1 : F W) (h2 : ∀ wz, F wz → Calls P f args wz Q) : Calls P f args W Q := h2 W h1
end Go.Proofs.YtdeiolagnheihaaDoor
namespace Go.Proofs.YtdeiolagnheihaaDoor.Mt
set_option maxRecDepth 100000
/-- how far two places of a text go on alike, from size on; at most 258 -/
def mlf (b : Nat → Nat) (n k a : Nat) (size : Nat) : Nat :=
  if _h : size < 258 ∧ a + size < n ∧ b (k + size) = b (a + size) then mlf b n k a (size + 1) else size
termination_by 258 - size
def mlen (b : Nat → Nat) (n k a : Nat) : Nat := mlf b n k a 0
theorem mlf_yes {b : Nat → Nat} {n k a size : Nat} (h : size < 258 ∧ a + size < n ∧ b (k + size) = b (a + size)) : mlf b n k a size = mlf b n k a (size + 1) := by
  rw [mlf, dif_pos h]
theorem mlf_no {b : Nat → Nat} {n k a size : Nat} (h : ¬ (size < 258 ∧ a + size < n ∧ b (k + size) = b (a + size))) : mlf b n k a size = size := by
  rw [mlf, dif_neg h]
theorem mlf_spec (b : Nat → Nat) (n k a : Nat) : ∀ f size, 258 - size = f → size ≤ mlf b n k a size ∧ (size ≤ 258 → mlf b n k a size ≤ 258) ∧ (a + size ≤ n → a + mlf b n k a size ≤ n) ∧
    (∀ j, size ≤ j → j < mlf b n k a size → b (k + j) = b (a + j)) ∧ (mlf b n k a size < 258 → a + mlf b n k a size < n → b (k + mlf b n k a size) ≠ b (a + mlf b n k a size)) := by
  intro f
  induction f with
  | zero =>
    intro size hf
    rw [mlf_no (by omega)]
    exact ⟨Nat.le_refl _, id, id, fun j h1 h2 => by omega, fun h => by omega⟩
  | succ f ih =>
    intro size hf
    by_cases h : size < 258 ∧ a + size < n ∧ b (k + size) = b (a + size)
    · rw [mlf_yes h]
      obtain ⟨h1, h2, h3, h4, h5⟩ := ih (size + 1) (by omega)
      refine ⟨by omega, fun _ => h2 (by omega), fun _ => h3 (by omega), fun j hj hl => ?_, h5⟩
      rcases Nat.eq_or_lt_of_le hj with e | e
      · subst e; exact h.2.2
      · exact h4 j e hl
    · rw [mlf_no h]
      exact ⟨Nat.le_refl _, id, id, fun j h1 h2 => by omega, fun h1 h2 h3 => h ⟨h1, h2, h3⟩⟩
/-- a match at a: m bytes, d back -/
structure Mat (b : Nat → Nat) (n w a m d : Nat) : Prop where
  three : 3 ≤ m
  most : m ≤ 258
  fits : a + m ≤ n
  pos : 1 ≤ d
  win : d ≤ w
  back : d ≤ a
  same : ∀ j, j < m → b (a - d + j) = b (a + j)
theorem mlen_ge {b : Nat → Nat} {n k a m : Nat} (h1 : m ≤ 258) (h2 : a + m ≤ n) (h3 : ∀ j, j < m → b (k + j) = b (a + j)) : m ≤ mlen b n k a := by
  obtain ⟨_, _, _, _, h5⟩ := mlf_spec b n k a _ 0 rfl
  unfold mlen
  rcases Nat.lt_or_ge (mlf b n k a 0) m with q | q
  · exact absurd (h3 _ q) (h5 (by omega) (by omega))
  · exact q
theorem mlen_mat {b : Nat → Nat} {n w k a m : Nat} (ha : a ≤ n) (hk : k < a) (hw : a - k ≤ w) (h3 : 3 ≤ m) (hm : m ≤ mlen b n k a) : Mat b n w a m (a - k) := by
  obtain ⟨_, h1, h2, h4, _⟩ := mlf_spec b n k a _ 0 rfl
  have h1 := h1 (by omega)
  have h2 := h2 (by omega)
  unfold mlen at hm
  refine ⟨h3, by omega, by omega, by omega, hw, by omega, fun j hj => ?_⟩
  rw [show a - (a - k) = k by omega]
  exact h4 j (Nat.zero_le _) (by omega)
theorem Mat.mlen {b : Nat → Nat} {n w a m d : Nat} (h : Mat b n w a m d) : m ≤ mlen b n (a - d) a := mlen_ge h.most h.fits h.same
theorem Mat.less {b : Nat → Nat} {n w a m d : Nat} (h : Mat b n w a m d) {k : Nat} (hk : 3 ≤ k) (hm : k ≤ m) : Mat b n w a k d :=
  ⟨hk, by have := h.most; omega, by have := h.fits; omega, h.pos, h.win, h.back, fun j hj => h.same j (by omega)⟩
theorem Mat.tail {b : Nat → Nat} {n w a m d : Nat} (h : Mat b n w a m d) {i : Nat} (hi : i + 3 ≤ m) : Mat b n w (a + i) (m - i) d := by
  have := h.fits; have := h.most; have := h.back
  refine ⟨by omega, by omega, by omega, h.pos, h.win, by omega, fun j hj => ?_⟩
  have := h.same (i + j) (by omega)
  rw [show a + i - d + j = a - d + (i + j) by omega, show a + i + j = a + (i + j) by omega]
  exact this
/-- c tokens lead from a to e -/
inductive Way (b : Nat → Nat) (n w : Nat) : Nat → Nat → Nat → Prop where
  | nil (a : Nat) : Way b n w a 0 a
  | lit {a c e : Nat} : a < n → Way b n w (a + 1) c e → Way b n w a (c + 1) e
  | mat {a c e m d : Nat} : Mat b n w a m d → Way b n w (a + m) c e → Way b n w a (c + 1) e
theorem Way.le {b : Nat → Nat} {n w a c e : Nat} (h : Way b n w a c e) : a ≤ e := by
  induction h with
  | nil => exact Nat.le_refl _
  | lit _ _ ih => omega
  | mat _ _ ih => omega
theorem Way.lits {b : Nat → Nat} {n w : Nat} : ∀ k a, a + k ≤ n → Way b n w a k (a + k) := by
  intro k
  induction k with
  | zero => intro a _; exact .nil a
  | succ k ih => intro a h; have := ih (a + 1) (by omega); rw [show a + 1 + k = a + (k + 1) by omega] at this; exact .lit (by omega) this
theorem Way.trans {b : Nat → Nat} {n w a c e c' e' : Nat} (h : Way b n w a c e) (h' : Way b n w e c' e') : Way b n w a (c + c') e' := by
  induction h with
  | nil => rw [Nat.zero_add]; exact h'
  | lit h1 _ ih => rw [show ∀ x y : Nat, x + 1 + y = x + y + 1 by omega]; exact .lit h1 (ih h')
  | mat h1 _ ih => rw [show ∀ x y : Nat, x + 1 + y = x + y + 1 by omega]; exact .mat h1 (ih h')
/-- the longest match at a: 0, or one; none is longer -/
structure Long (b : Nat → Nat) (n w a m d : Nat) : Prop where
  one : m ≠ 0 → Mat b n w a m d
  zero : m = 0 → d = 0
  best : ∀ m' d', Mat b n w a m' d' → m' ≤ m
/-- greed's way: the longest match at each place -/
inductive Greed (b : Nat → Nat) (n w : Nat) : Nat → Nat → Prop where
  | nil (a : Nat) : n ≤ a → Greed b n w a 0
  | lit {a c d : Nat} : a < n → Long b n w a 0 d → Greed b n w (a + 1) c → Greed b n w a (c + 1)
  | mat {a c m d : Nat} : m ≠ 0 → Long b n w a m d → Greed b n w (a + m) c → Greed b n w a (c + 1)
theorem Greed.mono_or {b : Nat → Nat} {n w : Nat} : ∀ c e, Way b n w e c n → ∀ a g, e ≤ a → Greed b n w a g → g ≤ 2 * c := by
  intro c
  induction c with
  | zero =>
    intro e h a g hea hg
    cases h
    cases hg with
    | nil => omega
    | lit h1 => omega
    | mat h0 h1 => have := (h1.one h0).fits; have := (h1.one h0).three; omega
  | succ c ih =>
    intro e h a g hea hg
    cases h with
    | lit hn h2 =>
      rcases Nat.eq_or_lt_of_le hea with q | q
      · subst q
        cases hg with
        | nil => omega
        | lit h1 h3 h4 => have := ih _ h2 _ _ (Nat.le_refl _) h4; omega
        | mat h0 h1 h4 => have := (h1.one h0).three; have := ih _ h2 _ _ (by omega) h4; omega
      · have := ih _ h2 _ _ q hg; omega
    | @mat _ _ _ m d hm h2 =>
      rcases Nat.lt_or_ge a (e + m) with q | q
      · -- the first token of greed that begins in here
        rcases Nat.lt_or_ge (a + 2) (e + m) with q3 | q3
        · have ht := hm.tail (i := a - e) (by omega)
          rw [show e + (a - e) = a by omega] at ht
          cases hg with
          | nil => omega
          | lit h1 h3 h4 => have := h3.best _ _ ht; have := ht.three; omega
          | mat h0 h1 h4 => have := h1.best _ _ ht; have := ih _ h2 _ _ (by omega) h4; omega
        · -- two at most
          have step : ∀ a', e + m ≤ a' + 1 → ∀ g', Greed b n w a' g' → g' ≤ 2 * c + 1 := by
            intro a' ha' g' hg'
            cases hg' with
            | nil => omega
            | lit h1 h3 h4 => have := ih _ h2 _ _ (by omega) h4; omega
            | mat h0 h1 h4 => have := (h1.one h0).three; have := ih _ h2 _ _ (by omega) h4; omega
          cases hg with
          | nil => omega
          | lit h1 h3 h4 => have := step _ (by omega) _ h4; omega
          | mat h0 h1 h4 => have := (h1.one h0).three; have := ih _ h2 _ _ (by omega) h4; omega
      · have := ih _ h2 _ _ q hg; omega
theorem Greed.few {b : Nat → Nat} {n w g c : Nat} (hg : Greed b n w 0 g) (h : Way b n w 0 c n) : g ≤ 2 * c := hg.mono_or _ _ h _ _ (Nat.le_refl _)
theorem Greed.way {b : Nat → Nat} {n w a g : Nat} (h : Greed b n w a g) : a ≤ n → Way b n w a g n := by
  induction h with
  | nil a h => intro h2; obtain rfl : a = n := by omega
               exact .nil _
  | lit h1 _ _ ih => intro _; exact .lit h1 (ih (by omega))
  | mat h0 h1 _ ih => intro _; have := (h1.one h0).fits; exact .mat (h1.one h0) (ih this)
/-- the fewest tokens from 0 to e -/
structure Least (b : Nat → Nat) (n w a e x : Nat) : Prop where
  way : Way b n w a x e
  least : ∀ c, Way b n w a c e → x ≤ c
theorem Least.one {b : Nat → Nat} {n w a e x y : Nat} (h : Least b n w a e x) (h' : Least b n w a e y) : x = y :=
  Nat.le_antisymm (h.least _ h'.way) (h'.least _ h.way)
/-- a way's last token -/
theorem Way.last {b : Nat → Nat} {n w a c e : Nat} (h : Way b n w a (c + 1) e) : ∃ f, Way b n w a c f ∧ ((f < n ∧ e = f + 1) ∨ ∃ m d, Mat b n w f m d ∧ e = f + m) := by
  generalize hc : c + 1 = c1 at h
  induction h generalizing c with
  | nil => omega
  | @lit a c' e h1 h2 ih =>
    obtain rfl : c' = c := by omega
    cases c' with
    | zero => cases h2; exact ⟨a, .nil _, .inl ⟨h1, rfl⟩⟩
    | succ c => obtain ⟨f, hf, r⟩ := ih rfl; exact ⟨f, .lit h1 hf, r⟩
  | @mat a c' e m d h1 h2 ih =>
    obtain rfl : c' = c := by omega
    cases c' with
    | zero => cases h2; exact ⟨a, .nil _, .inr ⟨m, d, h1, rfl⟩⟩
    | succ c => obtain ⟨f, hf, r⟩ := ih rfl; exact ⟨f, .mat h1 hf, r⟩
/-- one token leads from f to j -/
def Step (b : Nat → Nat) (n w f j : Nat) : Prop := (f < n ∧ j = f + 1) ∨ ∃ m d, Mat b n w f m d ∧ j = f + m
theorem Step.way {b : Nat → Nat} {n w a c f j : Nat} (h : Way b n w a c f) (hs : Step b n w f j) : Way b n w a (c + 1) j := by
  rcases hs with ⟨h1, rfl⟩ | ⟨m, d, h1, rfl⟩
  · exact h.trans (.lit h1 (.nil _))
  · exact h.trans (.mat h1 (.nil _))
/-- the row of the fewest, p places done -/
structure Row (b : Nat → Nat) (n w p : Nat) (B : Nat → Nat) : Prop where
  way : ∀ j, j ≤ n → Way b n w 0 (B j) j
  le : ∀ j, j ≤ n → B j ≤ j
  least : ∀ j, j ≤ n → ∀ c f, f < p → Way b n w 0 c f → Step b n w f j → B j ≤ c + 1
theorem Row.start (b : Nat → Nat) (n w : Nat) : Row b n w 0 (fun j => j) :=
  ⟨fun j hj => by have := Way.lits (b := b) (n := n) (w := w) j 0 (by omega); rwa [Nat.zero_add] at this, fun j _ => Nat.le_refl _, fun j _ c f hf => by omega⟩
theorem Step.lt {b : Nat → Nat} {n w f j : Nat} (h : Step b n w f j) : f < j ∧ j ≤ n := by
  rcases h with ⟨h1, rfl⟩ | ⟨m, d, h1, rfl⟩
  · omega
  · have := h1.three; have := h1.fits; omega
theorem Row.here {b : Nat → Nat} {n w p : Nat} {B : Nat → Nat} (h : Row b n w p B) {j : Nat} (hj : j ≤ p) (hn : j ≤ n) : Least b n w 0 j (B j) := by
  refine ⟨h.way j hn, fun c hc => ?_⟩
  cases c with
  | zero => cases hc; have := h.le 0 hn; omega
  | succ c =>
    obtain ⟨f, hf, hs⟩ := hc.last
    exact h.least j hn c f (by have := (show Step b n w f j from hs).lt; omega) hf hs
/-- between two places: what one token more from p gives, up to matches of k bytes -/
structure RowIn (b : Nat → Nat) (n w p k L : Nat) (B : Nat → Nat) : Prop extends Row b n w p B where
  here : ∀ j, j ≤ n → ∀ c, Way b n w 0 c p → (j = p + 1 ∨ ∃ m, 3 ≤ m ∧ m < k ∧ m ≤ L ∧ j = p + m) → B j ≤ c + 1
def upd (B : Nat → Nat) (q x : Nat) : Nat → Nat := fun j => if j = q then x else B j
def low (B : Nat → Nat) (q p : Nat) : Nat := if B p + 1 < B q then B p + 1 else B q
theorem Row.upd_ {b : Nat → Nat} {n w p q : Nat} {B : Nat → Nat} (h : Row b n w p B) (hp : p < n) (hs : Step b n w p q) : Row b n w p (upd B q (low B q p)) := by
  have hq := hs.lt
  refine ⟨fun j hj => ?_, fun j hj => ?_, fun j hj c f hf hw hst => ?_⟩
  · unfold upd low; split
    · rename_i e; subst e; split
      · exact hs.way (h.way p (by omega))
      · exact h.way _ hj
    · exact h.way j hj
  · unfold upd low; split
    · rename_i e; subst e; split
      · have := h.le p (by omega); omega
      · exact h.le _ hj
    · exact h.le j hj
  · have := h.least j hj c f hf hw hst
    unfold upd low; split
    · rename_i e; subst e; split <;> omega
    · exact this
theorem Row.lit {b : Nat → Nat} {n w p L : Nat} {B : Nat → Nat} (h : Row b n w p B) (hp : p < n) : RowIn b n w p 3 L (upd B (p + 1) (low B (p + 1) p)) := by
  have hl := h.here (Nat.le_refl p) (by omega)
  refine { h.upd_ hp (.inl ⟨hp, rfl⟩) with here := fun j hj c hc hx => ?_ }
  have := hl.least c hc
  rcases hx with rfl | ⟨m, h1, h2, _, _⟩
  · unfold upd low; rw [if_pos rfl]; split <;> omega
  · omega
theorem RowIn.more {b : Nat → Nat} {n w p k L d : Nat} {B : Nat → Nat} (h : RowIn b n w p k L B) (hp : p < n) (hk : 3 ≤ k) (hm : Mat b n w p L d) (hkL : k ≤ L) : RowIn b n w p (k + 1) L (upd B (p + k) (low B (p + k) p)) := by
  have hl := h.toRow.here (Nat.le_refl p) (by omega)
  refine { h.toRow.upd_ hp (.inr ⟨k, d, hm.less hk hkL, rfl⟩) with here := fun j hj c hc hx => ?_ }
  have h0 := hl.least c hc
  by_cases e : j = p + k
  · subst e; unfold upd low; rw [if_pos rfl]; split <;> omega
  · unfold upd; rw [if_neg e]
    refine h.here j hj c hc ?_
    rcases hx with hx | ⟨m, h1, h2, h3, h4⟩
    · exact .inl hx
    · exact .inr ⟨m, h1, by omega, h3, h4⟩
theorem RowIn.next {b : Nat → Nat} {n w p k L d : Nat} {B : Nat → Nat} (h : RowIn b n w p k L B) (hL : Long b n w p L d) (hk : L < k) : Row b n w (p + 1) B := by
  refine ⟨h.way, h.le, fun j hj c f hf hw hs => ?_⟩
  rcases Nat.lt_or_ge f p with q | q
  · exact h.least j hj c f q hw hs
  · obtain rfl : f = p := by omega
    refine h.here j hj c hw ?_
    rcases hs with ⟨_, h1⟩ | ⟨m, d', hm, h1⟩
    · exact .inl h1
    · have := hL.best m d' hm; exact .inr ⟨m, hm.three, by omega, this, h1⟩
/-- from behind: the fewest from each place to the end -/
structure Back (b : Nat → Nat) (n w p : Nat) (B : Nat → Nat) : Prop where
  least : ∀ j, p ≤ j → j ≤ n → Least b n w j n (B j)
  le : ∀ j, p ≤ j → j ≤ n → B j + j ≤ n
theorem Back.start (b : Nat → Nat) (n w : Nat) (B : Nat → Nat) (h : B n = 0) : Back b n w n B := by
  refine ⟨fun j h1 h2 => ?_, fun j h1 h2 => ?_⟩
  · obtain rfl : j = n := by omega
    rw [h]; exact ⟨.nil _, fun c _ => Nat.zero_le _⟩
  · obtain rfl : j = n := by omega
    omega
/-- inside: at p all matches from before f, and from f of less than k bytes -/
structure BackIn (b : Nat → Nat) (n w p f k : Nat) (B : Nat → Nat) : Prop where
  back : Back b n w (p + 1) B
  way : Way b n w p (B p) n
  le : B p + p ≤ n
  lit : B p ≤ B (p + 1) + 1
  mats : ∀ m d, Mat b n w p m d → (p - d < f ∨ p - d = f ∧ m < k) → B p ≤ B (p + m) + 1
theorem upd_ne {B : Nat → Nat} {q x j : Nat} (h : j ≠ q) : upd B q x j = B j := if_neg h
theorem upd_eq {B : Nat → Nat} {q x : Nat} : upd B q x q = x := if_pos rfl
theorem Back.upd_ {b : Nat → Nat} {n w p x : Nat} {B : Nat → Nat} (h : Back b n w (p + 1) B) : Back b n w (p + 1) (upd B p x) :=
  ⟨fun j h1 h2 => by rw [upd_ne (by omega)]; exact h.least j h1 h2, fun j h1 h2 => by rw [upd_ne (by omega)]; exact h.le j h1 h2⟩
theorem Back.lit {b : Nat → Nat} {n w p : Nat} {B : Nat → Nat} (h : Back b n w (p + 1) B) (hp : p < n) : BackIn b n w p 0 3 (upd B p (B (p + 1) + 1)) := by
  have h1 := h.least (p + 1) (Nat.le_refl _) (by omega)
  have h2 := h.le (p + 1) (Nat.le_refl _) (by omega)
  refine ⟨h.upd_, ?_, ?_, ?_, fun m d hm hx => ?_⟩
  · rw [upd_eq]; exact .lit hp h1.way
  · rw [upd_eq]; omega
  · rw [upd_eq, upd_ne (by omega)]; omega
  · have := hm.three; omega
theorem BackIn.more {b : Nat → Nat} {n w p f k : Nat} {B : Nat → Nat} (h : BackIn b n w p f k B) (hf : f < p) (hw : p - f ≤ w) (hp : p < n) (hk : 3 ≤ k) (hm : k ≤ mlen b n f p) : BackIn b n w p f (k + 1) (upd B p (if B (p + k) + 1 < B p then B (p + k) + 1 else B p)) := by
  have M := mlen_mat (Nat.le_of_lt hp) hf hw hk hm
  have F := M.fits
  have h1 := h.back.least (p + k) (by omega) F
  have h2 := h.back.le (p + k) (by omega) F
  have h3 := h.le
  have h4 := h.lit
  refine ⟨h.back.upd_, ?_, ?_, ?_, fun m d hM hx => ?_⟩
  · rw [upd_eq]; split
    · exact .mat M h1.way
    · exact h.way
  · rw [upd_eq]; split <;> omega
  · rw [upd_eq, upd_ne (by omega)]; split <;> omega
  · have h5 := hM.three
    rw [upd_eq, upd_ne (by omega)]
    by_cases e : p - d = f ∧ m = k
    · obtain ⟨_, rfl⟩ := e; split <;> omega
    · have := h.mats m d hM (by omega); split <;> omega
theorem BackIn.skip {b : Nat → Nat} {n w p f : Nat} {B : Nat → Nat} (h : BackIn b n w p f 3 B) (hw : w < p - f) : BackIn b n w p (f + 1) 3 B :=
  { h with mats := fun m d hM hx => h.mats m d hM (by have := hM.win; have := hM.back; have := hM.three; omega) }
theorem BackIn.from {b : Nat → Nat} {n w p f k : Nat} {B : Nat → Nat} (h : BackIn b n w p f k B) (_hf : f < p) (hk : mlen b n f p < k) : BackIn b n w p (f + 1) 3 B :=
  { h with mats := fun m d hM hx => h.mats m d hM (by
      have h3 := hM.three; have h4 := hM.back
      by_cases e : p - d = f
      · have := hM.mlen; rw [e] at this; omega
      · omega) }
theorem BackIn.next {b : Nat → Nat} {n w p : Nat} {B : Nat → Nat} (h : BackIn b n w p p 3 B) (_hp : p < n) : Back b n w p B := by
  refine ⟨fun j h1 h2 => ?_, fun j h1 h2 => ?_⟩
  · rcases Nat.eq_or_lt_of_le h1 with e | e
    · subst e
      refine ⟨h.way, fun c hc => ?_⟩
      cases hc with
      | nil => omega
      | lit q1 q2 => have := (h.back.least (p + 1) (Nat.le_refl _) (by omega)).least _ q2; have := h.lit; omega
      | @mat _ c _ m d q1 q2 =>
        have := q1.three; have := q1.fits; have := q1.pos; have := q1.back
        have h5 := (h.back.least (p + m) (by omega) (by omega)).least _ q2
        have h6 := h.mats m d q1 (.inl (by omega))
        omega
    · exact h.back.least j e h2
  · rcases Nat.eq_or_lt_of_le h1 with e | e
    · subst e; exact h.le
    · exact h.back.le j e h2
/-- where three bytes stood last, ahead of p -/
def prv (b : Nat → Nat) (x y z : Nat) : Nat → Option Nat
  | 0 => none
  | p + 1 => if b p = x ∧ b (p + 1) = y ∧ b (p + 2) = z then some p else prv b x y z p
theorem prv_some {b : Nat → Nat} {x y z k : Nat} : ∀ {p : Nat}, prv b x y z p = some k → k < p ∧ b k = x ∧ b (k + 1) = y ∧ b (k + 2) = z ∧ ∀ j, k < j → j < p → ¬ (b j = x ∧ b (j + 1) = y ∧ b (j + 2) = z) := by
  intro p
  induction p with
  | zero => intro h; cases h
  | succ p ih =>
    intro h
    simp only [prv] at h
    split at h
    · rename_i q; injection h with h; subst h; exact ⟨by omega, q.1, q.2.1, q.2.2, fun j h1 h2 => by omega⟩
    · rename_i q
      obtain ⟨h1, h2, h3, h4, h5⟩ := ih h
      refine ⟨by omega, h2, h3, h4, fun j h6 h7 => ?_⟩
      rcases Nat.lt_or_ge j p with r | r
      · exact h5 j h6 r
      · obtain rfl : j = p := by omega
        exact q
theorem prv_none {b : Nat → Nat} {x y z : Nat} : ∀ {p : Nat}, prv b x y z p = none → ∀ j, j < p → ¬ (b j = x ∧ b (j + 1) = y ∧ b (j + 2) = z) := by
  intro p
  induction p with
  | zero => intro _ j h; omega
  | succ p ih =>
    intro h j hj
    simp only [prv] at h
    split at h
    · cases h
    · rename_i q
      rcases Nat.lt_or_ge j p with r | r
      · exact ih h j r
      · obtain rfl : j = p := by omega
        exact q
/-- the look for the longest match at a: c says which places are still to come -/
structure Look (b : Nat → Nat) (n w a : Nat) (c : Option Nat) (m d : Nat) : Prop where
  one : m ≠ 0 → Mat b n w a m d
  zero : m = 0 → d = 0
  best : ∀ m' d', Mat b n w a m' d' → (∀ k, c = some k → k < a - d') → m' ≤ m
theorem Mat.key {b : Nat → Nat} {n w a m d : Nat} (h : Mat b n w a m d) : b (a - d) = b a ∧ b (a - d + 1) = b (a + 1) ∧ b (a - d + 2) = b (a + 2) := by
  have := h.three
  exact ⟨h.same 0 (by omega), h.same 1 (by omega), h.same 2 (by omega)⟩
theorem Look.start (b : Nat → Nat) (n w a : Nat) : Look b n w a (prv b (b a) (b (a + 1)) (b (a + 2)) a) 0 0 := by
  refine ⟨fun h => absurd rfl h, fun _ => rfl, fun m' d' hM hk => ?_⟩
  exfalso
  have hp := hM.pos; have hb := hM.back
  cases hc : prv b (b a) (b (a + 1)) (b (a + 2)) a with
  | none => exact prv_none hc (a - d') (by omega) hM.key
  | some k => have := hk k hc; exact (prv_some hc).2.2.2.2 (a - d') this (by omega) hM.key
theorem Look.next {b : Nat → Nat} {n w a k m d : Nat} (h : Look b n w a (some k) m d) (ha : a + 3 ≤ n) (hk : k < a) (hw : a - k ≤ w) (h0 : b k = b a) (h1 : b (k + 1) = b (a + 1)) (h2 : b (k + 2) = b (a + 2)) :
    Look b n w a (prv b (b k) (b (k + 1)) (b (k + 2)) k) (if m < mlen b n k a then mlen b n k a else m) (if m < mlen b n k a then a - k else d) := by
  have h3 : 3 ≤ mlen b n k a := mlen_ge (by omega) ha (fun j hj => by
    rcases (by omega : j = 0 ∨ j = 1 ∨ j = 2) with rfl | rfl | rfl
    · exact h0
    · exact h1
    · exact h2)
  refine ⟨fun hm => ?_, fun hm => ?_, fun m' d' hM hx => ?_⟩
  · split
    · exact mlen_mat (by omega) hk hw h3 (Nat.le_refl _)
    · rename_i q; rw [if_neg q] at hm; exact h.one hm
  · split
    · rename_i q; rw [if_pos q] at hm; omega
    · rename_i q; rw [if_neg q] at hm; exact h.zero hm
  · have hp := hM.pos; have hb := hM.back
    have : m' ≤ m ∨ m' ≤ mlen b n k a := by
      rcases Nat.lt_trichotomy (a - d') k with q | q | q
      · exfalso
        rw [h0, h1, h2] at hx
        cases hc : prv b (b a) (b (a + 1)) (b (a + 2)) k with
        | none => exact prv_none hc (a - d') q hM.key
        | some k2 => have := hx k2 hc; exact (prv_some hc).2.2.2.2 (a - d') this q hM.key
      · right; rw [← q]; exact hM.mlen
      · left; exact h.best m' d' hM (fun k' hk' => by injection hk' with hk'; omega)
    split <;> omega
/-- what a look gives in the end -/
structure Good (b : Nat → Nat) (n w a m d : Nat) : Prop where
  one : m ≠ 0 → Mat b n w a m d
  zero : m = 0 → d = 0
theorem Look.good {b : Nat → Nat} {n w a m d : Nat} {c : Option Nat} (h : Look b n w a c m d) : Good b n w a m d := ⟨h.one, h.zero⟩
theorem Look.none_ {b : Nat → Nat} {n w a m d : Nat} (h : Look b n w a none m d) : Long b n w a m d := ⟨h.one, h.zero, fun m' d' hM => h.best m' d' hM (fun k hk => by cases hk)⟩
theorem Look.far {b : Nat → Nat} {n w a k m d : Nat} (h : Look b n w a (some k) m d) (hw : w < a - k) : Long b n w a m d :=
  ⟨h.one, h.zero, fun m' d' hM => h.best m' d' hM (fun k' hk => by injection hk with hk; have := hM.win; have := hM.back; omega)⟩
theorem Long.edge (b : Nat → Nat) (n w a : Nat) (h : n < a + 3) : Long b n w a 0 0 := ⟨fun h => absurd rfl h, fun _ => rfl, fun m' d' hM => by have := hM.fits; have := hM.three; omega⟩
theorem Good.edge (b : Nat → Nat) (n w a : Nat) : Good b n w a 0 0 := ⟨fun h => absurd rfl h, fun _ => rfl⟩
/-- a word again and again: the word, and matches of 258 bytes -/
theorem Way.again {b : Nat → Nat} {n w l : Nat} (hl : 1 ≤ l) (hw : l ≤ w) (hb : ∀ i, l ≤ i → i < n → b (i - l) = b i) : ∀ f a, l ≤ a → a ≤ n → n - a ≤ f → ∃ c, Way b n w a c n ∧ c ≤ (n - a) / 258 + 2 := by
  intro f
  induction f with
  | zero => intro a h1 h2 h3; obtain rfl : a = n := by omega
            exact ⟨0, .nil _, by omega⟩
  | succ f ih =>
    intro a h1 h2 h3
    rcases Nat.lt_or_ge (n - a) 3 with q | q
    · refine ⟨n - a, ?_, by omega⟩
      have := Way.lits (b := b) (n := n) (w := w) (n - a) a (by omega)
      rwa [show a + (n - a) = n by omega] at this
    · have hM : ∀ m, 3 ≤ m → m ≤ 258 → a + m ≤ n → Mat b n w a m l := fun m q1 q2 q3 => ⟨q1, q2, q3, hl, hw, h1, fun j hj => by
        have := hb (a + j) (by omega) (by omega)
        rwa [show a + j - l = a - l + j by omega] at this⟩
      rcases Nat.lt_or_ge (n - a) 258 with r | r
      · refine ⟨1, ?_, by omega⟩
        have := Way.mat (hM (n - a) q (by omega) (by omega)) (.nil _)
        rwa [show a + (n - a) = n by omega] at this
      · obtain ⟨c, hc, hle⟩ := ih (a + 258) (by omega) (by omega) (by omega)
        exact ⟨c + 1, .mat (hM 258 (by omega) (by omega) (by omega)) hc, by omega⟩
theorem Least.again {b : Nat → Nat} {n w l x : Nat} (h : Least b n w 0 n x) (hl : 1 ≤ l) (hw : l ≤ w) (hn : l ≤ n) (hb : ∀ i, l ≤ i → i < n → b (i - l) = b i) : x ≤ l + n / 258 + 2 := by
  obtain ⟨c, hc, hle⟩ := Way.again hl hw hb (n - l) l (Nat.le_refl _) hn (Nat.le_refl _)
  have h0 := Way.lits (b := b) (n := n) (w := w) l 0 (by omega)
  rw [Nat.zero_add] at h0
  have := h.least _ (h0.trans hc)
  have : (n - l) / 258 ≤ n / 258 := Nat.div_le_div_right (by omega)
  omega
end Go.Proofs.YtdeiolagnheihaaDoor.Mt
namespace Go.Proofs.YtdeiolagnheihaaDoor
open Go.RowKit
def Bk (w : World) (b : Nat) (cs : Array Value) : Prop := ∃ t, w.heap[b]? = some (.cells cs t (0, 0))
theorem Bk.lt {w : World} {b : Nat} {cs : Array Value} (h : Bk w b cs) : b < w.heap.size := by obtain ⟨t, h⟩ := h; exact lt_of_block h
theorem Bk.at {w : World} {k : Nat} {cs : Array Value} {t : TypeId} (h : w.heap.size = k) : Bk (w.alloc (.cells cs t)) k cs := ⟨t, by rw [← h]; exact heap_alloc_new w _⟩
theorem Bk.old {w : World} {b : Nat} {cs : Array Value} {o : Obj} (h : Bk w b cs) : Bk (w.alloc o) b cs := by
  have hl := h.lt
  obtain ⟨t, h⟩ := h
  exact ⟨t, (Below.heap_alloc w o b hl).trans h⟩
theorem Bk.keeps {S : Nat → Prop} {w w' : World} {b : Nat} {cs : Array Value} (h : Bk w b cs) (hk : Keeps S w w') (hS : ¬ S b) : Bk w' b cs := by
  have hl := h.lt
  obtain ⟨t, h⟩ := h
  exact ⟨t, (hk.block b hl hS).trans h⟩
theorem Bk.ext {w w' : World} {b : Nat} {cs : Array Value} (h : Bk w b cs) (hE : Ext w w') : Bk w' b cs := h.keeps (S := fun _ => False) hE.keeps id
theorem Bk.cell {w : World} {b : Nat} {cs : Array Value} (h : Bk w b cs) (i : Nat) : w.cell? ⟨b, i, none⟩ = cs[i]? := by
  obtain ⟨t, h⟩ := h
  exact cell_of_row w b i cs t (0, 0) h
theorem Bk.frozen {w : World} {b : Nat} {cs : Array Value} (h : Bk w b cs) (i : Nat) : w.frozen? ⟨b, i, none⟩ = false := by
  obtain ⟨t, h⟩ := h
  simp [World.frozen?, h]
theorem Bk.set_ {w : World} {b : Nat} {cs : Array Value} (h : Bk w b cs) (i : Nat) (u : Value) : Bk (w.setCell ⟨b, i, none⟩ u) b (cs.setIfInBounds i u) := by
  obtain ⟨t, h⟩ := h
  exact ⟨t, by simp [World.setCell, Array.getElem?_modify, h]⟩
theorem Bk.far {w : World} {b : Nat} {cs : Array Value} (h : Bk w b cs) {p : Addr} (hp : b ≠ p.block) (u : Value) : Bk (w.setCell p u) b cs := by
  obtain ⟨t, h⟩ := h
  exact ⟨t, (Below.heap_setCell w p u b hp).trans h⟩
theorem Bk.drewN {w : World} {b : Nat} {cs : Array Value} (h : Bk w b cs) (n : Nat) : Bk (w.drewN n) b cs := h
theorem Bk.drew {w : World} {b : Nat} {cs : Array Value} (h : Bk w b cs) : Bk w.drew b cs := h
end Go.Proofs.YtdeiolagnheihaaDoor
namespace Go.Proofs.YtdeiolagnheihaaDoor
open Go.RowKit
set_option maxRecDepth 100000
def kb (x y z : Nat) : Value := .agg #[.int .u8 (x : Int), .int .u8 (y : Int), .int .u8 (z : Int)]
theorem kb_inj {x y z x' y' z' : Nat} (h : kb x y z = kb x' y' z') : x = x' ∧ y = y' ∧ z = z' := by
  unfold kb at h
  injection h with h
  simp at h
  omega
theorem key3_law : Maps.Keyed Tryd.prog 133 := Maps.Keyed.of_law (deep_law_laid (by kernel_rfl) (m := 5) (by decide) (of_decide_eq_true (by kernel_rfl)) (by kernel_rfl) (by kernel_rfl))
theorem key3_gen {P : Program} {K U : TypeId} (uK : P.underlying K = some (.array 3 U)) (uU : P.underlying U = some (.int .u8)) (e1 : P.keyType K = true) (e2 : P.cellsOf K = 3) (e4 : P.cellsOf U = 1) (hp : 0 < P.types.size) (x y z : Nat) (hx : x < 256) (hy : y < 256) (hz : z < 256) : ∃ l, keyOf P K (kb x y z) = some l := by
  have h1 : (Lit.int .u8 (x : Int)).wf = true := WalkArith.wf_u8 (by omega)
  have h2 : (Lit.int .u8 (y : Int)).wf = true := WalkArith.wf_u8 (by omega)
  have h3 : (Lit.int .u8 (z : Int)).wf = true := WalkArith.wf_u8 (by omega)
  obtain ⟨d, hd⟩ : ∃ d, P.types.size = d + 1 := ⟨P.types.size - 1, by omega⟩
  refine ⟨.string (keyBytes [.int .u8 (x : Int), .int .u8 (y : Int), .int .u8 (z : Int)]), ?_⟩
  unfold keyOf kb
  simp [uK, Value.formed, Value.cells, Program.keyLits, hd, h1, h2, h3, e1, e2, e4, uU, List.range, List.range.loop]
theorem key3_u : Tryd.prog.keyType 133 = true := by kernel_rfl
theorem key3_c : Tryd.prog.cellsOf 133 = 3 := by kernel_rfl
theorem key3_cu : Tryd.prog.cellsOf 5 = 1 := by kernel_rfl
theorem key3_p : 0 < Tryd.prog.types.size := of_decide_eq_true (by kernel_rfl)
theorem key3_of (x y z : Nat) (hx : x < 256) (hy : y < 256) (hz : z < 256) : ∃ l, keyOf Tryd.prog 133 (kb x y z) = some l :=
  key3_gen Tryd.underlying133 Tryd.underlying5 key3_u key3_c key3_cu key3_p x y z hx hy hz
/-- block b is a map that reads as g -/
def MB (w : World) (b : Nat) (g : Nat → Nat → Nat → Option Nat) : Prop :=
  ∃ es clock, w.heap[b]? = some (.map es clock) ∧ (∀ e ∈ es.toList, ∃ x y z n, e.key = kb x y z ∧ x < 256 ∧ y < 256 ∧ z < 256 ∧ e.val = .int .i64 ((n : Nat) : Int) ∧ g x y z = some n) ∧ (∀ x y z n, x < 256 → y < 256 → z < 256 → g x y z = some n → ∃ e ∈ es.toList, e.key = kb x y z) ∧ (∀ (i j : Nat) (d e : MapEntry), es[i]? = some d → es[j]? = some e → d.key = e.key → i = j)
theorem MB.lt {w : World} {b : Nat} {g : Nat → Nat → Nat → Option Nat} (h : MB w b g) : b < w.heap.size := by
  obtain ⟨es, clock, hb, _⟩ := h
  exact lt_of_block hb
theorem MB.keeps {S : Nat → Prop} {w w' : World} {b : Nat} {g : Nat → Nat → Nat → Option Nat} (h : MB w b g) (hk : Keeps S w w') (hS : ¬ S b) : MB w' b g := by
  have hl := h.lt
  obtain ⟨es, clock, hb, r⟩ := h
  exact ⟨es, clock, (hk.block b hl hS).trans hb, r⟩
theorem MB.ext {w w' : World} {b : Nat} {g : Nat → Nat → Nat → Option Nat} (h : MB w b g) (hE : Ext w w') : MB w' b g := h.keeps (S := fun _ => False) hE.keeps id
theorem MB.new (w : World) (g : Nat → Nat → Nat → Option Nat) (hg : ∀ x y z, g x y z = none) : MB (w.alloc (.map #[] 0)) w.heap.size g :=
  ⟨#[], 0, heap_alloc_new w _, (by simp), (fun x y z n _ _ _ h => by rw [hg] at h; cases h), (fun i j d e h => by simp at h)⟩
theorem MB.look {w : World} {b x y z : Nat} {g : Nat → Nat → Nat → Option Nat} (h : MB w b g) (hx : x < 256) (hy : y < 256) (hz : z < 256) :
    (Instr.lookup 130 (.map (some b)) (kb x y z) true).run Tryd.prog w = .ok (.tuple #[.int .i64 (((g x y z).getD 0 : Nat) : Int), .bool (g x y z).isSome]) w := by
  obtain ⟨es, clock, hb, h1, h2, h3⟩ := h
  obtain ⟨l, hl⟩ := key3_of x y z hx hy hz
  have hzv : (zeroValue 3).run Tryd.prog w = .ok (.int .i64 0) w := by kernel_rfl
  have hes : ∀ e ∈ es.toList, ∃ l, keyOf Tryd.prog 133 e.key = some l := by
    intro e he
    obtain ⟨x', y', z', n, hk', q1, q2, q3, _⟩ := h1 e he
    rw [hk']; exact key3_of x' y' z' q1 q2 q3
  have hcheck := key3_law.check w es.isEmpty hl
  rcases key3_law.find w hl es.toList hes with ⟨hf, hno⟩ | ⟨j, e, hf, hj, he⟩
  · have hg : g x y z = none := by
      cases hq : g x y z with
      | none => rfl
      | some n => obtain ⟨e, hm, hk2⟩ := h2 x y z n hx hy hz hq; exact absurd hk2 (hno e hm)
    rw [hg]
    simp [Instr.lookup, run_underlying Tryd.underlying130, MapKept.run_getObj_map hb, hcheck, hf, hzv, Result.andThen]
  · obtain ⟨x', y', z', n, hk', _, _, _, hv, hg⟩ := h1 e (List.mem_of_getElem? hj)
    obtain ⟨rfl, rfl, rfl⟩ := kb_inj (hk'.symm.trans he)
    rw [hg]
    simp [Instr.lookup, run_underlying Tryd.underlying130, MapKept.run_getObj_map hb, hcheck, hf, hv, Result.andThen]
def updB (g : Nat → Nat → Nat → Option Nat) (x y z n : Nat) : Nat → Nat → Nat → Option Nat := fun x' y' z' => if x' = x ∧ y' = y ∧ z' = z then some n else g x' y' z'
theorem MB.store {w : World} {b x y z n : Nat} {g : Nat → Nat → Nat → Option Nat} (h : MB w b g) (hx : x < 256) (hy : y < 256) (hz : z < 256) :
    ∃ w', (Instr.mapUpdate 130 (.map (some b)) (kb x y z) (.int .i64 (n : Int))).run Tryd.prog w = .ok () w' ∧ MB w' b (updB g x y z n) ∧ Keeps (fun i => i = b) w w' := by
  have hlt := h.lt
  obtain ⟨es, clock, hb, h1, h2, h3⟩ := h
  obtain ⟨l, hl⟩ := key3_of x y z hx hy hz
  have hes : ∀ e ∈ es.toList, ∃ l, keyOf Tryd.prog 133 e.key = some l := by
    intro e he
    obtain ⟨x', y', z', n, hk', q1, q2, q3, _⟩ := h1 e he
    rw [hk']; exact key3_of x' y' z' q1 q2 q3
  have hcheck := key3_law.check w false hl
  have hstay := key3_law.stays w hl
  have hset : ∀ o : Obj, (w.heap.setIfInBounds b o)[b]? = some o := by
    intro o; rw [Array.getElem?_setIfInBounds]; simp [hlt]
  have hkeep : ∀ o : Obj, Keeps (fun i => i = b) w (ChangeMaps.setBlock w b o) := fun o => ⟨rfl, rfl, rfl, by simp [ChangeMaps.setBlock], fun i hi hn => by
    show (w.heap.setIfInBounds b _)[i]? = _
    rw [Array.getElem?_setIfInBounds, if_neg (fun e => hn e.symm)]⟩
  rcases key3_law.find w hl es.toList hes with ⟨hf, hno⟩ | ⟨j, e0, hf, hj, he0⟩
  · refine ⟨ChangeMaps.setBlock w b (.map (es.push { key := kb x y z, val := .int .i64 (n : Int), born := clock }) (clock + 1)), ?_, ⟨_, _, hset _, ?_, ?_, ?_⟩, hkeep _⟩
    · simp [Instr.mapUpdate, run_underlying Tryd.underlying130, MapKept.run_getObj_map hb, hcheck, hf, MapKept.run_setObj_map _ hb, Result.andThen, ChangeMaps.setBlock]
    · intro e he
      rw [Array.toList_push, List.mem_append, List.mem_singleton] at he
      rcases he with he | rfl
      · obtain ⟨x', y', z', n', q1, q2, q3, q4, q5, q6⟩ := h1 e he
        refine ⟨x', y', z', n', q1, q2, q3, q4, q5, ?_⟩
        unfold updB
        rw [if_neg]
        · exact q6
        · rintro ⟨rfl, rfl, rfl⟩
          exact hno e he q1
      · exact ⟨x, y, z, n, rfl, hx, hy, hz, rfl, if_pos ⟨rfl, rfl, rfl⟩⟩
    · intro x' y' z' n' bx by' bz hq
      unfold updB at hq
      rw [Array.toList_push]
      by_cases hkc : x' = x ∧ y' = y ∧ z' = z
      · obtain ⟨rfl, rfl, rfl⟩ := hkc
        exact ⟨_, List.mem_append_right _ (List.mem_singleton.2 rfl), rfl⟩
      · rw [if_neg hkc] at hq
        obtain ⟨e, hm, hk2⟩ := h2 x' y' z' n' bx by' bz hq
        exact ⟨e, List.mem_append_left _ hm, hk2⟩
    · intro i j d e hi hj he
      rw [Array.getElem?_push] at hi hj
      have no : ∀ (i : Nat) (d : MapEntry), es[i]? = some d → d.key ≠ kb x y z := fun i d hi => hno d (by rw [Array.mem_toList_iff, Array.mem_iff_getElem?]; exact ⟨i, hi⟩)
      split at hi <;> split at hj
      · omega
      · injection hi with hi; subst hi; exact absurd he.symm (no j e hj)
      · injection hj with hj; subst hj; exact absurd he (no i d hi)
      · exact h3 i j d e hi hj he
  · have hje : es[j]? = some e0 := by rw [← Array.getElem?_toList]; exact hj
    refine ⟨ChangeMaps.setBlock w b (.map (es.modify j fun e => { e with key := kb x y z, val := .int .i64 (n : Int) }) clock), ?_, ⟨_, _, hset _, ?_, ?_, ?_⟩, hkeep _⟩
    · have hg0 : ((es[j]?).map (·.key)).getD (kb x y z) = kb x y z := by rw [hje]; exact he0
      simp [Instr.mapUpdate, run_underlying Tryd.underlying130, MapKept.run_getObj_map hb, hcheck, hf, hje, he0, hstay, MapKept.run_setObj_map _ hb, Result.andThen, ChangeMaps.setBlock]
    · intro e he
      rw [Array.mem_toList_iff, Array.mem_iff_getElem?] at he
      obtain ⟨i, hi⟩ := he
      rw [Array.getElem?_modify] at hi
      split at hi
      · rename_i hji
        subst hji
        rw [hje] at hi
        simp at hi
        subst hi
        exact ⟨x, y, z, n, rfl, hx, hy, hz, rfl, if_pos ⟨rfl, rfl, rfl⟩⟩
      · have hm : e ∈ es.toList := by rw [Array.mem_toList_iff, Array.mem_iff_getElem?]; exact ⟨i, hi⟩
        obtain ⟨x', y', z', n', q1, q2, q3, q4, q5, q6⟩ := h1 e hm
        by_cases hkc : x' = x ∧ y' = y ∧ z' = z
        · obtain ⟨rfl, rfl, rfl⟩ := hkc
          exact absurd (h3 j i e0 e hje hi (he0.trans q1.symm)) (by assumption)
        · exact ⟨x', y', z', n', q1, q2, q3, q4, q5, (if_neg hkc).trans q6⟩
    · intro x' y' z' n' bx by' bz hq
      unfold updB at hq
      by_cases hkc : x' = x ∧ y' = y ∧ z' = z
      · obtain ⟨rfl, rfl, rfl⟩ := hkc
        exact ⟨{ e0 with key := kb x' y' z', val := .int .i64 (n : Int) }, by rw [Array.mem_toList_iff, Array.mem_iff_getElem?]; exact ⟨j, by rw [Array.getElem?_modify, if_pos rfl, hje]; rfl⟩, rfl⟩
      · rw [if_neg hkc] at hq
        obtain ⟨e, hm, hk2⟩ := h2 x' y' z' n' bx by' bz hq
        refine ⟨e, ?_, hk2⟩
        rw [Array.mem_toList_iff, Array.mem_iff_getElem?] at hm ⊢
        obtain ⟨i, hi⟩ := hm
        refine ⟨i, ?_⟩
        rw [Array.getElem?_modify, if_neg]
        · exact hi
        · rintro rfl
          rw [hje] at hi; injection hi with hi; subst hi
          obtain ⟨a1, a2, a3⟩ := kb_inj (he0.symm.trans hk2)
          exact hkc ⟨a1.symm, a2.symm, a3.symm⟩
    · intro i k d e hi hk he
      have same : ∀ (i : Nat) (d : MapEntry), (es.modify j fun e => { e with key := kb x y z, val := .int .i64 (n : Int) })[i]? = some d → ∃ d', es[i]? = some d' ∧ d'.key = d.key := by
        intro i d hi
        rw [Array.getElem?_modify] at hi
        split at hi
        · rename_i hji
          subst hji
          rw [hje] at hi
          simp at hi
          subst hi
          exact ⟨e0, hje, he0⟩
        · exact ⟨d, hi, rfl⟩
      obtain ⟨d', a1, a2⟩ := same i d hi
      obtain ⟨e', b1, b2⟩ := same k e hk
      exact h3 i k d' e' a1 b1 (a2.trans (he.trans b2.symm))
end Go.Proofs.YtdeiolagnheihaaDoor
namespace Go.Proofs.YtdeiolagnheihaaDoor
open Go.RowKit
set_option maxRecDepth 100000
def byt (s : ByteArray) (i : Nat) : Nat := (s.data.toList.getD i 0).toNat
theorem byt_at (s : ByteArray) (i : Nat) (h : i < s.size) : byt s i = s[i].toNat := by
  have h' : i < s.data.toList.length := by show i < s.data.toList.length; simpa using h
  unfold byt
  rw [List.getD, List.getElem?_eq_getElem h']; simp; rfl
theorem byt_lt (s : ByteArray) (i : Nat) : byt s i < 256 := UInt8.toNat_lt _
def cI : Option Nat → Int
  | none => -1
  | some k => (k : Int)
/-- where the three bytes at i stood last -/
def prO (s : ByteArray) (i : Nat) : Option Nat := Mt.prv (byt s) (byt s i) (byt s (i + 1)) (byt s (i + 2)) i
structure FSt (w : World) (B mp ab : Nat) (s : ByteArray) (wd tries : Int) (q : Nat) : Prop where
  bk : Bk w B #[.string s, .int .i64 wd, .map (some mp), .slice (some ⟨ab, 0, none⟩) s.size s.size, .int .i64 tries]
  mm : MB w mp (fun x y z => Mt.prv (byt s) x y z q)
  ah : ∀ i, i < s.size → ∃ v : Int, w.cell? ⟨ab, i, none⟩ = some (.int .i64 v) ∧ w.frozen? ⟨ab, i, none⟩ = false ∧ (i < q → v = cI (prO s i))
  n1 : B ≠ mp
  n2 : B ≠ ab
  n3 : mp ≠ ab
  al : ab < w.heap.size
theorem FSt.keeps {S : Nat → Prop} {w w' : World} {B mp ab q : Nat} {s : ByteArray} {wd tries : Int} (h : FSt w B mp ab s wd tries q) (hk : Keeps S w w') (h1 : ¬ S B) (h2 : ¬ S mp) (h3 : ¬ S ab) : FSt w' B mp ab s wd tries q :=
  ⟨h.bk.keeps hk h1, h.mm.keeps hk h2, fun i hi => by
    obtain ⟨v, a, b, c⟩ := h.ah i hi
    exact ⟨v, (hk.cell (p := ⟨ab, i, none⟩) h.al h3).trans a, (hk.frozen (p := ⟨ab, i, none⟩) h.al h3).trans b, c⟩, h.n1, h.n2, h.n3, Nat.lt_of_lt_of_le h.al hk.size⟩
theorem FSt.ext {w w' : World} {B mp ab q : Nat} {s : ByteArray} {wd tries : Int} (h : FSt w B mp ab s wd tries q) (hE : Ext w w') : FSt w' B mp ab s wd tries q := h.keeps (S := fun _ => False) hE.keeps id id id
/-- a store into the row of the places ahead, at a place that says nothing yet -/
theorem FSt.setA {w : World} {B mp ab q a : Nat} {s : ByteArray} {wd tries : Int} (h : FSt w B mp ab s wd tries q) (hq : q ≤ a) (ha : a < s.size) (v : Int) :
    FSt (w.setCell ⟨ab, a, none⟩ (.int .i64 v)) B mp ab s wd tries q ∧ (w.setCell ⟨ab, a, none⟩ (.int .i64 v)).cell? ⟨ab, a, none⟩ = some (.int .i64 v) ∧ Keeps (fun k => k = mp ∨ k = ab) w (w.setCell ⟨ab, a, none⟩ (.int .i64 v)) := by
  have hk : Keeps (fun k => k = ab) w (w.setCell ⟨ab, a, none⟩ (.int .i64 v)) := (Keeps.refl (fun k => k = ab) w).setCell (.inl rfl) _
  obtain ⟨u, hu, hf, _⟩ := h.ah a ha
  have hsame : (w.setCell ⟨ab, a, none⟩ (.int .i64 v)).cell? ⟨ab, a, none⟩ = some (.int .i64 v) := World.cell?_setCell_same _ _ _ hu
  refine ⟨⟨h.bk.keeps hk h.n2, h.mm.keeps hk h.n3, fun i hi => ?_, h.n1, h.n2, h.n3, by have := hk.size; have := h.al; omega⟩, hsame, hk.mono fun _ _ e => .inr e⟩
  by_cases e : i = a
  · subst e
    exact ⟨v, hsame, by rw [World.frozen?_setCell]; exact hf, fun hi => by omega⟩
  · obtain ⟨u2, hu2, hf2, r⟩ := h.ah i hi
    exact ⟨u2, (World.cell?_setCell_other _ _ _ _ (by intro q; injection q with _ q; exact e q.symm)).trans hu2, by rw [World.frozen?_setCell]; exact hf2, r⟩
theorem FSt.close {w w' : World} {B mp ab a : Nat} {s : ByteArray} {wd tries : Int} (h : FSt w B mp ab s wd tries a) (_ha : a < s.size) (hc : w.cell? ⟨ab, a, none⟩ = some (.int .i64 (cI (prO s a))))
    (hm : MB w' mp (updB (fun x y z => Mt.prv (byt s) x y z a) (byt s a) (byt s (a + 1)) (byt s (a + 2)) a)) (hk : Keeps (fun k => k = mp) w w') : FSt w' B mp ab s wd tries (a + 1) := by
  refine ⟨h.bk.keeps hk h.n1, ?_, fun i hi => ?_, h.n1, h.n2, h.n3, by have := hk.size; have := h.al; omega⟩
  · have e : (fun x y z => Mt.prv (byt s) x y z (a + 1)) = updB (fun x y z => Mt.prv (byt s) x y z a) (byt s a) (byt s (a + 1)) (byt s (a + 2)) a := by
      funext x y z
      simp only [Mt.prv, updB]
      by_cases q : byt s a = x ∧ byt s (a + 1) = y ∧ byt s (a + 2) = z
      · rw [if_pos q, if_pos ⟨q.1.symm, q.2.1.symm, q.2.2.symm⟩]
      · rw [if_neg q, if_neg (fun r => q ⟨r.1.symm, r.2.1.symm, r.2.2.symm⟩)]
    rw [e]; exact hm
  · obtain ⟨v, a1, a2, a3⟩ := h.ah i hi
    refine ⟨v, (hk.cell (p := ⟨ab, i, none⟩) h.al (fun e => h.n3 e.symm)).trans a1, (hk.frozen (p := ⟨ab, i, none⟩) h.al (fun e => h.n3 e.symm)).trans a2, fun hq => ?_⟩
    rcases Nat.lt_or_ge i a with r | r
    · exact a3 r
    · obtain rfl : i = a := by omega
      rw [hc] at a1
      injection a1 with a1; injection a1 with _ a1
      exact a1.symm
structure FC (w : World) (B mp ab : Nat) (s : ByteArray) (wd tries : Int) (a : Nat) (v : Int) : Prop where
  st : FSt w B mp ab s wd tries a
  c : w.cell? ⟨ab, a, none⟩ = some (.int .i64 v)
theorem FC.ext {w w' : World} {B mp ab a : Nat} {s : ByteArray} {wd tries v : Int} (h : FC w B mp ab s wd tries a v) (hE : Ext w w') : FC w' B mp ab s wd tries a v :=
  ⟨h.st.ext hE, (hE.keeps (S := fun _ => False) |>.cell (p := ⟨ab, a, none⟩) h.st.al id).trans h.c⟩
def KP (mp ab : Nat) (w w' : World) : Prop := Keeps (fun k => k = mp ∨ k = ab) w w'
theorem KP.trans {mp ab : Nat} {a b c : World} (h : KP mp ab a b) (k : Ext b c) : KP mp ab a c := Keeps.trans h k.keeps (fun _ _ e => e)
theorem KP.more {mp ab : Nat} {a b c : World} (h : KP mp ab a b) (k : Keeps (fun k => k = mp) b c) : KP mp ab a c := Keeps.trans h k (fun _ _ e => .inl e)
theorem KP.both {mp ab : Nat} {a b c : World} (h : KP mp ab a b) (k : KP mp ab b c) : KP mp ab a c := Keeps.trans h k (fun _ _ e => e)
theorem wrapi {x : Int} (h : -9223372036854775808 ≤ x) (h' : x ≤ 9223372036854775807) : IntKind.i64.wrap x = x := by unfold IntKind.wrap; simp [IntKind.bits, IntKind.signed]; omega
end Go.Proofs.YtdeiolagnheihaaDoor
namespace Go.Proofs.YtdeiolagnheihaaDoor
open Go.RowKit
@[irreducible] def cellsI (k : IntKind) (n : Nat) (f : Nat → Int) : Array Value := (List.map (fun i : Nat => Value.int k (f i)) (List.range n)).toArray
theorem cellsI_get (k : IntKind) (n : Nat) (f : Nat → Int) (i : Nat) (h : i < n) : (cellsI k n f)[i]? = some (.int k (f i)) := by
  unfold cellsI; simp [h]
@[go_sem] theorem cellsI_size (k : IntKind) (n : Nat) (f : Nat → Int) : (cellsI k n f).size = n := by unfold cellsI; simp
@[go_sem] theorem cellsI_getElem (k : IntKind) (n : Nat) (f : Nat → Int) (i : Nat) (h : i < (cellsI k n f).size) : (cellsI k n f)[i] = .int k (f i) := by
  have e1 := cellsI_get k n f i (by rw [← cellsI_size k n f]; exact h)
  rw [Array.getElem?_eq_getElem h] at e1
  exact Option.some.inj e1
theorem cellsI_set (k : IntKind) (n : Nat) (f : Nat → Int) (j : Nat) (x : Int) (g : Nat → Int) (hg : ∀ i, i < n → g i = if i = j then x else f i) : (cellsI k n f).setIfInBounds j (.int k x) = cellsI k n g := by
  apply Array.ext
  · simp [cellsI_size]
  · intro i h1 h2
    have h3 : i < n := by simpa [cellsI_size] using h2
    have e2 := cellsI_get k n g i h3
    have e1 := cellsI_get k n f i h3
    rw [Array.getElem?_eq_getElem h2] at e2
    rw [Array.getElem?_eq_getElem (by rw [cellsI_size]; exact h3)] at e1
    rw [Option.some_inj] at e1 e2
    rw [Array.getElem_setIfInBounds (by rw [cellsI_size]; exact h3), e2, e1, hg i h3]
    by_cases hij : j = i
    · subst hij; simp
    · rw [if_neg hij, if_neg (fun e => hij e.symm)]
theorem cellsI_zero (k : IntKind) (n : Nat) : Array.replicate n (Value.int k 0) = cellsI k n (fun _ => 0) := by
  unfold cellsI; apply Array.ext
  · simp
  · intro i h1 h2; simp
theorem cells16_eq (k : IntKind) (F : Nat → Int) : cellsI k 16 F = #[.int k (F 0), .int k (F 1), .int k (F 2), .int k (F 3), .int k (F 4), .int k (F 5), .int k (F 6), .int k (F 7), .int k (F 8), .int k (F 9), .int k (F 10), .int k (F 11), .int k (F 12), .int k (F 13), .int k (F 14), .int k (F 15)] := by unfold cellsI; rfl
theorem cellsI_same (k : IntKind) (n : Nat) (F : Nat → Int) (j : Nat) (v : Value) (hv : v = .int k (F j)) : (cellsI k n F).setIfInBounds j v = cellsI k n F := by
  rw [hv]; exact cellsI_set k n F j (F j) F (fun i _ => by by_cases h : i = j <;> simp [h])
/-- a row of cells of one kind, none frozen -/
def Cs (w : World) (B n : Nat) (k : IntKind) (g : Nat → Int) : Prop := ∀ i, i < n → w.cell? ⟨B, i, none⟩ = some (.int k (g i)) ∧ w.frozen? ⟨B, i, none⟩ = false
theorem Cs.congr {w : World} {B n : Nat} {k : IntKind} {g g' : Nat → Int} (h : Cs w B n k g) (hg : ∀ i, i < n → g' i = g i) : Cs w B n k g' := by
  intro i hi; rw [hg i hi]; exact h i hi
theorem Cs.put {w : World} {B n : Nat} {k : IntKind} {g : Nat → Int} (h : Cs w B n k g) (j : Nat) (x : Int) (g' : Nat → Int) (hj : j < n) (hg : ∀ i, i < n → g' i = if i = j then x else g i) : Cs (w.setCell ⟨B, j, none⟩ (.int k x)) B n k g' := by
  intro i hi
  obtain ⟨h1, h2⟩ := h i hi
  rw [hg i hi, World.frozen?_setCell]
  refine ⟨?_, h2⟩
  by_cases e : i = j
  · subst e; rw [if_pos rfl]; exact World.cell?_setCell_same _ _ _ h1
  · rw [if_neg e]; exact (World.cell?_setCell_other _ _ _ _ (by intro q; injection q with _ q2; exact e q2.symm)).trans h1
theorem Cs.other {w : World} {B n : Nat} {k : IntKind} {g : Nat → Int} (h : Cs w B n k g) (p : Addr) (v : Value) (hp : p.block ≠ B) : Cs (w.setCell p v) B n k g := by
  intro i hi
  obtain ⟨h1, h2⟩ := h i hi
  rw [World.frozen?_setCell]
  exact ⟨(World.cell?_setCell_other _ _ _ _ (by intro q; rw [q] at hp; exact hp rfl)).trans h1, h2⟩
theorem Cs.drew {w : World} {B n : Nat} {k : IntKind} {g : Nat → Int} (h : Cs w B n k g) : Cs w.drew B n k g := h
theorem Cs.alloc {w : World} {B n : Nat} {k : IntKind} {g : Nat → Int} (h : Cs w B n k g) (hB : B < w.heap.size) (o : Obj) : Cs (w.alloc o) B n k g := by
  intro i hi
  rw [World.cell?_alloc_past _ _ _ hB, World.frozen?_alloc_past _ _ _ hB]; exact h i hi
theorem Cs.born (w : World) (k : IntKind) (n : Nat) (g : Nat → Int) (t : TypeId) : Cs (w.alloc (.cells (cellsI k n g) t)) w.heap.size n k g := by
  intro i hi
  rw [World.cell?_alloc_at _ _ _ _ rfl, World.frozen?_alloc_at _ _ _ _ rfl]; exact ⟨cellsI_get k n g i hi, rfl⟩
theorem made_eq (k : IntKind) (n : Nat) : madeCells #[Value.int k 0] n = cellsI k n (fun _ => 0) := by
  apply Array.ext
  · rw [size_madeCells, cellsI_size]
  · intro i h1 h2
    rw [cellsI_getElem]; simp [madeCells, Nat.mod_one]
theorem still_of {P : Program} {f : Nat} {args : Array Value} {w : World} {v : Value} (h : Calls P f args w fun e w' => e = .returned v ∧ w = w') : Calls P f args w fun e w' => e = .returned v ∧ w' = w :=
  h.mono fun _ _ ⟨a, b⟩ => ⟨a, b.symm⟩
end Go.Proofs.YtdeiolagnheihaaDoor
namespace Go.Proofs.YtdeiolagnheihaaDoor
open Go.RowKit
/-- a row of cells, none frozen -/
def Cv (w : World) (B n : Nat) (g : Nat → Value) : Prop := ∀ i, i < n → w.cell? ⟨B, i, none⟩ = some (g i) ∧ w.frozen? ⟨B, i, none⟩ = false
theorem Cv.congr {w : World} {B n : Nat} {g g' : Nat → Value} (h : Cv w B n g) (hg : ∀ i, i < n → g' i = g i) : Cv w B n g' := by
  intro i hi; rw [hg i hi]; exact h i hi
theorem Cv.put {w : World} {B n : Nat} {g : Nat → Value} (h : Cv w B n g) (j : Nat) (x : Value) (g' : Nat → Value) (hj : j < n) (hg : ∀ i, i < n → g' i = if i = j then x else g i) : Cv (w.setCell ⟨B, j, none⟩ x) B n g' := by
  intro i hi
  obtain ⟨h1, h2⟩ := h i hi
  rw [hg i hi, World.frozen?_setCell]
  refine ⟨?_, h2⟩
  by_cases e : i = j
  · subst e; rw [if_pos rfl]; exact World.cell?_setCell_same _ _ _ h1
  · rw [if_neg e]; exact (World.cell?_setCell_other _ _ _ _ (by intro q; injection q with _ q2; exact e q2.symm)).trans h1
theorem Cv.keeps {w w' : World} {B n : Nat} {g : Nat → Value} {S : Nat → Prop} (h : Cv w B n g) (hk : Keeps S w w') (hB : ¬ S B) : Cv w' B n g := by
  intro i hi
  obtain ⟨h1, h2⟩ := h i hi
  have hlt : B < w.heap.size := World.block_lt_of_cell? w _ h1
  exact ⟨(hk.cell (p := ⟨B, i, none⟩) hlt hB).trans h1, (hk.frozen (p := ⟨B, i, none⟩) hlt hB).trans h2⟩
theorem Cv.ext {w w' : World} {B n : Nat} {g : Nat → Value} (h : Cv w B n g) (hE : Ext w w') : Cv w' B n g := h.keeps (S := fun _ => False) hE.keeps id
theorem Cv.drew {w : World} {B n : Nat} {g : Nat → Value} (h : Cv w B n g) : Cv w.drew B n g := h
theorem Cv.drewN {w : World} {B n : Nat} {g : Nat → Value} (h : Cv w B n g) (m : Nat) : Cv (w.drewN m) B n g := h
theorem Cv.made (w : World) (n : Nat) (z : Value) (t : TypeId) : Cv (w.alloc (.cells (madeCells #[z] n) t)) w.heap.size n (fun _ => z) := by
  intro i hi
  rw [World.cell?_alloc_at _ _ _ _ rfl, World.frozen?_alloc_at _ _ _ _ rfl]
  refine ⟨?_, rfl⟩
  have hs : i < (madeCells #[z] n).size := by rw [size_madeCells]; simpa using hi
  rw [Array.getElem?_eq_getElem hs]
  simp [madeCells, Nat.mod_one]
theorem Cv.of_cs {w : World} {B n : Nat} {k : IntKind} {g : Nat → Int} (h : Cs w B n k g) : Cv w B n (fun i => .int k (g i)) := h
end Go.Proofs.YtdeiolagnheihaaDoor
namespace Go.Proofs.YtdeiolagnheihaaDoor
open Go.RowKit
set_option maxRecDepth 100000
theorem mi64info : (Tryd.prog.info? 3).map (fun i => (i.zero, i.size, i.bytes)) = some (some (.int .i64 0), 1, 8) := by kernel_rfl
def badB (s : ByteArray) (wd : Int) : Bool := decide (300000 < s.size ∨ wd < 1 ∨ 32768 < wd)
theorem mbad_any (s : ByteArray) (wd : Int) (w : World) (hs : s.size ≤ maxLen) :
    Calls Tryd.prog 55 #[.string s, .int .i64 wd] w fun e w' => e = .returned (.bool (badB s wd)) ∧ w' = w := by
  unfold maxLen at hs
  by_cases h1 : (300000 : Int) < (s.size : Int)
  · have t1 : decide ((300000 : Int) < (s.size : Int)) = true := decide_eq_true h1
    go_enter Tryd.func55, Tryd.ntmps55
    go_wp2_with fail
    go_ret
    exact ⟨ret_bool (by unfold badB; simp; omega), rfl⟩
  · have t1 : decide ((300000 : Int) < (s.size : Int)) = false := decide_eq_false h1
    by_cases h2 : wd < 1
    · have t2 : decide (wd < 1) = true := decide_eq_true h2
      go_enter Tryd.func55, Tryd.ntmps55
      go_wp2_with fail
      go_ret
      exact ⟨ret_bool (by unfold badB; simp; omega), rfl⟩
    · have t2 : decide (wd < 1) = false := decide_eq_false h2
      by_cases h3 : 32768 < wd
      · have t3 : decide (32768 < wd) = true := decide_eq_true h3
        go_enter Tryd.func55, Tryd.ntmps55
        go_wp2_with fail
        go_ret
        exact ⟨ret_bool (by unfold badB; simp; omega), rfl⟩
      · have t3 : decide (32768 < wd) = false := decide_eq_false h3
        go_enter Tryd.func55, Tryd.ntmps55
        go_wp2_with fail
        go_ret
        exact ⟨ret_bool (by unfold badB; simp; omega), rfl⟩
theorem newFinder_any (s : ByteArray) (wd tries : Int) (w : World) (hs : s.size ≤ 300000) :
    Calls Tryd.prog 56 #[.string s, .int .i64 wd, .int .i64 tries] w fun e w' => ∃ B mp ab, e = .returned (.pointer (some ⟨B, 0, none⟩)) ∧ FSt w' B mp ab s wd tries 0 ∧ Ext w w' ∧ w.heap.size ≤ B ∧ w.heap.size ≤ mp ∧ w.heap.size ≤ ab := by
  have hmm := @run_makeMap Tryd.prog
  have hmk := run_make_row' (P := Tryd.prog) 59 3 (.int .i64 0) 8 Tryd.underlying59 mi64info rfl .i64 .i64 s.size (by omega) (by omega)
  go_enter Tryd.func56, Tryd.ntmps56
  go_wp2_with fail
  go_ret
  have hM := MB.new w (fun x y z => Mt.prv (byt s) x y z 0) (fun _ _ _ => rfl)
  have hC := Cv.made (w.alloc (.map #[] 0)) s.size (.int .i64 0) 3
  refine ⟨w.heap.size + 1 + 1, w.heap.size, w.heap.size + 1, rfl, ⟨Bk.at (by simp), ?_, ?_, by omega, by omega, by omega, by simp⟩, ?_, by omega, by omega, by omega⟩
  · exact (hM.ext ((Ext.refl _).alloc _)).ext ((Ext.refl _).alloc _)
  · intro i hi
    obtain ⟨a, b⟩ := (hC.ext ((Ext.refl _).alloc _)) i hi
    exact ⟨0, (by simpa using a), (by simpa using b), fun h => by omega⟩
  · exact ((Ext.refl _).alloc _).alloc _ |>.alloc _
end Go.Proofs.YtdeiolagnheihaaDoor
namespace Go.Proofs.YtdeiolagnheihaaDoor
open Go.RowKit
theorem anyH_world {P : Program} {md : Region.Mode} {ops : Array Oper} {Q : Exit → Act → World → Prop} {S : World → Prop} {fuel : Nat} {listed : Array Bool} {a : Act} {W : World} (F : World → Prop) (h1 : F W) (h2 : ∀ wz, F wz → wpAnyH P md ops Q S fuel listed a wz) : wpAnyH P md ops Q S fuel listed a W := h2 W h1
end Go.Proofs.YtdeiolagnheihaaDoor
