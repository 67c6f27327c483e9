/-
  Plain law of pixels over pixels: the numbers. No program in sight.
  Small laws on memory: which blocks a call may have turned. No function of the program is named.
  Pixels as four numbers. No function of the program is named.
  Rows of cells of whole numbers of one kind: arrays and slices that a call made. No function of the program is named.
  Blocks that are known whole: variables that a call made. No function of the program is named.
  Rows of pixels as they lie in memory. No function of the program is named.
  errors.Is at a sentinel: of a sentinel, of an api.Fault that bears one. The library's own text is walked.
  errors.As at a target of type **api.Fault: of nil, of a sentinel, of an api.Fault. The library's own text is walked.
  Arguments and package variables, opened to cells: slices of records, sentinels of errors.
-/
import Derived.Test.YtkfjcgcgfdibaaaDoorProg
import Derived.WalkKit
import Derived.WalkSpells
import Derived.WalkSmall
import Derived.Lib.Hide
import Derived.Deep.QuietTactic
import Derived.BigQuiet
import Derived.RegionTactic
import Derived.WalkLawsBesides
import Derived.Maps.AppendAt
import Derived.Deep.WholeRow
import Derived.Deep.OwnRows
import Derived.Deep.AppendLies
import Derived.Deep.RegionHeld3
import Derived.Deep.DrawnRows
import Derived.IntWalk
import Derived.Outline
import Derived.LaidEql
import Derived.Stop.Asserts
import Derived.RowKitTokens
import Derived.Deep.Fields
import Derived.Stop.LaidErr
import Derived.LaidSub
import Derived.ProofKit
import Derived.OpenShut
namespace Pix
/-- 255 times what two colors make, by mode -/
def blend (mode s d : Int) : Int :=
  if mode = 0 then 255 * s else if mode = 1 then s * d else if mode = 2 then 255 * (s + d) - s * d
  else if mode = 3 then 255 * min s d else if mode = 4 then 255 * max s d else 255 * max (s - d) (d - s)
/-- a part of two numbers, halves up, as a byte -/
def rnd (n of : Int) : Int := (2 * n + of) / (2 * of) % 256
def covers (a b : Int) : Int := 255 * a + b * (255 - a)
def num (mode a b s d : Int) : Int := 255 * (a * (255 - b) * s + b * (255 - a) * d) + a * b * blend mode s d
def color (mode a b s d : Int) : Int := rnd (num mode a b s d) (255 * covers a b)
def Byte (x : Int) : Prop := 0 ≤ x ∧ x ≤ 255
theorem mul_bd {x y X Y : Int} (hx0 : 0 ≤ x) (hx : x ≤ X) (hy0 : 0 ≤ y) (hy : y ≤ Y) : 0 ≤ x * y ∧ x * y ≤ X * Y :=
  ⟨Int.mul_nonneg hx0 hy0, Int.mul_le_mul hx hy hy0 (by omega)⟩
theorem blend_bd {m s d : Int} (hs : Byte s) (hd : Byte d) : 0 ≤ blend m s d ∧ blend m s d ≤ 65025 := by
  obtain ⟨s0, s1⟩ := hs; obtain ⟨d0, d1⟩ := hd
  have h := mul_bd s0 s1 d0 d1
  have h2 : (255 - s) * (255 - d) = 255 * 255 - 255 * d - 255 * s + s * d := by
    rw [Int.sub_mul, Int.mul_sub, Int.mul_sub]; omega
  have h3 := mul_bd (show 0 ≤ 255 - s by omega) (show 255 - s ≤ 255 by omega) (show 0 ≤ 255 - d by omega) (show 255 - d ≤ 255 by omega)
  unfold blend
  repeat' split
  all_goals omega
theorem covers_bd {a b : Int} (ha : Byte a) (hb : Byte b) : 0 ≤ covers a b ∧ covers a b ≤ 65025 := by
  obtain ⟨a0, a1⟩ := ha; obtain ⟨b0, b1⟩ := hb
  have h := mul_bd b0 b1 (show 0 ≤ 255 - a by omega) (show 255 - a ≤ 255 - a by omega)
  unfold covers; omega
theorem covers_comm (a b : Int) : covers a b = covers b a := by
  unfold covers; rw [Int.mul_sub, Int.mul_sub, Int.mul_comm b a]; omega
theorem covers_pos {a b : Int} (ha : Byte a) (hb : Byte b) (h : covers a b ≠ 0) : 1 ≤ covers a b := by
  have := (covers_bd ha hb).1; omega
theorem rnd_exact (q of : Int) (hof : 1 ≤ of) (hq : Byte q) : rnd (q * of) of = q := by
  unfold rnd
  have e : (2 * (q * of) + of) = of + q * (2 * of) := by
    rw [show q * (2 * of) = 2 * (q * of) by rw [← Int.mul_assoc, Int.mul_comm q 2, Int.mul_assoc]]; omega
  rw [e, Int.add_mul_ediv_right _ _ (by omega), Int.ediv_eq_zero_of_lt (by omega) (by omega)]
  obtain ⟨q0, q1⟩ := hq; omega
theorem rnd_byte (n of : Int) : Byte (rnd n of) := by unfold rnd Byte; omega
theorem rnd_of_le {n of B : Int} (hof : 1 ≤ of) (h0 : 0 ≤ n) (hB : n ≤ B * of) (hB1 : B ≤ 255) : rnd n of = (2 * n + of) / (2 * of) ∧ (2 * n + of) / (2 * of) ≤ B := by
  have h1 : (2 * n + of) / (2 * of) ≤ B := by
    have : 2 * n + of < (B + 1) * (2 * of) := by rw [Int.add_mul, show B * (2 * of) = 2 * (B * of) by rw [← Int.mul_assoc, Int.mul_comm B 2, Int.mul_assoc]]; omega
    have := Int.ediv_lt_of_lt_mul (by omega) this
    omega
  have h2 : 0 ≤ (2 * n + of) / (2 * of) := Int.ediv_nonneg (by omega) (by omega)
  exact ⟨by unfold rnd; omega, h1⟩
theorem rnd_ge {n of q : Int} (hof : 1 ≤ of) (h0 : 0 ≤ n) (hB : n ≤ 255 * of) (hq : q * of ≤ n) : q ≤ rnd n of := by
  rw [(rnd_of_le hof h0 hB (by omega)).1]
  refine (Int.le_ediv_iff_mul_le (by omega)).2 ?_
  rw [show q * (2 * of) = 2 * (q * of) by rw [← Int.mul_assoc, Int.mul_comm q 2, Int.mul_assoc]]; omega
/-- over nothing -/
theorem over_none (m a s : Int) (ha : 1 ≤ a) (ha1 : a ≤ 255) (hs : Byte s) : color m a 0 s 0 = s := by
  unfold color num covers
  simp only [Int.mul_zero, Int.zero_mul, Int.add_zero, Int.sub_zero]
  rw [show (255 : Int) * (a * 255 * s) = s * (255 * (255 * a)) by rw [Int.mul_comm a 255, Int.mul_comm s, Int.mul_assoc 255 (255 * a) s]]
  exact rnd_exact _ _ (by omega) hs
/-- under nothing -/
theorem under_none (m b d : Int) (hb : 1 ≤ b) (hb1 : b ≤ 255) (hd : Byte d) : color m 0 b 0 d = d := by
  unfold color num covers
  rw [Int.zero_mul, Int.zero_mul, Int.zero_mul, Int.zero_mul, Int.add_zero, Int.zero_add, Int.mul_zero, Int.zero_add]
  rw [show (255 : Int) * (b * (255 - 0) * d) = d * (255 * (b * (255 - 0))) by rw [Int.mul_comm d, Int.mul_assoc 255]]
  exact rnd_exact _ _ (by omega) hd
/-- what covers all hides all -/
theorem full_hides (b s d : Int) (hb : Byte b) (hs : Byte s) : color 0 255 b s d = s := by
  unfold color num covers blend
  obtain ⟨b0, b1⟩ := hb
  rw [if_pos rfl, show (255 - 255 : Int) = 0 by decide, Int.mul_zero, Int.zero_mul, Int.add_zero, Int.add_zero]
  have e : (255 : Int) * (255 * (255 - b) * s) + 255 * b * (255 * s) = s * (255 * (255 * 255)) := by
    rw [show (255 : Int) * (255 - b) = 255 * 255 - 255 * b by omega, Int.sub_mul, Int.mul_sub, show (255 : Int) * b * (255 * s) = 255 * (255 * b * s) by rw [← Int.mul_assoc, Int.mul_comm (255 * b) 255, Int.mul_assoc]]; omega
  rw [e]
  exact rnd_exact _ _ (by omega) hs
theorem blend_comm (m s d : Int) (h : m ≠ 0) : blend m s d = blend m d s := by
  unfold blend
  rw [if_neg h, if_neg h]
  repeat' split
  · rw [Int.mul_comm]
  · rw [Int.mul_comm s d, Int.add_comm s d]
  · rw [Int.min_comm]
  · rw [Int.max_comm]
  · rw [Int.max_comm]
theorem color_comm (m a s d : Int) (h : m ≠ 0) : color m a a s d = color m a a d s := by
  unfold color num
  rw [blend_comm m s d h, Int.add_comm (a * (255 - a) * s)]
theorem alpha_ge (a b : Int) (ha : Byte a) (hb : Byte b) : a ≤ rnd (covers a b) 255 := by
  have hc := covers_bd ha hb
  refine rnd_ge (by omega) hc.1 (by omega) ?_
  obtain ⟨a0, a1⟩ := ha; obtain ⟨b0, b1⟩ := hb
  have h := mul_bd b0 b1 (show 0 ≤ 255 - a by omega) (show 255 - a ≤ 255 by omega)
  unfold covers; omega
theorem num_bd {m a b s d : Int} (ha : Byte a) (hb : Byte b) (hs : Byte s) (hd : Byte d) : 0 ≤ num m a b s d ∧ num m a b s d ≤ 255 * (255 * covers a b) := by
  obtain ⟨a0, a1⟩ := ha; obtain ⟨b0, b1⟩ := hb
  have p1 := mul_bd a0 (Int.le_refl a) (show 0 ≤ 255 - b by omega) (Int.le_refl (255 - b))
  have p2 := mul_bd b0 (Int.le_refl b) (show 0 ≤ 255 - a by omega) (Int.le_refl (255 - a))
  have p3 := mul_bd a0 (Int.le_refl a) b0 (Int.le_refl b)
  have q1 := mul_bd p1.1 p1.2 hs.1 hs.2
  have q2 := mul_bd p2.1 p2.2 hd.1 hd.2
  have q3 := mul_bd p3.1 p3.2 (blend_bd (m := m) hs hd).1 (blend_bd (m := m) hs hd).2
  have e1 : a * (255 - b) = 255 * a - a * b := by rw [Int.mul_sub, Int.mul_comm a 255]
  have e2 : b * (255 - a) = 255 * b - a * b := by rw [Int.mul_sub, Int.mul_comm b 255, Int.mul_comm b a]
  unfold num covers
  omega
end Pix
namespace Go.Proofs.YtkfjcgcgfdibaaaDoor
open Go.RowKit
/-- of the blocks that were there only those in S may have turned -/
structure Keeps (S : Nat → Prop) (w w' : World) : Prop where
  os : w'.os = w.os
  tape : w'.tape = w.tape
  output : w'.output = w.output
  size : w.heap.size ≤ w'.heap.size
  block : ∀ k, k < w.heap.size → ¬ S k → w'.heap[k]? = w.heap[k]?
theorem Keeps.refl (S : Nat → Prop) (w : World) : Keeps S w w := ⟨rfl, rfl, rfl, Nat.le_refl _, fun _ _ _ => rfl⟩
theorem Keeps.trans {S S' : Nat → Prop} {a b c : World} (h : Keeps S a b) (k : Keeps S' b c) (hs : ∀ i, i < a.heap.size → S' i → S i) : Keeps S a c :=
  ⟨k.os.trans h.os, k.tape.trans h.tape, k.output.trans h.output, Nat.le_trans h.size k.size,
    fun i hi hn => (k.block i (Nat.lt_of_lt_of_le hi h.size) fun q => hn (hs i hi q)).trans (h.block i hi hn)⟩
theorem Keeps.mono {S S' : Nat → Prop} {a b : World} (h : Keeps S a b) (hs : ∀ i, i < a.heap.size → S i → S' i) : Keeps S' a b :=
  ⟨h.os, h.tape, h.output, h.size, fun i hi hn => h.block i hi fun q => hn (hs i hi q)⟩
theorem Keeps.grown {a b : World} {row : Option Nat} (h : a.grownBy b row) : Keeps (fun k => row = some k) a b :=
  ⟨h.os, h.tape, h.output, h.size, fun i hi hn => h.block i hi fun e => hn e.symm⟩
theorem Keeps.alloc {S : Nat → Prop} {a b : World} (h : Keeps S a b) (o : Obj) : Keeps S a (b.alloc o) :=
  ⟨h.os, h.tape, h.output, by have := h.size; simp; omega, fun i hi hn => (Below.heap_alloc _ _ _ (Nat.lt_of_lt_of_le hi h.size)).trans (h.block i hi hn)⟩
theorem Keeps.drewN {S : Nat → Prop} {a b : World} (h : Keeps S a b) (n : Nat) : Keeps S a (b.drewN n) := ⟨h.os, h.tape, h.output, h.size, h.block⟩
theorem Keeps.drew {S : Nat → Prop} {a b : World} (h : Keeps S a b) : Keeps S a b.drew := ⟨h.os, h.tape, h.output, h.size, h.block⟩
theorem Keeps.setCell {S : Nat → Prop} {a b : World} (h : Keeps S a b) {p : Addr} (hp : S p.block ∨ a.heap.size ≤ p.block) (u : Value) : Keeps S a (b.setCell p u) :=
  ⟨h.os, h.tape, h.output, by simpa using h.size, fun i hi hn => (Below.heap_setCell _ _ _ _ (fun e => by subst e; rcases hp with hp | hp; exact hn hp; omega)).trans (h.block i hi hn)⟩
theorem Keeps.below {S : Nat → Prop} {a b : World} (h : Keeps S a b) {B : Nat} (hB : B ≤ a.heap.size) (hs : ∀ k, k < B → ¬ S k) : Below B a b :=
  ⟨h.os, h.tape, h.output, h.size, fun k hk => h.block k (by omega) (hs k hk)⟩
theorem Keeps.of_below {B : Nat} {a b : World} (h : Below B a b) : Keeps (fun k => B ≤ k) a b :=
  ⟨h.os, h.tape, h.output, h.size, fun k _ hn => h.block k (by omega)⟩
theorem Keeps.cell {S : Nat → Prop} {a b : World} (h : Keeps S a b) {p : Addr} (hp : p.block < a.heap.size) (hn : ¬ S p.block) : b.cell? p = a.cell? p :=
  World.cell?_of_block (w := a) (h.block p.block hp hn)
theorem Keeps.frozen {S : Nat → Prop} {a b : World} (h : Keeps S a b) {p : Addr} (hp : p.block < a.heap.size) (hn : ¬ S p.block) : b.frozen? p = a.frozen? p :=
  World.frozen?_of_block (w := a) (h.block p.block hp hn)
def Ext (w w' : World) : Prop := Below w.heap.size w w'
theorem Ext.refl (w : World) : Ext w w := Below.refl _ _
theorem Ext.trans {a b c : World} (h : Ext a b) (k : Ext b c) : Ext a c := Below.trans h (Below.mono k h.size)
theorem Ext.alloc {a b : World} (h : Ext a b) (o : Obj) : Ext a (b.alloc o) := Below.alloc h h.size o
theorem Ext.drewN {a b : World} (h : Ext a b) (n : Nat) : Ext a (b.drewN n) := below_drewN h n
theorem Ext.keeps {S : Nat → Prop} {a b : World} (h : Ext a b) : Keeps S a b := (Keeps.of_below h).mono fun i hi q => by have : a.heap.size ≤ i := q; omega
theorem ret_int {k : IntKind} {a b : Int} (h : a = b) : Ending.returned (.int k a) = .returned (.int k b) := by rw [h]
theorem ret_bool {a b : Bool} (h : a = b) : Ending.returned (.bool a) = .returned (.bool b) := by rw [h]
theorem val_int {k : IntKind} {a b : Int} (h : a = b) : Value.int k a = Value.int k b := by rw [h]
theorem ownsRow_kept {S : Nat → Prop} {w w' : World} {base : Nat} {e : TypeId} {size : Nat} {v : Value} {n : Nat} {xs : List Value}
    (h : w.ownsRow base e size v n xs) (hk : Keeps S w w') (hn : ∀ k, v.ownBlock = some k → ¬ S k) : w'.ownsRow base e size v n xs := by
  obtain ⟨h1, h2⟩ := h
  refine ⟨h1, ?_⟩
  rcases h2 with h2 | ⟨g, cap, cur, hv, hg, hh, r⟩
  · exact Or.inl h2
  · subst hv
    have hlt : g < w.heap.size := lt_of_block hh
    exact Or.inr ⟨g, cap, cur, rfl, hg, by rw [hk.block g hlt (hn g rfl)]; exact hh, r⟩
theorem ownsRow_lt {w : World} {base : Nat} {e : TypeId} {size : Nat} {v : Value} {n : Nat} {xs : List Value}
    (h : w.ownsRow base e size v n xs) {k : Nat} (hk : v.ownBlock = some k) : k < w.heap.size := (h.lt k hk).2
/-- a row that holds something begins at the head of a block -/
theorem ownsRow_some {w : World} {base : Nat} {e : TypeId} {size : Nat} {v : Value} {n : Nat} {xs : List Value}
    (h : w.ownsRow base e size v n xs) (hn : 0 < n) : ∃ g cap, v = .slice (some ⟨g, 0, none⟩) n cap ∧ n ≤ cap ∧ g < w.heap.size := by
  rcases h.2 with ⟨_, h0⟩ | ⟨g, cap, cur, hv, _, hh, hc, _⟩
  · omega
  · exact ⟨g, cap, hv, hc, lt_of_block hh⟩
theorem ownsRow_slice {w : World} {base : Nat} {e : TypeId} {size : Nat} {v : Value} {n : Nat} {xs : List Value}
    (h : w.ownsRow base e size v n xs) : (v = .slice none 0 0 ∧ n = 0) ∨ ∃ g cap, v = .slice (some ⟨g, 0, none⟩) n cap := by
  rcases h.2 with h0 | ⟨g, cap, cur, hv, _⟩
  · exact .inl h0
  · exact .inr ⟨g, cap, hv⟩
theorem add_plain (b j : Nat) : (⟨b, 0, none⟩ : Addr).add j = ⟨b, j, none⟩ := by unfold Addr.add; split <;> simp_all
/-- the world under a name: what is said of it is all that is known -/
theorem wp_world {P : Program} {c : Code} {Q : Exit → Act → World → Prop} {a : Act} {W : World} (F : World → Prop) (h1 : F W) (h2 : ∀ wz, F wz → Code.wp P c Q a wz) : Code.wp P c Q a W := h2 W h1
theorem calls_world {P : Program} {f : Nat} {args : Array Value} {W : World} {Q : Ending → World → Prop} (F : World → Prop) (h1 : F W) (h2 : ∀ wz, F wz → Calls P f args wz Q) : Calls P f args W Q := h2 W h1
end Go.Proofs.YtkfjcgcgfdibaaaDoor
namespace Go.Proofs.YtkfjcgcgfdibaaaDoor
open Go.RowKit
abbrev pixv (r g b a : Int) : Value := .agg #[.int .u8 r, .int .u8 g, .int .u8 b, .int .u8 a]
structure P4 where
  r : Int
  g : Int
  b : Int
  a : Int
def P4.val (p : P4) : Value := pixv p.r p.g p.b p.a
structure P4.Ok (p : P4) : Prop where
  r : Pix.Byte p.r
  g : Pix.Byte p.g
  b : Pix.Byte p.b
  a : Pix.Byte p.a
def P4.zero : P4 := ⟨0, 0, 0, 0⟩
theorem P4.zero_ok : P4.zero.Ok := ⟨⟨by decide, by decide⟩, ⟨by decide, by decide⟩, ⟨by decide, by decide⟩, ⟨by decide, by decide⟩⟩
end Go.Proofs.YtkfjcgcgfdibaaaDoor
namespace Go.Proofs.YtkfjcgcgfdibaaaDoor
open Go.RowKit
@[irreducible] def cellsI (k : IntKind) (n : Nat) (f : Nat → Int) : Array Value := (List.map (fun i : Nat => Value.int k (f i)) (List.range n)).toArray
theorem cellsI_get (k : IntKind) (n : Nat) (f : Nat → Int) (i : Nat) (h : i < n) : (cellsI k n f)[i]? = some (.int k (f i)) := by
  unfold cellsI; simp [h]
@[go_sem] theorem cellsI_size (k : IntKind) (n : Nat) (f : Nat → Int) : (cellsI k n f).size = n := by unfold cellsI; simp
@[go_sem] theorem cellsI_getElem (k : IntKind) (n : Nat) (f : Nat → Int) (i : Nat) (h : i < (cellsI k n f).size) : (cellsI k n f)[i] = .int k (f i) := by
  have e1 := cellsI_get k n f i (by rw [← cellsI_size k n f]; exact h)
  rw [Array.getElem?_eq_getElem h] at e1
  exact Option.some.inj e1
theorem cellsI_set (k : IntKind) (n : Nat) (f : Nat → Int) (j : Nat) (x : Int) (g : Nat → Int) (hg : ∀ i, i < n → g i = if i = j then x else f i) : (cellsI k n f).setIfInBounds j (.int k x) = cellsI k n g := by
  apply Array.ext
  · simp [cellsI_size]
  · intro i h1 h2
    have h3 : i < n := by simpa [cellsI_size] using h2
    have e2 := cellsI_get k n g i h3
    have e1 := cellsI_get k n f i h3
    rw [Array.getElem?_eq_getElem h2] at e2
    rw [Array.getElem?_eq_getElem (by rw [cellsI_size]; exact h3)] at e1
    rw [Option.some_inj] at e1 e2
    rw [Array.getElem_setIfInBounds (by rw [cellsI_size]; exact h3), e2, e1, hg i h3]
    by_cases hij : j = i
    · subst hij; simp
    · rw [if_neg hij, if_neg (fun e => hij e.symm)]
theorem cellsI_zero (k : IntKind) (n : Nat) : Array.replicate n (Value.int k 0) = cellsI k n (fun _ => 0) := by
  unfold cellsI; apply Array.ext
  · simp
  · intro i h1 h2; simp
theorem cells16_eq (k : IntKind) (F : Nat → Int) : cellsI k 16 F = #[.int k (F 0), .int k (F 1), .int k (F 2), .int k (F 3), .int k (F 4), .int k (F 5), .int k (F 6), .int k (F 7), .int k (F 8), .int k (F 9), .int k (F 10), .int k (F 11), .int k (F 12), .int k (F 13), .int k (F 14), .int k (F 15)] := by unfold cellsI; rfl
theorem cellsI_same (k : IntKind) (n : Nat) (F : Nat → Int) (j : Nat) (v : Value) (hv : v = .int k (F j)) : (cellsI k n F).setIfInBounds j v = cellsI k n F := by
  rw [hv]; exact cellsI_set k n F j (F j) F (fun i _ => by by_cases h : i = j <;> simp [h])
/-- a row of cells of one kind, none frozen -/
def Cs (w : World) (B n : Nat) (k : IntKind) (g : Nat → Int) : Prop := ∀ i, i < n → w.cell? ⟨B, i, none⟩ = some (.int k (g i)) ∧ w.frozen? ⟨B, i, none⟩ = false
theorem Cs.congr {w : World} {B n : Nat} {k : IntKind} {g g' : Nat → Int} (h : Cs w B n k g) (hg : ∀ i, i < n → g' i = g i) : Cs w B n k g' := by
  intro i hi; rw [hg i hi]; exact h i hi
theorem Cs.put {w : World} {B n : Nat} {k : IntKind} {g : Nat → Int} (h : Cs w B n k g) (j : Nat) (x : Int) (g' : Nat → Int) (hj : j < n) (hg : ∀ i, i < n → g' i = if i = j then x else g i) : Cs (w.setCell ⟨B, j, none⟩ (.int k x)) B n k g' := by
  intro i hi
  obtain ⟨h1, h2⟩ := h i hi
  rw [hg i hi, World.frozen?_setCell]
  refine ⟨?_, h2⟩
  by_cases e : i = j
  · subst e; rw [if_pos rfl]; exact World.cell?_setCell_same _ _ _ h1
  · rw [if_neg e]; exact (World.cell?_setCell_other _ _ _ _ (by intro q; injection q with _ q2; exact e q2.symm)).trans h1
theorem Cs.other {w : World} {B n : Nat} {k : IntKind} {g : Nat → Int} (h : Cs w B n k g) (p : Addr) (v : Value) (hp : p.block ≠ B) : Cs (w.setCell p v) B n k g := by
  intro i hi
  obtain ⟨h1, h2⟩ := h i hi
  rw [World.frozen?_setCell]
  exact ⟨(World.cell?_setCell_other _ _ _ _ (by intro q; rw [q] at hp; exact hp rfl)).trans h1, h2⟩
theorem Cs.drew {w : World} {B n : Nat} {k : IntKind} {g : Nat → Int} (h : Cs w B n k g) : Cs w.drew B n k g := h
theorem Cs.alloc {w : World} {B n : Nat} {k : IntKind} {g : Nat → Int} (h : Cs w B n k g) (hB : B < w.heap.size) (o : Obj) : Cs (w.alloc o) B n k g := by
  intro i hi
  rw [World.cell?_alloc_past _ _ _ hB, World.frozen?_alloc_past _ _ _ hB]; exact h i hi
theorem Cs.born (w : World) (k : IntKind) (n : Nat) (g : Nat → Int) (t : TypeId) : Cs (w.alloc (.cells (cellsI k n g) t)) w.heap.size n k g := by
  intro i hi
  rw [World.cell?_alloc_at _ _ _ _ rfl, World.frozen?_alloc_at _ _ _ _ rfl]; exact ⟨cellsI_get k n g i hi, rfl⟩
theorem made_eq (k : IntKind) (n : Nat) : madeCells #[Value.int k 0] n = cellsI k n (fun _ => 0) := by
  apply Array.ext
  · rw [size_madeCells, cellsI_size]
  · intro i h1 h2
    rw [cellsI_getElem]; simp [madeCells, Nat.mod_one]
theorem still_of {P : Program} {f : Nat} {args : Array Value} {w : World} {v : Value} (h : Calls P f args w fun e w' => e = .returned v ∧ w = w') : Calls P f args w fun e w' => e = .returned v ∧ w' = w :=
  h.mono fun _ _ ⟨a, b⟩ => ⟨a, b.symm⟩
end Go.Proofs.YtkfjcgcgfdibaaaDoor
namespace Go.Proofs.YtkfjcgcgfdibaaaDoor
open Go.RowKit
def Bk (w : World) (b : Nat) (cs : Array Value) : Prop := ∃ t, w.heap[b]? = some (.cells cs t (0, 0))
theorem Bk.lt {w : World} {b : Nat} {cs : Array Value} (h : Bk w b cs) : b < w.heap.size := by obtain ⟨t, h⟩ := h; exact lt_of_block h
theorem Bk.at {w : World} {k : Nat} {cs : Array Value} {t : TypeId} (h : w.heap.size = k) : Bk (w.alloc (.cells cs t)) k cs := ⟨t, by rw [← h]; exact heap_alloc_new w _⟩
theorem Bk.old {w : World} {b : Nat} {cs : Array Value} {o : Obj} (h : Bk w b cs) : Bk (w.alloc o) b cs := by
  have hl := h.lt
  obtain ⟨t, h⟩ := h
  exact ⟨t, (Below.heap_alloc w o b hl).trans h⟩
theorem Bk.keeps {S : Nat → Prop} {w w' : World} {b : Nat} {cs : Array Value} (h : Bk w b cs) (hk : Keeps S w w') (hS : ¬ S b) : Bk w' b cs := by
  have hl := h.lt
  obtain ⟨t, h⟩ := h
  exact ⟨t, (hk.block b hl hS).trans h⟩
theorem Bk.ext {w w' : World} {b : Nat} {cs : Array Value} (h : Bk w b cs) (hE : Ext w w') : Bk w' b cs := h.keeps (S := fun _ => False) hE.keeps id
theorem Bk.cell {w : World} {b : Nat} {cs : Array Value} (h : Bk w b cs) (i : Nat) : w.cell? ⟨b, i, none⟩ = cs[i]? := by
  obtain ⟨t, h⟩ := h
  exact cell_of_row w b i cs t (0, 0) h
theorem Bk.frozen {w : World} {b : Nat} {cs : Array Value} (h : Bk w b cs) (i : Nat) : w.frozen? ⟨b, i, none⟩ = false := by
  obtain ⟨t, h⟩ := h
  simp [World.frozen?, h]
theorem Bk.set_ {w : World} {b : Nat} {cs : Array Value} (h : Bk w b cs) (i : Nat) (u : Value) : Bk (w.setCell ⟨b, i, none⟩ u) b (cs.setIfInBounds i u) := by
  obtain ⟨t, h⟩ := h
  exact ⟨t, by simp [World.setCell, Array.getElem?_modify, h]⟩
theorem Bk.far {w : World} {b : Nat} {cs : Array Value} (h : Bk w b cs) {p : Addr} (hp : b ≠ p.block) (u : Value) : Bk (w.setCell p u) b cs := by
  obtain ⟨t, h⟩ := h
  exact ⟨t, (Below.heap_setCell w p u b hp).trans h⟩
theorem Bk.drewN {w : World} {b : Nat} {cs : Array Value} (h : Bk w b cs) (n : Nat) : Bk (w.drewN n) b cs := h
theorem Bk.drew {w : World} {b : Nat} {cs : Array Value} (h : Bk w b cs) : Bk w.drew b cs := h
end Go.Proofs.YtkfjcgcgfdibaaaDoor
namespace Go.Proofs.YtkfjcgcgfdibaaaDoor
open Go.RowKit
/-- a row of pixels, wherever it lies -/
def Pxs (w : World) (x : Option Addr) (n : Nat) (px : Nat → P4) : Prop :=
  (x = none → n = 0) ∧ ∀ a, x = some a → ∀ i, i < n →
    w.cell? (a.add (i * 4)) = some (.int .u8 (px i).r) ∧ w.cell? ⟨(a.add (i * 4)).block, (a.add (i * 4)).off + 1, none⟩ = some (.int .u8 (px i).g) ∧
    w.cell? ⟨(a.add (i * 4)).block, (a.add (i * 4)).off + 2, none⟩ = some (.int .u8 (px i).b) ∧ w.cell? ⟨(a.add (i * 4)).block, (a.add (i * 4)).off + 3, none⟩ = some (.int .u8 (px i).a) ∧ (px i).Ok
theorem add_block (a : Addr) (k : Nat) : (a.add k).block = a.block := by unfold Addr.add; split <;> rfl
theorem Pxs.keeps {S : Nat → Prop} {w w' : World} {x : Option Addr} {n : Nat} {px : Nat → P4} (h : Pxs w x n px) (hk : Keeps S w w') (hS : ∀ a, x = some a → ¬ S a.block) : Pxs w' x n px := by
  refine ⟨h.1, fun a ha i hi => ?_⟩
  obtain ⟨c0, c1, c2, c3, ok⟩ := h.2 a ha i hi
  have hs : ¬ S (a.add (i * 4)).block := by rw [add_block]; exact hS a ha
  have hl : (a.add (i * 4)).block < w.heap.size := World.block_lt_of_cell? w _ c0
  exact ⟨(hk.cell hl hs).trans c0, (hk.cell (p := ⟨_, _, none⟩) hl hs).trans c1, (hk.cell (p := ⟨_, _, none⟩) hl hs).trans c2, (hk.cell (p := ⟨_, _, none⟩) hl hs).trans c3, ok⟩
theorem Pxs.ext {w w' : World} {x : Option Addr} {n : Nat} {px : Nat → P4} (h : Pxs w x n px) (hE : Ext w w') : Pxs w' x n px := h.keeps (S := fun _ => False) hE.keeps (fun _ _ => id)
theorem Pxs.congr {w : World} {x : Option Addr} {n : Nat} {px qx : Nat → P4} (h : Pxs w x n px) (hq : ∀ i, i < n → qx i = px i) : Pxs w x n qx :=
  ⟨h.1, fun a ha i hi => by rw [hq i hi]; exact h.2 a ha i hi⟩
theorem Pxs.isSome {w : World} {x : Option Addr} {n : Nat} {px : Nat → P4} (h : Pxs w x n px) {i : Nat} (hi : i < n) : ∃ a, x = some a := by
  cases x with
  | none => have := h.1 rfl; omega
  | some a => exact ⟨a, rfl⟩
/-- the cells of pixels, one behind the other -/
def cellP (px : Nat → P4) (j : Nat) : Value := if j % 4 = 0 then .int .u8 (px (j / 4)).r else if j % 4 = 1 then .int .u8 (px (j / 4)).g else if j % 4 = 2 then .int .u8 (px (j / 4)).b else .int .u8 (px (j / 4)).a
def pxV (n : Nat) (px : Nat → P4) : List Value := (List.range (n * 4)).map (cellP px)
theorem pxV_length (n : Nat) (px : Nat → P4) : (pxV n px).length = n * 4 := by simp [pxV]
theorem pxV_get (n : Nat) (px : Nat → P4) (j : Nat) (h : j < n * 4) : (pxV n px)[j]? = some (cellP px j) := by simp [pxV, h]
theorem cellP_0 (px : Nat → P4) (i : Nat) : cellP px (i * 4) = .int .u8 (px i).r := by
  unfold cellP; rw [if_pos (by omega), show i * 4 / 4 = i by omega]
theorem cellP_1 (px : Nat → P4) (i : Nat) : cellP px (i * 4 + 1) = .int .u8 (px i).g := by
  unfold cellP; rw [if_neg (by omega), if_pos (by omega), show (i * 4 + 1) / 4 = i by omega]
theorem cellP_2 (px : Nat → P4) (i : Nat) : cellP px (i * 4 + 2) = .int .u8 (px i).b := by
  unfold cellP; rw [if_neg (by omega), if_neg (by omega), if_pos (by omega), show (i * 4 + 2) / 4 = i by omega]
theorem cellP_3 (px : Nat → P4) (i : Nat) : cellP px (i * 4 + 3) = .int .u8 (px i).a := by
  unfold cellP; rw [if_neg (by omega), if_neg (by omega), if_neg (by omega), show (i * 4 + 3) / 4 = i by omega]
theorem cellP_one (px : Nat → P4) (j : Nat) : (cellP px j).oneCell' = true := by
  unfold cellP; split
  · rfl
  · split
    · rfl
    · split <;> rfl
theorem pxV_ext (n : Nat) (px qx : Nat → P4) (h : ∀ i, i < n → px i = qx i) : pxV n px = pxV n qx := by
  unfold pxV
  apply List.map_congr_left
  intro j hj
  have hj' : j / 4 < n := by have := List.mem_range.1 hj; omega
  unfold cellP; rw [h _ hj']
theorem pxV_succ (n : Nat) (px : Nat → P4) : pxV (n + 1) px = pxV n px ++ [.int .u8 (px n).r, .int .u8 (px n).g, .int .u8 (px n).b, .int .u8 (px n).a] := by
  unfold pxV
  rw [show (n + 1) * 4 = n * 4 + 1 + 1 + 1 + 1 by omega, List.range_succ, List.range_succ, List.range_succ, List.range_succ]
  simp only [List.map_append, List.map_cons, List.map_nil, cellP_0, cellP_1, cellP_2, cellP_3, List.append_assoc, List.cons_append, List.nil_append]
theorem pixinfo : (Tryd.prog.info? 36).map (fun i => (i.zero, i.size, i.bytes)) = some (some (pixv 0 0 0 0), 4, 4) := by kernel_rfl
theorem Pxs.of_own {w : World} {base : Nat} {v : Value} {n : Nat} {px : Nat → P4} (h : w.ownsRow base 36 4 v n (pxV n px)) (hb : ∀ i, i < n → (px i).Ok) :
    ∃ x c, v = .slice x n c ∧ Pxs w x n px ∧ ∀ a, x = some a → base ≤ a.block := by
  rcases ownsRow_slice h with ⟨rfl, h0⟩ | ⟨g, cap, rfl⟩
  · subst h0; exact ⟨none, 0, rfl, ⟨fun _ => rfl, fun a h => by cases h⟩, fun a h => by cases h⟩
  · refine ⟨some ⟨g, 0, none⟩, cap, rfl, ⟨(fun h => by cases h), fun a ha i hi => ?_⟩, fun a ha => ?_⟩
    · injection ha with ha; subst ha
      have e : ∀ k, (⟨g, 0, none⟩ : Addr).add k = ⟨g, k, none⟩ := add_plain g
      rw [e]
      refine ⟨?_, ?_, ?_, ?_, hb i hi⟩
      · rw [h.cellAt _ (by omega), pxV_get _ _ _ (by omega), cellP_0]
      · show w.cell? ⟨g, i * 4 + 1, none⟩ = _; rw [h.cellAt _ (by omega), pxV_get _ _ _ (by omega), cellP_1]
      · show w.cell? ⟨g, i * 4 + 2, none⟩ = _; rw [h.cellAt _ (by omega), pxV_get _ _ _ (by omega), cellP_2]
      · show w.cell? ⟨g, i * 4 + 3, none⟩ = _; rw [h.cellAt _ (by omega), pxV_get _ _ _ (by omega), cellP_3]
    · injection ha with ha; subst ha
      exact (h.lt g rfl).1
/-- a variable that holds a picture -/
structure PicAt (w : World) (b : Nat) (W H : Int) (v : Value) : Prop where
  c0 : w.cell? ⟨b, 0, none⟩ = some (.int .i64 W)
  c1 : w.cell? ⟨b, 1, none⟩ = some (.int .i64 H)
  c2 : w.cell? ⟨b, 2, none⟩ = some v
theorem PicAt.ext {w w' : World} {b : Nat} {W H : Int} {v : Value} (h : PicAt w b W H v) (hE : Ext w w') : PicAt w' b W H v := by
  have hl := World.block_lt_of_cell? w _ h.c0
  exact ⟨(hE.cell (p := ⟨b, 0, none⟩) hl).trans h.c0, (hE.cell (p := ⟨b, 1, none⟩) hl).trans h.c1, (hE.cell (p := ⟨b, 2, none⟩) hl).trans h.c2⟩
theorem PicAt.new (w : World) (W H : Int) (v : Value) (t : TypeId) : PicAt (w.alloc (.cells #[.int .i64 W, .int .i64 H, v] t)) w.heap.size W H v := by
  refine ⟨?_, ?_, ?_⟩ <;> (rw [World.cell?_alloc_at _ _ _ _ rfl]; rfl)
theorem PicAt.set {w : World} {b : Nat} {W H W' H' : Int} {v v' : Value} (h : PicAt w b W H v) : PicAt (((w.setCell ⟨b, 0, none⟩ (.int .i64 W')).setCell ⟨b, 1, none⟩ (.int .i64 H')).setCell ⟨b, 2, none⟩ v') b W' H' v' := by
  have e : ∀ i j, i ≠ j → (⟨b, i, none⟩ : Addr) ≠ ⟨b, j, none⟩ := fun i j hij q => by injection q with _ q; exact hij q
  refine ⟨?_, ?_, ?_⟩
  · rw [World.cell?_setCell_other _ _ _ _ (e 2 0 (by decide)), World.cell?_setCell_other _ _ _ _ (e 1 0 (by decide))]
    exact World.cell?_setCell_same _ _ _ h.c0
  · rw [World.cell?_setCell_other _ _ _ _ (e 2 1 (by decide))]
    exact World.cell?_setCell_same _ _ _ ((World.cell?_setCell_other _ _ _ _ (e 0 1 (by decide))).trans h.c1)
  · exact World.cell?_setCell_same _ _ _ ((World.cell?_setCell_other _ _ _ _ (e 1 2 (by decide))).trans ((World.cell?_setCell_other _ _ _ _ (e 0 2 (by decide))).trans h.c2))
theorem PicAt.frozen_set {w : World} {b : Nat} {W' H' : Int} {v' : Value} (p : Addr) : (((w.setCell ⟨b, 0, none⟩ (.int .i64 W')).setCell ⟨b, 1, none⟩ (.int .i64 H')).setCell ⟨b, 2, none⟩ v').frozen? p = w.frozen? p := by
  rw [World.frozen?_setCell, World.frozen?_setCell, World.frozen?_setCell]
theorem Ext.set3 {w0 w : World} {b : Nat} (h : Ext w0 w) (hb : w0.heap.size ≤ b) (x y z : Value) : Ext w0 (((w.setCell ⟨b, 0, none⟩ x).setCell ⟨b, 1, none⟩ y).setCell ⟨b, 2, none⟩ z) := ((Below.setCell h hb _).setCell hb _).setCell hb _
theorem ownsRow_set3 {w : World} {base : Nat} {e : TypeId} {size : Nat} {v : Value} {n : Nat} {xs : List Value} (h : w.ownsRow base e size v n xs) {b : Nat} (hb : v.ownBlock ≠ some b) (x y z : Value) : (((w.setCell ⟨b, 0, none⟩ x).setCell ⟨b, 1, none⟩ y).setCell ⟨b, 2, none⟩ z).ownsRow base e size v n xs :=
  ownsRow_setCell_other (ownsRow_setCell_other (ownsRow_setCell_other h hb _) hb _) hb _
theorem Bk.pic {w : World} {b : Nat} {W H : Int} {v : Value} (h : Bk w b #[.int .i64 W, .int .i64 H, v]) : PicAt w b W H v := ⟨h.cell 0, h.cell 1, h.cell 2⟩
/-- a result's variable, filled: what it holds, the row, the world -/
theorem fill_res {w wz : World} {b base n : Nat} {W0 H0 W H : Int} {v0 v : Value} {xs : List Value} (hX : Ext w wz) (hb : w.heap.size ≤ b) (P : PicAt wz b W0 H0 v0) (own : wz.ownsRow base 36 4 v n xs) (hlt : b < base) :
    PicAt (((wz.setCell ⟨b, 0, none⟩ (.int .i64 W)).setCell ⟨b, 1, none⟩ (.int .i64 H)).setCell ⟨b, 2, none⟩ v) b W H v ∧
    (((wz.setCell ⟨b, 0, none⟩ (.int .i64 W)).setCell ⟨b, 1, none⟩ (.int .i64 H)).setCell ⟨b, 2, none⟩ v).ownsRow base 36 4 v n xs ∧
    Ext w (((wz.setCell ⟨b, 0, none⟩ (.int .i64 W)).setCell ⟨b, 1, none⟩ (.int .i64 H)).setCell ⟨b, 2, none⟩ v) :=
  ⟨P.set, ownsRow_set3 own (fun e => by have := (own.lt _ e).1; omega) _ _ _, hX.set3 hb _ _ _⟩
end Go.Proofs.YtkfjcgcgfdibaaaDoor
namespace Go.Proofs.YtkfjcgcgfdibaaaDoor
open Go.RowKit Go.Extern.Stop Go.Stop Go.Extern
set_option maxRecDepth 100000
@[irreducible] noncomputable def GN : Nat := Tryd.prog.globals.size
noncomputable abbrev hdl (t : Nat) : Value := .pointer (some ⟨GN, t, none⟩)
theorem typeOfE (v : Value) (w : World) : (Extern.ReflectliteType.typeOf #[.iface 171 v]).run Tryd.prog w = .ok (.iface 156 (.agg #[hdl 171])) w := by kernel_rfl
theorem compE (w : World) : ((Extern.ReflectliteType.method fun t => do Extern.Rtype.noPackHeld "Comparable" t; pure (.bool (← typeInfo t).comparable)) #[.agg #[hdl 171]]).run Tryd.prog w = .ok (.bool true) w := by kernel_rfl
theorem call_typeOfE (v : Value) (w : World) : (callFunc 112 #[.iface 171 v]).run Tryd.prog w = .ok (.value (.iface 156 (.agg #[hdl 171]))) w := by
  rw [@run_callFunc_extern Tryd.prog 112 _ Extern.ReflectliteType.typeOf Tryd.func112 (by kernel_rfl) (by kernel_rfl) (by kernel_rfl) (by kernel_rfl), typeOfE]; rfl
theorem call_compE (w : World) : (callFunc 150 #[.agg #[hdl 171]]).run Tryd.prog w = .ok (.value (.bool true)) w := by
  rw [@run_callFunc_extern Tryd.prog 150 _ (Extern.ReflectliteType.method fun t => do Extern.Rtype.noPackHeld "Comparable" t; pure (.bool (← typeInfo t).comparable)) Tryd.func150 (by kernel_rfl) (by kernel_rfl) (by kernel_rfl) (by kernel_rfl), compE]; rfl
theorem isMethodComparable (n : Nat) (v : Value) (w : World) : (Go.method (n + 1) 156 v "Comparable").run Tryd.prog w = .ok (150, v) w := by kernel_rfl
theorem isComp : (Tryd.prog.info? 171).map (·.comparable) = some true := by kernel_rfl
theorem isSize : (Tryd.prog.info? 189).map (·.size) = some 1 := by kernel_rfl
theorem noIsE (v : Value) (xT : TypeId) (w : World) : (Instr.typeAssert (.iface 171 v) xT 167 true).run Tryd.prog w = .ok (.tuple #[.nilIface, .bool false]) w := run_typeAssert_lacksB Tryd.underlying167 (by kernel_rfl) (by kernel_rfl) v xT w
theorem noUnwrapE (v : Value) (xT : TypeId) (w : World) : (Instr.typeAssert (.iface 171 v) xT 163 true).run Tryd.prog w = .ok (.tuple #[.nilIface, .bool false]) w := run_typeAssert_lacksB Tryd.underlying163 (by kernel_rfl) (by kernel_rfl) v xT w
theorem noUnwrapsE (v : Value) (xT : TypeId) (w : World) : (Instr.typeAssert (.iface 171 v) xT 165 true).run Tryd.prog w = .ok (.tuple #[.nilIface, .bool false]) w := run_typeAssert_lacksB Tryd.underlying165 (by kernel_rfl) (by kernel_rfl) v xT w
theorem noIsF (v : Value) (xT : TypeId) (w : World) : (Instr.typeAssert (.iface 111 v) xT 167 true).run Tryd.prog w = .ok (.tuple #[.nilIface, .bool false]) w := run_typeAssert_lacksB Tryd.underlying167 (by kernel_rfl) (by kernel_rfl) v xT w
theorem hasUnwrapF (v : Value) (xT : TypeId) (w : World) : (Instr.typeAssert (.iface 111 v) xT 163 true).run Tryd.prog w = .ok (.tuple #[.iface 111 v, .bool true]) w := run_typeAssert_hasB Tryd.underlying163 (by kernel_rfl) v xT w
theorem methodUnwrap (n : Nat) (v : Value) (w : World) : (Go.method (n + 1) 111 v "Unwrap").run Tryd.prog w = .ok (144, v) w := by kernel_rfl
theorem is_same (a : Addr) (w : World) :
    Calls Tryd.prog 96 #[.iface 171 (.pointer (some a)), .iface 171 (.pointer (some a))] w fun e w' => e = .returned (.bool true) ∧ w = w' := by
  obtain ⟨i, hi, hcmp⟩ := Option.map_eq_some_iff.1 isComp
  obtain ⟨j, hj, hjs⟩ := Option.map_eq_some_iff.1 isSize
  have h8 := call_typeOfE
  have h32 := call_compE
  have mR := isMethodComparable
  have heq := run_eql_iface_ptr_same (P := Tryd.prog) w a Tryd.underlying28 Tryd.underlying171 hi hcmp hj
  go_enter Tryd.func96, Tryd.ntmps96
  go_wp2
  refine wp_loop_rounds 1 ?_
  rw [rounds_succ]
  go_wp2
  go_ret
  exact ⟨rfl, rfl⟩
theorem is_other (a b : Addr) (ca cb : Array Value) (ta tb : TypeId) (w : World) (hne : a ≠ b) (ha : w.heap[a.block]? = some (.cells ca ta (0, 0))) (hb : w.heap[b.block]? = some (.cells cb tb (0, 0))) :
    Calls Tryd.prog 96 #[.iface 171 (.pointer (some a)), .iface 171 (.pointer (some b))] w fun e w' => e = .returned (.bool false) ∧ w = w' := by
  obtain ⟨i, hi, hcmp⟩ := Option.map_eq_some_iff.1 isComp
  obtain ⟨j, hj, hjs⟩ := Option.map_eq_some_iff.1 isSize
  have h8 := call_typeOfE
  have h32 := call_compE
  have mR := isMethodComparable
  have nE := noIsE
  have uE := noUnwrapE
  have vE := noUnwrapsE
  have heq := run_eql_iface_ptr_other (P := Tryd.prog) w Tryd.underlying28 Tryd.underlying171 hi hcmp hj (by rw [hjs]; decide) hne ha hb
  go_enter Tryd.func96, Tryd.ntmps96
  go_wp2
  refine wp_loop_rounds 1 ?_
  rw [rounds_succ]
  go_wp2
  go_ret
  exact ⟨rfl, rfl⟩
theorem is_fault_same (F : Nat) (b : Addr) (w : World) (h1 : w.cell? ⟨F, 1, none⟩ = some (.iface 171 (.pointer (some b)))) :
    Calls Tryd.prog 96 #[.iface 111 (.pointer (some ⟨F, 0, none⟩)), .iface 171 (.pointer (some b))] w fun e w' => e = .returned (.bool true) ∧ w = w' := by
  obtain ⟨i, hi, hcmp⟩ := Option.map_eq_some_iff.1 isComp
  obtain ⟨j, hj, hjs⟩ := Option.map_eq_some_iff.1 isSize
  have h8 := call_typeOfE
  have h32 := call_compE
  have mR := isMethodComparable
  have nE := noIsE
  have uE := noUnwrapE
  have vE := noUnwrapsE
  have nW := noIsF
  have uW := hasUnwrapF
  have mU := methodUnwrap
  have heq := run_eql_iface_ptr_same (P := Tryd.prog) w b Tryd.underlying28 Tryd.underlying171 hi hcmp hj
  have hty := run_eql_iface_types (P := Tryd.prog) 111 171 (.pointer (some ⟨F, 0, none⟩)) (.pointer (some b)) Tryd.underlying28 (by decide) w
  go_enter Tryd.func96, Tryd.ntmps96
  go_wp2
  refine wp_loop_rounds 2 ?_
  rw [rounds_succ]
  go_wp2
  rw [rounds_succ]
  go_wp2
  go_ret
  exact ⟨rfl, rfl⟩
theorem is_fault_other (F : Nat) (b a : Addr) (ca cb : Array Value) (ta tb : TypeId) (w : World) (h1 : w.cell? ⟨F, 1, none⟩ = some (.iface 171 (.pointer (some a)))) (hne : a ≠ b) (ha : w.heap[a.block]? = some (.cells ca ta (0, 0))) (hb : w.heap[b.block]? = some (.cells cb tb (0, 0))) :
    Calls Tryd.prog 96 #[.iface 111 (.pointer (some ⟨F, 0, none⟩)), .iface 171 (.pointer (some b))] w fun e w' => e = .returned (.bool false) ∧ w = w' := by
  obtain ⟨i, hi, hcmp⟩ := Option.map_eq_some_iff.1 isComp
  obtain ⟨j, hj, hjs⟩ := Option.map_eq_some_iff.1 isSize
  have h8 := call_typeOfE
  have h32 := call_compE
  have mR := isMethodComparable
  have nE := noIsE
  have uE := noUnwrapE
  have vE := noUnwrapsE
  have nW := noIsF
  have uW := hasUnwrapF
  have mU := methodUnwrap
  have heq := run_eql_iface_ptr_other (P := Tryd.prog) w Tryd.underlying28 Tryd.underlying171 hi hcmp hj (by rw [hjs]; decide) hne ha hb
  have hty := run_eql_iface_types (P := Tryd.prog) 111 171 (.pointer (some ⟨F, 0, none⟩)) (.pointer (some b)) Tryd.underlying28 (by decide) w
  go_enter Tryd.func96, Tryd.ntmps96
  go_wp2
  refine wp_loop_rounds 2 ?_
  rw [rounds_succ]
  go_wp2
  rw [rounds_succ]
  go_wp2
  go_ret
  exact ⟨rfl, rfl⟩
end Go.Proofs.YtkfjcgcgfdibaaaDoor
namespace Go.Proofs.YtkfjcgcgfdibaaaDoor
open Go.RowKit Go.Extern.Stop Go.Stop Go.Extern
set_option maxRecDepth 100000
theorem as_nil (t : Value) (w : World) :
    Calls Tryd.prog 95 #[.nilIface, t] w fun e w' => e = .returned (.bool false) ∧ w = w' := by
  go_enter Tryd.func95, Tryd.ntmps95
  go_wp2
  go_ret
  exact ⟨rfl, rfl⟩
theorem valueOfPP (t : Addr) (w : World) : (ReflectliteValue.unpack (.iface 124 (.pointer (some t)))).run Tryd.prog w
    = .ok (.agg #[hdl 124, .pointer (some ⟨w.heap.size, 0, none⟩), .int .u64 150]) (w.alloc (.cells #[.pointer (some t)] 124)) := by kernel_rfl
theorem typePP (a : Addr) (w : World) : (ReflectliteValue.methodAny (ReflectliteValue.valueError "reflectlite.Value.Type" 0) (fun t _ _ _ => ReflectliteType.toType t) #[.agg #[hdl 124, .pointer (some a), .int .u64 150]]).run Tryd.prog w
    = .ok (.iface 156 (.agg #[hdl 124])) w := by kernel_rfl
theorem methodKind (n : Nat) (h : Value) (w : World) : (Go.method (n + 1) 156 (.agg #[h]) "Kind").run Tryd.prog w = .ok (139, h) w := by kernel_rfl
theorem methodElem (n : Nat) (h : Value) (w : World) : (Go.method (n + 1) 156 (.agg #[h]) "Elem").run Tryd.prog w = .ok (151, .agg #[h]) w := by kernel_rfl
theorem methodImplements (n : Nat) (h : Value) (w : World) : (Go.method (n + 1) 156 (.agg #[h]) "Implements").run Tryd.prog w = .ok (152, .agg #[h]) w := by kernel_rfl
theorem methodAssignableTo (n : Nat) (h : Value) (w : World) : (Go.method (n + 1) 156 (.agg #[h]) "AssignableTo").run Tryd.prog w = .ok (149, .agg #[h]) w := by kernel_rfl
theorem kindPP (w : World) : ((ReflectliteType.abiMethod fun t => do pure (.int .u8 (← Rtype.kind t))) #[hdl 124]).run Tryd.prog w = .ok (.int .u8 22) w := by kernel_rfl
theorem kindP (w : World) : ((ReflectliteType.abiMethod fun t => do pure (.int .u8 (← Rtype.kind t))) #[hdl 111]).run Tryd.prog w = .ok (.int .u8 22) w := by kernel_rfl
theorem elemPP (w : World) : (ReflectliteType.method ReflectliteType.elem #[.agg #[hdl 124]]).run Tryd.prog w = .ok (.iface 156 (.agg #[hdl 111])) w := by kernel_rfl
theorem implP (w : World) : (ReflectliteType.relation "Implements" ReflectliteType.implements_ #[.agg #[hdl 111], .iface 156 (.agg #[hdl 28])]).run Tryd.prog w = .ok (.bool true) w := by kernel_rfl
theorem typeOfP (v : Value) (w : World) : (ReflectliteType.typeOf #[.iface 111 v]).run Tryd.prog w = .ok (.iface 156 (.agg #[hdl 111])) w := by kernel_rfl
theorem assignP (w : World) : (ReflectliteType.relation "AssignableTo" ReflectliteType.assignableTo #[.agg #[hdl 111], .iface 156 (.agg #[hdl 111])]).run Tryd.prog w = .ok (.bool true) w := by kernel_rfl
theorem assignE (w : World) : (ReflectliteType.relation "AssignableTo" ReflectliteType.assignableTo #[.agg #[hdl 171], .iface 156 (.agg #[hdl 111])]).run Tryd.prog w = .ok (.bool false) w := by kernel_rfl
theorem valueOfP (e : Addr) (w : World) : (ReflectliteValue.unpack (.iface 111 (.pointer (some e)))).run Tryd.prog w
    = .ok (.agg #[hdl 111, .pointer (some ⟨w.heap.size, 0, none⟩), .int .u64 150]) (w.alloc (.cells #[.pointer (some e)] 111)) := by kernel_rfl
theorem rlm (z : Sem Value) (f : TypeId → Addr → Nat → Nat → Sem Value) (v : Value) :
    ReflectliteValue.method z f #[v] = (do match ← ReflectliteValue.parts v with | none => z | some (t, a, fl) => f t a fl (fl % 32)) := rfl
theorem partsPP (a : Addr) (w : World) : (ReflectliteValue.parts (.agg #[hdl 124, .pointer (some a), .int .u64 150])).run Tryd.prog w = .ok (some (124, a, 150)) w := by kernel_rfl
theorem isNilPP (a p : Addr) (W : World) (ha : W.cell? a = some (.pointer (some p))) :
    (ReflectliteValue.method (ReflectliteValue.valueError "reflectlite.Value.IsNil" 0) ReflectliteValue.isNil #[.agg #[hdl 124, .pointer (some a), .int .u64 150]]).run Tryd.prog W = .ok (.bool false) W := by
  rw [rlm]
  simp only [Sem.run_bind, partsPP, Result.andThen]
  simp [ReflectliteValue.isNil, loadVar, isAgg, underlying, Tryd.underlying124, ha, Result.andThen]
theorem elemOfPP (w : World) : (Rtype.elem? 124).run Tryd.prog w = .ok (some 111) w := by kernel_rfl
theorem mkP (p : Addr) (w : World) : (ReflectliteValue.mk 111 p ReflectliteValue.flagAddr).run Tryd.prog w = .ok (.agg #[hdl 111, .pointer (some p), .int .u64 406]) w := by kernel_rfl
theorem elemVPP (a p : Addr) (W : World) (ha : W.cell? a = some (.pointer (some p))) :
    (ReflectliteValue.method (ReflectliteValue.valueError "reflectlite.Value.Elem" 0) ReflectliteValue.elem #[.agg #[hdl 124, .pointer (some a), .int .u64 150]]).run Tryd.prog W
      = .ok (.agg #[hdl 111, .pointer (some p), .int .u64 406]) W := by
  rw [rlm]
  simp only [Sem.run_bind, partsPP, Result.andThen]
  simp [ReflectliteValue.elem, loadVar, isAgg, underlying, Tryd.underlying124, ha, Result.andThen, elemOfPP, mkP]
theorem rls (v x : Value) : ReflectliteValue.set #[v, x] = (do
    let (some (dst, a, fl), some (src, b, _)) := (← ReflectliteValue.parts v, ← ReflectliteValue.parts x)
      | unsupported (.noEntry "extern/(internal/reflectlite.Value).Set.zeroValue")
    if fl / ReflectliteValue.flagAddr % 2 == 0 then unsupported (.noEntry "extern/(internal/reflectlite.Value).Set.unaddressable")
    let val ← loadVar src b
    if ← Rtype.directlyAssignable dst src then storeVar dst a val
    else if ← Rtype.implements dst src then
      if (← Rtype.kind src) == 20 then
        match val with
        | .nilIface => unsupported (.noEntry "extern/reflectlite: a nil value of one interface type handed on as a value of another")
        | _ => storeVar dst a val
      else storeVar dst a (.iface src val)
    else panicString ("reflectlite.Set: value of type " ++ (← Rtype.spelt src) ++ " is not assignable to type " ++ (← Rtype.spelt dst))
    pure (.tuple #[])) := rfl
theorem partsPa (a : Addr) (w : World) : (ReflectliteValue.parts (.agg #[hdl 111, .pointer (some a), .int .u64 406])).run Tryd.prog w = .ok (some (111, a, 406)) w := by kernel_rfl
theorem partsP (a : Addr) (w : World) : (ReflectliteValue.parts (.agg #[hdl 111, .pointer (some a), .int .u64 150])).run Tryd.prog w = .ok (some (111, a, 150)) w := by kernel_rfl
theorem directP (w : World) : (Rtype.directlyAssignable 111 111).run Tryd.prog w = .ok true w := by kernel_rfl
theorem setP (ta b e : Addr) (old : Value) (W : World) (hb : W.cell? b = some (.pointer (some e))) (ht : W.cell? ta = some old) (hf : W.frozen? ta = false) :
    (ReflectliteValue.set #[.agg #[hdl 111, .pointer (some ta), .int .u64 406], .agg #[hdl 111, .pointer (some b), .int .u64 150]]).run Tryd.prog W
      = .ok (.tuple #[]) (W.setCell ta (.pointer (some e))) := by
  rw [rls]
  simp only [Sem.run_bind, partsPa, partsP, Result.andThen]
  simp [ReflectliteValue.flagAddr, loadVar, isAgg, underlying, Tryd.underlying111, hb, Result.andThen, directP, storeVar, Value.cells, storeCells, Addr.add]
  rw [run_store Tryd.prog W ta _ _ (by rfl)]
  simp [ht, hf]
theorem noAsE (v : Value) (xT : TypeId) (w : World) : (Instr.typeAssert (.iface 171 v) xT 160 true).run Tryd.prog w = .ok (.tuple #[.nilIface, .bool false]) w := run_typeAssert_lacksB Tryd.underlying160 (by kernel_rfl) (by kernel_rfl) v xT w
theorem call_valueOf (x : Value) (v : Value) (w w' : World) (h : (ReflectliteValue.unpack x).run Tryd.prog w = .ok v w') : (callFunc 108 #[x]).run Tryd.prog w = .ok (.value v) w' := by
  rw [@run_callFunc_extern Tryd.prog 108 _ (fun args => ReflectliteValue.unpack (args.getD 0 (.tuple #[]))) Tryd.func108 (by kernel_rfl) (by kernel_rfl) (by kernel_rfl) (by kernel_rfl)]
  show ((ReflectliteValue.unpack x).run Tryd.prog w).andThen _ = _
  rw [h]; rfl
theorem call_type (x : Value) (v : Value) (w w' : World) (h : (ReflectliteValue.methodAny (ReflectliteValue.valueError "reflectlite.Value.Type" 0) (fun t _ _ _ => ReflectliteType.toType t) #[x]).run Tryd.prog w = .ok v w') : (callFunc 109 #[x]).run Tryd.prog w = .ok (.value v) w' := by
  rw [@run_callFunc_extern Tryd.prog 109 _ (ReflectliteValue.methodAny (ReflectliteValue.valueError "reflectlite.Value.Type" 0) (fun t _ _ _ => ReflectliteType.toType t)) Tryd.func109 (by kernel_rfl) (by kernel_rfl) (by kernel_rfl) (by kernel_rfl), h]; rfl
theorem call_isNil (x : Value) (v : Value) (w w' : World) (h : (ReflectliteValue.method (ReflectliteValue.valueError "reflectlite.Value.IsNil" 0) ReflectliteValue.isNil #[x]).run Tryd.prog w = .ok v w') : (callFunc 110 #[x]).run Tryd.prog w = .ok (.value v) w' := by
  rw [@run_callFunc_extern Tryd.prog 110 _ (ReflectliteValue.method (ReflectliteValue.valueError "reflectlite.Value.IsNil" 0) ReflectliteValue.isNil) Tryd.func110 (by kernel_rfl) (by kernel_rfl) (by kernel_rfl) (by kernel_rfl), h]; rfl
theorem call_velem (x : Value) (v : Value) (w w' : World) (h : (ReflectliteValue.method (ReflectliteValue.valueError "reflectlite.Value.Elem" 0) ReflectliteValue.elem #[x]).run Tryd.prog w = .ok v w') : (callFunc 123 #[x]).run Tryd.prog w = .ok (.value v) w' := by
  rw [@run_callFunc_extern Tryd.prog 123 _ (ReflectliteValue.method (ReflectliteValue.valueError "reflectlite.Value.Elem" 0) ReflectliteValue.elem) Tryd.func123 (by kernel_rfl) (by kernel_rfl) (by kernel_rfl) (by kernel_rfl), h]; rfl
theorem call_set (x y : Value) (v : Value) (w w' : World) (h : (ReflectliteValue.set #[x, y]).run Tryd.prog w = .ok v w') : (callFunc 124 #[x, y]).run Tryd.prog w = .ok (.value v) w' := by
  rw [@run_callFunc_extern Tryd.prog 124 _ ReflectliteValue.set Tryd.func124 (by kernel_rfl) (by kernel_rfl) (by kernel_rfl) (by kernel_rfl), h]; rfl
theorem call_kind (x : Value) (v : Value) (w w' : World) (h : ((ReflectliteType.abiMethod fun t => do pure (.int .u8 (← Rtype.kind t))) #[x]).run Tryd.prog w = .ok v w') : (callFunc 139 #[x]).run Tryd.prog w = .ok (.value v) w' := by
  rw [@run_callFunc_extern Tryd.prog 139 _ (ReflectliteType.abiMethod fun t => do pure (.int .u8 (← Rtype.kind t))) Tryd.func139 (by kernel_rfl) (by kernel_rfl) (by kernel_rfl) (by kernel_rfl), h]; rfl
theorem call_elem (x : Value) (v : Value) (w w' : World) (h : (ReflectliteType.method ReflectliteType.elem #[x]).run Tryd.prog w = .ok v w') : (callFunc 151 #[x]).run Tryd.prog w = .ok (.value v) w' := by
  rw [@run_callFunc_extern Tryd.prog 151 _ (ReflectliteType.method ReflectliteType.elem) Tryd.func151 (by kernel_rfl) (by kernel_rfl) (by kernel_rfl) (by kernel_rfl), h]; rfl
theorem call_impl (x y : Value) (v : Value) (w w' : World) (h : (ReflectliteType.relation "Implements" ReflectliteType.implements_ #[x, y]).run Tryd.prog w = .ok v w') : (callFunc 152 #[x, y]).run Tryd.prog w = .ok (.value v) w' := by
  rw [@run_callFunc_extern Tryd.prog 152 _ (ReflectliteType.relation "Implements" ReflectliteType.implements_) Tryd.func152 (by kernel_rfl) (by kernel_rfl) (by kernel_rfl) (by kernel_rfl), h]; rfl
theorem call_assign (x y : Value) (v : Value) (w w' : World) (h : (ReflectliteType.relation "AssignableTo" ReflectliteType.assignableTo #[x, y]).run Tryd.prog w = .ok v w') : (callFunc 149 #[x, y]).run Tryd.prog w = .ok (.value v) w' := by
  rw [@run_callFunc_extern Tryd.prog 149 _ (ReflectliteType.relation "AssignableTo" ReflectliteType.assignableTo) Tryd.func149 (by kernel_rfl) (by kernel_rfl) (by kernel_rfl) (by kernel_rfl), h]; rfl
theorem call_typeOf (x : Value) (v : Value) (w w' : World) (h : (ReflectliteType.typeOf #[x]).run Tryd.prog w = .ok v w') : (callFunc 112 #[x]).run Tryd.prog w = .ok (.value v) w' := by
  rw [@run_callFunc_extern Tryd.prog 112 _ ReflectliteType.typeOf Tryd.func112 (by kernel_rfl) (by kernel_rfl) (by kernel_rfl) (by kernel_rfl), h]; rfl
/-- the variable of package errors that holds the type error -/
def ErrType (w : World) : Prop := w.cell? ⟨9, 0, none⟩ = some (.iface 156 (.agg #[hdl 28]))
set_option maxHeartbeats 4000000 in
theorem as_hit (e t : Addr) (old : Value) (w : World) (hg : ErrType w) (ht0 : w.cell? t = some old) (hf0 : w.frozen? t = false) :
    Calls Tryd.prog 95 #[.iface 111 (.pointer (some e)), .iface 124 (.pointer (some t))] w fun ev w' => ev = .returned (.bool true) ∧ Keeps (fun k => k = t.block) w w' ∧ w'.cell? t = some (.pointer (some e)) ∧ w'.frozen? t = false := by
  unfold ErrType at hg
  have hlt : 9 < w.heap.size := World.block_lt_of_cell? w _ hg
  have htl : t.block < w.heap.size := World.block_lt_of_cell? w _ ht0
  have f6 := fun (t : Addr) w => call_valueOf _ _ _ _ (valueOfPP t w)
  have f7 := fun (a : Addr) w => call_type _ _ _ _ (typePP a w)
  have k27 := fun w => call_kind _ _ _ _ (kindPP w)
  have k25 := fun w => call_kind _ _ _ _ (kindP w)
  have e27 := fun w => call_elem _ _ _ _ (elemPP w)
  have i25 := fun w => call_impl _ _ _ _ _ (implP w)
  have tO := fun v w => call_typeOf _ _ _ _ (typeOfP v w)
  have a25 := fun w => call_assign _ _ _ _ _ (assignP w)
  have v25 := fun e w => call_valueOf _ _ _ _ (valueOfP e w)
  have mK := methodKind
  have mE := methodElem
  have mI := methodImplements
  have mA := methodAssignableTo
  have n8 := call_isNil _ _ _ _ (isNilPP ⟨w.heap.size, 0, none⟩ t ((w.alloc (.cells #[.pointer (some t)] 124)).alloc (.cells #[hdl 124, .pointer (some ⟨w.heap.size, 0, none⟩), .int .u64 150] 140)) (by simp))
  have hg2 : ((w.alloc (.cells #[.pointer (some t)] 124)).alloc (.cells #[hdl 124, .pointer (some ⟨w.heap.size, 0, none⟩), .int .u64 150] 140)).cell? ⟨9, 0, none⟩ = some (.iface 156 (.agg #[hdl 28])) := by
    rw [World.cell?_alloc_lt _ _ ⟨9, 0, none⟩ (by simp; omega), World.cell?_alloc_lt _ _ ⟨9, 0, none⟩ hlt]; exact hg
  have el := call_velem _ _ _ _ (elemVPP ⟨w.heap.size, 0, none⟩ t (((w.alloc (.cells #[.pointer (some t)] 124)).alloc (.cells #[hdl 124, .pointer (some ⟨w.heap.size, 0, none⟩), .int .u64 150] 140)).alloc (.cells #[hdl 124, .pointer (some ⟨w.heap.size, 0, none⟩), .int .u64 150] 140)) (by rw [World.cell?_alloc_lt _ _ ⟨w.heap.size, 0, none⟩ (by simp; omega)]; simp))
  have c1 : ((((w.alloc (.cells #[.pointer (some t)] 124)).alloc (.cells #[hdl 124, .pointer (some ⟨w.heap.size, 0, none⟩), .int .u64 150] 140)).alloc (.cells #[hdl 124, .pointer (some ⟨w.heap.size, 0, none⟩), .int .u64 150] 140)).alloc (.cells #[.pointer (some e)] 111)).cell? t = some old := by rw [World.cell?_alloc_lt _ _ t (by simp; omega), World.cell?_alloc_lt _ _ t (by simp; omega), World.cell?_alloc_lt _ _ t (by simp; omega), World.cell?_alloc_lt _ _ t htl]; exact ht0
  have c2 : ((((w.alloc (.cells #[.pointer (some t)] 124)).alloc (.cells #[hdl 124, .pointer (some ⟨w.heap.size, 0, none⟩), .int .u64 150] 140)).alloc (.cells #[hdl 124, .pointer (some ⟨w.heap.size, 0, none⟩), .int .u64 150] 140)).alloc (.cells #[.pointer (some e)] 111)).frozen? t = false := by rw [World.frozen?_alloc_old _ _ t (by simp; omega), World.frozen?_alloc_old _ _ t (by simp; omega), World.frozen?_alloc_old _ _ t (by simp; omega), World.frozen?_alloc_old _ _ t (Nat.ne_of_lt htl)]; exact hf0
  have st := call_set _ _ _ _ _ (setP t ⟨w.heap.size + 1 + 1 + 1, 0, none⟩ e old ((((w.alloc (.cells #[.pointer (some t)] 124)).alloc (.cells #[hdl 124, .pointer (some ⟨w.heap.size, 0, none⟩), .int .u64 150] 140)).alloc (.cells #[hdl 124, .pointer (some ⟨w.heap.size, 0, none⟩), .int .u64 150] 140)).alloc (.cells #[.pointer (some e)] 111))
    (by rw [World.cell?_alloc_at _ _ _ _ (by simp)]; rfl) c1 c2)
  have fin : Keeps (fun k => k = t.block) w (((((w.alloc (.cells #[.pointer (some t)] 124)).alloc (.cells #[hdl 124, .pointer (some ⟨w.heap.size, 0, none⟩), .int .u64 150] 140)).alloc (.cells #[hdl 124, .pointer (some ⟨w.heap.size, 0, none⟩), .int .u64 150] 140)).alloc (.cells #[.pointer (some e)] 111)).setCell t (.pointer (some e))) :=
    (((((Keeps.refl (fun k => k = t.block) w).alloc _).alloc _).alloc _).alloc _).setCell (.inl rfl) _
  have C1 : (((((w.alloc (.cells #[.pointer (some t)] 124)).alloc (.cells #[hdl 124, .pointer (some ⟨w.heap.size, 0, none⟩), .int .u64 150] 140)).alloc (.cells #[hdl 124, .pointer (some ⟨w.heap.size, 0, none⟩), .int .u64 150] 140)).alloc (.cells #[.pointer (some e)] 111)).setCell t (.pointer (some e))).cell? t = some (.pointer (some e)) := World.cell?_setCell_same _ _ _ c1
  have C2 : (((((w.alloc (.cells #[.pointer (some t)] 124)).alloc (.cells #[hdl 124, .pointer (some ⟨w.heap.size, 0, none⟩), .int .u64 150] 140)).alloc (.cells #[hdl 124, .pointer (some ⟨w.heap.size, 0, none⟩), .int .u64 150] 140)).alloc (.cells #[.pointer (some e)] 111)).setCell t (.pointer (some e))).frozen? t = false := by rw [World.frozen?_setCell]; exact c2
  have HF := Lib.hid fin
  have H1 := Lib.hid C1
  have H2 := Lib.hid C2
  clear fin C1 C2 c1 c2
  go_enter Tryd.func95, Tryd.ntmps95
  go_wp2
  refine wp_loop_rounds 1 ?_
  rw [rounds_succ]
  go_wp2
  go_ret
  exact ⟨rfl, HF.out, H1.out, H2.out⟩
set_option maxHeartbeats 4000000 in
theorem as_miss (e t : Addr) (w : World) (hg : ErrType w) :
    Calls Tryd.prog 95 #[.iface 171 (.pointer (some e)), .iface 124 (.pointer (some t))] w fun ev w' => ev = .returned (.bool false) ∧ Ext w w' := by
  unfold ErrType at hg
  have hlt : 9 < w.heap.size := World.block_lt_of_cell? w _ hg
  have f6 := fun (t : Addr) w => call_valueOf _ _ _ _ (valueOfPP t w)
  have f7 := fun (a : Addr) w => call_type _ _ _ _ (typePP a w)
  have k27 := fun w => call_kind _ _ _ _ (kindPP w)
  have k25 := fun w => call_kind _ _ _ _ (kindP w)
  have e27 := fun w => call_elem _ _ _ _ (elemPP w)
  have i25 := fun w => call_impl _ _ _ _ _ (implP w)
  have tO := call_typeOfE
  have a25 := fun w => call_assign _ _ _ _ _ (assignE w)
  have mK := methodKind
  have mE := methodElem
  have mI := methodImplements
  have mA := methodAssignableTo
  have nA := noAsE
  have uE := noUnwrapE
  have vE := noUnwrapsE
  have n8 := call_isNil _ _ _ _ (isNilPP ⟨w.heap.size, 0, none⟩ t ((w.alloc (.cells #[.pointer (some t)] 124)).alloc (.cells #[hdl 124, .pointer (some ⟨w.heap.size, 0, none⟩), .int .u64 150] 140)) (by simp))
  have hg2 : ((w.alloc (.cells #[.pointer (some t)] 124)).alloc (.cells #[hdl 124, .pointer (some ⟨w.heap.size, 0, none⟩), .int .u64 150] 140)).cell? ⟨9, 0, none⟩ = some (.iface 156 (.agg #[hdl 28])) := by
    rw [World.cell?_alloc_lt _ _ ⟨9, 0, none⟩ (by simp; omega), World.cell?_alloc_lt _ _ ⟨9, 0, none⟩ hlt]; exact hg
  have fin : Ext w (((w.alloc (.cells #[.pointer (some t)] 124)).alloc (.cells #[hdl 124, .pointer (some ⟨w.heap.size, 0, none⟩), .int .u64 150] 140)).alloc (.cells #[hdl 124, .pointer (some ⟨w.heap.size, 0, none⟩), .int .u64 150] 140)) :=
    (((Ext.refl w).alloc _).alloc _).alloc _
  have HF := Lib.hid fin
  clear fin
  go_enter Tryd.func95, Tryd.ntmps95
  go_wp2
  refine wp_loop_rounds 1 ?_
  rw [rounds_succ]
  go_wp2
  go_ret
  exact ⟨rfl, HF.out⟩
end Go.Proofs.YtkfjcgcgfdibaaaDoor
namespace Go.Proofs.YtkfjcgcgfdibaaaDoor
open Go.ChangeShapes Go.WideShapes Go.RowKit Go.Deep
/-- a slice of records of one-cell fields: every field's cell and how it reads -/
theorem open_recs {H : Type} {enc : TypeId × Value → H} {P : Program} {w : World} {base : Nat} {spare : Nat → Bool} {held : Bool} {t e : TypeId} {fs : Array Field} {fuel : Nat} {cs : List Value} {x : DataW H × List MemPlace}
    (ht : P.underlying t = some (.slice e)) (he : P.underlying e = some (.struct fs)) (hone : oneCellFields P fs = true) (hC : P.cellsOf e = fs.size) (h : DataW.trod enc P w base spare held fuel t cs = some x) :
    cs = [.slice none 0 0] ∨ ∃ (a : Addr) (len cap : Nat), cs = [.slice (some a) len cap] ∧ len ≤ cap ∧ cap ≤ maxLen ∧
      ∀ i, i < len → ∀ (j : Nat) (f : Field), fs[j]? = some f → ∃ (v : Value) (y : DataW H × List MemPlace) (n : Nat), w.cell? ((a.add (i * fs.size)).add j) = some v ∧ DataW.trod enc P w base spare held n f.type [v] = some y := by
  rcases open_slice ht h with ⟨h0, _⟩ | ⟨a, len, cap, m, n, D, Pl, hcs, _, hl, hm, hmm, _, hi⟩
  · exact .inl h0
  · refine .inr ⟨a, len, cap, hcs, hl, hm, fun i hlt j f hj => ?_⟩
    have him : i < m := by rw [hmm]; split <;> omega
    obtain ⟨cs', hc, hr⟩ := hi i him
    obtain ⟨xs, k, _, _, _, hxl, hx⟩ := DataW.trod_struct he hr
    obtain ⟨_, hcl, hat⟩ := World.cells?_some hc
    rw [hC] at hcl hat
    have hjs : j < fs.size := (Array.getElem?_eq_some_iff.1 hj).1
    obtain ⟨o1, o2⟩ := hone_of hone j f hj
    have hxj := hx j f hj
    rw [o1, o2, List.drop_eq_getElem_cons (by omega)] at hxj
    have e1 : xs[j]? = some (xs[j]'(by omega)) := List.getElem?_eq_getElem (by omega)
    have e2 : w.cell? ((a.add (i * fs.size)).add j) = some (cs'[j]'(by omega)) := by
      rw [hat j hjs]; exact List.getElem?_eq_getElem (by omega)
    exact ⟨_, _, k, e2, hxj.trans e1⟩
theorem cell_add {w : World} {q : Addr} {v : Value} {k : Nat} (hk : k ≠ 0) (h : w.cell? (q.add k) = some v) : w.cell? ⟨q.block, q.off + k, none⟩ = some v := by
  unfold Addr.add at h; rw [if_neg hk] at h; exact h
/-- a sentinel of the list: its variable holds an error's pointer -/
theorem sent_star : Tryd.prog.typeName? 3 171 = some "*errors.errorString" := by kernel_rfl
theorem sent_row (u : TypeId) (h : Tryd.prog.typeName? 3 u = some "*errors.errorString") : u = 171 :=
  typeName_ptr_named (nm := "errors.errorString") (by kernel_rfl) (by kernel_rfl) (by decide) u h
theorem sentinel {l : List (String × DataW Unit)} {W : World} {n : String} {g : Nat} {text : List UInt8} {ti : TypeId} {ms : Array (String × TypeId)} (h : laidMetH Tryd.prog l W)
    (hl : l.filter (fun x => x.1 == n) = [(n, .iface "*errors.errorString" (.ptr (.agg [.lit (.string text)])))]) (hg : Tryd.prog.globalNamed n = some g)
    (ht : (Tryd.prog.globals[g]?).map (·.type) = some ti) (hi : Tryd.prog.underlying ti = some (.interface ms)) :
    ∃ (E : Addr) (s : ByteArray), W.cell? ⟨g, 0, none⟩ = some (.iface 171 (.pointer (some E))) ∧ W.cell? E = some (.string s) ∧ s.data.toList = text ∧ s.size ≤ maxLen := by
  have h1 := laidMetH.filter (fun x => x.1 == n) h
  rw [hl] at h1
  have h2 : laidMet Tryd.prog [(n, .iface "*errors.errorString" (.ptr (.agg [.lit (.string text)])))] W := h1
  obtain ⟨E, s, hv, hc, hs, hz⟩ := laid_sentinel h2 hg ht hi sent_row Tryd.underlying171 Tryd.underlying189 rfl rfl Tryd.underlying9 (by kernel_rfl) (by kernel_rfl)
  exact ⟨E, s, by simpa using World.var?_cell hg hv 0, hc, hs, hz⟩
end Go.Proofs.YtkfjcgcgfdibaaaDoor
