/-
  Small laws on memory: which blocks a call may have turned. No function of the program is named.
  Plain law of the CRC: a step, eight of them, a byte by the table. No program in sight.
  Plain law of bursts: bits turned within 32 in a row change the CRC. No program in sight.
  A writer of bits: what its memory says (a number and how many bits), and the contract of 'one'.
  Put, and what else a writer does: contracts in terms of its number and its count.
  A writer of bits: Align.
  Blocks that are known whole: variables that a call made. No function of the program is named.
  A text in blocks, and back: the plain law; rows of bytes that grow. No function of the program is named.
  append of a text's bytes to a row of one's own: where the new row lies. No function of the program is named.
  Arguments and package variables, opened to cells: slices of records, sentinels of errors.
-/
import Derived.Test.YtnhbjgmfbcedaaaDoorProg
import Derived.WalkKit
import Derived.WalkSpells
import Derived.WalkSmall
import Derived.Lib.Hide
import Derived.Deep.QuietTactic
import Derived.BigQuiet
import Derived.RegionTactic
import Derived.WalkLawsBesides
import Derived.Maps.AppendAt
import Derived.Lib.AppendStr
import Derived.Deep.Fields
import Derived.Stop.LaidErr
import Derived.LaidSub
import Derived.ProofKit
import Derived.OpenShut
namespace Go.Proofs.YtnhbjgmfbcedaaaDoor
open Go.RowKit
set_option linter.unusedSimpArgs false
/-- of the blocks that were there only those in S may have turned -/
structure Keeps (S : Nat → Prop) (w w' : World) : Prop where
  os : w'.os = w.os
  tape : w'.tape = w.tape
  output : w'.output = w.output
  size : w.heap.size ≤ w'.heap.size
  block : ∀ k, k < w.heap.size → ¬ S k → w'.heap[k]? = w.heap[k]?
theorem Keeps.refl (S : Nat → Prop) (w : World) : Keeps S w w := ⟨rfl, rfl, rfl, Nat.le_refl _, fun _ _ _ => rfl⟩
theorem Keeps.trans {S S' : Nat → Prop} {a b c : World} (h : Keeps S a b) (k : Keeps S' b c) (hs : ∀ i, i < a.heap.size → S' i → S i) : Keeps S a c :=
  ⟨k.os.trans h.os, k.tape.trans h.tape, k.output.trans h.output, Nat.le_trans h.size k.size,
    fun i hi hn => (k.block i (Nat.lt_of_lt_of_le hi h.size) fun q => hn (hs i hi q)).trans (h.block i hi hn)⟩
theorem Keeps.mono {S S' : Nat → Prop} {a b : World} (h : Keeps S a b) (hs : ∀ i, i < a.heap.size → S i → S' i) : Keeps S' a b :=
  ⟨h.os, h.tape, h.output, h.size, fun i hi hn => h.block i hi fun q => hn (hs i hi q)⟩
theorem Keeps.grown {a b : World} {row : Option Nat} (h : a.grownBy b row) : Keeps (fun k => row = some k) a b :=
  ⟨h.os, h.tape, h.output, h.size, fun i hi hn => h.block i hi fun e => hn e.symm⟩
theorem Keeps.alloc {S : Nat → Prop} {a b : World} (h : Keeps S a b) (o : Obj) : Keeps S a (b.alloc o) :=
  ⟨h.os, h.tape, h.output, by have := h.size; simp; omega, fun i hi hn => (Below.heap_alloc _ _ _ (Nat.lt_of_lt_of_le hi h.size)).trans (h.block i hi hn)⟩
theorem Keeps.drewN {S : Nat → Prop} {a b : World} (h : Keeps S a b) (n : Nat) : Keeps S a (b.drewN n) := ⟨h.os, h.tape, h.output, h.size, h.block⟩
theorem Keeps.drew {S : Nat → Prop} {a b : World} (h : Keeps S a b) : Keeps S a b.drew := ⟨h.os, h.tape, h.output, h.size, h.block⟩
theorem Keeps.setCell {S : Nat → Prop} {a b : World} (h : Keeps S a b) {p : Addr} (hp : S p.block ∨ a.heap.size ≤ p.block) (u : Value) : Keeps S a (b.setCell p u) :=
  ⟨h.os, h.tape, h.output, by simpa using h.size, fun i hi hn => (Below.heap_setCell _ _ _ _ (fun e => by subst e; rcases hp with hp | hp; exact hn hp; omega)).trans (h.block i hi hn)⟩
theorem Keeps.below {S : Nat → Prop} {a b : World} (h : Keeps S a b) {B : Nat} (hB : B ≤ a.heap.size) (hs : ∀ k, k < B → ¬ S k) : Below B a b :=
  ⟨h.os, h.tape, h.output, h.size, fun k hk => h.block k (by omega) (hs k hk)⟩
theorem Keeps.of_below {B : Nat} {a b : World} (h : Below B a b) : Keeps (fun k => B ≤ k) a b :=
  ⟨h.os, h.tape, h.output, h.size, fun k _ hn => h.block k (by omega)⟩
theorem Keeps.cell {S : Nat → Prop} {a b : World} (h : Keeps S a b) {p : Addr} (hp : p.block < a.heap.size) (hn : ¬ S p.block) : b.cell? p = a.cell? p :=
  World.cell?_of_block (w := a) (h.block p.block hp hn)
theorem Keeps.frozen {S : Nat → Prop} {a b : World} (h : Keeps S a b) {p : Addr} (hp : p.block < a.heap.size) (hn : ¬ S p.block) : b.frozen? p = a.frozen? p :=
  World.frozen?_of_block (w := a) (h.block p.block hp hn)
def Ext (w w' : World) : Prop := Below w.heap.size w w'
theorem Ext.refl (w : World) : Ext w w := Below.refl _ _
theorem Ext.trans {a b c : World} (h : Ext a b) (k : Ext b c) : Ext a c := Below.trans h (Below.mono k h.size)
theorem Ext.alloc {a b : World} (h : Ext a b) (o : Obj) : Ext a (b.alloc o) := Below.alloc h h.size o
theorem Ext.drewN {a b : World} (h : Ext a b) (n : Nat) : Ext a (b.drewN n) := below_drewN h n
theorem Ext.keeps {S : Nat → Prop} {a b : World} (h : Ext a b) : Keeps S a b := (Keeps.of_below h).mono fun i hi q => by have : a.heap.size ≤ i := q; omega
theorem ret_int {k : IntKind} {a b : Int} (h : a = b) : Ending.returned (.int k a) = .returned (.int k b) := by rw [h]
theorem ret_bool {a b : Bool} (h : a = b) : Ending.returned (.bool a) = .returned (.bool b) := by rw [h]
theorem val_int {k : IntKind} {a b : Int} (h : a = b) : Value.int k a = Value.int k b := by rw [h]
theorem ownsRow_kept {S : Nat → Prop} {w w' : World} {base : Nat} {e : TypeId} {size : Nat} {v : Value} {n : Nat} {xs : List Value}
    (h : w.ownsRow base e size v n xs) (hk : Keeps S w w') (hn : ∀ k, v.ownBlock = some k → ¬ S k) : w'.ownsRow base e size v n xs := by
  obtain ⟨h1, h2⟩ := h
  refine ⟨h1, ?_⟩
  rcases h2 with h2 | ⟨g, cap, cur, hv, hg, hh, r⟩
  · exact Or.inl h2
  · subst hv
    have hlt : g < w.heap.size := lt_of_block hh
    exact Or.inr ⟨g, cap, cur, rfl, hg, by rw [hk.block g hlt (hn g rfl)]; exact hh, r⟩
theorem ownsRow_lt {w : World} {base : Nat} {e : TypeId} {size : Nat} {v : Value} {n : Nat} {xs : List Value}
    (h : w.ownsRow base e size v n xs) {k : Nat} (hk : v.ownBlock = some k) : k < w.heap.size := (h.lt k hk).2
/-- a row that holds something begins at the head of a block -/
theorem ownsRow_some {w : World} {base : Nat} {e : TypeId} {size : Nat} {v : Value} {n : Nat} {xs : List Value}
    (h : w.ownsRow base e size v n xs) (hn : 0 < n) : ∃ g cap, v = .slice (some ⟨g, 0, none⟩) n cap ∧ n ≤ cap ∧ g < w.heap.size := by
  rcases h.2 with ⟨_, h0⟩ | ⟨g, cap, cur, hv, _, hh, hc, _⟩
  · omega
  · exact ⟨g, cap, hv, hc, lt_of_block hh⟩
theorem ownsRow_slice {w : World} {base : Nat} {e : TypeId} {size : Nat} {v : Value} {n : Nat} {xs : List Value}
    (h : w.ownsRow base e size v n xs) : (v = .slice none 0 0 ∧ n = 0) ∨ ∃ g cap, v = .slice (some ⟨g, 0, none⟩) n cap := by
  rcases h.2 with h0 | ⟨g, cap, cur, hv, _⟩
  · exact .inl h0
  · exact .inr ⟨g, cap, hv⟩
theorem add_plain (b j : Nat) : (⟨b, 0, none⟩ : Addr).add j = ⟨b, j, none⟩ := by unfold Addr.add; split <;> simp_all
/-- the world under a name: what is said of it is all that is known -/
theorem wp_world {P : Program} {c : Code} {Q : Exit → Act → World → Prop} {a : Act} {W : World} (F : World → Prop) (h1 : F W) (h2 : ∀ wz, F wz → Code.wp P c Q a wz) : Code.wp P c Q a W := h2 W h1
theorem calls_world {P : Program} {f : Nat} {args : Array Value} {W : World} {Q : Ending → World → Prop} (F : World → Prop) (h1 : F W) (h2 : ∀ wz, F wz → Calls P f args wz Q) : Calls P f args W Q := h2 W h1
end Go.Proofs.YtnhbjgmfbcedaaaDoor
namespace Crc
set_option linter.unusedSimpArgs false
def T (c : Nat) : Nat := (c / 2) ^^^ (if c % 2 = 1 then 3988292384 else 0)
def Tn : Nat → Nat → Nat
  | 0, c => c
  | n + 1, c => Tn n (T c)
theorem xor_half (a b : Nat) : (a ^^^ b) / 2 = a / 2 ^^^ b / 2 := by
  apply Nat.eq_of_testBit_eq; intro i; simp [Nat.testBit_xor, Nat.testBit_div_two]
theorem xor_low (a b : Nat) : (a ^^^ b) % 2 = (a % 2 + b % 2) % 2 := by
  have h := Nat.xor_mod_two_pow (a := a) (b := b) (n := 1)
  rw [show 2 ^ 1 = 2 from rfl] at h
  rw [h]
  rcases Nat.mod_two_eq_zero_or_one a with h | h <;> rcases Nat.mod_two_eq_zero_or_one b with k | k <;> rw [h, k] <;> rfl
theorem T_xor (a b : Nat) : T (a ^^^ b) = T a ^^^ T b := by
  unfold T
  rw [xor_half, xor_low]
  rcases Nat.mod_two_eq_zero_or_one a with h | h <;> rcases Nat.mod_two_eq_zero_or_one b with k | k <;> simp [h, k]
  · rw [Nat.xor_assoc]
  · rw [Nat.xor_assoc, Nat.xor_assoc, Nat.xor_comm _ (b/2)]
  · rw [show a / 2 ^^^ 3988292384 ^^^ (b / 2 ^^^ 3988292384) = (a / 2 ^^^ b / 2) ^^^ (3988292384 ^^^ 3988292384) by ac_rfl, Nat.xor_self, Nat.xor_zero]
theorem Tn_xor (n a b : Nat) : Tn n (a ^^^ b) = Tn n a ^^^ Tn n b := by
  induction n generalizing a b with
  | zero => rfl
  | succ n ih => simp only [Tn]; rw [T_xor, ih]
theorem T_zero : T 0 = 0 := rfl
theorem Tn_zero (n : Nat) : Tn n 0 = 0 := by induction n with | zero => rfl | succ n ih => simpa [Tn, T_zero] using ih
theorem Tn_succ (n c : Nat) : Tn (n + 1) c = T (Tn n c) := by
  induction n generalizing c with
  | zero => rfl
  | succ n ih => show Tn (n+1) (T c) = _; rw [ih]; rfl
theorem Tn_add (m n c : Nat) : Tn (m + n) c = Tn n (Tn m c) := by
  induction m generalizing c with
  | zero => simp [Tn]
  | succ m ih => rw [Nat.succ_add]; exact ih (T c)
theorem T_lt {c : Nat} (h : c < 2 ^ 32) : T c < 2 ^ 32 := by
  unfold T
  exact Nat.xor_lt_two_pow (by omega) (by split <;> omega)
theorem Tn_lt {n c : Nat} (h : c < 2 ^ 32) : Tn n c < 2 ^ 32 := by
  induction n generalizing c with
  | zero => exact h
  | succ n ih => exact ih (T_lt h)
theorem T_even (c : Nat) : T (2 * c) = c := by unfold T; simp
theorem T8_high (h : Nat) : Tn 8 (256 * h) = h := by
  simp only [Tn]
  rw [show 256 * h = 2 * (2 * (2 * (2 * (2 * (2 * (2 * (2 * h))))))) by omega]
  simp only [T_even]
theorem split8 (c : Nat) : c = (256 * (c / 256)) ^^^ (c % 256) := by
  have h := Nat.two_pow_add_eq_or_of_lt (i := 8) (b := c % 256) (Nat.mod_lt _ (by decide)) (c / 256)
  apply Nat.eq_of_testBit_eq; intro i
  rw [Nat.testBit_xor]
  have e1 : (256 * (c / 256)).testBit i = (decide (8 ≤ i) && c.testBit i) := by
    rw [show (256 : Nat) = 2 ^ 8 from rfl, Nat.testBit_two_pow_mul, Nat.testBit_div_two_pow]
    by_cases hi : 8 ≤ i
    · simp [hi]
    · simp [hi]
  have e2 : (c % 256).testBit i = (decide (i < 8) && c.testBit i) := by
    rw [show (256 : Nat) = 2 ^ 8 from rfl, Nat.testBit_mod_two_pow]
  rw [e1, e2]
  by_cases hi : 8 ≤ i
  · simp [hi, show ¬ i < 8 by omega]
  · simp [hi, show i < 8 by omega]
theorem T8_split (c : Nat) : Tn 8 c = Tn 8 (c % 256) ^^^ (c / 256) := by
  conv => lhs; rw [split8 c]
  rw [Tn_xor, T8_high, Nat.xor_comm]
theorem xor_byte_mod (c b : Nat) (hb : b < 256) : (c ^^^ b) % 256 = (c % 256) ^^^ b := by
  rw [show (256 : Nat) = 2 ^ 8 from rfl, Nat.xor_mod_two_pow, Nat.mod_eq_of_lt (a := b) hb]
theorem xor_byte_div (c b : Nat) (hb : b < 256) : (c ^^^ b) / 256 = c / 256 := by
  rw [show (256 : Nat) = 2 ^ 8 from rfl, Nat.xor_div_two_pow, Nat.div_eq_of_lt (a := b) hb, Nat.xor_zero]
/-- one byte -/
def byte (c b : Nat) : Nat := Tn 8 (c ^^^ b)
theorem byte_tab (c b : Nat) (hb : b < 256) : byte c b = Tn 8 (c % 256 ^^^ b) ^^^ (c / 256) := by
  unfold byte; rw [T8_split, xor_byte_mod c b hb, xor_byte_div c b hb]
theorem byte_lt {c b : Nat} (hc : c < 2 ^ 32) (hb : b < 256) : byte c b < 2 ^ 32 := Tn_lt (Nat.xor_lt_two_pow hc (by omega))
def run (c : Nat) (l : List UInt8) : Nat := l.foldl (fun c b => byte c b.toNat) c
theorem run_lt {c : Nat} (hc : c < 2 ^ 32) (l : List UInt8) : run c l < 2 ^ 32 := by
  induction l generalizing c with
  | nil => exact hc
  | cons b l ih => exact ih (byte_lt hc b.toNat_lt)
def flip (c : Nat) : Nat := c ^^^ 4294967295
theorem flip_lt {c : Nat} (hc : c < 2 ^ 32) : flip c < 2 ^ 32 := Nat.xor_lt_two_pow hc (by omega)
theorem flip_flip (c : Nat) : flip (flip c) = c := by unfold flip; rw [Nat.xor_assoc, Nat.xor_self, Nat.xor_zero]
def more (c : Nat) (l : List UInt8) : Nat := flip (run (flip c) l)
def crc (l : List UInt8) : Nat := more 0 l
theorem more_more (c : Nat) (a b : List UInt8) : more (more c a) b = more c (a ++ b) := by
  unfold more; rw [flip_flip]; unfold run; rw [List.foldl_append]
end Crc
namespace Crc
set_option linter.unusedSimpArgs false
/-- the number whose digits to base 256 are the bytes, the lowest first -/
def num : List UInt8 → Nat
  | [] => 0
  | b :: l => b.toNat + 256 * num l
theorem num_cons (b : UInt8) (l : List UInt8) : num (b :: l) = b.toNat ^^^ (256 * num l) := by
  have h := split8 (num (b :: l))
  have hb : b.toNat < 256 := b.toNat_lt
  have e1 : num (b :: l) / 256 = num l := by show (b.toNat + 256 * num l) / 256 = _; omega
  have e2 : num (b :: l) % 256 = b.toNat := by show (b.toNat + 256 * num l) % 256 = _; omega
  rw [e1, e2, Nat.xor_comm] at h
  exact h
theorem run_num (l : List UInt8) : ∀ c : Nat, run c l = Tn (8 * l.length) (c ^^^ num l) := by
  induction l with
  | nil => intro c; simp [run, num, Tn]
  | cons b l ih =>
    intro c
    show run (byte c b.toNat) l = _
    rw [ih, List.length_cons, show 8 * (l.length + 1) = 8 + 8 * l.length by omega, Tn_add, num_cons, ← Nat.xor_assoc, Tn_xor 8 (c ^^^ b.toNat), T8_high]
    rfl
theorem num_lt (l : List UInt8) : num l < 2 ^ (8 * l.length) := by
  induction l with
  | nil => simp [num]
  | cons b l ih =>
    have hb : b.toNat < 256 := b.toNat_lt
    rw [List.length_cons, show 8 * (l.length + 1) = 8 * l.length + 8 by omega, Nat.pow_add]
    show b.toNat + 256 * num l < _
    omega
theorem num_inj : ∀ (l m : List UInt8), l.length = m.length → num l = num m → l = m
  | [], [], _, _ => rfl
  | [], _ :: _, h, _ => by simp at h
  | _ :: _, [], h, _ => by simp at h
  | a :: l, b :: m, h, e => by
    have ha : a.toNat < 256 := a.toNat_lt
    have hb : b.toNat < 256 := b.toNat_lt
    have e' : a.toNat + 256 * num l = b.toNat + 256 * num m := e
    have h1 : a.toNat = b.toNat := by omega
    have h2 : num l = num m := by omega
    rw [UInt8.toNat_inj.1 h1, num_inj l m (by simpa using h) h2]
theorem num_set (l : List UInt8) : ∀ (j : Nat) (c : UInt8), (hj : j < l.length) → num (l.set j c) = num l ^^^ ((l[j].toNat ^^^ c.toNat) * 256 ^ j) := by
  induction l with
  | nil => intro j c hj; simp at hj
  | cons b l ih =>
    intro j c hj
    cases j with
    | zero =>
      simp only [List.set_cons_zero, List.getElem_cons_zero, Nat.pow_zero, Nat.mul_one]
      rw [num_cons, num_cons, show b.toNat ^^^ 256 * num l ^^^ (b.toNat ^^^ c.toNat) = (b.toNat ^^^ b.toNat) ^^^ (c.toNat ^^^ 256 * num l) by ac_rfl, Nat.xor_self, Nat.zero_xor]
    | succ j =>
      simp only [List.set_cons_succ, List.getElem_cons_succ]
      rw [num_cons, num_cons, ih j c (by simpa using hj), Nat.xor_assoc]
      congr 1
      rw [show (256 : Nat) = 2 ^ 8 from rfl, Nat.mul_comm, Nat.mul_comm (2 ^ 8) (num l), ← Nat.shiftLeft_eq, ← Nat.shiftLeft_eq, Nat.shiftLeft_xor_distrib, Nat.shiftLeft_eq, Nat.shiftLeft_eq]
      congr 1
      rw [Nat.mul_assoc, ← Nat.pow_succ]
theorem num_flip (l : List UInt8) (j t : Nat) (c : UInt8) (hj : j < l.length) (hc : c.toNat = l[j].toNat ^^^ 2 ^ t) : num (l.set j c) = num l ^^^ 2 ^ (8 * j + t) := by
  rw [num_set l j c hj, hc, ← Nat.xor_assoc, Nat.xor_self, Nat.zero_xor, show (256 : Nat) = 2 ^ 8 from rfl, ← Nat.pow_mul, ← Nat.pow_add, Nat.add_comm]
/-- what has been turned after i rounds -/
def turned (turn at_ len i : Nat) : Nat := (turn % 2 ^ i) * 2 ^ at_ % 2 ^ len
theorem turned_bit (turn a len i j : Nat) : (turned turn a len i).testBit j = (decide (j < len) && (decide (a ≤ j) && (decide (j - a < i) && turn.testBit (j - a)))) := by
  unfold turned
  rw [Nat.testBit_mod_two_pow, Nat.mul_comm, Nat.testBit_two_pow_mul, Nat.testBit_mod_two_pow]
theorem turned_zero (turn a len : Nat) : turned turn a len 0 = 0 := by
  unfold turned; simp [Nat.mod_one]
theorem turned_yes (turn a len i : Nat) (hb : turn.testBit i = true) (hk : a + i < len) : turned turn a len (i + 1) = turned turn a len i ^^^ 2 ^ (a + i) := by
  apply Nat.eq_of_testBit_eq; intro j
  rw [Nat.testBit_xor, turned_bit, turned_bit, Nat.testBit_two_pow]
  by_cases h : a + i = j
  · subst h; simp [hk, hb]
  · have e : decide (j - a < i + 1) = decide (j - a < i) ∨ ¬ a ≤ j := by
      by_cases ha : a ≤ j
      · left; simp only [decide_eq_decide]; omega
      · right; exact ha
    rcases e with e | e
    · simp [e, h]
    · simp [e, h]
theorem turned_no (turn a len i : Nat) (h : ¬ (turn.testBit i = true ∧ a + i < len)) : turned turn a len (i + 1) = turned turn a len i := by
  apply Nat.eq_of_testBit_eq; intro j
  rw [turned_bit, turned_bit]
  by_cases e : a + i = j
  · subst e
    by_cases hb : turn.testBit i = true
    · have : ¬ a + i < len := fun hk => h ⟨hb, hk⟩
      simp [this]
    · simp at hb; simp [hb]
  · by_cases ha : a ≤ j
    · have : decide (j - a < i + 1) = decide (j - a < i) := by simp only [decide_eq_decide]; omega
      rw [this]
    · simp [ha]
theorem T_ne {x : Nat} (h : x < 2 ^ 32) (hx : x ≠ 0) : T x ≠ 0 := by
  unfold T
  rcases Nat.mod_two_eq_zero_or_one x with h0 | h1
  · rw [h0]; simp; omega
  · rw [h1, if_pos rfl]
    intro hz
    have hb := congrArg (fun n => n.testBit 31) hz
    simp only [Nat.testBit_xor, Nat.zero_testBit] at hb
    have h31 : (x / 2).testBit 31 = false := Nat.testBit_lt_two_pow (by omega)
    rw [h31] at hb
    exact absurd hb (by decide)
theorem Tn_ne {n x : Nat} (h : x < 2 ^ 32) (hx : x ≠ 0) : Tn n x ≠ 0 := by
  induction n generalizing x with
  | zero => exact hx
  | succ n ih => exact ih (T_lt h) (T_ne h hx)
theorem Tn_shift (a x : Nat) : Tn a (x * 2 ^ a) = x := by
  induction a generalizing x with
  | zero => simp [Tn]
  | succ a ih =>
    simp only [Tn]
    rw [show x * 2 ^ (a + 1) = 2 * (x * 2 ^ a) by rw [Nat.pow_succ]; ac_rfl, T_even, ih]
theorem turned_all (turn a len : Nat) (ht : turn < 2 ^ 32) (ha : a < len) : turned turn a len 32 = (turn % 2 ^ (len - a)) * 2 ^ a := by
  unfold turned
  rw [Nat.mod_eq_of_lt ht]
  conv => lhs; rw [show len = (len - a) + a by omega, Nat.pow_add]
  rw [Nat.mul_mod_mul_right]
/-- the law: what was turned shows in the sum, unless nothing was -/
theorem burst (l m : List UInt8) (turn a : Nat) (hl : l.length = m.length) (ht : turn < 2 ^ 32) (ha : a < 8 * l.length)
    (hm : num m = num l ^^^ turned turn a (8 * l.length) 32) : m = l ∨ crc m ≠ crc l := by
  by_cases hx : turn % 2 ^ (8 * l.length - a) = 0
  · left
    rw [turned_all turn a _ ht ha, hx, Nat.zero_mul, Nat.xor_zero] at hm
    exact num_inj _ _ hl.symm hm
  · right
    intro he
    unfold crc more at he
    have h1 : run (flip 0) m = run (flip 0) l := by
      have := congrArg flip he; rwa [flip_flip, flip_flip] at this
    rw [run_num, run_num, ← hl, hm, ← Nat.xor_assoc, Tn_xor _ (flip 0 ^^^ num l)] at h1
    have h2 : Tn (8 * l.length) (turned turn a (8 * l.length) 32) = 0 := by
      have := congrArg (fun z => Tn (8 * l.length) (flip 0 ^^^ num l) ^^^ z) h1
      simp only [← Nat.xor_assoc, Nat.xor_self, Nat.zero_xor] at this
      exact this
    rw [turned_all turn a _ ht ha, show 8 * l.length = a + (8 * l.length - a) by omega, Tn_add, Tn_shift] at h2
    refine Tn_ne ?_ hx ?_ (n := 8 * l.length - a)
    · exact Nat.lt_of_le_of_lt (Nat.mod_le _ _) ht
    · have e : a + (8 * l.length - a) - a = 8 * l.length - a := by omega
      rw [e] at h2
      exact h2
end Crc
namespace Go.Proofs.YtnhbjgmfbcedaaaDoor
open Go.RowKit
set_option linter.unusedSimpArgs false
def bytesV (l : List UInt8) : List Value := l.map fun b => Value.int .u8 (b.toNat : Int)
structure WAt (w : World) (B o : Nat) (v : Value) (V n : Nat) : Prop where
  c0 : w.cell? ⟨B, o, none⟩ = some v
  c1 : w.cell? ⟨B, o + 1, none⟩ = some (.int .i64 (n : Int))
  f0 : w.frozen? ⟨B, o, none⟩ = false
  f1 : w.frozen? ⟨B, o + 1, none⟩ = false
  row : ∃ l : List UInt8, l.length = (n + 7) / 8 ∧ Crc.num l = V ∧ w.ownsRow 0 5 1 v l.length (bytesV l)
  apart : v.ownBlock ≠ some B
  lt : V < 2 ^ n
structure WStep (w w' : World) (B o : Nat) (v v' : Value) : Prop where
  keeps : Keeps (fun k => k = B ∨ v.ownBlock = some k) w w'
  cells : ∀ j, j ≠ o → j ≠ o + 1 → w'.cell? ⟨B, j, none⟩ = w.cell? ⟨B, j, none⟩
  marks : ∀ j, w'.frozen? ⟨B, j, none⟩ = w.frozen? ⟨B, j, none⟩
  new : ∀ k, v'.ownBlock = some k → v.ownBlock = some k ∨ w.heap.size ≤ k
theorem WStep.refl (w : World) (B o : Nat) (v : Value) : WStep w w B o v v := ⟨Keeps.refl _ _, fun _ _ _ => rfl, fun _ => rfl, fun _ h => .inl h⟩
theorem WStep.trans {a b c : World} {B o : Nat} {u v x : Value} (h : WStep a b B o u v) (k : WStep b c B o v x) : WStep a c B o u x := by
  refine ⟨h.keeps.trans k.keeps ?_, fun j h1 h2 => (k.cells j h1 h2).trans (h.cells j h1 h2), fun j => (k.marks j).trans (h.marks j), ?_⟩
  · intro i hi q
    rcases q with q | q
    · exact .inl q
    · rcases h.new i q with r | r
      · exact .inr r
      · omega
  · intro i q
    rcases k.new i q with r | r
    · exact h.new i r
    · have := h.keeps.size; exact .inr (by omega)
theorem bytesV_length (l : List UInt8) : (bytesV l).length = l.length := by simp [bytesV]
theorem bytesV_get (l : List UInt8) (j : Nat) (h : j < l.length) : (bytesV l)[j]? = some (.int .u8 (l[j].toNat : Int)) := by simp [bytesV, h]
theorem bytesV_set (l : List UInt8) (j : Nat) (c : UInt8) : (bytesV l).set j (.int .u8 (c.toNat : Int)) = bytesV (l.set j c) := by simp [bytesV, List.map_set]
theorem num_append_zero (l : List UInt8) : Crc.num (l ++ [0]) = Crc.num l := by
  induction l with
  | nil => rfl
  | cons b l ih => show b.toNat + 256 * Crc.num (l ++ [0]) = _; rw [ih]; rfl
/-- a bit laid on top of a number that does not reach so far -/
theorem xor_top (V n b : Nat) (hV : V < 2 ^ n) : V ^^^ b * 2 ^ n = V + b * 2 ^ n := by
  have h := Nat.two_pow_add_eq_or_of_lt (i := n) (b := V) hV b
  have h2 : V + b * 2 ^ n = V ||| b * 2 ^ n := by rw [Nat.add_comm, Nat.mul_comm, h, Nat.or_comm]
  rw [h2]
  apply Nat.eq_of_testBit_eq; intro i
  rw [Nat.testBit_xor, Nat.testBit_or, Nat.mul_comm, Nat.testBit_two_pow_mul]
  by_cases hi : n ≤ i
  · rw [Nat.testBit_lt_two_pow (Nat.lt_of_lt_of_le hV (Nat.pow_le_pow_right (by decide) hi))]; simp
  · simp [hi]
theorem num_byte (l : List UInt8) : ∀ (j : Nat) (h : j < l.length), l[j].toNat = Crc.num l / 256 ^ j % 256 := by
  induction l with
  | nil => intro j h; simp at h
  | cons b l ih =>
    intro j h
    have hb : b.toNat < 256 := b.toNat_lt
    cases j with
    | zero => show b.toNat = (b.toNat + 256 * Crc.num l) / 1 % 256; omega
    | succ j =>
      simp only [List.getElem_cons_succ]
      rw [ih j (by simpa using h), Nat.pow_succ, Nat.mul_comm, ← Nat.div_div_eq_div_mul]
      show _ = (b.toNat + 256 * Crc.num l) / 256 / 256 ^ j % 256
      congr 2; omega
theorem or_byte (x b t : Nat) (hx : x < 2 ^ t) (hb : b ≤ 1) (ht : t < 8) : ∃ c : UInt8, c.toNat = x ^^^ b * 2 ^ t ∧ bits BinOp.or IntKind.u8 (x : Int) (((b * 2 ^ t : Nat) : Int)) = (c.toNat : Int) := by
  have h2 : 2 ^ t ≤ 2 ^ 7 := Nat.pow_le_pow_right (by decide) (by omega)
  have h3 : b * 2 ^ t ≤ 2 ^ t := by
    rcases (show b = 0 ∨ b = 1 by omega) with h | h <;> subst h <;> omega
  have hlt : x ^^^ b * 2 ^ t < 2 ^ 8 := Nat.xor_lt_two_pow (by omega) (by omega)
  have hc : (UInt8.ofNat (x ^^^ b * 2 ^ t)).toNat = x ^^^ b * 2 ^ t := by rw [UInt8.toNat_ofNat']; exact Nat.mod_eq_of_lt hlt
  refine ⟨UInt8.ofNat (x ^^^ b * 2 ^ t), hc, ?_⟩
  rw [hc, u8_or_nat _ _ (by omega) (by omega), xor_top x t b hx]
  have h := Nat.two_pow_add_eq_or_of_lt (i := t) (b := x) hx b
  rw [show x + b * 2 ^ t = 2 ^ t * b + x by rw [Nat.mul_comm, Nat.add_comm], h, Nat.mul_comm, Nat.or_comm]
/-- a bit more in the last byte: the memory behind it -/
theorem one_mem (w : World) (B o g cap n V b : Nat) (l : List UInt8) (hl : l.length = n / 8 + 1) (hV : Crc.num l = V) (hlt : V < 2 ^ n) (hb : b ≤ 1) (hne : g ≠ B)
    (c0 : w.cell? ⟨B, o, none⟩ = some (.slice (some ⟨g, 0, none⟩) l.length cap)) (c1 : w.cell? ⟨B, o + 1, none⟩ = some (.int .i64 (n : Int))) (f0 : w.frozen? ⟨B, o, none⟩ = false) (f1 : w.frozen? ⟨B, o + 1, none⟩ = false)
    (hown : w.ownsRow 0 5 1 (.slice (some ⟨g, 0, none⟩) l.length cap) l.length (bytesV l)) (hj : l.length - 1 < l.length) (x : Int)
    (hx : x = bits BinOp.or IntKind.u8 ((l[l.length - 1].toNat : Nat) : Int) ((b : Int) * 2 ^ (n % 8) % 256)) :
    WAt ((w.setCell ⟨g, l.length - 1, none⟩ (.int .u8 x)).setCell ⟨B, o + 1, none⟩ (.int .i64 ((n : Int) + 1))).drew B o (.slice (some ⟨g, 0, none⟩) l.length cap) (V + b * 2 ^ n) (n + 1) ∧
      WStep w ((w.setCell ⟨g, l.length - 1, none⟩ (.int .u8 x)).setCell ⟨B, o + 1, none⟩ (.int .i64 ((n : Int) + 1))).drew B o (.slice (some ⟨g, 0, none⟩) l.length cap) (.slice (some ⟨g, 0, none⟩) l.length cap) := by
  have ht : n % 8 < 8 := by omega
  have hsm : l[l.length - 1].toNat < 2 ^ (n % 8) := by
    rw [num_byte l _ hj]
    have e : n = 8 * (l.length - 1) + n % 8 := by omega
    have h2 : Crc.num l / 256 ^ (l.length - 1) < 2 ^ (n % 8) := by
      rw [show (256 : Nat) = 2 ^ 8 from rfl, ← Nat.pow_mul]
      refine Nat.div_lt_of_lt_mul ?_
      rw [← Nat.pow_add, ← e, hV]; exact hlt
    exact Nat.lt_of_le_of_lt (Nat.mod_le _ _) h2
  obtain ⟨c, hc1, hc2⟩ := or_byte l[l.length - 1].toNat b (n % 8) hsm hb ht
  have hpow : 2 ^ (n % 8) ≤ 2 ^ 7 := Nat.pow_le_pow_right (by decide) (by omega)
  have hm : (b : Int) * 2 ^ (n % 8) % 256 = ((b * 2 ^ (n % 8) : Nat) : Int) := by
    have h3 : b * 2 ^ (n % 8) < 256 := by
      rcases (show b = 0 ∨ b = 1 by omega) with h | h <;> subst h <;> omega
    rw [show (b : Int) * 2 ^ (n % 8) = ((b * 2 ^ (n % 8) : Nat) : Int) by simp]; omega
  rw [hm, hc2] at hx
  subst hx
  obtain ⟨st1, st2⟩ := hown.stored (l.length - 1) (.int .u8 (c.toNat : Int))
  rw [bytesV_set] at st1
  have a1 : (⟨g, l.length - 1, none⟩ : Addr) ≠ ⟨B, o, none⟩ := by intro e; injection e with e1; exact hne e1
  have a2 : (⟨g, l.length - 1, none⟩ : Addr) ≠ ⟨B, o + 1, none⟩ := by intro e; injection e with e1; exact hne e1
  have a3 : (⟨B, o + 1, none⟩ : Addr) ≠ ⟨B, o, none⟩ := by intro e; injection e with _ e2; omega
  have d0 := (World.cell?_setCell_other w _ _ (.int .u8 (c.toNat : Int)) a1).trans c0
  have d1 := (World.cell?_setCell_other w _ _ (.int .u8 (c.toNat : Int)) a2).trans c1
  refine ⟨⟨?_, ?_, ?_, ?_, ⟨l.set (l.length - 1) c, ?_, ?_, ?_⟩, ?_, ?_⟩, ⟨?_, ?_, ?_, ?_⟩⟩
  · exact (World.cell?_setCell_other _ _ _ _ a3).trans d0
  · exact World.cell?_setCell_same _ _ _ d1
  · show World.frozen? (World.setCell _ _ _) _ = _; rw [World.frozen?_setCell, World.frozen?_setCell]; exact f0
  · show World.frozen? (World.setCell _ _ _) _ = _; rw [World.frozen?_setCell, World.frozen?_setCell]; exact f1
  · rw [List.length_set]; omega
  · have e1 : l[l.length - 1].toNat ^^^ c.toNat = b * 2 ^ (n % 8) := by rw [hc1, ← Nat.xor_assoc, Nat.xor_self, Nat.zero_xor]
    rw [Crc.num_set l _ c hj, e1, hV, Nat.mul_assoc, show (256 : Nat) = 2 ^ 8 from rfl, ← Nat.pow_mul, ← Nat.pow_add, show n % 8 + 8 * (l.length - 1) = n by omega, xor_top V n b hlt]
  · rw [List.length_set]
    exact ownsRow_setCell_other st1 (by intro e; exact hne (Option.some.inj e)) _
  · intro e; exact hne (Option.some.inj e)
  · rw [Nat.pow_succ]
    rcases (show b = 0 ∨ b = 1 by omega) with h | h <;> subst h <;> omega
  · exact ((Keeps.refl _ w).setCell (.inl (.inr rfl)) _ |>.setCell (.inl (.inl rfl)) _).drew
  · intro j h1 h2
    have b1 : (⟨B, o + 1, none⟩ : Addr) ≠ ⟨B, j, none⟩ := by intro e; injection e with _ e2; exact h2 e2.symm
    have b2 : (⟨g, l.length - 1, none⟩ : Addr) ≠ ⟨B, j, none⟩ := by intro e; injection e with e1; exact hne e1
    exact (World.cell?_setCell_other _ _ _ _ b1).trans (World.cell?_setCell_other _ _ _ _ b2)
  · intro j; show World.frozen? (World.setCell _ _ _) _ = _; rw [World.frozen?_setCell, World.frozen?_setCell]
  · intro k hk; exact .inl hk
theorem u8info : (Tryd.prog.info? 5).map (fun i => (i.zero, i.size, i.bytes)) = some (some (.int .u8 0), 1, 1) := by kernel_rfl
set_option maxRecDepth 100000 in
set_option maxHeartbeats 1000000 in
/-- within a byte -/
theorem one_in (B o n V b : Nat) (v : Value) (w : World) (hW : WAt w B o v V n) (hb : b ≤ 1) (hn : n < 1099511627776) (h8 : n % 8 ≠ 0) :
    Calls Tryd.prog 104 #[.pointer (some ⟨B, o, none⟩), .int .u32 (b : Int)] w fun e w' => e = .returned (.tuple #[]) ∧ ∃ v', WAt w' B o v' (V + b * 2 ^ n) (n + 1) ∧ WStep w w' B o v v' := by
  obtain ⟨c0, c1, f0, f1, ⟨l, hl, hV, hown⟩, hap, hlt⟩ := hW
  have hpos : 0 < l.length := by omega
  obtain ⟨g, cap, rfl, hcap, hg⟩ := ownsRow_some hown hpos
  have hj : l.length - 1 < l.length := by omega
  have hcell : w.cell? ⟨g, l.length - 1, none⟩ = some (.int .u8 (l[l.length - 1].toNat : Int)) := by
    rw [hown.cellAt _ (by omega), bytesV_get l _ hj]
  have hfr := hown.frozenAt (l.length - 1)
  have hne : g ≠ B := fun e => hap (by rw [e]; rfl)
  have hq : ((n : Int) % 8 == 0) = false := by rw [beq_eq_false_iff_ne]; omega
  have H8 := Lib.hid h8
  have HL := Lib.hid hl
  have HV := Lib.hid hV
  have hlen : (l.length : Int) ≤ 1099511627776 := by omega
  have hlen1 : (1 : Int) ≤ (l.length : Int) := by omega
  clear h8 hl hV
  go_enter Tryd.func104, Tryd.ntmps104
  go_wp2
  go_region
  go_wp2
  go_end0
  refine ⟨rfl, .slice (some ⟨g, 0, none⟩) l.length cap, ?_⟩
  exact one_mem w B o g cap n V b l (by have := HL.out; have := H8.out; omega) HV.out hlt hb hne c0 c1 f0 f1 hown hj _ rfl
set_option maxRecDepth 100000 in
set_option maxHeartbeats 1000000 in
/-- a new byte -/
theorem one_new (B o n V b : Nat) (v : Value) (w : World) (hW : WAt w B o v V n) (hb : b ≤ 1) (hn : n < 1099511627776) (h8 : n % 8 = 0) :
    Calls Tryd.prog 104 #[.pointer (some ⟨B, o, none⟩), .int .u32 (b : Int)] w fun e w' => e = .returned (.tuple #[]) ∧ ∃ v', WAt w' B o v' (V + b * 2 ^ n) (n + 1) ∧ WStep w w' B o v v' := by
  obtain ⟨c0, c1, f0, f1, ⟨l, hl, hV, hown⟩, hap, hlt⟩ := hW
  have hB : B < w.heap.size := World.block_lt_of_cell? w _ c0
  have hq : ((n : Int) % 8 == 0) = true := by rw [beq_iff_eq]; omega
  obtain ⟨i0, hi, hz0, hz1, hz2⟩ := info_parts u8info
  have H8 := Lib.hid h8
  have HL := Lib.hid hl
  have HV := Lib.hid hV
  have hlen : l.length ≤ 1099511627776 := by omega
  clear h8 hl hV
  go_enter Tryd.func104, Tryd.ntmps104
  go_wp2_with (at_builtin; refine wpList_append_own_at _ rfl _ _ 61 rfl 0 5 i0 (.int .u8 0) 1 1 Tryd.underlying61 hi hz0 hz1 hz2 rfl (by decide) _ _ _ rfl (hown.alloc _) ⟨w.heap.size, 0, none⟩ 1 1 [.int .u8 0] rfl rfl ?c1 ?c2 ?c3 ?c4 ?c5 ?_)
  case c1 => exact (cell_one_new _ _ _)
  case c2 => intro u hu; simp at hu; subst hu; rfl
  case c3 => unfold maxLen; omega
  case c4 => omega
  case c5 => simp
  intro v' w' hown' hgrow _ hat
  have K : Keeps (fun k => v.ownBlock = some k) w w' := ((Keeps.refl _ w).alloc _).trans (Keeps.grown hgrow) (fun _ _ q => q)
  have hsz : w.heap.size + 1 ≤ w'.heap.size := by have := hgrow.size; simpa using this
  have e0 : w'.cell? ⟨B, o, none⟩ = some v := (K.cell hB hap).trans c0
  have e1 : w'.cell? ⟨B, o + 1, none⟩ = some (.int .i64 (n : Int)) := (K.cell hB hap).trans c1
  have z0 : w'.frozen? ⟨B, o, none⟩ = false := (K.frozen hB hap).trans f0
  have z1 : w'.frozen? ⟨B, o + 1, none⟩ = false := (K.frozen hB hap).trans f1
  have hnew : ∀ k, v'.ownBlock = some k → v.ownBlock = some k ∨ w.heap.size ≤ k := by
    intro k hk
    rcases hat with q | q
    · rw [q] at hk; exact .inl hk
    · rw [q] at hk; injection hk with hk; have : w.heap.size ≤ (w.alloc (.cells #[.int .u8 0] 5)).heap.size := by simp
      exact .inr (by omega)
  have hap' : v'.ownBlock ≠ some B := fun e => by rcases hnew B e with q | q; exact hap q; omega
  have hown2 : w'.ownsRow 0 5 1 v' (l ++ [0]).length (bytesV (l ++ [0])) := by
    have q := hown'; simp only [bytesV, List.map_append, List.length_append] at q ⊢; exact q
  obtain ⟨g, cap, hv, hcap, hg⟩ := ownsRow_some hown2 (by simp)
  have HP : Hid (w'.ownsRow 0 5 1 v' (l ++ [0]).length (bytesV (l ++ [0])) ∧ v'.ownBlock ≠ some B ∧ ∀ k, v'.ownBlock = some k → v.ownBlock = some k ∨ w.heap.size ≤ k) := ⟨hown2, hap', hnew⟩
  have ST : WStep w (w'.setCell ⟨B, o, none⟩ v') B o v v' := by
    refine ⟨(K.mono fun _ _ q => .inr q).setCell (.inl (.inl rfl)) _, ?_, ?_, hnew⟩
    · intro j h1 h2
      refine (World.cell?_setCell_other _ _ _ _ (by intro e; injection e with _ e2; exact h1 e2.symm)).trans (K.cell hB hap)
    · intro j
      rw [World.frozen?_setCell]; exact K.frozen hB hap
  have HST := Lib.hid ST
  clear ST
  clear hown' hgrow hown2 hap' hnew hat K c0 c1 f0 f1
  rw [hv] at HP HST ⊢
  clear hv
  obtain ⟨hown3, hap3, hnew3⟩ := HP.out
  have hne : g ≠ B := fun e => hap3 (by rw [e]; rfl)
  have eL : (l ++ [0]).length = l.length + 1 := by simp
  rw [eL] at hown3 HST
  go_wp2
  have a1 : (⟨B, o, none⟩ : Addr) ≠ ⟨B, o + 1, none⟩ := by intro e; injection e with _ e2; omega
  have y0 : (w'.setCell ⟨B, o, none⟩ (.slice (some ⟨g, 0, none⟩) (l.length + 1) cap)).cell? ⟨B, o, none⟩ = some (.slice (some ⟨g, 0, none⟩) (l.length + 1) cap) := World.cell?_setCell_same _ _ _ e0
  have y1 : (w'.setCell ⟨B, o, none⟩ (.slice (some ⟨g, 0, none⟩) (l.length + 1) cap)).cell? ⟨B, o + 1, none⟩ = some (.int .i64 (n : Int)) := (World.cell?_setCell_other _ _ _ _ a1).trans e1
  have x0 : (w'.setCell ⟨B, o, none⟩ (.slice (some ⟨g, 0, none⟩) (l.length + 1) cap)).frozen? ⟨B, o, none⟩ = false := by rw [World.frozen?_setCell]; exact z0
  have x1 : (w'.setCell ⟨B, o, none⟩ (.slice (some ⟨g, 0, none⟩) (l.length + 1) cap)).frozen? ⟨B, o + 1, none⟩ = false := by rw [World.frozen?_setCell]; exact z1
  have hown4 : (w'.setCell ⟨B, o, none⟩ (.slice (some ⟨g, 0, none⟩) (l.length + 1) cap)).ownsRow 0 5 1 (.slice (some ⟨g, 0, none⟩) (l.length + 1) cap) (l.length + 1) (bytesV (l ++ [0])) := ownsRow_setCell_other hown3 (by intro e; exact hne (Option.some.inj e)) _
  clear a1 e0 e1 z0 z1 hown3 hsz
  generalize (w'.setCell ⟨B, o, none⟩ (.slice (some ⟨g, 0, none⟩) (l.length + 1) cap)) = w2 at *
  have hj : l.length < (l ++ [0]).length := by omega
  have hcell : w2.cell? ⟨g, l.length, none⟩ = some (.int .u8 ((l ++ [0])[l.length].toNat : Int)) := by
    rw [hown4.cellAt _ (by omega), bytesV_get (l ++ [0]) _ hj]
  have hfr := hown4.frozenAt l.length
  have hlenI : (l.length : Int) ≤ 1099511627776 := by omega
  have HE := Lib.hid eL
  clear eL
  go_wp2
  go_region
  go_wp2
  go_end0
  refine ⟨rfl, .slice (some ⟨g, 0, none⟩) (l.length + 1) cap, ?_⟩
  have q := one_mem w2 B o g cap n V b (l ++ [0]) (by rw [HE.out, HL.out]; have := H8.out; omega) (by rw [num_append_zero]; exact HV.out) hlt hb hne (by rw [HE.out]; exact y0) y1 x0 x1 (by rw [HE.out]; exact hown4) (by rw [HE.out]; omega)
    (bits BinOp.or IntKind.u8 0 ((b : Int) * 2 ^ (n % 8) % 256)) (by simp)
  simp only [HE.out, Nat.add_sub_cancel] at q
  exact ⟨q.1, HST.out.trans q.2⟩
/-- one bit more, whatever it is: only whether the number is odd counts -/
theorem one_calls (B o n V b : Nat) (v : Value) (w : World) (hW : WAt w B o v V n) (hb : b ≤ 1) (hn : n < 1099511627776) :
    Calls Tryd.prog 104 #[.pointer (some ⟨B, o, none⟩), .int .u32 (b : Int)] w fun e w' => e = .returned (.tuple #[]) ∧ ∃ v', WAt w' B o v' (V + b * 2 ^ n) (n + 1) ∧ WStep w w' B o v v' := by
  by_cases h : n % 8 = 0
  · exact one_new B o n V b v w hW hb hn h
  · exact one_in B o n V b v w hW hb hn h
end Go.Proofs.YtnhbjgmfbcedaaaDoor
namespace Go.Proofs.YtnhbjgmfbcedaaaDoor
open Go.RowKit
set_option linter.unusedSimpArgs false
set_option maxRecDepth 100000
theorem fits_calls (x : Nat) (width : Int) (w : World) (hw1 : -9223372036854775808 ≤ width) (hw2 : width ≤ 9223372036854775807) (hx : x < 4294967296) :
    Calls Tryd.prog 103 #[.int .u32 (x : Int), .int .i64 width] w fun e w' => e = .returned (.bool (decide (0 ≤ width ∧ width ≤ 32 ∧ x < 2 ^ width.toNat))) ∧ w = w' := by
  by_cases h1 : 0 ≤ width
  · by_cases h2 : width ≤ 32
    · obtain ⟨k, rfl⟩ : ∃ k : Nat, width = k := ⟨width.toNat, by omega⟩
      have hk : k ≤ 32 := by omega
      go_enter Tryd.func103, Tryd.ntmps103
      go_wp2
      go_ret
      refine ⟨ret_bool ?_, rfl⟩
      rw [Bool.eq_iff_iff, beq_iff_eq, decide_eq_true_iff]
      simp only [Int.toNat_natCast]
      rw [show ((x : Int) / 2 ^ k) = ((x / 2 ^ k : Nat) : Int) by simp]
      constructor
      · intro h
        have h' : x / 2 ^ k = 0 := by omega
        rcases (Nat.div_eq_zero_iff).1 h' with q | q
        · have := Nat.two_pow_pos k; omega
        · exact ⟨by omega, by omega, q⟩
      · intro h
        rw [Nat.div_eq_of_lt h.2.2]; rfl
    · go_enter Tryd.func103, Tryd.ntmps103
      go_wp2
      go_ret
      exact ⟨ret_bool (by symm; simp only [Bool.and_eq_false_iff, decide_eq_false_iff_not]; omega), rfl⟩
  · go_enter Tryd.func103, Tryd.ntmps103
    go_wp2
    go_ret
    exact ⟨ret_bool (by symm; simp only [Bool.and_eq_false_iff, decide_eq_false_iff_not]; omega), rfl⟩
theorem bit_and (x i : Nat) (hx : x / 2 ^ i < 4294967296) : bits BinOp.and IntKind.u32 ((x : Int) / 2 ^ i) 1 = ((x / 2 ^ i % 2 : Nat) : Int) := by
  rw [show (x : Int) / 2 ^ i = ((x / 2 ^ i : Nat) : Int) by simp, show (1 : Int) = ((1 : Nat) : Int) from rfl, u32_and_nat _ _ hx (by decide), Nat.and_one_is_mod]
theorem mod_next (x i : Nat) : x % 2 ^ (i + 1) = x % 2 ^ i + x / 2 ^ i % 2 * 2 ^ i := by
  rw [Nat.pow_succ, Nat.mod_mul, Nat.mul_comm (2 ^ i)]
theorem put_in (B o n V x k : Nat) (v : Value) (w : World) (hW : WAt w B o v V n) (hk : k ≤ 32) (hx : x < 2 ^ k) (hn : n + 32 < 1099511627776) :
    Calls Tryd.prog 72 #[.pointer (some ⟨B, o, none⟩), .int .u32 (x : Int), .int .i64 (k : Int)] w fun e w' => e = .returned .nilIface ∧ ∃ v', WAt w' B o v' (V + x * 2 ^ n) (n + k) ∧ WStep w w' B o v v' := by
  have hx32 : x < 4294967296 := Nat.lt_of_lt_of_le hx (Nat.pow_le_pow_right (n := 2) (by decide) hk)
  have hfit : decide (0 ≤ (k : Int) ∧ (k : Int) ≤ 32 ∧ x < 2 ^ (k : Int).toNat) = true := by rw [decide_eq_true_iff]; exact ⟨by omega, by omega, by simpa using hx⟩
  have HX := Lib.hid hx
  have HW := Lib.hid hW
  have HF := Lib.hid hfit
  clear hx hW hfit
  go_enter Tryd.func72, Tryd.ntmps72
  go_wp2_with fail
  refine (fits_calls x k _ (by omega) (by omega) hx32).mono ?_
  rintro e w1 ⟨he, rfl⟩
  rw [HF.out] at he
  subst he
  go_wp2_with fail
  go_loopw [7, 14] (fun _ c wr => ∃ (i : Nat) (u : Value), i ≤ k ∧ c = .int .i64 i ∧ Hid (WAt wr B o u (V + x % 2 ^ i * 2 ^ n) (n + i)) ∧ Hid (WStep w wr B o v u)) (fun _ c _ => k - (intOf c).toNat)
  case atStart =>
    refine ⟨0, v, by omega, rfl, ?_, Lib.hid (WStep.refl _ _ _ _)⟩
    have q := HW.out
    show WAt _ _ _ _ _ _
    simpa [Nat.mod_one] using q
  case round =>
    obtain ⟨i, u, hi, rfl, HA, HS⟩ := hrel
    by_cases hlt : i < k
    · go_wp2_with fail
      rw [bit_and x i (Nat.lt_of_le_of_lt (Nat.div_le_self _ _) hx32)]
      refine (one_calls B o (n + i) _ _ u _ HA.out (by omega) (by omega)).mono ?_
      rintro e w2 ⟨rfl, u2, hA2, hS2⟩
      have HA2 := Lib.hid hA2
      have HS2 := Lib.hid (HS.out.trans hS2)
      clear hA2 hS2 HA HS
      go_wp2_with fail
      go_roundw
      case rel =>
        refine ⟨i + 1, u2, by omega, by go_num, ?_, HS2⟩
        show WAt _ _ _ _ _ _
        have e1 : V + x % 2 ^ (i + 1) * 2 ^ n = V + x % 2 ^ i * 2 ^ n + x / 2 ^ i % 2 * 2 ^ (n + i) := by
          rw [mod_next, Nat.add_mul, Nat.pow_add, Nat.mul_assoc (x / 2 ^ i % 2), Nat.mul_comm (2 ^ i) (2 ^ n), Nat.add_assoc]
        rw [e1]; exact HA2.out
      case measure => simp [intOf]; omega
    · obtain rfl : i = k := by omega
      go_wp2_with fail
      go_ret
      refine ⟨rfl, u, ?_, HS.out⟩
      have q := HA.out
      rwa [Nat.mod_eq_of_lt HX.out] at q
theorem put_out (B o x : Nat) (width : Int) (E : Value) (w : World) (hE : w.cell? ⟨0, 0, none⟩ = some E) (hx : x < 4294967296) (hw1 : -9223372036854775808 ≤ width) (hw2 : width ≤ 9223372036854775807)
    (h : ¬ (0 ≤ width ∧ width ≤ 32 ∧ x < 2 ^ width.toNat)) :
    Calls Tryd.prog 72 #[.pointer (some ⟨B, o, none⟩), .int .u32 (x : Int), .int .i64 width] w fun e w' => e = .returned E ∧ w = w' := by
  have HF := Lib.hid (decide_eq_false h)
  clear h
  go_enter Tryd.func72, Tryd.ntmps72
  go_wp2_with fail
  refine (fits_calls x width _ (by omega) (by omega) hx).mono ?_
  rintro e w1 ⟨he, rfl⟩
  rw [HF.out] at he
  subst he
  go_wp2_with fail
  go_ret
  exact ⟨rfl, rfl⟩
theorem text_calls (B o n V : Nat) (v : Value) (w : World) (hW : WAt w B o v V n) :
    Calls Tryd.prog 75 #[.pointer (some ⟨B, o, none⟩)] w fun e w' => (∃ l : List UInt8, l.length = (n + 7) / 8 ∧ Crc.num l = V ∧ e = .returned (.string ⟨l.toArray⟩)) ∧ w = w' := by
  obtain ⟨c0, c1, f0, f1, ⟨l, hl, hV, hown⟩, hap, hlt⟩ := hW
  rcases ownsRow_slice hown with ⟨rfl, h0⟩ | ⟨g, cap, rfl⟩
  · have hcr : (convert 61 9 (.slice none 0 0)).run Tryd.prog w = .ok (.string ⟨l.toArray⟩) w := by
      obtain rfl := List.eq_nil_of_length_eq_zero h0
      rw [run_convert_bytes_string w 61 9 5 none 0 0 Tryd.underlying61 Tryd.underlying5 Tryd.underlying9]
      rfl
    have HL := Lib.hid hl
    have HV := Lib.hid hV
    clear hl hV h0
    go_enter Tryd.func75, Tryd.ntmps75
    go_wp2
    go_ret
    exact ⟨⟨l, HL.out, HV.out, rfl⟩, rfl⟩
  · have hcr : (convert 61 9 (.slice (some ⟨g, 0, none⟩) l.length cap)).run Tryd.prog w = .ok (.string ⟨l.toArray⟩) w := by
      refine run_convert_bytes_back (P := Tryd.prog) w 61 9 5 ⟨g, 0, none⟩ _ l Tryd.underlying61 Tryd.underlying5 Tryd.underlying9 (fun j hj => ?_)
      rw [add_plain, hown.cellAt _ (by omega), bytesV_get l _ hj]
    have HL := Lib.hid hl
    have HV := Lib.hid hV
    clear hl hV
    go_enter Tryd.func75, Tryd.ntmps75
    go_wp2
    go_ret
    exact ⟨⟨l, HL.out, HV.out, rfl⟩, rfl⟩
end Go.Proofs.YtnhbjgmfbcedaaaDoor
namespace Go.Proofs.YtnhbjgmfbcedaaaDoor
open Go.RowKit
set_option linter.unusedSimpArgs false
set_option maxRecDepth 100000
theorem align_calls (B o n V : Nat) (v : Value) (w : World) (hW : WAt w B o v V n) (hn : n < 1099511627776) :
    Calls Tryd.prog 73 #[.pointer (some ⟨B, o, none⟩)] w fun e w' => e = .returned (.tuple #[]) ∧ WAt w' B o v V ((n + 7) / 8 * 8) ∧ WStep w w' B o v v := by
  obtain ⟨c0, c1, f0, f1, ⟨l, hl, hV, hown⟩, hap, hlt⟩ := hW
  have a3 : (⟨B, o + 1, none⟩ : Addr) ≠ ⟨B, o, none⟩ := by intro e; injection e with _ e2; omega
  have e8 : (8 : Int) * (l.length : Int) = (((n + 7) / 8 * 8 : Nat) : Int) := by rw [hl]; omega
  have hlenI : (l.length : Int) ≤ 1099511627776 := by omega
  have fin : ∀ m : Nat, WAt ((w.setCell ⟨B, o + 1, none⟩ (.int .i64 ((8 : Int) * (l.length : Int)))).drewN m) B o v V ((n + 7) / 8 * 8) ∧ WStep w ((w.setCell ⟨B, o + 1, none⟩ (.int .i64 ((8 : Int) * (l.length : Int)))).drewN m) B o v v := by
    intro m
    rw [e8]
    refine ⟨⟨?_, ?_, ?_, ?_, ⟨l, by omega, hV, ?_⟩, hap, ?_⟩, ⟨?_, ?_, ?_, ?_⟩⟩
    · exact (World.cell?_setCell_other _ _ _ _ a3).trans c0
    · exact World.cell?_setCell_same _ _ _ c1
    · show World.frozen? (World.setCell _ _ _) _ = _; rw [World.frozen?_setCell]; exact f0
    · show World.frozen? (World.setCell _ _ _) _ = _; rw [World.frozen?_setCell]; exact f1
    · exact ownsRow_setCell_other hown hap _
    · exact Nat.lt_of_lt_of_le hlt (Nat.pow_le_pow_right (by decide) (by omega))
    · exact ((Keeps.refl _ w).setCell (.inl (.inl rfl)) _).drewN m
    · intro j h1 h2
      have b1 : (⟨B, o + 1, none⟩ : Addr) ≠ ⟨B, j, none⟩ := by intro e; injection e with _ e2; exact h2 e2.symm
      exact World.cell?_setCell_other _ _ _ _ b1
    · intro j; show World.frozen? (World.setCell _ _ _) _ = _; rw [World.frozen?_setCell]
    · intro k hk; exact .inl hk
  have HF := Lib.hid fin
  have H8 := Lib.hid e8
  rcases ownsRow_slice hown with ⟨rfl, h0⟩ | ⟨g, cap, rfl⟩
  · have HL := Lib.hid hl
    have H0 := Lib.hid h0
    rw [h0] at HF
    clear hl hV h0 fin e8
    go_enter Tryd.func73, Tryd.ntmps73
    go_wp2
    go_end0
    exact ⟨rfl, HF.out 0⟩
  · have HL := Lib.hid hl
    clear hl hV fin e8
    go_enter Tryd.func73, Tryd.ntmps73
    go_wp2
    go_end0
    exact ⟨rfl, HF.out 0⟩
end Go.Proofs.YtnhbjgmfbcedaaaDoor
namespace Go.Proofs.YtnhbjgmfbcedaaaDoor
open Go.RowKit
set_option linter.unusedSimpArgs false
def Bk (w : World) (b : Nat) (cs : Array Value) : Prop := ∃ t, w.heap[b]? = some (.cells cs t (0, 0))
theorem Bk.lt {w : World} {b : Nat} {cs : Array Value} (h : Bk w b cs) : b < w.heap.size := by obtain ⟨t, h⟩ := h; exact lt_of_block h
theorem Bk.at {w : World} {k : Nat} {cs : Array Value} {t : TypeId} (h : w.heap.size = k) : Bk (w.alloc (.cells cs t)) k cs := ⟨t, by rw [← h]; exact heap_alloc_new w _⟩
theorem Bk.old {w : World} {b : Nat} {cs : Array Value} {o : Obj} (h : Bk w b cs) : Bk (w.alloc o) b cs := by
  have hl := h.lt
  obtain ⟨t, h⟩ := h
  exact ⟨t, (Below.heap_alloc w o b hl).trans h⟩
theorem Bk.keeps {S : Nat → Prop} {w w' : World} {b : Nat} {cs : Array Value} (h : Bk w b cs) (hk : Keeps S w w') (hS : ¬ S b) : Bk w' b cs := by
  have hl := h.lt
  obtain ⟨t, h⟩ := h
  exact ⟨t, (hk.block b hl hS).trans h⟩
theorem Bk.ext {w w' : World} {b : Nat} {cs : Array Value} (h : Bk w b cs) (hE : Ext w w') : Bk w' b cs := h.keeps (S := fun _ => False) hE.keeps id
theorem Bk.cell {w : World} {b : Nat} {cs : Array Value} (h : Bk w b cs) (i : Nat) : w.cell? ⟨b, i, none⟩ = cs[i]? := by
  obtain ⟨t, h⟩ := h
  exact cell_of_row w b i cs t (0, 0) h
theorem Bk.frozen {w : World} {b : Nat} {cs : Array Value} (h : Bk w b cs) (i : Nat) : w.frozen? ⟨b, i, none⟩ = false := by
  obtain ⟨t, h⟩ := h
  simp [World.frozen?, h]
theorem Bk.set_ {w : World} {b : Nat} {cs : Array Value} (h : Bk w b cs) (i : Nat) (u : Value) : Bk (w.setCell ⟨b, i, none⟩ u) b (cs.setIfInBounds i u) := by
  obtain ⟨t, h⟩ := h
  exact ⟨t, by simp [World.setCell, Array.getElem?_modify, h]⟩
theorem Bk.far {w : World} {b : Nat} {cs : Array Value} (h : Bk w b cs) {p : Addr} (hp : b ≠ p.block) (u : Value) : Bk (w.setCell p u) b cs := by
  obtain ⟨t, h⟩ := h
  exact ⟨t, (Below.heap_setCell w p u b hp).trans h⟩
theorem Bk.drewN {w : World} {b : Nat} {cs : Array Value} (h : Bk w b cs) (n : Nat) : Bk (w.drewN n) b cs := h
theorem Bk.drew {w : World} {b : Nat} {cs : Array Value} (h : Bk w b cs) : Bk w.drew b cs := h
end Go.Proofs.YtnhbjgmfbcedaaaDoor
namespace Go.Proofs.YtnhbjgmfbcedaaaDoor
open Go.RowKit
set_option linter.unusedSimpArgs false
set_option maxRecDepth 100000
@[irreducible] def tb (l : List UInt8) : ByteArray := ⟨l.toArray⟩
theorem tb_eq (l : List UInt8) : tb l = ⟨l.toArray⟩ := by unfold tb; rfl
theorem tb_list (l : List UInt8) : (tb l).data.toList = l := by unfold tb; rfl
theorem tb_size (l : List UInt8) : (tb l).size = l.length := by rw [tb_eq]; rfl
theorem bts_ext {a b : ByteArray} (h : a.data.toList = b.data.toList) : a = b := by
  obtain ⟨⟨a⟩⟩ := a; obtain ⟨⟨b⟩⟩ := b; simp at h; rw [h]
theorem bts_cat (a b : ByteArray) : (a ++ b).data.toList = a.data.toList ++ b.data.toList := by simp
theorem tb_nil : (⟨#[]⟩ : ByteArray) = tb [] := bts_ext (by rw [tb_list])
theorem list_size (s : ByteArray) : s.data.toList.length = s.size := by rw [Array.length_toList]; rfl
theorem ex_list (s : ByteArray) (a b : Nat) : (s.extract a b).data.toList = (s.data.toList.drop a).take (b - a) := by
  rw [ByteArray.data_extract, Array.toList_extract, List.extract_eq_take_drop]
/-- the blocks -/
def chB (s : ByteArray) (i : Nat) : ByteArray := s.extract (i * 255) ((i + 1) * 255)
def blkL (s : ByteArray) : Nat → List UInt8
  | 0 => []
  | i + 1 => blkL s i ++ (UInt8.ofNat (chB s i).size :: (chB s i).data.toList)
def nch (s : ByteArray) : Nat := (s.size + 254) / 255
theorem nch_iff (s : ByteArray) (i : Nat) : i < nch s ↔ i * 255 < s.size := by unfold nch; omega
theorem nch_eq {s : ByteArray} {i : Nat} (h1 : s.size ≤ i * 255) (h2 : i ≤ nch s) : i = nch s := by unfold nch at *; omega
theorem chB_size (s : ByteArray) (i : Nat) : (chB s i).size = min 255 (s.size - i * 255) := by
  unfold chB; rw [ByteArray.size_extract]; omega
theorem blkL_length (s : ByteArray) : ∀ i, (blkL s i).length ≤ i * 256 := by
  intro i
  induction i with
  | zero => simp [blkL]
  | succ i ih =>
    simp only [blkL, List.length_append, List.length_cons, list_size]
    have := chB_size s i
    omega
def outL (s : ByteArray) : List UInt8 := blkL s (nch s) ++ [0]
/-- what blocks mean: a text, and how many bytes were used -/
def jn (t : List UInt8) : Nat → Nat → List UInt8 → Option (List UInt8 × Nat)
  | 0, _, _ => none
  | f + 1, a, out => if a < t.length then
      (if (t.getD a 0).toNat = 0 then some (out, a + 1)
       else if t.length < a + 1 + (t.getD a 0).toNat then none
       else jn t f (a + 1 + (t.getD a 0).toNat) (out ++ (t.drop (a + 1)).take (t.getD a 0).toNat))
    else none
def joined (t : List UInt8) : Option (List UInt8 × Nat) := jn t (t.length + 1) 0 []
theorem jn_end {t : List UInt8} {f a : Nat} {out : List UInt8} (h : t.length ≤ a) : jn t f a out = none := by
  cases f with
  | zero => rfl
  | succ f => simp only [jn]; rw [if_neg (by omega)]
theorem jn_zero {t : List UInt8} {f a : Nat} {out : List UInt8} (h : a < t.length) (hf : t.length < f + a) (h0 : (t.getD a 0).toNat = 0) : jn t f a out = some (out, a + 1) := by
  cases f with
  | zero => omega
  | succ f => simp only [jn]; rw [if_pos h, if_pos h0]
theorem jn_over {t : List UInt8} {f a n : Nat} {out : List UInt8} (h : a < t.length) (hn : (t.getD a 0).toNat = n) (h0 : n ≠ 0) (h1 : t.length < a + 1 + n) : jn t f a out = none := by
  cases f with
  | zero => rfl
  | succ f => simp only [jn]; rw [if_pos h, hn, if_neg h0, if_pos h1]
theorem jn_next {t : List UInt8} {f a n : Nat} {out : List UInt8} (h : a < t.length) (hf : t.length < f + a) (hn : (t.getD a 0).toNat = n) (h0 : n ≠ 0) (h1 : a + 1 + n ≤ t.length) :
    ∃ f', jn t f a out = jn t f' (a + 1 + n) (out ++ (t.drop (a + 1)).take n) ∧ t.length < f' + (a + 1 + n) := by
  cases f with
  | zero => omega
  | succ f => exact ⟨f, by simp only [jn]; rw [if_pos h, hn, if_neg h0, if_neg (by omega)], by omega⟩
theorem blk_take (s : ByteArray) (i : Nat) : s.data.toList.take ((i + 1) * 255) = s.data.toList.take (i * 255) ++ (chB s i).data.toList := by
  unfold chB
  rw [ex_list, show (i + 1) * 255 = i * 255 + ((i + 1) * 255 - i * 255) by omega, List.take_add]
  congr 2
  omega
theorem blkL_split (s : ByteArray) (i : Nat) : ∀ d, ∃ m, blkL s (i + 1 + d) = blkL s i ++ (UInt8.ofNat (chB s i).size :: (chB s i).data.toList) ++ m := by
  intro d
  induction d with
  | zero => exact ⟨[], by simp [blkL]⟩
  | succ d ih =>
    obtain ⟨m, hm⟩ := ih
    exact ⟨m ++ (UInt8.ofNat (chB s (i + 1 + d)).size :: (chB s (i + 1 + d)).data.toList), by show blkL s (i + 1 + d) ++ _ = _; rw [hm]; simp⟩
theorem join_at (s : ByteArray) (m : List UInt8) : ∀ i, i ≤ nch s → ∃ f, joined (outL s ++ m) = jn (outL s ++ m) f (blkL s i).length (s.data.toList.take (i * 255)) ∧ (outL s ++ m).length < f + (blkL s i).length := by
  intro i
  induction i with
  | zero => intro _; exact ⟨(outL s ++ m).length + 1, by simp [joined, blkL], by simp [blkL]⟩
  | succ i ih =>
    intro hi
    obtain ⟨f, h1, h2⟩ := ih (by omega)
    obtain ⟨r, hr⟩ := blkL_split s i (nch s - (i + 1))
    rw [show i + 1 + (nch s - (i + 1)) = nch s by omega] at hr
    have hc := chB_size s i
    have hlt := (nch_iff s i).1 (by omega)
    have e : outL s ++ m = blkL s i ++ (UInt8.ofNat (chB s i).size :: ((chB s i).data.toList ++ (r ++ [0] ++ m))) := by unfold outL; rw [hr]; simp
    have hg : ((outL s ++ m).getD (blkL s i).length 0).toNat = (chB s i).size := by
      rw [e, List.getD, List.getElem?_append_right (Nat.le_refl _), Nat.sub_self]
      show (UInt8.ofNat _).toNat = _
      rw [UInt8.toNat_ofNat']; omega
    have hl : (outL s ++ m).length = (blkL s i).length + 1 + (chB s i).size + (r ++ [0] ++ m).length := by rw [e]; simp only [List.length_append, List.length_cons, list_size]; omega
    obtain ⟨f', q1, q2⟩ := jn_next (t := outL s ++ m) (f := f) (a := (blkL s i).length) (n := (chB s i).size) (out := s.data.toList.take (i * 255)) (by omega) h2 hg (by omega) (by omega)
    have hd : ((outL s ++ m).drop ((blkL s i).length + 1)).take (chB s i).size = (chB s i).data.toList := by
      rw [e, List.drop_append, List.drop_of_length_le (by omega), List.nil_append, show (blkL s i).length + 1 - (blkL s i).length = 1 by omega]
      show ((chB s i).data.toList ++ _).take _ = _
      rw [List.take_append_of_le_length (by rw [list_size]; exact Nat.le_refl _), List.take_of_length_le (by rw [list_size]; exact Nat.le_refl _)]
    have hb : (blkL s (i + 1)).length = (blkL s i).length + 1 + (chB s i).size := by simp only [blkL, List.length_append, List.length_cons, list_size]; omega
    refine ⟨f', ?_, by rw [hb]; exact q2⟩
    rw [h1, q1, hd, hb, ← blk_take]
theorem join_blocks (s : ByteArray) (m : List UInt8) : joined (outL s ++ m) = some (s.data.toList, (outL s).length) := by
  obtain ⟨f, h1, h2⟩ := join_at s m (nch s) (Nat.le_refl _)
  have hl : (outL s).length = (blkL s (nch s)).length + 1 := by simp [outL]
  have hg : ((outL s ++ m).getD (blkL s (nch s)).length 0).toNat = 0 := by
    unfold outL
    rw [List.append_assoc, List.getD, List.getElem?_append_right (Nat.le_refl _), Nat.sub_self]
    rfl
  have ht : s.data.toList.take (nch s * 255) = s.data.toList := List.take_of_length_le (by rw [list_size]; unfold nch; omega)
  rw [h1, jn_zero (by rw [List.length_append, hl]; omega) h2 hg, ht, hl]
/-- rows of bytes that grow -/
theorem strCells_eq (s : ByteArray) : Lib.strCells s = bytesV s.data.toList := rfl
theorem grow_str {w w3 w4 : World} {u v : Value} {L : Nat} {U : List UInt8} {s : ByteArray} (hE : Ext w w3) (hR : w3.ownsRow w.heap.size 5 1 u L (bytesV U)) (hg : w3.grownBy w4 u.ownBlock)
    (ho : w4.ownsRow w.heap.size 5 1 v (L + s.size) (bytesV U ++ Lib.strCells s)) : w4.ownsRow w.heap.size 5 1 v (L + s.size) (bytesV (U ++ s.data.toList)) ∧ Ext w w4 := by
  refine ⟨?_, Below.trans hE ((Keeps.grown hg).below hE.size (fun k hk e => by have := (hR.lt k e).1; omega))⟩
  have e : bytesV (U ++ s.data.toList) = bytesV U ++ Lib.strCells s := by rw [strCells_eq]; simp [bytesV]
  rw [e]; exact ho
theorem grow_one {w w3 w4 : World} {u v : Value} {L : Nat} {U : List UInt8} {y : UInt8} (hE : Ext w w3) (hR : w3.ownsRow w.heap.size 5 1 u L (bytesV U)) (hg : w3.grownBy w4 u.ownBlock)
    (ho : w4.ownsRow w.heap.size 5 1 v (L + 1) (bytesV U ++ [.int .u8 (y.toNat : Int)])) : w4.ownsRow w.heap.size 5 1 v (L + 1) (bytesV (U ++ [y])) ∧ Ext w w4 := by
  refine ⟨?_, Below.trans hE ((Keeps.grown hg).below hE.size (fun k hk e => by have := (hR.lt k e).1; omega))⟩
  have e : bytesV (U ++ [y]) = bytesV U ++ [.int .u8 (y.toNat : Int)] := by simp [bytesV]
  rw [e]; exact ho
theorem lit_row {w : World} {base : Nat} {e : TypeId} {size : Nat} {v : Value} {n : Nat} {xs : List Value} (h : w.ownsRow base e size v n xs) : ∃ x c, v = .slice x n c := by
  rcases ownsRow_slice h with ⟨h1, h2⟩ | ⟨g, cap, h1⟩
  · exact ⟨none, 0, by rw [h1, h2]⟩
  · exact ⟨_, cap, h1⟩
theorem conv_row {w : World} {base L : Nat} {v : Value} {l : List UInt8} (hl : l.length = L) (h : w.ownsRow base 5 1 v L (bytesV l)) : (convert 61 9 v).run Tryd.prog w = .ok (.string (tb l)) w := by
  rw [tb_eq]
  subst hl
  rcases ownsRow_slice h with ⟨rfl, h0⟩ | ⟨g, cap, rfl⟩
  · rw [run_convert_bytes_string w 61 9 5 none 0 0 Tryd.underlying61 Tryd.underlying5 Tryd.underlying9, List.eq_nil_of_length_eq_zero h0]; rfl
  · refine run_convert_bytes_back (P := Tryd.prog) w 61 9 5 ⟨g, 0, none⟩ cap l Tryd.underlying61 Tryd.underlying5 Tryd.underlying9 (fun j hj => ?_)
    rw [add_plain, h.cellAt j (by omega), bytesV_get _ j hj]
theorem u8inf : (Tryd.prog.info? 5).map (fun i => (i.zero, i.size, i.bytes)) = some (some (.int .u8 0), 1, 1) := by kernel_rfl
theorem one8 (b : Int) : ∀ u ∈ [Value.int .u8 b], u.oneCell' = true := by intro u hu; rw [List.mem_singleton.1 hu]; rfl
theorem emp_iff (s : ByteArray) : s.toList.isEmpty = decide (s.size = 0) := by
  rw [ByteArray.toList_eq, ← list_size]
  cases s.data.toList <;> rfl
theorem emp_no (s : ByteArray) (h : s.size ≠ 0) : s.toList.isEmpty = false := by rw [emp_iff]; exact decide_eq_false h
theorem emp_yes (s : ByteArray) (h : s.size = 0) : s.toList.isEmpty = true := by rw [emp_iff]; exact decide_eq_true h
end Go.Proofs.YtnhbjgmfbcedaaaDoor
namespace Go.Proofs.YtnhbjgmfbcedaaaDoor
open Go.RowKit
set_option linter.unusedSimpArgs false
theorem app_string_at {P : Program} (w : World) (base : Nat) (t u ty e : TypeId) (i : TypeInfo) (ht : P.underlying t = some (.slice e)) (hu : P.underlying u = some .string) (hi : P.info? e = some i) (hz : i.zero = some (.int .u8 0))
    (hsize : i.size = 1) (hby : i.bytes = 1) (v : Value) (n : Nat) (xs : List Value) (hown : w.ownsRow base e 1 v n xs) (s : ByteArray) (h63 : n + s.size ≤ maxLen) (hb : n + s.size ≤ 140737488355328) (hbase : base ≤ w.heap.size) :
    ∃ v' w', (Builtin.append_ #[t, u] ty #[v, .string s]).run P w = .ok v' w' ∧ w'.ownsRow base e 1 v' (n + s.size) (xs ++ Lib.strCells s) ∧ w.grownBy w' v.ownBlock ∧ (v'.ownBlock = v.ownBlock ∨ v'.ownBlock = some w.heap.size) := by
  obtain ⟨v', w', hr, h2, h3, h4⟩ := Lib.run_append_own_string (P := P) w base t u ty e i ht hu hi hz hsize hby v n xs hown s h63 hb hbase
  refine ⟨v', w', hr, h2, h3, ?_⟩
  rcases hown.2 with ⟨rfl, rfl⟩ | ⟨g, cap, cur, rfl, _, hg, hnc, _, hcs, _⟩
  · by_cases h0 : s.size = 0
    · rw [h4.2 ⟨rfl, h0⟩]; exact .inl rfl
    · have q := run_append_nil_string (P := P) w t u ty e i (.int .u8 0) ht hu hi hz s (by omega) (by omega) (by rw [hby]; omega)
      rw [hr] at q
      injection q with q1 q2
      rw [q1]; exact .inr rfl
  · by_cases hroom : n + s.size ≤ cap
    · have q := Lib.run_append_room_string (P := P) w t u ty e i ht hu hi hsize g n cap cur hg s hroom (by omega)
      rw [hr] at q
      injection q with q1 q2
      rw [q1]; exact .inl rfl
    · have hlo : xs.length = n * i.size := by rw [hsize]; simpa using hown.1
      have q := Lib.run_append_grow_string (P := P) w t u ty e i (.int .u8 0) ht hu hi hz ⟨g, 0, none⟩ n cap xs hlo (hown.cells (g := g) rfl) s (by omega) (by simp only [maxLen] at h63; omega) (by rw [hby]; exact growslice_fits (by omega) (by omega))
      rw [hr] at q
      injection q with q1 q2
      rw [q1]; exact .inr rfl
theorem wpList_app_string {P : Program} {w : World} {ops : Array Oper} {rest : List Oper} {o : Oper} {a : Act} {Q : Exit → Act → World → Prop} (hgd : o.guard = none) (sl x : Operand) (t u : TypeId)
    (ho : o.op = .call { callee := .builtin .append, args := #[sl, x], argTypes := #[t, u] }) (base : Nat) (e : TypeId) (i : TypeInfo) (ht : P.underlying t = some (.slice e)) (hu : P.underlying u = some .string) (hi : P.info? e = some i) (hz : i.zero = some (.int .u8 0))
    (hsize : i.size = 1) (hby : i.bytes = 1) (v : Value) (n : Nat) (xs : List Value) (hs : a.eval sl = v) (hown : w.ownsRow base e 1 v n xs) (s : ByteArray) (hx : a.eval x = .string s) (h63 : n + s.size ≤ maxLen) (hb : n + s.size ≤ 140737488355328) (hbase : base ≤ w.heap.size)
    (h : ∀ v' w', w'.ownsRow base e 1 v' (n + s.size) (xs ++ Lib.strCells s) → w.grownBy w' v.ownBlock → (v'.ownBlock = v.ownBlock ∨ v'.ownBlock = some w.heap.size) → wpList P ops Q rest (a.put o.dst v') w') : wpList P ops Q (o :: rest) a w := by
  refine wpList_plain hgd fun K hK => ?_
  obtain ⟨v', w', hr, h2, h3, h4⟩ := app_string_at (P := P) w base t u o.type e i ht hu hi hz hsize hby v n xs hown s h63 hb hbase
  unfold Oper.wp execOp
  simp only [ho, resolve, invoke, builtin, Sem.run_bind, Sem.run_pure, Result.andThen_ok, List.map_toArray, List.map_cons, List.map_nil, hs, hx, hr]
  exact hK _ _ (h v' w' h2 h3 h4)
end Go.Proofs.YtnhbjgmfbcedaaaDoor
namespace Go.Proofs.YtnhbjgmfbcedaaaDoor
open Go.ChangeShapes Go.WideShapes Go.RowKit Go.Deep
set_option linter.unusedSimpArgs false
/-- a slice of records of one-cell fields: every field's cell and how it reads -/
theorem open_recs {H : Type} {enc : TypeId × Value → H} {P : Program} {w : World} {base : Nat} {spare : Nat → Bool} {held : Bool} {t e : TypeId} {fs : Array Field} {fuel : Nat} {cs : List Value} {x : DataW H × List MemPlace}
    (ht : P.underlying t = some (.slice e)) (he : P.underlying e = some (.struct fs)) (hone : oneCellFields P fs = true) (hC : P.cellsOf e = fs.size) (h : DataW.trod enc P w base spare held fuel t cs = some x) :
    cs = [.slice none 0 0] ∨ ∃ (a : Addr) (len cap : Nat), cs = [.slice (some a) len cap] ∧ len ≤ cap ∧ cap ≤ maxLen ∧
      ∀ i, i < len → ∀ (j : Nat) (f : Field), fs[j]? = some f → ∃ (v : Value) (y : DataW H × List MemPlace) (n : Nat), w.cell? ((a.add (i * fs.size)).add j) = some v ∧ DataW.trod enc P w base spare held n f.type [v] = some y := by
  rcases open_slice ht h with ⟨h0, _⟩ | ⟨a, len, cap, m, n, D, Pl, hcs, _, hl, hm, hmm, _, hi⟩
  · exact .inl h0
  · refine .inr ⟨a, len, cap, hcs, hl, hm, fun i hlt j f hj => ?_⟩
    have him : i < m := by rw [hmm]; split <;> omega
    obtain ⟨cs', hc, hr⟩ := hi i him
    obtain ⟨xs, k, _, _, _, hxl, hx⟩ := DataW.trod_struct he hr
    obtain ⟨_, hcl, hat⟩ := World.cells?_some hc
    rw [hC] at hcl hat
    have hjs : j < fs.size := (Array.getElem?_eq_some_iff.1 hj).1
    obtain ⟨o1, o2⟩ := hone_of hone j f hj
    have hxj := hx j f hj
    rw [o1, o2, List.drop_eq_getElem_cons (by omega)] at hxj
    have e1 : xs[j]? = some (xs[j]'(by omega)) := List.getElem?_eq_getElem (by omega)
    have e2 : w.cell? ((a.add (i * fs.size)).add j) = some (cs'[j]'(by omega)) := by
      rw [hat j hjs]; exact List.getElem?_eq_getElem (by omega)
    exact ⟨_, _, k, e2, hxj.trans e1⟩
theorem cell_add {w : World} {q : Addr} {v : Value} {k : Nat} (hk : k ≠ 0) (h : w.cell? (q.add k) = some v) : w.cell? ⟨q.block, q.off + k, none⟩ = some v := by
  unfold Addr.add at h; rw [if_neg hk] at h; exact h
/-- a sentinel of the list: its variable holds an error's pointer -/
theorem sent_star : Tryd.prog.typeName? 3 210 = some "*errors.errorString" := by kernel_rfl
theorem sent_row (u : TypeId) (h : Tryd.prog.typeName? 3 u = some "*errors.errorString") : u = 210 :=
  typeName_ptr_named (nm := "errors.errorString") (by kernel_rfl) (by kernel_rfl) (by decide) u h
theorem sentinel {l : List (String × DataW Unit)} {W : World} {n : String} {g : Nat} {text : List UInt8} {ti : TypeId} {ms : Array (String × TypeId)} (h : laidMetH Tryd.prog l W)
    (hl : l.filter (fun x => x.1 == n) = [(n, .iface "*errors.errorString" (.ptr (.agg [.lit (.string text)])))]) (hg : Tryd.prog.globalNamed n = some g)
    (ht : (Tryd.prog.globals[g]?).map (·.type) = some ti) (hi : Tryd.prog.underlying ti = some (.interface ms)) :
    ∃ (E : Addr) (s : ByteArray), W.cell? ⟨g, 0, none⟩ = some (.iface 210 (.pointer (some E))) ∧ W.cell? E = some (.string s) ∧ s.data.toList = text ∧ s.size ≤ maxLen := by
  have h1 := laidMetH.filter (fun x => x.1 == n) h
  rw [hl] at h1
  have h2 : laidMet Tryd.prog [(n, .iface "*errors.errorString" (.ptr (.agg [.lit (.string text)])))] W := h1
  obtain ⟨E, s, hv, hc, hs, hz⟩ := laid_sentinel h2 hg ht hi sent_row Tryd.underlying210 Tryd.underlying229 rfl rfl Tryd.underlying9 (by kernel_rfl) (by kernel_rfl)
  exact ⟨E, s, by simpa using World.var?_cell hg hv 0, hc, hs, hz⟩
end Go.Proofs.YtnhbjgmfbcedaaaDoor
