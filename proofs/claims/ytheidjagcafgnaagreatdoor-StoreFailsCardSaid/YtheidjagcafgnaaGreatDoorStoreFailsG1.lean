/-
  Short names.
  Plain law of the CRC: a step, eight of them, a byte by the table. No program in sight.
  Small laws on memory: which blocks a call may have turned. No function of the program is named.
  Contracts of sum.table, sum.MoreCRC, sum.CRC: what they compute, in any world; new blocks alone are made.
  Arguments and package variables, opened to cells: slices of records, sentinels of errors.
  Chunks' small functions: is a text a kind; four bytes of a number, and back.
  Four bytes of a number, the highest first, and back.
  Blocks that are known whole: variables that a call made. No function of the program is named.
  Rows of chunks as they lie in memory; what a file of chunks is, as a list.
  Texts by their names: plain. No function of the program is named.
  A map of texts in memory: its keys and its values are strings.
  errors.Is at a sentinel: of a sentinel, of an api.Fault that bears one. The library's own text is walked.
-/
import Derived.Outline
import Derived.OrdersHeld
import Derived.WalkKit
import Derived.Test.YtheidjagcafgnaaGreatDoorProg
import Derived.WalkSpells
import Derived.WalkSmall
import Derived.Lib.Hide
import Derived.Deep.QuietTactic
import Derived.BigQuiet
import Derived.RegionTactic
import Derived.WalkLawsBesides
import Derived.Maps.AppendAt
import Derived.Deep.Fields
import Derived.Stop.LaidErr
import Derived.LaidSub
import Derived.ProofKit
import Derived.OpenShut
import Derived.Maps.OwnSet
import Derived.Maps.StringElems
import Derived.Sort.KeysCollected
import Derived.LaidEql
import Derived.Stop.Asserts
import Derived.RowKitTokens
set_option linter.unusedSimpArgs false
set_option linter.unusedVariables false
set_option maxRecDepth 100000
namespace Go.Proofs.YtheidjagcafgnaaGreatDoor
open Go.RowKit
theorem xa {α : Type} : type_of% (@List.getElem_toArray α) := @List.getElem_toArray α
theorem xb {α : Type} : type_of% (@List.getElem_cons_succ α) := @List.getElem_cons_succ α
theorem xc {α : Type} : type_of% (@List.getElem_cons_zero α) := @List.getElem_cons_zero α
theorem xd {α : Type} : type_of% (@List.setIfInBounds_toArray α) := @List.setIfInBounds_toArray α
theorem xe {α : Type} : type_of% (@List.set_cons_zero α) := @List.set_cons_zero α
theorem xf {α : Type} : type_of% (@List.set_cons_succ α) := @List.set_cons_succ α
theorem xg {α : Type} : type_of% (@List.getElem?_toArray α) := @List.getElem?_toArray α
theorem xh {α : Type} : type_of% (@List.getElem?_cons_succ α) := @List.getElem?_cons_succ α
theorem xi {α : Type} : type_of% (@List.getElem?_cons_zero α) := @List.getElem?_cons_zero α
theorem tkH {P : Program} {ops : Array Oper} {Q : Exit → Act → World → Prop} {md : Region.Mode} {S : World → Prop} {oi : Oper} {v : Value} {fuel : Nat} {listed : Array Bool} {a : Act} {w : World} (i : Nat) (hi : ops[i]? = some oi) (hS : S w) (hy : ∀ w, S w → (execOp a.eval oi).run P w = .ok (.value v) w) (h : wpAnyH P md ops Q S fuel (listed.setIfInBounds i true) (a.put oi.dst v) w) (hs : Region.noSelect ops = true := by kernel_rfl) (hf : Region.free md ops listed i = true := by kernel_rfl) (hr : (Region.ready md ops listed).contains i = true := by kernel_rfl) (hQ : ∀ c a w, Q (.panic c) (a.put oi.dst v) w → Q (.panic c) a w := by exact fun _ _ _ h => h) (hg : Region.wanted oi (yielded ops a.tmps) = true := by kernel_rfl) : wpAnyH P md ops Q S (fuel + 1) listed a w :=
  wpAnyH_take hi hs hf hr hQ (.inl ⟨hg, hy⟩) hS h
end Go.Proofs.YtheidjagcafgnaaGreatDoor
namespace Crc
def T (c : Nat) : Nat := (c / 2) ^^^ (if c % 2 = 1 then 3988292384 else 0)
def Tn : Nat → Nat → Nat
 | 0, c => c
 | n + 1, c => Tn n (T c)
theorem xor_half (a b : Nat) : (a ^^^ b) / 2 = a / 2 ^^^ b / 2 := by
 apply Nat.eq_of_testBit_eq; intro i; simp [Nat.testBit_xor, Nat.testBit_div_two]
theorem xor_low (a b : Nat) : (a ^^^ b) % 2 = (a % 2 + b % 2) % 2 := by
 have h := Nat.xor_mod_two_pow (a := a) (b := b) (n := 1);rw [show 2 ^ 1 = 2 from rfl] at h;rw [h];rcases Nat.mod_two_eq_zero_or_one a with h | h <;> rcases Nat.mod_two_eq_zero_or_one b with k | k <;> rw [h, k] <;> rfl
theorem T_xor (a b : Nat) : T (a ^^^ b) = T a ^^^ T b := by
 unfold T;rw [xor_half, xor_low];rcases Nat.mod_two_eq_zero_or_one a with h | h <;> rcases Nat.mod_two_eq_zero_or_one b with k | k <;> simp [h, k]
 ·rw [Nat.xor_assoc]
 ·rw [Nat.xor_assoc, Nat.xor_assoc, Nat.xor_comm _ (b/2)]
 ·rw [show a / 2 ^^^ 3988292384 ^^^ (b / 2 ^^^ 3988292384) = (a / 2 ^^^ b / 2) ^^^ (3988292384 ^^^ 3988292384) by ac_rfl, Nat.xor_self, Nat.xor_zero]
theorem Tn_xor (n a b : Nat) : Tn n (a ^^^ b) = Tn n a ^^^ Tn n b := by
 induction n generalizing a b with
 | zero => rfl
 | succ n ih => simp only [Tn]; rw [T_xor, ih]
theorem Tn_succ (n c : Nat) : Tn (n + 1) c = T (Tn n c) := by
 induction n generalizing c with
 | zero => rfl
 | succ n ih => show Tn (n+1) (T c) = _; rw [ih]; rfl
theorem T_lt {c : Nat} (h : c < 2 ^ 32) : T c < 2 ^ 32 := by
 unfold T;exact Nat.xor_lt_two_pow (by omega) (by split <;> omega)
theorem Tn_lt {n c : Nat} (h : c < 2 ^ 32) : Tn n c < 2 ^ 32 := by
 induction n generalizing c with
 | zero => exact h
 | succ n ih => exact ih (T_lt h)
theorem T_even (c : Nat) : T (2 * c) = c := by unfold T; simp
theorem T8_high (h : Nat) : Tn 8 (256 * h) = h := by
 simp only [Tn];rw [show 256 * h = 2 * (2 * (2 * (2 * (2 * (2 * (2 * (2 * h))))))) by omega];simp only [T_even]
theorem split8 (c : Nat) : c = (256 * (c / 256)) ^^^ (c % 256) := by
 have h := Nat.two_pow_add_eq_or_of_lt (i := 8) (b := c % 256) (Nat.mod_lt _ (by decide)) (c / 256);apply Nat.eq_of_testBit_eq; intro i;rw [Nat.testBit_xor];have e1 : (256 * (c / 256)).testBit i = (decide (8 ≤ i) && c.testBit i) := by
  rw [show (256 : Nat) = 2 ^ 8 from rfl, Nat.testBit_two_pow_mul, Nat.testBit_div_two_pow];by_cases hi : 8 ≤ i
  ·simp [hi]
  ·simp [hi]
 have e2 : (c % 256).testBit i = (decide (i < 8) && c.testBit i) := by
  rw [show (256 : Nat) = 2 ^ 8 from rfl, Nat.testBit_mod_two_pow]
 rw [e1, e2];by_cases hi : 8 ≤ i
 ·simp [hi, show ¬ i < 8 by omega]
 ·simp [hi, show i < 8 by omega]
theorem T8_split (c : Nat) : Tn 8 c = Tn 8 (c % 256) ^^^ (c / 256) := by
 conv => lhs; rw [split8 c]
 rw [Tn_xor, T8_high, Nat.xor_comm]
theorem xor_byte_mod (c b : Nat) (hb : b < 256) : (c ^^^ b) % 256 = (c % 256) ^^^ b := by
 rw [show (256 : Nat) = 2 ^ 8 from rfl, Nat.xor_mod_two_pow, Nat.mod_eq_of_lt (a := b) hb]
theorem xor_byte_div (c b : Nat) (hb : b < 256) : (c ^^^ b) / 256 = c / 256 := by
 rw [show (256 : Nat) = 2 ^ 8 from rfl, Nat.xor_div_two_pow, Nat.div_eq_of_lt (a := b) hb, Nat.xor_zero]
/-- one byte -/
def byte (c b : Nat) : Nat := Tn 8 (c ^^^ b)
theorem byte_tab (c b : Nat) (hb : b < 256) : byte c b = Tn 8 (c % 256 ^^^ b) ^^^ (c / 256) := by
 unfold byte; rw [T8_split, xor_byte_mod c b hb, xor_byte_div c b hb]
theorem byte_lt {c b : Nat} (hc : c < 2 ^ 32) (hb : b < 256) : byte c b < 2 ^ 32 := Tn_lt (Nat.xor_lt_two_pow hc (by omega))
def run (c : Nat) (l : List UInt8) : Nat := l.foldl (fun c b => byte c b.toNat) c
theorem run_lt {c : Nat} (hc : c < 2 ^ 32) (l : List UInt8) : run c l < 2 ^ 32 := by
 induction l generalizing c with
 | nil => exact hc
 | cons b l ih => exact ih (byte_lt hc b.toNat_lt)
def flip (c : Nat) : Nat := c ^^^ 4294967295
theorem flip_lt {c : Nat} (hc : c < 2 ^ 32) : flip c < 2 ^ 32 := Nat.xor_lt_two_pow hc (by omega)
def more (c : Nat) (l : List UInt8) : Nat := flip (run (flip c) l)
def crc (l : List UInt8) : Nat := more 0 l
end Crc
namespace Go.Proofs.YtheidjagcafgnaaGreatDoor
open Go.RowKit
/-- of the blocks that were there only those in S may have turned -/
structure Keeps (S : Nat → Prop) (w w' : World) : Prop where
 os : w'.os = w.os
 tape : w'.tape = w.tape
 output : w'.output = w.output
 size : w.heap.size ≤ w'.heap.size
 block : ∀ k, k < w.heap.size → ¬ S k → w'.heap[k]? = w.heap[k]?
theorem Keeps.refl (S : Nat → Prop) (w : World) : Keeps S w w := ⟨rfl, rfl, rfl, Nat.le_refl _, fun _ _ _ => rfl⟩
theorem Keeps.trans {S S' : Nat → Prop} {a b c : World} (h : Keeps S a b) (k : Keeps S' b c) (hs : ∀ i, i < a.heap.size → S' i → S i) : Keeps S a c :=
 ⟨k.os.trans h.os, k.tape.trans h.tape, k.output.trans h.output, Nat.le_trans h.size k.size,
  fun i hi hn => (k.block i (Nat.lt_of_lt_of_le hi h.size) fun q => hn (hs i hi q)).trans (h.block i hi hn)⟩
theorem Keeps.mono {S S' : Nat → Prop} {a b : World} (h : Keeps S a b) (hs : ∀ i, i < a.heap.size → S i → S' i) : Keeps S' a b :=
 ⟨h.os, h.tape, h.output, h.size, fun i hi hn => h.block i hi fun q => hn (hs i hi q)⟩
theorem Keeps.grown {a b : World} {row : Option Nat} (h : a.grownBy b row) : Keeps (fun k => row = some k) a b :=
 ⟨h.os, h.tape, h.output, h.size, fun i hi hn => h.block i hi fun e => hn e.symm⟩
theorem Keeps.alloc {S : Nat → Prop} {a b : World} (h : Keeps S a b) (o : Obj) : Keeps S a (b.alloc o) :=
 ⟨h.os, h.tape, h.output, by have := h.size; simp; omega, fun i hi hn => (Below.heap_alloc _ _ _ (Nat.lt_of_lt_of_le hi h.size)).trans (h.block i hi hn)⟩
theorem Keeps.drewN {S : Nat → Prop} {a b : World} (h : Keeps S a b) (n : Nat) : Keeps S a (b.drewN n) := ⟨h.os, h.tape, h.output, h.size, h.block⟩
theorem Keeps.drew {S : Nat → Prop} {a b : World} (h : Keeps S a b) : Keeps S a b.drew := ⟨h.os, h.tape, h.output, h.size, h.block⟩
theorem Keeps.setCell {S : Nat → Prop} {a b : World} (h : Keeps S a b) {p : Addr} (hp : S p.block ∨ a.heap.size ≤ p.block) (u : Value) : Keeps S a (b.setCell p u) :=
 ⟨h.os, h.tape, h.output, by simpa using h.size, fun i hi hn => (Below.heap_setCell _ _ _ _ (fun e => by subst e; rcases hp with hp | hp; exact hn hp; omega)).trans (h.block i hi hn)⟩
theorem Keeps.below {S : Nat → Prop} {a b : World} (h : Keeps S a b) {B : Nat} (hB : B ≤ a.heap.size) (hs : ∀ k, k < B → ¬ S k) : Below B a b :=
 ⟨h.os, h.tape, h.output, h.size, fun k hk => h.block k (by omega) (hs k hk)⟩
theorem Keeps.of_below {B : Nat} {a b : World} (h : Below B a b) : Keeps (fun k => B ≤ k) a b :=
 ⟨h.os, h.tape, h.output, h.size, fun k _ hn => h.block k (by omega)⟩
theorem Keeps.cell {S : Nat → Prop} {a b : World} (h : Keeps S a b) {p : Addr} (hp : p.block < a.heap.size) (hn : ¬ S p.block) : b.cell? p = a.cell? p :=
 World.cell?_of_block (w := a) (h.block p.block hp hn)
theorem Keeps.frozen {S : Nat → Prop} {a b : World} (h : Keeps S a b) {p : Addr} (hp : p.block < a.heap.size) (hn : ¬ S p.block) : b.frozen? p = a.frozen? p :=
 World.frozen?_of_block (w := a) (h.block p.block hp hn)
def Ext (w w' : World) : Prop := Below w.heap.size w w'
theorem Ext.refl (w : World) : Ext w w := Below.refl _ _
theorem Ext.trans {a b c : World} (h : Ext a b) (k : Ext b c) : Ext a c := Below.trans h (Below.mono k h.size)
theorem Ext.alloc {a b : World} (h : Ext a b) (o : Obj) : Ext a (b.alloc o) := Below.alloc h h.size o
theorem Ext.drewN {a b : World} (h : Ext a b) (n : Nat) : Ext a (b.drewN n) := below_drewN h n
theorem Ext.keeps {S : Nat → Prop} {a b : World} (h : Ext a b) : Keeps S a b := (Keeps.of_below h).mono fun i hi q => by have : a.heap.size ≤ i := q; omega
theorem ret_bool {a b : Bool} (h : a = b) : Ending.returned (.bool a) = .returned (.bool b) := by rw [h]
theorem ownsRow_kept {S : Nat → Prop} {w w' : World} {base : Nat} {e : TypeId} {size : Nat} {v : Value} {n : Nat} {xs : List Value}
  (h : w.ownsRow base e size v n xs) (hk : Keeps S w w') (hn : ∀ k, v.ownBlock = some k → ¬ S k) : w'.ownsRow base e size v n xs := by
 obtain ⟨h1, h2⟩ := h;refine ⟨h1, ?_⟩;rcases h2 with h2 | ⟨g, cap, cur, hv, hg, hh, r⟩
 ·exact Or.inl h2
 ·subst hv;have hlt : g < w.heap.size := lt_of_block hh;exact Or.inr ⟨g, cap, cur, rfl, hg, by rw [hk.block g hlt (hn g rfl)]; exact hh, r⟩
/-- a row that holds something begins at the head of a block -/
theorem ownsRow_some {w : World} {base : Nat} {e : TypeId} {size : Nat} {v : Value} {n : Nat} {xs : List Value}
  (h : w.ownsRow base e size v n xs) (hn : 0 < n) : ∃ g cap, v = .slice (some ⟨g, 0, none⟩) n cap ∧ n ≤ cap ∧ g < w.heap.size := by
 rcases h.2 with ⟨_, h0⟩ | ⟨g, cap, cur, hv, _, hh, hc, _⟩
 ·omega
 ·exact ⟨g, cap, hv, hc, lt_of_block hh⟩
theorem ownsRow_slice {w : World} {base : Nat} {e : TypeId} {size : Nat} {v : Value} {n : Nat} {xs : List Value}
  (h : w.ownsRow base e size v n xs) : (v = .slice none 0 0 ∧ n = 0) ∨ ∃ g cap, v = .slice (some ⟨g, 0, none⟩) n cap := by
 rcases h.2 with h0 | ⟨g, cap, cur, hv, _⟩
 ·exact .inl h0
 ·exact .inr ⟨g, cap, hv⟩
theorem add_plain (b j : Nat) : (⟨b, 0, none⟩ : Addr).add j = ⟨b, j, none⟩ := by unfold Addr.add; split <;> simp_all
/-- the world under a name: what is said of it is all that is known -/
theorem wp_world {P : Program} {c : Code} {Q : Exit → Act → World → Prop} {a : Act} {W : World} (F : World → Prop) (h1 : F W) (h2 : ∀ wz, F wz → Code.wp P c Q a wz) : Code.wp P c Q a W := h2 W h1
end Go.Proofs.YtheidjagcafgnaaGreatDoor
namespace Go.Proofs.YtheidjagcafgnaaGreatDoor
open Go.RowKit
theorem tabZero (w : World) : (zeroValue 169).run Tryz.prog w = .ok (.agg (Array.replicate 256 (.int .u32 0))) w := by kernel_rfl
@[irreducible] def tabArr (k : Nat) : Array Value := (List.map (fun i : Nat => Value.int .u32 ((if i < k then Crc.Tn 8 i else 0 : Nat) : Int)) (List.range 256)).toArray
theorem tabArr_zero : Array.replicate 256 (Value.int .u32 0) = tabArr 0 := by
 unfold tabArr; apply Array.ext
 ·simp
 ·intro i h1 h2; simp
theorem tabArr_get (k i : Nat) (h : i < 256) : (tabArr k)[i]? = some (.int .u32 ((if i < k then Crc.Tn 8 i else 0 : Nat) : Int)) := by
 unfold tabArr; simp [h]
theorem tabArr_size (k : Nat) : (tabArr k).size = 256 := by unfold tabArr; simp
theorem tabArr_set (k : Nat) (_h : k < 256) : (tabArr k).setIfInBounds k (.int .u32 (Crc.Tn 8 k : Nat)) = tabArr (k + 1) := by
 apply Array.ext
 ·simp [tabArr_size]
 ·intro i h1 h2;have h3 : i < 256 := by simpa [tabArr_size] using h2
  have e2 := tabArr_get (k + 1) i h3;have e1 := tabArr_get k i h3;rw [Array.getElem?_eq_getElem h2] at e2;rw [Array.getElem?_eq_getElem (by rw [tabArr_size]; exact h3)] at e1;rw [Option.some_inj] at e1 e2;rw [Array.getElem_setIfInBounds (by rw [tabArr_size]; exact h3), e2, e1];by_cases hik : k = i
  ·subst hik; simp
  ·rw [if_neg hik]; congr 3; have : (i < k + 1) = (i < k) := by apply propext; omega
   rw [this]
  
/-- the walk's own spelling of one step -/
theorem step_spell (x : Nat) (hx : x < 4294967296) :
  bits BinOp.xor IntKind.u32 ((x : Int) / 2) (bits BinOp.and IntKind.u32 3988292384 (-bits BinOp.and IntKind.u32 (x : Int) 1 % 4294967296)) = ((Crc.T x : Nat) : Int) := by
 have e1 : bits BinOp.and IntKind.u32 (x : Int) 1 = ((x % 2 : Nat) : Int) := by
  have := u32_and_nat x 1 hx (by decide); rw [nat_mask1] at this; exact this
 rw [e1];rcases Nat.mod_two_eq_zero_or_one x with h | h
 ·rw [h];have e2 : bits BinOp.and IntKind.u32 3988292384 (-((0 : Nat) : Int) % 4294967296) = ((0 : Nat) : Int) := by
   have := u32_and_nat 3988292384 0 (by decide) (by decide); simpa using this
  rw [e2];have := u32_xor_nat (x / 2) 0 (by omega) (by decide);rw [show ((x : Int) / 2) = ((x / 2 : Nat) : Int) by omega, this];unfold Crc.T; rw [h]; simp
 ·rw [h];have e2 : bits BinOp.and IntKind.u32 3988292384 (-((1 : Nat) : Int) % 4294967296) = ((3988292384 : Nat) : Int) := by
   have := u32_and_nat 3988292384 4294967295 (by decide) (by decide);rw [show (-((1 : Nat) : Int) % 4294967296) = ((4294967295 : Nat) : Int) by decide];exact this.trans (by decide)
  rw [e2];have := u32_xor_nat (x / 2) 3988292384 (by omega) (by decide);rw [show ((x : Int) / 2) = ((x / 2 : Nat) : Int) by omega, this];unfold Crc.T; rw [h]; simp
theorem val_u32 {a b : Int} (h : a = b) : Value.int IntKind.u32 a = Value.int IntKind.u32 b := by rw [h]
set_option maxRecDepth 10000 in
theorem table_any (w : World) : Calls Tryz.prog 83 #[] w fun e w' => e = .returned (.pointer (some ⟨w.heap.size, 0, none⟩)) ∧ w' = w.alloc (.cells (tabArr 256) 169) := by
 go_enter Tryz.func83, Tryz.ntmps83
 have hz := tabZero;go_wp2
 rw [tabArr_zero];clear hz;go_loopw [2, 3, 4, 9] (fun _ _ i _ wr => ∃ k : Nat, k ≤ 256 ∧ i = .int .i64 k ∧ wr = w.alloc (.cells (tabArr k) 169)) (fun _ _ i _ _ => 256 - (intOf i).toNat)
 case atStart => exact ⟨0, by omega, rfl, rfl⟩
 case round =>
  obtain ⟨k, hk, rfl, rfl⟩ := hrel;by_cases hlt : k < 256
  ·go_wp2
   go_loop [3, 9] (fun c j => ∃ m : Nat, m ≤ 8 ∧ j = .int .i64 m ∧ c = .int .u32 ((Crc.Tn m k : Nat) : Int)) (fun _ j => 8 - (intOf j).toNat)
   case atStart => exact ⟨0, by omega, rfl, rfl⟩
   case round =>
    obtain ⟨m, hm, rfl, rfl⟩ := hrel;have hT : Crc.Tn m k < 4294967296 := Crc.Tn_lt (by omega);by_cases hm8 : m < 8
    ·go_wp2
     go_round
     case rel => exact ⟨m + 1, by omega, by go_num, by rw [Crc.Tn_succ]; exact val_u32 (step_spell _ hT)⟩
     case measure => simp [intOf]; omega
    ·obtain rfl : m = 8 := by omega
     have hg := tabArr_get k k hlt;go_wp2
     go_roundw
     case rel => exact ⟨k + 1, by omega, by go_num, by rw [tabArr_set k hlt]⟩
     case measure => simp [intOf]; omega
  ·obtain rfl : k = 256 := by omega
   go_wp2
   go_ret;exact ⟨rfl, rfl⟩

theorem take_snoc (s : ByteArray) (k : Nat) (h : k < s.size) : s.data.toList.take (k + 1) = s.data.toList.take k ++ [s[k]] := by
 rw [List.take_succ_eq_append_getElem (by simpa using h)]; rfl
theorem run_snoc (c : Nat) (s : ByteArray) (k : Nat) (h : k < s.size) : Crc.run c (s.data.toList.take (k + 1)) = Crc.byte (Crc.run c (s.data.toList.take k)) s[k].toNat := by
 rw [take_snoc s k h]; simp [Crc.run, List.foldl_append]
theorem idx_spell (x b : Nat) (hb : b < 256) : bits BinOp.xor IntKind.u8 ((x : Int) % 256) (b : Int) = ((x % 256 ^^^ b : Nat) : Int) := by
 rw [show ((x : Int) % 256) = ((x % 256 : Nat) : Int) by omega]; exact u8_xor_nat _ _ (by omega) hb
theorem res_spell (x b n : Nat) (hx : x < 4294967296) (hb : b < 256) (hn : x % 256 ^^^ b = n) : bits BinOp.xor IntKind.u32 ((Crc.Tn 8 n : Nat) : Int) ((x : Int) / 256) = ((Crc.byte x b : Nat) : Int) := by
 have h256 : n < 2 ^ 8 := by rw [← hn]; exact Nat.xor_lt_two_pow (by omega) (by omega)
 rw [show ((x : Int) / 256) = ((x / 256 : Nat) : Int) by omega, u32_xor_nat _ _ (Crc.Tn_lt (by omega)) (by omega), Crc.byte_tab x b hb, hn]
theorem flip_spell (c : Nat) (hc : c < 4294967296) : bits BinOp.xor IntKind.u32 IntKind.u32.max (c : Int) = ((Crc.flip c : Nat) : Int) := by
 rw [show (IntKind.u32.max : Int) = ((4294967295 : Nat) : Int) by decide, u32_xor_nat _ _ (by decide) hc]; unfold Crc.flip; rw [Nat.xor_comm]
set_option maxRecDepth 10000 in
theorem moreCRC_any (c : Nat) (s : ByteArray) (w : World) (hc : c < 4294967296) (hs : s.size ≤ maxLen) :
  Calls Tryz.prog 67 #[.int .u32 (c : Int), .string s] w fun e w' => e = .returned (.int .u32 ((Crc.more c s.data.toList : Nat) : Int)) ∧ Ext w w' := by
 unfold maxLen at hs;have hflip := flip_spell c hc;go_enter Tryz.func67, Tryz.ntmps67
 go_wp2_with (go_at_call 83; refine (table_any _).mono ?_; rintro e w' ⟨rfl, rfl⟩);clear hflip;have hlt0 : Crc.flip c < 4294967296 := Crc.flip_lt hc;go_loopw [0, 6, 12] (fun v _ i wr => ∃ k n : Nat, k ≤ s.size ∧ i = .int .i64 k ∧ v = .int .u32 ((Crc.run (Crc.flip c) (s.data.toList.take k) : Nat) : Int) ∧ wr = (w.alloc (.cells (tabArr 256) 169)).drewN n) (fun _ _ i _ => s.size - (intOf i).toNat)
 case atStart => exact ⟨0, 0, by omega, rfl, rfl, rfl⟩
 case round =>
  obtain ⟨k, n, hk, rfl, rfl, rfl⟩ := hrel;have hx : Crc.run (Crc.flip c) (s.data.toList.take k) < 4294967296 := Crc.run_lt hlt0 _;by_cases hlt : k < s.size
  ·have HS := Lib.hid (run_snoc (Crc.flip c) s k hlt);obtain ⟨x, hxe⟩ : ∃ x, x = Crc.run (Crc.flip c) (s.data.toList.take k) := ⟨_, rfl⟩;rw [← hxe] at hx HS;rw [← hxe];have HX := Lib.hid hxe;clear hxe;have hb : s[k].toNat < 256 := s[k].toNat_lt;have h256 : x % 256 ^^^ s[k].toNat < 2 ^ 8 := Nat.xor_lt_two_pow (by omega) (by omega);obtain ⟨j, hj⟩ : ∃ j, x % 256 ^^^ s[k].toNat = j := ⟨_, rfl⟩;have e1 := idx_spell x s[k].toNat hb;have e2 := res_spell x s[k].toNat j hx hb hj;rw [hj] at e1 h256;have h257 : (j : Int) < 256 := by omega
   have e3 := tabArr_get 256 j (by omega);rw [if_pos (by omega)] at e3;clear hj h256;go_wp2
   go_quiet (fail)
   go_wp2
   go_roundw
   case rel => exact ⟨k + 1, _, by omega, by go_num, by rw [HS.out], rfl⟩
   case measure => simp [intOf]; omega
  ·obtain rfl : k = s.size := by omega
   have ht : List.take s.size s.data.toList = s.data.toList := List.take_of_length_le (by simp);rw [ht] at hx ⊢;clear ht;have e1 := flip_spell _ hx;go_wp2
   go_ret;exact ⟨rfl, ((Ext.refl w).alloc _).drewN _⟩
theorem crc_any (s : ByteArray) (w : World) (hs : s.size ≤ maxLen) :
  Calls Tryz.prog 47 #[.string s] w fun e w' => e = .returned (.int .u32 ((Crc.crc s.data.toList : Nat) : Int)) ∧ Ext w w' := by
 go_enter Tryz.func47, Tryz.ntmps47
 go_wp2_with (go_at_call 67; refine (moreCRC_any 0 _ _ (by omega) hs).mono ?_; rintro e w' ⟨rfl, h⟩);go_ret;exact ⟨rfl, h⟩
end Go.Proofs.YtheidjagcafgnaaGreatDoor
namespace Go.Proofs.YtheidjagcafgnaaGreatDoor
open Go.ChangeShapes Go.WideShapes Go.RowKit Go.Deep
theorem cell_add {w : World} {q : Addr} {v : Value} {k : Nat} (hk : k ≠ 0) (h : w.cell? (q.add k) = some v) : w.cell? ⟨q.block, q.off + k, none⟩ = some v := by
  unfold Addr.add at h; rw [if_neg hk] at h; exact h
theorem sent_row (u : TypeId) (h : Tryz.prog.typeName? 3 u = some "*errors.errorString") : u = 188 :=
  typeName_ptr_named (nm := "errors.errorString") (by kernel_rfl) (by kernel_rfl) (by decide) u h
end Go.Proofs.YtheidjagcafgnaaGreatDoor
namespace Go.Proofs.YtheidjagcafgnaaGreatDoor
open Go.RowKit
theorem bytes_len (s : ByteArray) : s.data.toList.length = s.size := rfl
end Go.Proofs.YtheidjagcafgnaaGreatDoor
namespace Go.Proofs.YtheidjagcafgnaaGreatDoor
open Go.RowKit
def big4 (n : Nat) : List UInt8 := [UInt8.ofNat (n / 16777216), UInt8.ofNat (n / 65536), UInt8.ofNat (n / 256), UInt8.ofNat n]
theorem number_any (n : Nat) (hn : n < 4294967296) (w : World) : Calls Tryz.prog 66 #[.int .u32 (n : Int)] w fun e w' => e = .returned (.string ⟨(big4 n).toArray⟩) ∧ Ext w w' := by
 obtain ⟨wa, hwa⟩ : ∃ wa, wa = w.alloc (.cells #[.int .u8 ((n : Int) / 16777216), .int .u8 ((n : Int) / 65536 % 256), .int .u8 ((n : Int) / 256 % 256), .int .u8 ((n : Int) % 256)] 5) := ⟨_, rfl⟩;have hcr : (convert 34 9 (.slice (some ⟨w.heap.size, 0, none⟩) 4 4)).run Tryz.prog wa = .ok (.string ⟨(big4 n).toArray⟩) wa := by
  refine run_convert_bytes_back (P := Tryz.prog) wa 34 9 5 ⟨w.heap.size, 0, none⟩ 4 (big4 n) Tryz.underlying34 Tryz.underlying5 Tryz.underlying9 (fun j hj => ?_);have hj4 : j < 4 := hj;rw [add_plain, hwa];match j, hj4 with
  | 0, _ => simp [big4]; omega
  | 1, _ => simp [big4]
  | 2, _ => simp [big4]
  | 3, _ => simp [big4]
 rw [hwa] at hcr;clear hwa wa;go_enter Tryz.func66, Tryz.ntmps66
 go_wp2_with fail;go_ret;exact ⟨rfl, (Ext.refl _).alloc _⟩
def vstep (x : Nat) (b : UInt8) : Nat := x % 16777216 * 256 + b.toNat
def valN (l : List UInt8) : Nat := l.foldl vstep 0
theorem vstep_lt (x : Nat) (b : UInt8) : vstep x b < 4294967296 := by unfold vstep; have := b.toNat_lt; omega
theorem valN_succ {l : List UInt8} {k : Nat} (hk : k < l.length) : valN (l.take (k + 1)) = vstep (valN (l.take k)) l[k] := by
 unfold valN;rw [List.take_add_one, List.getElem?_eq_getElem hk, List.foldl_append]; rfl
theorem valN_lt (l : List UInt8) : valN l < 4294967296 := by
 rcases List.eq_nil_or_concat l with rfl | ⟨q, b, rfl⟩
 ·decide
 ·unfold valN; rw [List.concat_eq_append, List.foldl_append]; exact vstep_lt _ _
theorem valN_four (a b c d : UInt8) : valN [a, b, c, d] = 16777216 * a.toNat + 65536 * b.toNat + 256 * c.toNat + d.toNat := by
 have := a.toNat_lt; have := b.toNat_lt; have := c.toNat_lt;simp only [valN, List.foldl_cons, List.foldl_nil, vstep]; omega
theorem valN_big4 (n : Nat) (h : n < 4294967296) : valN (big4 n) = n := by
 unfold big4; rw [valN_four]; simp only [UInt8.toNat_ofNat']; omega
theorem or_low8 (x : Nat) (y : UInt8) : bits BinOp.or IntKind.u32 ((x : Int) * 256 % 4294967296) ((y.toNat : Int) % 4294967296) = ((vstep x y : Nat) : Int) := by
 have hy := y.toNat_lt;rw [show (y.toNat : Int) % 4294967296 = (y.toNat : Int) by omega, show ((x : Int) * 256 % 4294967296) = ((x % 16777216 * 256 : Nat) : Int) by omega, u32_or_nat _ _ (by omega) (by omega), nat_join 8 (x % 16777216 * 256) y.toNat (by omega) (by omega)];rfl
theorem value_any (s : ByteArray) (w : World) (hs : s.size ≤ maxLen) : Calls Tryz.prog 63 #[.string s] w fun e w' => e = .returned (.int .u32 ((valN s.data.toList : Nat) : Int)) ∧ w = w' := by
 unfold maxLen at hs;go_enter Tryz.func63, Tryz.ntmps63
 go_wp2_with fail;go_loop [2, 6] (fun x c => ∃ k : Nat, k ≤ s.size ∧ c = .int .i64 k ∧ x = .int .u32 ((valN (s.data.toList.take k) : Nat) : Int)) (fun _ c => s.size - (intOf c).toNat)
 case atStart => exact ⟨0, by omega, rfl, by rw [List.take_zero]; rfl⟩
 case round =>
  obtain ⟨k, hk, rfl, rfl⟩ := hrel;by_cases hlt : k < s.size
  ·have t0 : decide ((k : Int) < (s.size : Int)) = true := decide_eq_true (by omega);have hv : valN (s.data.toList.take (k + 1)) = vstep (valN (s.data.toList.take k)) s[k] := valN_succ (by rw [bytes_len]; exact hlt);obtain ⟨x, hx⟩ : ∃ x, valN (s.data.toList.take k) = x := ⟨_, rfl⟩;have hxl := valN_lt (s.data.toList.take k);rw [hx] at hv hxl ⊢;have ho := or_low8 x s[k];go_wp2_with fail;go_round
   case rel => exact ⟨k + 1, by omega, by go_num, by rw [hv]⟩
   case measure => simp [intOf]; omega
  ·obtain rfl : k = s.size := by omega
   have t0 : decide ((s.size : Int) < (s.size : Int)) = false := decide_eq_false (by omega);have e1 : s.data.toList.take s.size = s.data.toList := List.take_of_length_le (by rw [bytes_len]; omega);rw [e1];go_wp2_with fail;go_ret;exact ⟨rfl, rfl⟩
end Go.Proofs.YtheidjagcafgnaaGreatDoor
namespace Go.Proofs.YtheidjagcafgnaaGreatDoor
open Go.RowKit
def Bk (w : World) (b : Nat) (cs : Array Value) : Prop := ∃ t, w.heap[b]? = some (.cells cs t (0, 0))
theorem Bk.lt {w : World} {b : Nat} {cs : Array Value} (h : Bk w b cs) : b < w.heap.size := by obtain ⟨t, h⟩ := h; exact lt_of_block h
theorem Bk.at {w : World} {k : Nat} {cs : Array Value} {t : TypeId} (h : w.heap.size = k) : Bk (w.alloc (.cells cs t)) k cs := ⟨t, by rw [← h]; exact heap_alloc_new w _⟩
theorem Bk.old {w : World} {b : Nat} {cs : Array Value} {o : Obj} (h : Bk w b cs) : Bk (w.alloc o) b cs := by
  have hl := h.lt;obtain ⟨t, h⟩ := h;exact ⟨t, (Below.heap_alloc w o b hl).trans h⟩
theorem Bk.keeps {S : Nat → Prop} {w w' : World} {b : Nat} {cs : Array Value} (h : Bk w b cs) (hk : Keeps S w w') (hS : ¬ S b) : Bk w' b cs := by
  have hl := h.lt;obtain ⟨t, h⟩ := h;exact ⟨t, (hk.block b hl hS).trans h⟩
theorem Bk.ext {w w' : World} {b : Nat} {cs : Array Value} (h : Bk w b cs) (hE : Ext w w') : Bk w' b cs := h.keeps (S := fun _ => False) hE.keeps id
theorem Bk.cell {w : World} {b : Nat} {cs : Array Value} (h : Bk w b cs) (i : Nat) : w.cell? ⟨b, i, none⟩ = cs[i]? := by
  obtain ⟨t, h⟩ := h;exact cell_of_row w b i cs t (0, 0) h
theorem Bk.frozen {w : World} {b : Nat} {cs : Array Value} (h : Bk w b cs) (i : Nat) : w.frozen? ⟨b, i, none⟩ = false := by
  obtain ⟨t, h⟩ := h;simp [World.frozen?, h]
theorem Bk.set_ {w : World} {b : Nat} {cs : Array Value} (h : Bk w b cs) (i : Nat) (u : Value) : Bk (w.setCell ⟨b, i, none⟩ u) b (cs.setIfInBounds i u) := by
  obtain ⟨t, h⟩ := h;exact ⟨t, by simp [World.setCell, Array.getElem?_modify, h]⟩
theorem Bk.far {w : World} {b : Nat} {cs : Array Value} (h : Bk w b cs) {p : Addr} (hp : b ≠ p.block) (u : Value) : Bk (w.setCell p u) b cs := by
  obtain ⟨t, h⟩ := h;exact ⟨t, (Below.heap_setCell w p u b hp).trans h⟩
theorem Bk.drewN {w : World} {b : Nat} {cs : Array Value} (h : Bk w b cs) (n : Nat) : Bk (w.drewN n) b cs := h
theorem Bk.drew {w : World} {b : Nat} {cs : Array Value} (h : Bk w b cs) : Bk w.drew b cs := h
end Go.Proofs.YtheidjagcafgnaaGreatDoor
namespace Go.Proofs.YtheidjagcafgnaaGreatDoor
open Go.RowKit
structure Ck where
 k : ByteArray
 d : ByteArray
def Ck.cells (c : Ck) : List Value := [.string c.k, .string c.d]
def ckL (L : List Ck) : List Value := L.flatMap Ck.cells
theorem ckL_snoc (L : List Ck) (c : Ck) : ckL (L ++ [c]) = ckL L ++ [.string c.k, .string c.d] := by simp [ckL, Ck.cells]
theorem ckL_get : ∀ (L : List Ck) (i : Nat) (c : Ck), L[i]? = some c → (ckL L)[i * 2]? = some (.string c.k) ∧ (ckL L)[i * 2 + 1]? = some (.string c.d) := by
 intro L;induction L with
 | nil => intro i c h; cases h
 | cons x L ih =>
  intro i c h;cases i with
  | zero => injection h with h; subst h; exact ⟨rfl, rfl⟩
  | succ i =>
   have := ih i c (by simpa using h);rw [show (i + 1) * 2 = (i * 2 + 1) + 1 by omega];exact this
structure Ck.Ok (c : Ck) : Prop where
 k : c.k.size ≤ maxLen
 d : c.d.size ≤ 300000
/-- a row of chunks, wherever it lies -/
def Cks (w : World) (x : Option Addr) (L : List Ck) : Prop :=
 (x = none → L = []) ∧ ∀ a, x = some a → ∀ (i : Nat) (c : Ck), L[i]? = some c →
  w.cell? (a.add (i * 2)) = some (.string c.k) ∧ w.cell? ⟨(a.add (i * 2)).block, (a.add (i * 2)).off + 1, none⟩ = some (.string c.d)
theorem Cks.ext {w w' : World} {x : Option Addr} {L : List Ck} (h : Cks w x L) (hE : Ext w w') : Cks w' x L := by
 refine ⟨h.1, fun a ha i c hi => ?_⟩;obtain ⟨c0, c1⟩ := h.2 a ha i c hi;have hl : (a.add (i * 2)).block < w.heap.size := World.block_lt_of_cell? w _ c0;exact ⟨(hE.keeps.cell (S := fun _ => False) hl id).trans c0, (hE.keeps.cell (S := fun _ => False) (p := ⟨_, _, none⟩) hl id).trans c1⟩
theorem Cks.isSome {w : World} {x : Option Addr} {L : List Ck} (h : Cks w x L) {i : Nat} (hi : i < L.length) : ∃ a, x = some a := by
 cases x with
 | none => rw [h.1 rfl] at hi; simp at hi
 | some a => exact ⟨a, rfl⟩
theorem Cks.of_own {w : World} {base : Nat} {e : TypeId} {v : Value} {L : List Ck} (h : w.ownsRow base e 2 v L.length (ckL L)) : ∃ x c, v = .slice x L.length c ∧ Cks w x L := by
 rcases ownsRow_slice h with ⟨rfl, h0⟩ | ⟨g, cap, rfl⟩
 ·have hn : L = [] := List.eq_nil_of_length_eq_zero h0;subst hn; exact ⟨none, 0, rfl, fun _ => rfl, fun a h => by cases h⟩
 ·refine ⟨some ⟨g, 0, none⟩, cap, rfl, (fun h => by cases h), fun a ha i c hi => ?_⟩;injection ha with ha; subst ha;have hlt : i < L.length := (List.getElem?_eq_some_iff.1 hi).1;obtain ⟨q0, q1⟩ := ckL_get L i c hi;rw [add_plain];refine ⟨?_, ?_⟩
  ·rw [h.cellAt _ (by omega), q0]
  ·show w.cell? ⟨g, i * 2 + 1, none⟩ = _; rw [h.cellAt _ (by omega), q1]
/-- a chunk in a box of its own -/
def Cb (w : World) (K : Nat) (T : TypeId) (k d : ByteArray) : Prop := w.heap[K]? = some (.cells #[.string k, .string d] T (0, 0))
theorem Cb.lt {w : World} {K : Nat} {T : TypeId} {k d : ByteArray} (h : Cb w K T k d) : K < w.heap.size := lt_of_block h
theorem Cb.ext {w w' : World} {K : Nat} {T : TypeId} {k d : ByteArray} (h : Cb w K T k d) (hE : Ext w w') : Cb w' K T k d := (hE.block K (lt_of_block h)).trans h
theorem Cb.cell {w : World} {K : Nat} {T : TypeId} {k d : ByteArray} (h : Cb w K T k d) (i : Nat) : w.cell? ⟨K, i, none⟩ = (#[Value.string k, Value.string d] : Array Value)[i]? := Bk.cell ⟨T, h⟩ i
/-- what a chunk is in a file -/
def enc (c : Ck) : List UInt8 := big4 c.d.size ++ c.k.data.toList ++ c.d.data.toList ++ big4 (Crc.crc (c.k.data.toList ++ c.d.data.toList))
end Go.Proofs.YtheidjagcafgnaaGreatDoor
namespace Go.Proofs.YtheidjagcafgnaaGreatDoor.Tx
open Go.RowKit
def key (s : ByteArray) : List UInt8 := s.data.toList
theorem key_inj {a b : ByteArray} (h : key a = key b) : a = b := by
 rcases a with ⟨⟨a⟩⟩;rcases b with ⟨⟨b⟩⟩;have : a = b := h;rw [this]
def fnd (L : List Ck) (k : ByteArray) : Option ByteArray := (L.find? (fun c => decide (c.k = k))).map (·.d)
def drp (L : List Ck) (k : ByteArray) : List Ck := L.filter (fun c => decide (c.k ≠ k))
def ins (k t : ByteArray) : List Ck → List Ck
 | [] => [⟨k, t⟩]
 | c :: r => if key k ≤ key c.k then ⟨k, t⟩ :: drp (c :: r) k else c :: ins k t r
def Sorted (L : List Ck) : Prop := L.Pairwise (fun a b => key a.k < key b.k)
theorem lt_ne {a b : List UInt8} (h : a < b) : a ≠ b := by rintro rfl; exact List.lt_irrefl _ h
theorem fnd_nil (k : ByteArray) : fnd [] k = none := rfl
theorem fnd_cons (c : Ck) (L : List Ck) (k : ByteArray) : fnd (c :: L) k = if c.k = k then some c.d else fnd L k := by
 unfold fnd;by_cases h : c.k = k
 ·rw [if_pos h, List.find?_cons_of_pos (by simpa using h)]; rfl
 ·rw [if_neg h, List.find?_cons_of_neg (by simpa using h)]
theorem fnd_isSome {L : List Ck} {k : ByteArray} : (fnd L k).isSome = true ↔ ∃ c ∈ L, c.k = k := by
 induction L with
 | nil => simp [fnd_nil]
 | cons c L ih =>
  rw [fnd_cons];by_cases e : c.k = k
  ·rw [if_pos e]; simp [e]
  ·rw [if_neg e, ih]; simp [e]
theorem fnd_none {L : List Ck} {k : ByteArray} : fnd L k = none ↔ ∀ c ∈ L, c.k ≠ k := by
 have := @fnd_isSome L k;cases h : fnd L k with
 | none =>
  rw [h] at this;simp only [Option.isSome_none, Bool.false_eq_true, false_iff] at this;exact ⟨fun _ c hc e => this ⟨c, hc, e⟩, fun _ => rfl⟩
 | some t =>
  rw [h] at this;simp only [Option.isSome_some, true_iff] at this;obtain ⟨c, hc, e⟩ := this;exact ⟨(fun q => by cases q), fun q => absurd e (q c hc)⟩
theorem fnd_of_mem {L : List Ck} (hs : Sorted L) {c : Ck} (hc : c ∈ L) : fnd L c.k = some c.d := by
 induction L with
 | nil => cases hc
 | cons x L ih =>
  rw [fnd_cons];unfold Sorted at hs;rw [List.pairwise_cons] at hs;rcases List.mem_cons.1 hc with rfl | hc
  ·rw [if_pos rfl]
  ·rw [if_neg (fun e => lt_ne (hs.1 c hc) (by rw [e]))];exact ih hs.2 hc
theorem fnd_drp (L : List Ck) (k q : ByteArray) : fnd (drp L k) q = if q = k then none else fnd L q := by
 induction L with
 | nil => simp [drp, fnd_nil]
 | cons c L ih =>
  unfold drp at ih ⊢;by_cases h : c.k = k
  ·rw [List.filter_cons_of_neg (by simpa using h), ih, fnd_cons];by_cases e : q = k
   ·rw [if_pos e, if_pos e]
   ·rw [if_neg e, if_neg e, if_neg (fun x => e (by rw [← x, h]))]
  ·rw [List.filter_cons_of_pos (by simpa using h), fnd_cons, fnd_cons, ih];by_cases e : q = k
   ·rw [if_pos e, if_pos e, if_neg (fun x => h (by rw [x, e]))]
   ·rw [if_neg e, if_neg e]
theorem fnd_ins (L : List Ck) (k t q : ByteArray) : fnd (ins k t L) q = if q = k then some t else fnd L q := by
 induction L with
 | nil =>
  show fnd [⟨k, t⟩] q = _;rw [fnd_cons, fnd_nil];by_cases e : q = k
  ·rw [if_pos e, if_pos e.symm]
  ·rw [if_neg e, if_neg (fun x => e x.symm)]
 | cons c L ih =>
  unfold ins;split
  ·rw [fnd_cons, fnd_drp];by_cases e : q = k
   ·rw [if_pos e, if_pos e]; exact if_pos e.symm
   ·rw [if_neg e, if_neg e]; exact if_neg (fun x => e x.symm)
  ·rename_i hle;have hck : c.k ≠ k := fun e => hle (by rw [e]; exact List.le_refl _);rw [fnd_cons, fnd_cons, ih];by_cases e : q = k
   ·rw [if_pos e, if_pos e, if_neg (fun x => hck (by rw [x, e]))]
   ·rw [if_neg e, if_neg e]
theorem mem_drp {L : List Ck} {k : ByteArray} {c : Ck} : c ∈ drp L k ↔ c ∈ L ∧ c.k ≠ k := by unfold drp; simp
theorem mem_ins {L : List Ck} {k t : ByteArray} {c : Ck} (h : c ∈ ins k t L) : c = ⟨k, t⟩ ∨ (c ∈ L ∧ c.k ≠ k) := by
 induction L with
 | nil => exact .inl (List.mem_singleton.1 h)
 | cons x L ih =>
  unfold ins at h;split at h
  ·rcases List.mem_cons.1 h with h | h
   ·exact .inl h
   ·exact .inr (mem_drp.1 h)
  ·rename_i hle;rcases List.mem_cons.1 h with rfl | h
   ·exact .inr ⟨List.mem_cons_self .., fun e => hle (by rw [e]; exact List.le_refl _)⟩
   ·rcases ih h with h | h
    ·exact .inl h
    ·exact .inr ⟨List.mem_cons_of_mem _ h.1, h.2⟩
theorem Sorted.drp {L : List Ck} (h : Sorted L) (k : ByteArray) : Sorted (drp L k) := List.Pairwise.filter _ h
theorem lt_of_not_le {a b : List UInt8} (h : ¬ a ≤ b) : b < a := List.not_le.1 h
theorem lt_of_le_ne {a b : List UInt8} (h : a ≤ b) (hn : a ≠ b) : a < b := List.not_le.1 (fun q => hn (List.le_antisymm h q))
theorem Sorted.ins {L : List Ck} (h : Sorted L) (k t : ByteArray) : Sorted (ins k t L) := by
 induction L with
 | nil => exact List.pairwise_singleton ..
 | cons c L ih =>
  have hs := h;unfold Sorted at hs;rw [List.pairwise_cons] at hs;unfold Tx.ins;split
  ·rename_i hle;refine List.pairwise_cons.2 ⟨fun x hx => ?_, Sorted.drp h k⟩;obtain ⟨hx, hne⟩ := mem_drp.1 hx;show key k < key x.k;have h1 : key k ≤ key x.k := by
    rcases List.mem_cons.1 hx with rfl | hx
    ·exact hle
    ·exact List.le_trans hle (List.le_of_lt (hs.1 x hx))
   exact lt_of_le_ne h1 (fun e => hne (key_inj e).symm)
  ·rename_i hle;refine List.pairwise_cons.2 ⟨fun x hx => ?_, ih hs.2⟩;rcases mem_ins hx with rfl | ⟨hx, _⟩
   ·exact lt_of_not_le hle
   ·exact hs.1 x hx
theorem length_drp_le (L : List Ck) (k : ByteArray) : (drp L k).length ≤ L.length := List.length_filter_le ..
theorem length_ins_le (L : List Ck) (k t : ByteArray) : (ins k t L).length ≤ L.length + 1 := by
 induction L with
 | nil => exact Nat.le_refl _
 | cons c L ih =>
  unfold ins;split
  ·have := length_drp_le (c :: L) k;simp only [List.length_cons] at this ⊢;omega
  ·simp only [List.length_cons]; omega
end Go.Proofs.YtheidjagcafgnaaGreatDoor.Tx
namespace Go.Proofs.YtheidjagcafgnaaGreatDoor
open Go.RowKit Go.Maps
theorem str_keyed : Maps.Keyed Tryz.prog 9 := Maps.string_keyed Tryz.underlying9
theorem key_of (k : ByteArray) (hk : k.size ≤ maxLen) : keyOf Tryz.prog 9 (.string k) = some (.string (Tx.key k)) := by
 simp [keyOf, Tryz.underlying9, mapKey, Tx.key, hk]
/-- what a map reads as, told by a list of texts -/
structure TI (D : DataW Unit) (L : List Ck) : Prop where
 is : IsMap D
 has : ∀ k : ByteArray, Maps.has D (.string (Tx.key k)) = (Tx.fnd L k).isSome
 val : ∀ (k t : ByteArray), Tx.fnd L k = some t → ∀ z, D.atKey (.string (Tx.key k)) z = .lit (.string (Tx.key t))
theorem keyLit (s : List UInt8) : WideAt.IsKeyLit (.string s) := trivial
theorem lit_ne {a b : ByteArray} (h : a ≠ b) : Lit.string (Tx.key a) ≠ Lit.string (Tx.key b) := fun e => h (Tx.key_inj (by injection e))
theorem TI.put {D : DataW Unit} {L : List Ck} (h : TI D L) (k t : ByteArray) : TI (D.put (.string (Tx.key k)) (.lit (.string (Tx.key t)))) (Tx.ins k t L) := by
 refine ⟨?_, fun q => ?_, fun q u hq z => ?_⟩
 ·obtain ⟨es, rfl⟩ := h.is;exact ⟨_, rfl⟩
 ·rw [Tx.fnd_ins];by_cases e : q = k
  ·subst e;rw [if_pos rfl, has_put_same h.is (keyLit _)]; rfl
  ·rw [if_neg e, has_put_other (lit_ne e), h.has]
 ·rw [Tx.fnd_ins] at hq;by_cases e : q = k
  ·subst e;rw [if_pos rfl] at hq;injection hq with hq;subst hq;exact atKey_put_same h.is (keyLit _) _ _
  ·rw [if_neg e] at hq;rw [atKey_put_other (lit_ne e)];exact h.val q u hq z
theorem TI.del {D : DataW Unit} {L : List Ck} (h : TI D L) (k : ByteArray) : TI (D.del (.string (Tx.key k))) (Tx.drp L k) := by
 refine ⟨?_, fun q => ?_, fun q u hq z => ?_⟩
 ·obtain ⟨es, rfl⟩ := h.is;exact ⟨_, rfl⟩
 ·rw [Tx.fnd_drp];by_cases e : q = k
  ·subst e;rw [if_pos rfl, has_del_same]; rfl
  ·rw [if_neg e, has_del_other (lit_ne e), h.has]
 ·rw [Tx.fnd_drp] at hq;by_cases e : q = k
  ·rw [if_pos e] at hq; cases hq
  ·rw [if_neg e] at hq;rw [atKey_del_other (lit_ne e)];exact h.val q u hq z
/-- block b is a map of the texts L, of at most n entries -/
def TM (w : World) (b n : Nat) (L : List Ck) : Prop := ∃ D : DataW Unit, w.ownsMap Tryz.prog 9 (plainElem Tryz.prog 9) b n D ∧ TI D L
theorem TM.lt {w : World} {b n : Nat} {L : List Ck} (h : TM w b n L) : b < w.heap.size := by
 obtain ⟨D, h, _⟩ := h;exact h.lt
theorem TM.keeps {S : Nat → Prop} {w w' : World} {b n : Nat} {L : List Ck} (h : TM w b n L) (hk : Keeps S w w') (hS : ¬ S b) : TM w' b n L := by
 have hl := h.lt;obtain ⟨D, ⟨es, clock, hb, r⟩, hT⟩ := h;exact ⟨D, ⟨es, clock, (hk.block b hl hS).trans hb, r⟩, hT⟩
theorem TM.ext {w w' : World} {b n : Nat} {L : List Ck} (h : TM w b n L) (hE : Ext w w') : TM w' b n L := h.keeps (S := fun _ => False) hE.keeps id
theorem TM.mono {w : World} {b n m : Nat} {L : List Ck} (h : TM w b n L) (hm : n ≤ m) : TM w b m L := by
 obtain ⟨D, h, hT⟩ := h;exact ⟨D, h.mono hm, hT⟩
theorem TM.new (w : World) : TM (w.alloc (.map #[] 0)) w.heap.size 0 [] :=
 ⟨.map [], World.ownsMap_made w _ _ _, ⟨⟨[], rfl⟩, fun _ => rfl, fun k t h => by cases h⟩⟩
theorem zero_str (w : World) : (zeroValue 9).run Tryz.prog w = .ok (.string ⟨#[]⟩) w := by kernel_rfl
theorem TM.look {w : World} {b n : Nat} {L : List Ck} (h : TM w b n L) (k : ByteArray) (hk : k.size ≤ maxLen) :
  (Instr.lookup 74 (.map (some b)) (.string k) true).run Tryz.prog w = .ok (.tuple #[.string ((Tx.fnd L k).getD ⟨#[]⟩), .bool (Tx.fnd L k).isSome]) w ∧
  (Instr.lookup 74 (.map (some b)) (.string k) false).run Tryz.prog w = .ok (.string ((Tx.fnd L k).getD ⟨#[]⟩)) w ∧ (∀ t, Tx.fnd L k = some t → t.size ≤ maxLen) := by
 obtain ⟨D, ⟨es, clock, hb, F, _, rfl⟩, hT⟩ := h;have hz := zero_str w;rcases Maps.fit_look true str_keyed Tryz.underlying74 hz hb F (key_of k hk) with ⟨hrun, _, hat⟩ | ⟨e0, y, hm, hk0, hrun, hRv, hat, _⟩
 ·have hf : Tx.fnd L k = none := by
   have := hT.has k;rw [Maps.has_false_of_atKey hat] at this;cases hq : Tx.fnd L k with
   | none => rfl
   | some t => rw [hq] at this; cases this
  rcases Maps.fit_look false str_keyed Tryz.underlying74 hz hb F (key_of k hk) with ⟨hrun2, _, _⟩ | ⟨_, y2, _, _, _, _, hat2, _⟩
  ·rw [hf];exact ⟨hrun, hrun2, fun t h => by cases h⟩
  ·have h1 := Maps.has_false_of_atKey hat;rw [Maps.has_true_of_atKey hat2] at h1;cases h1
 ·have hsome : (Tx.fnd L k).isSome = true := by rw [← hT.has k]; exact Maps.has_true_of_atKey hat
  obtain ⟨t, ht⟩ := Option.isSome_iff_exists.1 hsome;have hv := hT.val k t ht .nil;rw [hat] at hv;obtain ⟨s, hs, hy, hsz⟩ := plainElem_string_inv Tryz.underlying9 hRv;have hst : s = t := by
   rw [hy] at hv;injection hv with hv;injection hv with hv;exact Tx.key_inj hv
  subst hst;rcases Maps.fit_look false str_keyed Tryz.underlying74 hz hb F (key_of k hk) with ⟨_, hno, _⟩ | ⟨e1, y2, hm1, hk1, hrun2, hRv2, hat2, _⟩
  ·exact absurd hk0 (hno e0 hm)
  ·obtain ⟨s2, hs2, hy2, _⟩ := plainElem_string_inv Tryz.underlying9 hRv2;have hst2 : s2 = s := by
    have hv2 := hT.val k s ht .nil;rw [hat2, hy2] at hv2;injection hv2 with hv2;injection hv2 with hv2;exact Tx.key_inj hv2
   subst hst2;rw [ht];exact ⟨by rw [hrun, hs]; rfl, by rw [hrun2, hs2]; rfl, fun t h => by injection h with h; subst h; exact hsz⟩
theorem turned_keeps {w w' : World} {b : Nat} (h : w.mapTurned w' b) : Keeps (fun k => k = b) w w' := (Keeps.grown h.grown).mono fun i _ e => by injection e with e; exact e.symm
theorem TM.store {w : World} {b n : Nat} {L : List Ck} (h : TM w b n L) (k t : ByteArray) (hk : k.size ≤ maxLen) (ht : t.size ≤ maxLen) (hn : n < maxLen) :
  ∃ w', (Instr.mapUpdate 74 (.map (some b)) (.string k) (.string t)).run Tryz.prog w = .ok () w' ∧ TM w' b (n + 1) (Tx.ins k t L) ∧ Keeps (fun k => k = b) w w' ∧ w'.heap.size = w.heap.size := by
 obtain ⟨D, h, hT⟩ := h;obtain ⟨w', hr, hm, ht⟩ := h.store str_keyed Tryz.underlying74 hn (key_of k hk) (plainElem_string Tryz.underlying9 ht);refine ⟨w', hr, ⟨_, hm, hT.put k t⟩, turned_keeps ht, ?_⟩;obtain ⟨es, clock, es', clock', hb, rfl⟩ := ht;simp [ChangeMaps.setBlock]
theorem TM.drop {w : World} {b n : Nat} {L : List Ck} (h : TM w b n L) (k : ByteArray) (hk : k.size ≤ maxLen) (ty : TypeId) :
  ∃ w', (Builtin.delete_ #[74, 9] ty #[.map (some b), .string k]).run Tryz.prog w = .ok (.tuple #[]) w' ∧ TM w' b n (Tx.drp L k) ∧ Keeps (fun k => k = b) w w' ∧ w'.heap.size = w.heap.size := by
 obtain ⟨D, h, hT⟩ := h;obtain ⟨w', hr, hm, ht⟩ := h.drop str_keyed Tryz.underlying74 (key_of k hk) ty;refine ⟨w', hr, ⟨_, hm, hT.del k⟩, turned_keeps ht, ?_⟩;obtain ⟨es, clock, es', clock', hb, rfl⟩ := ht;simp [ChangeMaps.setBlock]
/-- the names, as the datum has them -/
theorem TI.perm {D : DataW Unit} {L : List Ck} (h : TI D L) (hs : Tx.Sorted L) {w : World} {b n : Nat} (ho : w.ownsMap Tryz.prog 9 (plainElem Tryz.prog 9) b n D) : (L.map (fun c => Tx.key c.k)).Perm (strKeys D) := by
 obtain ⟨es, hD, hpw, _⟩ := ho.entries str_keyed;obtain ⟨es', hD', hko⟩ := ho.keysOf;obtain rfl : es = es' := by rw [hD] at hD'; simpa using hD'
 subst hD;refine perm_strKeys hpw (fun p hp => by obtain ⟨v, hv⟩ := hko p hp; obtain ⟨x, _, hx, _⟩ := Maps.keyOf_str Tryz.underlying9 hv; exact ⟨x, hx⟩) ?_ (fun x => ?_)
 ·exact List.pairwise_map.2 (hs.imp fun q => Tx.lt_ne q)
 ·have hx := h.has ⟨⟨x⟩⟩;have e : Tx.key ⟨⟨x⟩⟩ = x := rfl;rw [e] at hx;rw [hx, Tx.fnd_isSome];simp only [List.mem_map];constructor
  ·rintro ⟨c, hc, rfl⟩;exact ⟨c, hc, Tx.key_inj rfl⟩
  ·rintro ⟨c, hc, hk⟩;exact ⟨c, hc, by rw [hk]; rfl⟩
theorem strKeys_len : ∀ es : List (Lit × DataW Unit), (strKeys (DataW.map es)).length = es.length := fun es => by simp [strKeys]
theorem TM.size {w : World} {b n : Nat} {L : List Ck} (h : TM w b n L) (hs : Tx.Sorted L) : ∃ D : DataW Unit, w.ownsMap Tryz.prog 9 (plainElem Tryz.prog 9) b n D ∧ TI D L ∧ Maps.size D = L.length ∧ L.length ≤ n := by
 obtain ⟨D, h, hT⟩ := h;have hp := (hT.perm hs h).length_eq;have hl : Maps.size D = L.length := by
  obtain ⟨es, rfl⟩ := hT.is;rw [strKeys_len, List.length_map] at hp;rw [hp]; rfl
 exact ⟨D, h, hT, hl, by rw [← hl]; exact h.size_le⟩
theorem TM.len {w : World} {b n : Nat} {L : List Ck} (h : TM w b n L) (hs : Tx.Sorted L) (ty : TypeId) : (Builtin.len_ #[74] ty #[.map (some b)]).run Tryz.prog w = .ok (.int .i64 (L.length : Int)) w := by
 obtain ⟨D, h, _, hl, _⟩ := h.size hs;rw [← hl];exact h.len Tryz.underlying74 ty
/-- sorted, the names are those of the list -/
theorem names_sort {D : DataW Unit} {L : List Ck} (h : TI D L) (hs : Tx.Sorted L) {w : World} {b n : Nat} (ho : w.ownsMap Tryz.prog 9 (plainElem Tryz.prog 9) b n D) {ss : List (List UInt8)} (hp : ss.Perm (strKeys D)) : ss.mergeSort (fun x y => decide (x ≤ y)) = L.map (fun c => Tx.key c.k) := by
 have e := mergeSort_of_perm (hp.trans (h.perm hs ho).symm);show ss.mergeSort leB = _;rw [e];refine List.mergeSort_of_pairwise ?_;exact List.pairwise_map.2 (hs.imp fun q => decide_eq_true (List.le_of_lt q))
end Go.Proofs.YtheidjagcafgnaaGreatDoor
namespace Go.Proofs.YtheidjagcafgnaaGreatDoor
open Go.RowKit Go.Extern.Stop Go.Stop Go.Extern
@[irreducible] noncomputable def GN : Nat := Tryz.prog.globals.size
noncomputable abbrev hdl (t : Nat) : Value := .pointer (some ⟨GN, t, none⟩)
theorem typeOfE (v : Value) (w : World) : (Extern.ReflectliteType.typeOf #[.iface 188 v]).run Tryz.prog w = .ok (.iface 153 (.agg #[hdl 188])) w := by kernel_rfl
theorem compE (w : World) : ((Extern.ReflectliteType.method fun t => do Extern.Rtype.noPackHeld "Comparable" t; pure (.bool (← typeInfo t).comparable)) #[.agg #[hdl 188]]).run Tryz.prog w = .ok (.bool true) w := by kernel_rfl
theorem call_typeOfE (v : Value) (w : World) : (callFunc 78 #[.iface 188 v]).run Tryz.prog w = .ok (.value (.iface 153 (.agg #[hdl 188]))) w := by
 rw [@run_callFunc_extern Tryz.prog 78 _ Extern.ReflectliteType.typeOf Tryz.func78 (by kernel_rfl) (by kernel_rfl) (by kernel_rfl) (by kernel_rfl), typeOfE]; rfl
theorem call_compE (w : World) : (callFunc 134 #[.agg #[hdl 188]]).run Tryz.prog w = .ok (.value (.bool true)) w := by
 rw [@run_callFunc_extern Tryz.prog 134 _ (Extern.ReflectliteType.method fun t => do Extern.Rtype.noPackHeld "Comparable" t; pure (.bool (← typeInfo t).comparable)) Tryz.func134 (by kernel_rfl) (by kernel_rfl) (by kernel_rfl) (by kernel_rfl), compE]; rfl
theorem isMethodComparable (n : Nat) (v : Value) (w : World) : (Go.method (n + 1) 153 v "Comparable").run Tryz.prog w = .ok (134, v) w := by kernel_rfl
theorem isComp : (Tryz.prog.info? 188).map (·.comparable) = some true := by kernel_rfl
theorem isSize : (Tryz.prog.info? 206).map (·.size) = some 1 := by kernel_rfl
theorem noIsE (v : Value) (xT : TypeId) (w : World) : (Instr.typeAssert (.iface 188 v) xT 163 true).run Tryz.prog w = .ok (.tuple #[.nilIface, .bool false]) w := run_typeAssert_lacksB Tryz.underlying163 (by kernel_rfl) (by kernel_rfl) v xT w
theorem noUnwrapE (v : Value) (xT : TypeId) (w : World) : (Instr.typeAssert (.iface 188 v) xT 160 true).run Tryz.prog w = .ok (.tuple #[.nilIface, .bool false]) w := run_typeAssert_lacksB Tryz.underlying160 (by kernel_rfl) (by kernel_rfl) v xT w
theorem noUnwrapsE (v : Value) (xT : TypeId) (w : World) : (Instr.typeAssert (.iface 188 v) xT 161 true).run Tryz.prog w = .ok (.tuple #[.nilIface, .bool false]) w := run_typeAssert_lacksB Tryz.underlying161 (by kernel_rfl) (by kernel_rfl) v xT w
theorem noIsF (v : Value) (xT : TypeId) (w : World) : (Instr.typeAssert (.iface 109 v) xT 163 true).run Tryz.prog w = .ok (.tuple #[.nilIface, .bool false]) w := run_typeAssert_lacksB Tryz.underlying163 (by kernel_rfl) (by kernel_rfl) v xT w
theorem hasUnwrapF (v : Value) (xT : TypeId) (w : World) : (Instr.typeAssert (.iface 109 v) xT 160 true).run Tryz.prog w = .ok (.tuple #[.iface 109 v, .bool true]) w := run_typeAssert_hasB Tryz.underlying160 (by kernel_rfl) v xT w
theorem methodUnwrap (n : Nat) (v : Value) (w : World) : (Go.method (n + 1) 109 v "Unwrap").run Tryz.prog w = .ok (128, v) w := by kernel_rfl
theorem is_same (a : Addr) (w : World) :
  Calls Tryz.prog 59 #[.iface 188 (.pointer (some a)), .iface 188 (.pointer (some a))] w fun e w' => e = .returned (.bool true) ∧ w = w' := by
 obtain ⟨i, hi, hcmp⟩ := Option.map_eq_some_iff.1 isComp;obtain ⟨j, hj, hjs⟩ := Option.map_eq_some_iff.1 isSize;have h8 := call_typeOfE;have h32 := call_compE;have mR := isMethodComparable;have heq := run_eql_iface_ptr_same (P := Tryz.prog) w a Tryz.underlying25 Tryz.underlying188 hi hcmp hj;go_enter Tryz.func59, Tryz.ntmps59
 go_wp2
 refine wp_loop_rounds 1 ?_;rw [rounds_succ];go_wp2
 go_ret;exact ⟨rfl, rfl⟩
theorem is_other (a b : Addr) (ca cb : Array Value) (ta tb : TypeId) (w : World) (hne : a ≠ b) (ha : w.heap[a.block]? = some (.cells ca ta (0, 0))) (hb : w.heap[b.block]? = some (.cells cb tb (0, 0))) :
  Calls Tryz.prog 59 #[.iface 188 (.pointer (some a)), .iface 188 (.pointer (some b))] w fun e w' => e = .returned (.bool false) ∧ w = w' := by
 obtain ⟨i, hi, hcmp⟩ := Option.map_eq_some_iff.1 isComp;obtain ⟨j, hj, hjs⟩ := Option.map_eq_some_iff.1 isSize;have h8 := call_typeOfE;have h32 := call_compE;have mR := isMethodComparable;have nE := noIsE;have uE := noUnwrapE;have vE := noUnwrapsE;have heq := run_eql_iface_ptr_other (P := Tryz.prog) w Tryz.underlying25 Tryz.underlying188 hi hcmp hj (by rw [hjs]; decide) hne ha hb;go_enter Tryz.func59, Tryz.ntmps59
 go_wp2
 refine wp_loop_rounds 1 ?_;rw [rounds_succ];go_wp2
 go_ret;exact ⟨rfl, rfl⟩
theorem is_fault_same (F : Nat) (b : Addr) (w : World) (h1 : w.cell? ⟨F, 1, none⟩ = some (.iface 188 (.pointer (some b)))) :
  Calls Tryz.prog 59 #[.iface 109 (.pointer (some ⟨F, 0, none⟩)), .iface 188 (.pointer (some b))] w fun e w' => e = .returned (.bool true) ∧ w = w' := by
 obtain ⟨i, hi, hcmp⟩ := Option.map_eq_some_iff.1 isComp;obtain ⟨j, hj, hjs⟩ := Option.map_eq_some_iff.1 isSize;have h8 := call_typeOfE;have h32 := call_compE;have mR := isMethodComparable;have nE := noIsE;have uE := noUnwrapE;have vE := noUnwrapsE;have nW := noIsF;have uW := hasUnwrapF;have mU := methodUnwrap;have heq := run_eql_iface_ptr_same (P := Tryz.prog) w b Tryz.underlying25 Tryz.underlying188 hi hcmp hj;have hty := run_eql_iface_types (P := Tryz.prog) 109 188 (.pointer (some ⟨F, 0, none⟩)) (.pointer (some b)) Tryz.underlying25 (by decide) w;go_enter Tryz.func59, Tryz.ntmps59
 go_wp2
 refine wp_loop_rounds 2 ?_;rw [rounds_succ];go_wp2
 rw [rounds_succ];go_wp2
 go_ret;exact ⟨rfl, rfl⟩
theorem is_fault_other (F : Nat) (b a : Addr) (ca cb : Array Value) (ta tb : TypeId) (w : World) (h1 : w.cell? ⟨F, 1, none⟩ = some (.iface 188 (.pointer (some a)))) (hne : a ≠ b) (ha : w.heap[a.block]? = some (.cells ca ta (0, 0))) (hb : w.heap[b.block]? = some (.cells cb tb (0, 0))) :
  Calls Tryz.prog 59 #[.iface 109 (.pointer (some ⟨F, 0, none⟩)), .iface 188 (.pointer (some b))] w fun e w' => e = .returned (.bool false) ∧ w = w' := by
 obtain ⟨i, hi, hcmp⟩ := Option.map_eq_some_iff.1 isComp;obtain ⟨j, hj, hjs⟩ := Option.map_eq_some_iff.1 isSize;have h8 := call_typeOfE;have h32 := call_compE;have mR := isMethodComparable;have nE := noIsE;have uE := noUnwrapE;have vE := noUnwrapsE;have nW := noIsF;have uW := hasUnwrapF;have mU := methodUnwrap;have heq := run_eql_iface_ptr_other (P := Tryz.prog) w Tryz.underlying25 Tryz.underlying188 hi hcmp hj (by rw [hjs]; decide) hne ha hb;have hty := run_eql_iface_types (P := Tryz.prog) 109 188 (.pointer (some ⟨F, 0, none⟩)) (.pointer (some b)) Tryz.underlying25 (by decide) w;go_enter Tryz.func59, Tryz.ntmps59
 go_wp2
 refine wp_loop_rounds 2 ?_;rw [rounds_succ];go_wp2
 rw [rounds_succ];go_wp2
 go_ret;exact ⟨rfl, rfl⟩
end Go.Proofs.YtheidjagcafgnaaGreatDoor
