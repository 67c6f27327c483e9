/-
  Rows of cells of whatever values. No function of the program is named.
  Arguments and package variables, opened to cells: slices of records, sentinels of errors.
  Code lengths: words, Valid: what they compute.
  Valid: what it says of lengths.
  Codes: the words of lengths.
  Rows of ints as values; no word of a code begins another one. No function of the program is named.
  Blocks that are known whole: variables that a call made. No function of the program is named.
  Plain law of the CRC: a step, eight of them, a byte by the table. No program in sight.
  Plain law of bursts: bits turned within 32 in a row change the CRC. No program in sight.
  A writer of bits: what its memory says (a number and how many bits), and the contract of 'one'.
  A text in blocks, and back: the plain law; rows of bytes that grow. No function of the program is named.
  A row of bytes that grew out of a string: its block bears a mark behind its end. Appending strings to it. No function of the program is named.
  append of a text's bytes to a row of one's own: where the new row lies. No function of the program is named.
  A cell stays: for a seat without package inflate (ALIAS=InfT0:ExtC).
  slices.Grow of no row, slices.Concat of rows of whole numbers.
  Rows of packs (what symbols cost together) in memory; what their sort's steps turn.
-/
import Derived.Test.YtdeiolagnheihaaDoorHuffBestG1
import Derived.Deep.Fields
import Derived.Stop.LaidErr
import Derived.LaidSub
import Derived.ProofKit
import Derived.OpenShut
import Derived.Laws.EntriesVeiled
import Derived.Deep.WholeRow
import Derived.Deep.OwnRows
import Derived.Laws.AppendOwnNone
import Derived.Lib.AppendStr
import Derived.Lib.ConvBytes
import Derived.Laws.CopyRow
import Derived.Deep.AppendLies
set_option linter.unusedSimpArgs false
set_option linter.unusedVariables false
set_option maxRecDepth 100000
namespace Go.Proofs.YtdeiolagnheihaaDoor
open Go.RowKit
/-- a row of cells, none frozen -/
def Cv (w : World) (B n : Nat) (g : Nat → Value) : Prop := ∀ i, i < n → w.cell? ⟨B, i, none⟩ = some (g i) ∧ w.frozen? ⟨B, i, none⟩ = false
theorem Cv.congr {w : World} {B n : Nat} {g g' : Nat → Value} (h : Cv w B n g) (hg : ∀ i, i < n → g' i = g i) : Cv w B n g' := by
  intro i hi; rw [hg i hi]; exact h i hi
theorem Cv.put {w : World} {B n : Nat} {g : Nat → Value} (h : Cv w B n g) (j : Nat) (x : Value) (g' : Nat → Value) (hj : j < n) (hg : ∀ i, i < n → g' i = if i = j then x else g i) : Cv (w.setCell ⟨B, j, none⟩ x) B n g' := by
  intro i hi;obtain ⟨h1, h2⟩ := h i hi;rw [hg i hi, World.frozen?_setCell];refine ⟨?_, h2⟩;by_cases e : i = j
  · subst e; rw [if_pos rfl]; exact World.cell?_setCell_same _ _ _ h1
  · rw [if_neg e]; exact (World.cell?_setCell_other _ _ _ _ (by intro q; injection q with _ q2; exact e q2.symm)).trans h1
theorem Cv.keeps {w w' : World} {B n : Nat} {g : Nat → Value} {S : Nat → Prop} (h : Cv w B n g) (hk : Keeps S w w') (hB : ¬ S B) : Cv w' B n g := by
  intro i hi;obtain ⟨h1, h2⟩ := h i hi;have hlt : B < w.heap.size := World.block_lt_of_cell? w _ h1;exact ⟨(hk.cell (p := ⟨B, i, none⟩) hlt hB).trans h1, (hk.frozen (p := ⟨B, i, none⟩) hlt hB).trans h2⟩
theorem Cv.ext {w w' : World} {B n : Nat} {g : Nat → Value} (h : Cv w B n g) (hE : Ext w w') : Cv w' B n g := h.keeps (S := fun _ => False) hE.keeps id
theorem Cv.drew {w : World} {B n : Nat} {g : Nat → Value} (h : Cv w B n g) : Cv w.drew B n g := h
theorem Cv.drewN {w : World} {B n : Nat} {g : Nat → Value} (h : Cv w B n g) (m : Nat) : Cv (w.drewN m) B n g := h
end Go.Proofs.YtdeiolagnheihaaDoor
namespace Go.Proofs.YtdeiolagnheihaaDoor
open Go.ChangeShapes Go.WideShapes Go.RowKit Go.Deep
theorem sent_row (u : TypeId) (h : Tryd.prog.typeName? 3 u = some "*errors.errorString") : u = 180 :=
  typeName_ptr_named (nm := "errors.errorString") (by kernel_rfl) (by kernel_rfl) (by decide) u h
end Go.Proofs.YtdeiolagnheihaaDoor
namespace Go.Proofs.YtdeiolagnheihaaDoor
open Go.RowKit
/-- a row of whole numbers as they lie in memory -/
def Ints (w : World) (x : Option Addr) (len : Nat) (f : Nat → Int) : Prop :=
 (x = none → len = 0) ∧ ∀ a, x = some a → ∀ i, i < len → w.cell? (a.add i) = some (.int .i64 (f i)) ∧ -9223372036854775808 ≤ f i ∧ f i ≤ 9223372036854775807
theorem Ints.block {w : World} {a : Addr} {len : Nat} {f : Nat → Int} (h : Ints w (some a) len f) (hl : 0 < len) : a.block < w.heap.size := by
 have q := World.block_lt_of_cell? w _ (h.2 a rfl 0 hl).1;simpa [Addr.add] using q
theorem Ints.on {w w' : World} {x : Option Addr} {len : Nat} {f : Nat → Int} {S : Nat → Prop} (h : Ints w x len f) (hB : Keeps S w w') (ha : ∀ a, x = some a → ¬ S a.block) : Ints w' x len f := by
 refine ⟨h.1, fun a hx i hi => ?_⟩;subst hx;have hb : (a.add i).block < w.heap.size := by
  have := h.block (by omega);unfold Addr.add; split <;> simpa using this
 have hs : ¬ S (a.add i).block := by
  have := ha a rfl;unfold Addr.add; split <;> simpa using this
 rw [hB.cell hb hs];exact h.2 a rfl i hi
theorem Ints.ext {w w' : World} {x : Option Addr} {len : Nat} {f : Nat → Int} (h : Ints w x len f) (hB : Ext w w') : Ints w' x len f :=
 h.on (S := fun _ => False) hB.keeps (fun _ _ => id)
theorem validF_calls (x : Int) (w : World) (hx1 : -9223372036854775808 ≤ x) (hx2 : x ≤ 9223372036854775807) :
  Calls Tryd.prog 88 #[.int .i64 x] w fun e w' => e = .returned (.bool (decide (x < 0 ∨ 15 < x))) ∧ w = w' := by
 go_enter Tryd.func88, Tryd.ntmps88
 go_wp2_with fail
 ·go_ret;exact ⟨ret_bool (by simp), rfl⟩
 ·go_ret;exact ⟨rfl, rfl⟩
theorem indexV_calls (x : Option Addr) (len cap : Nat) (f : Nat → Int) (w : World) (hx : Ints w x len f) (hl : len ≤ maxLen) :
  Calls Tryd.prog 75 #[.slice x len cap, .func (.func 88) #[] #[]] w fun e w' => (∃ i : Int, e = .returned (.int .i64 i) ∧ ((i = -1 ∧ ∀ j, j < len → 0 ≤ f j ∧ f j ≤ 15) ∨ (0 ≤ i ∧ ∃ j, j < len ∧ (f j < 0 ∨ 15 < f j)))) ∧ w = w' := by
 unfold maxLen at hl;have HX := Lib.hid hx;clear hx;go_enter Tryd.func75, Tryd.ntmps75
 go_wp2
 go_loop [5, 8] (fun _ c => ∃ i : Nat, i ≤ len ∧ c = .int .i64 i ∧ Hid (∀ j, j < i → 0 ≤ f j ∧ f j ≤ 15)) (fun _ c => len - (intOf c).toNat)
 case atStart => exact ⟨0, by omega, rfl, Lib.hid fun j hj => by omega⟩
 case round =>
  obtain ⟨i, hi, rfl, HF⟩ := hrel;by_cases hlt : i < len
  ·obtain ⟨a, rfl⟩ : ∃ a, x = some a := by
    cases x with
    | none => have := HX.out.1 rfl; omega
    | some a => exact ⟨a, rfl⟩
   obtain ⟨hc, h1, h2⟩ := HX.out.2 a rfl i hlt;go_wp2_with fail;refine (validF_calls _ _ h1 h2).mono ?_;rintro e w1 ⟨rfl, rfl⟩;by_cases hbad : f i < 0 ∨ 15 < f i
   ·have hb := decide_eq_true hbad;have HBAD := Lib.hid hbad;clear hbad;go_wp2_with fail;go_ret;exact ⟨⟨i, rfl, .inr ⟨by omega, i, hlt, HBAD.out⟩⟩, rfl⟩
   ·have hb := decide_eq_false hbad;have HBAD := Lib.hid hbad;clear hbad;go_wp2_with fail;go_round
    case rel =>
     refine ⟨i + 1, by omega, by go_num, Lib.hid fun j hj => ?_⟩;rcases Nat.lt_succ_iff_lt_or_eq.1 hj with q | rfl
     ·exact HF.out j q
     ·have := HBAD.out; omega
    case measure => simp [intOf]; omega
  ·obtain rfl : i = len := by omega
   go_wp2
   go_ret;exact ⟨⟨-1, rfl, .inl ⟨rfl, HF.out⟩⟩, rfl⟩
/-- how many of the first i elements are n -/
def many (f : Nat → Int) (n : Nat) : Nat → Nat
 | 0 => 0
 | i + 1 => many f n i + if f i = n then 1 else 0
theorem many_le (f : Nat → Int) (n : Nat) : ∀ i, many f n i ≤ i := by
 intro i;induction i with
 | zero => exact Nat.le_refl _
 | succ i ih => unfold many; split <;> omega
theorem zero16 (w : World) : (zeroValue 135).run Tryd.prog w = .ok (.agg (Array.replicate 16 (.int .i64 0))) w := by kernel_rfl
theorem words_calls (x : Option Addr) (len cap : Nat) (f : Nat → Int) (w : World) (hx : Ints w x len f) (hl : len ≤ maxLen) (hf : ∀ j, j < len → 0 ≤ f j ∧ f j ≤ 15) :
  Calls Tryd.prog 74 #[.slice x len cap] w fun e w' => e = .returned (.agg (cellsI .i64 16 fun n => (many f n len : Int))) ∧ w' = w.alloc (.cells (cellsI .i64 16 fun n => (many f n len : Int)) 135) := by
 unfold maxLen at hl;have HX := Lib.hid hx;have HF := Lib.hid hf;clear hx hf;go_enter Tryd.func74, Tryd.ntmps74
 have hz := zero16;go_wp2
 rw [cellsI_zero];clear hz;go_loopw [4, 7] (fun _ c wr => ∃ i : Nat, i ≤ len ∧ c = .int .i64 i ∧ wr = w.alloc (.cells (cellsI .i64 16 fun n => (many f n i : Int)) 135)) (fun _ c _ => len - (intOf c).toNat)
 case atStart => exact ⟨0, by omega, rfl, rfl⟩
 case round =>
  obtain ⟨i, hi, rfl, rfl⟩ := hrel;by_cases hlt : i < len
  ·obtain ⟨a, rfl⟩ : ∃ a, x = some a := by
    cases x with
    | none => have := HX.out.1 rfl; omega
    | some a => exact ⟨a, rfl⟩
   obtain ⟨hc, h1, h2⟩ := (HX.out.ext ((Below.refl _ _).alloc (Nat.le_refl _) (.cells (cellsI .i64 16 fun n => (many f n i : Int)) 135))).2 a rfl i hlt;obtain ⟨q1, q2⟩ := HF.out i hlt;obtain ⟨k, hk⟩ : ∃ k : Nat, f i = k := ⟨(f i).toNat, by omega⟩;have HK := Lib.hid hk;rw [hk] at hc h1 h2 q1 q2;clear hk;have hg := cellsI_get .i64 16 (fun n => (many f n i : Int)) k (by omega);have hml := many_le f k i;go_wp2
   rw [cellsI_set .i64 16 (fun n => (many f n i : Int)) k ((many f k i : Int) + 1) (fun n => (many f n (i + 1) : Int))]
   ·exact ⟨⟨i + 1, by omega, by go_num, rfl⟩, by simp [intOf]; omega⟩
   ·intro n _;have := HK.out;by_cases hn : n = k
    ·subst hn; simp [many, this]
    ·have : ¬ f i = n := by omega
     simp [many, this, hn]
  ·obtain rfl : i = len := by omega
   have hg0 := cellsI_get .i64 16 (fun n => (many f n i : Int)) 0 (by decide);have hg1 := cellsI_get .i64 16 (fun n => (many f n i : Int)) 1 (by decide);have hg2 := cellsI_get .i64 16 (fun n => (many f n i : Int)) 2 (by decide);have hg3 := cellsI_get .i64 16 (fun n => (many f n i : Int)) 3 (by decide);have hg4 := cellsI_get .i64 16 (fun n => (many f n i : Int)) 4 (by decide);have hg5 := cellsI_get .i64 16 (fun n => (many f n i : Int)) 5 (by decide);have hg6 := cellsI_get .i64 16 (fun n => (many f n i : Int)) 6 (by decide);have hg7 := cellsI_get .i64 16 (fun n => (many f n i : Int)) 7 (by decide);have hg8 := cellsI_get .i64 16 (fun n => (many f n i : Int)) 8 (by decide);have hg9 := cellsI_get .i64 16 (fun n => (many f n i : Int)) 9 (by decide);have hg10 := cellsI_get .i64 16 (fun n => (many f n i : Int)) 10 (by decide);have hg11 := cellsI_get .i64 16 (fun n => (many f n i : Int)) 11 (by decide);have hg12 := cellsI_get .i64 16 (fun n => (many f n i : Int)) 12 (by decide);have hg13 := cellsI_get .i64 16 (fun n => (many f n i : Int)) 13 (by decide);have hg14 := cellsI_get .i64 16 (fun n => (many f n i : Int)) 14 (by decide);have hg15 := cellsI_get .i64 16 (fun n => (many f n i : Int)) 15 (by decide);go_wp2
   clear hg0 hg1 hg2 hg3 hg4 hg5 hg6 hg7 hg8 hg9 hg10 hg11 hg12 hg13 hg14 hg15;rw [cellsI_same _ _ _ 0 _ rfl, cellsI_same _ _ _ 1 _ rfl, cellsI_same _ _ _ 2 _ rfl, cellsI_same _ _ _ 3 _ rfl, cellsI_same _ _ _ 4 _ rfl, cellsI_same _ _ _ 5 _ rfl, cellsI_same _ _ _ 6 _ rfl, cellsI_same _ _ _ 7 _ rfl, cellsI_same _ _ _ 8 _ rfl, cellsI_same _ _ _ 9 _ rfl, cellsI_same _ _ _ 10 _ rfl, cellsI_same _ _ _ 11 _ rfl, cellsI_same _ _ _ 12 _ rfl, cellsI_same _ _ _ 13 _ rfl, cellsI_same _ _ _ 14 _ rfl, cellsI_same _ _ _ 15 _ rfl];exact bodyPost_ret (v := .agg (cellsI .i64 16 fun n => (many f n i : Int))) (results_cell_row rfl _ _ w.heap.size 135 _ (0, 0) _ rfl (heap_alloc_last w _) Tryd.underlying135 rfl (by rw [cellsI_size]; kernel_rfl)) rfl ⟨rfl, rfl⟩
end Go.Proofs.YtdeiolagnheihaaDoor
namespace Go.Proofs.YtdeiolagnheihaaDoor
open Go.RowKit
/-- the sum of Kraft, in parts of 2^15: lengths 1 to n -/
def kraft (f : Nat → Int) (len : Nat) : Nat → Nat
 | 0 => 0
 | n + 1 => kraft f len n + many f (n + 1) len * 2 ^ (14 - n)
def inBounds (f : Nat → Int) (len : Nat) : Prop := len ≤ 300 ∧ ∀ j, j < len → 0 ≤ f j ∧ f j ≤ 15
def complete (f : Nat → Int) (len : Nat) : Prop := len = many f 0 len ∨ (len = many f 0 len + 1 ∧ many f 1 len = 1) ∨ kraft f len 15 = 32768
theorem kraft_le (f : Nat → Int) (len : Nat) : ∀ n, n ≤ 15 → kraft f len n ≤ n * (len * 16384) := by
 intro n;induction n with
 | zero => intro _; exact Nat.zero_le _
 | succ n ih =>
  intro h;have h1 := ih (by omega);have h2 : many f (n + 1) len * 2 ^ (14 - n) ≤ len * 16384 := Nat.mul_le_mul (many_le _ _ _) (Nat.pow_le_pow_right (n := 2) (by decide) (show 14 - n ≤ 14 by omega));unfold kraft; rw [Nat.add_mul, Nat.one_mul]; omega
theorem kraft_bound (f : Nat → Int) (len n : Nat) (h : len ≤ 300) (hn : n ≤ 15) : kraft f len n ≤ 73728000 := by
 have h1 := kraft_le f len n hn;have h2 : n * (len * 16384) ≤ 15 * (300 * 16384) := Nat.mul_le_mul hn (Nat.mul_le_mul_right _ h);omega
theorem term_bound (f : Nat → Int) (len n : Nat) (h : len ≤ 300) : many f (n + 1) len * 2 ^ (14 - n) ≤ 4915200 := by
 have h2 : many f (n + 1) len * 2 ^ (14 - n) ≤ 300 * 16384 := Nat.mul_le_mul (Nat.le_trans (many_le _ _ _) h) (Nat.pow_le_pow_right (n := 2) (by decide) (show 14 - n ≤ 14 by omega));omega
theorem containsV_calls (x : Option Addr) (len cap : Nat) (f : Nat → Int) (w : World) (hx : Ints w x len f) (hl : len ≤ maxLen) :
  Calls Tryd.prog 60 #[.slice x len cap, .func (.func 88) #[] #[]] w fun e w' => (∃ b : Bool, e = .returned (.bool b) ∧ (b = false ↔ ∀ j, j < len → 0 ≤ f j ∧ f j ≤ 15)) ∧ w = w' := by
 have HX := Lib.hid hx;clear hx;go_enter Tryd.func60, Tryd.ntmps60
 go_wp2_with fail;refine (indexV_calls _ _ _ _ _ HX.out hl).mono ?_;rintro e w1 ⟨⟨i, rfl, hi⟩, rfl⟩;have HI := Lib.hid hi;clear hi;go_wp2_with fail;go_ret;refine ⟨⟨_, rfl, ?_⟩, rfl⟩;rcases HI.out with ⟨rfl, h⟩ | ⟨h, j, hj, hb⟩
 ·simp; exact h
 ·constructor
  ·intro q; simp at q; omega
  ·intro q; have := q j hj; omega
theorem valid_calls (x : Option Addr) (len cap : Nat) (f : Nat → Int) (w : World) (hx : Ints w x len f) (hl : len ≤ maxLen)
  (EB ES : Value) (hB : w.cell? ⟨0, 0, none⟩ = some EB) (hS : w.cell? ⟨1, 0, none⟩ = some ES) :
  Calls Tryd.prog 73 #[.slice x len cap] w fun e w' => Ext w w' ∧
   ((e = .returned .nilIface ∧ inBounds f len ∧ complete f len) ∨ (e = .returned EB ∧ ¬ inBounds f len) ∨ (e = .returned ES ∧ inBounds f len ∧ ¬ complete f len)) := by
 have HX := Lib.hid hx;have hl2 := hl;unfold maxLen at hl2;clear hx;by_cases h300 : 300 < len
 ·go_enter Tryd.func73, Tryd.ntmps73
  go_wp2
  go_ret;exact ⟨Below.refl _ _, .inr (.inl ⟨rfl, fun h => by have := h.1; omega⟩)⟩
 go_enter Tryd.func73, Tryd.ntmps73
 go_wp2_with fail;refine (containsV_calls _ _ _ _ _ HX.out hl).mono ?_;rintro e w1 ⟨⟨b, rfl, hb⟩, rfl⟩;cases b with
 | true =>
  have HB := Lib.hid hb;clear hb;go_wp2_with fail;go_ret;refine ⟨Below.refl _ _, .inr (.inl ⟨rfl, fun h => ?_⟩)⟩;have := HB.out.2 h.2; cases this
 | false =>
  have hbd : inBounds f len := ⟨by omega, hb.1 rfl⟩;have HB := Lib.hid hbd;clear hb hbd;go_wp2_with fail;refine (words_calls _ _ _ _ _ HX.out hl HB.out.2).mono ?_;rintro e w1 ⟨rfl, rfl⟩;have hst := run_storeCells_new (P := Tryd.prog) (w.alloc (.cells (cellsI .i64 16 fun n => (many f n len : Int)) 135)) 135 (Array.replicate 16 (.int .i64 0)) (cellsI .i64 16 fun n => (many f n len : Int)) (by rw [cellsI_size]; kernel_rfl) (by rw [cellsI_size]; rfl) (by simp [cellsI, Value.oneCell']);rw [show (w.alloc (.cells (cellsI .i64 16 fun n => (many f n len : Int)) 135)).heap.size = w.heap.size + 1 by simp] at hst;have hz := zero16;have hg0 := cellsI_get .i64 16 (fun n => (many f n len : Int)) 0 (by decide);have hm0 := many_le f 0 len;go_wp2_with fail;clear hst hz;go_loop [5, 6] (fun s c => ∃ n : Nat, n ≤ 15 ∧ c = .int .i64 (n + 1) ∧ s = .int .i64 (kraft f len n : Int)) (fun _ c => 16 - (intOf c).toNat)
  case atStart => exact ⟨0, by omega, rfl, rfl⟩
  case round =>
   obtain ⟨n, hn, rfl, rfl⟩ := hrel;by_cases hlt : n < 15
   ·have hg := cellsI_get .i64 16 (fun n => (many f n len : Int)) (n + 1) (by omega);have k1 := kraft_bound f len n (by omega) (by omega);have k2 : (0 : Int) ≤ (many f (n + 1) len : Int) * 2 ^ (14 - n) ∧ (many f (n + 1) len : Int) * 2 ^ (14 - n) ≤ 4915200 := by
     have := term_bound f len n (by omega);rw [show (many f (n + 1) len : Int) * 2 ^ (14 - n) = ((many f (n + 1) len * 2 ^ (14 - n) : Nat) : Int) by simp];omega
    obtain ⟨k3, k4⟩ := k2;go_wp2_with fail;refine ⟨⟨n + 1, by omega, by go_num, val_int ?_⟩, by simp [intOf]; omega⟩;show wrap64 ((kraft f len n : Int) + wrap64 ((many f (n + 1) len : Int) * 2 ^ (14 - n))) = ((kraft f len n + many f (n + 1) len * 2 ^ (14 - n) : Nat) : Int);rw [show ((kraft f len n + many f (n + 1) len * 2 ^ (14 - n) : Nat) : Int) = (kraft f len n : Int) + (many f (n + 1) len : Int) * 2 ^ (14 - n) by simp];generalize (many f (n + 1) len : Int) * 2 ^ (14 - n) = t at *;unfold wrap64; omega
   ·obtain rfl : n = 15 := by omega
    have hx1 : Ext w ((w.alloc (.cells (cellsI .i64 16 fun n => (many f n len : Int)) 135)).alloc (.cells (cellsI .i64 16 fun n => (many f n len : Int)) 135)) := ((Ext.refl w).alloc _).alloc _;have hS2 := (hx1.cell (p := ⟨1, 0, none⟩) (World.block_lt_of_cell? w _ hS)).trans hS;have hg1 := cellsI_get .i64 16 (fun n => (many f n len : Int)) 1 (by omega);have hm1 := many_le f 1 len;have k1 := kraft_bound f len 15 (by omega) (by omega);have HX1 := Lib.hid hx1;clear hx1 hg0;go_wp2_with fail;all_goals (go_ret; refine ⟨HX1.out, ?_⟩)
    all_goals (first | exact .inl ⟨rfl, HB.out, by unfold complete; (try simp only [beq_iff_eq, beq_eq_false_iff_ne, ne_eq] at *); omega⟩ | exact .inr (.inr ⟨rfl, HB.out, by unfold complete; (try simp only [beq_eq_false_iff_ne, ne_eq] at *); omega⟩))
end Go.Proofs.YtdeiolagnheihaaDoor
namespace Go.Proofs.YtdeiolagnheihaaDoor
open Go.RowKit
/-- the first word of each length -/
def first (f : Nat → Int) (len : Nat) : Nat → Nat
  | 0 => 0
  | 1 => 0
  | n + 2 => (first f len (n + 1) + many f (n + 1) len) * 2
/-- the word of element i -/
def word (f : Nat → Int) (len i : Nat) : Nat := if 0 < f i then first f len (f i).toNat + many f (f i).toNat i else 0
theorem first_succ (f : Nat → Int) (len n : Nat) (h : 1 ≤ n) : first f len (n + 1) = (first f len n + many f n len) * 2 := by
  match n, h with
  | n + 1, _ => rfl
theorem first_kraft (f : Nat → Int) (len : Nat) : ∀ n, n ≤ 14 → first f len (n + 1) * 2 ^ (14 - n) = kraft f len n := by
  intro n
  induction n with
  | zero => intro _; rfl
  | succ n ih =>
    intro h
    have h1 := ih (by omega)
    show (first f len (n + 1) + many f (n + 1) len) * 2 * 2 ^ (14 - (n + 1)) = kraft f len n + many f (n + 1) len * 2 ^ (14 - n)
    rw [← h1, ← Nat.add_mul, Nat.mul_assoc, show 14 - n = (14 - (n + 1)) + 1 by omega, Nat.pow_succ, Nat.mul_comm 2]
theorem many_mono (f : Nat → Int) (n : Nat) : ∀ j i, i ≤ j → many f n i ≤ many f n j := by
  intro j
  induction j with
  | zero => intro i h; have : i = 0 := by omega
            subst this; exact Nat.le_refl _
  | succ j ih =>
    intro i h
    rcases Nat.lt_or_ge i (j + 1) with q | q
    · exact Nat.le_trans (ih i (by omega)) (by show _ ≤ many f n j + _; omega)
    · have : i = j + 1 := by omega
      subst this; exact Nat.le_refl _
theorem many_at (f : Nat → Int) (n i : Nat) (h : f i = n) : many f n (i + 1) = many f n i + 1 := by simp [many, h]
theorem many_not (f : Nat → Int) (n i : Nat) (h : ¬ f i = n) : many f n (i + 1) = many f n i := by simp [many, h]
theorem many_disj (f : Nat → Int) (n m : Nat) (hnm : n ≠ m) : ∀ i, many f n i + many f m i ≤ i := by
  intro i
  induction i with
  | zero => exact Nat.le_refl _
  | succ i ih =>
    show (many f n i + if f i = n then 1 else 0) + (many f m i + if f i = m then 1 else 0) ≤ i + 1
    split <;> split <;> omega
theorem many_three (f : Nat → Int) (n m k : Nat) (h1 : n ≠ m) (h2 : n ≠ k) (h3 : m ≠ k) : ∀ i, many f n i + many f m i + many f k i ≤ i := by
  intro i
  induction i with
  | zero => exact Nat.le_refl _
  | succ i ih =>
    show (many f n i + if f i = n then 1 else 0) + (many f m i + if f i = m then 1 else 0) + (many f k i + if f i = k then 1 else 0) ≤ i + 1
    split <;> split <;> split <;> omega
theorem kraft_mono (f : Nat → Int) (len : Nat) : ∀ m n, n ≤ m → kraft f len n ≤ kraft f len m := by
  intro m
  induction m with
  | zero => intro n h; have : n = 0 := by omega
            subst this; exact Nat.le_refl _
  | succ m ih =>
    intro n h
    rcases Nat.lt_or_ge n (m + 1) with q | q
    · exact Nat.le_trans (ih n (by omega)) (by show _ ≤ kraft f len m + _; omega)
    · have : n = m + 1 := by omega
      subst this; exact Nat.le_refl _
theorem kraft_zero (f : Nat → Int) (len : Nat) (h : len = many f 0 len) : ∀ n, kraft f len n = 0 := by
  intro n
  induction n with
  | zero => rfl
  | succ n ih =>
    have h1 := many_disj f 0 (n + 1) (by omega) len
    have h2 : many f (n + 1) len = 0 := by omega
    show kraft f len n + many f (n + 1) len * _ = 0
    rw [ih, h2]; simp
theorem kraft_one (f : Nat → Int) (len : Nat) (h : len = many f 0 len + 1) (h1 : many f 1 len = 1) : ∀ n, kraft f len n ≤ 16384 := by
  intro n
  induction n with
  | zero => exact Nat.zero_le _
  | succ n ih =>
    show kraft f len n + many f (n + 1) len * _ ≤ 16384
    by_cases hn : n = 0
    · subst hn; show 0 + many f 1 len * 2 ^ 14 ≤ _; rw [h1]; decide
    · have h3 := many_three f 0 1 (n + 1) (by omega) (by omega) (by omega) len
      have h2 : many f (n + 1) len = 0 := by omega
      rw [h2]; simpa using ih
/-- words of a length stay below what the length allows -/
theorem room (f : Nat → Int) (len : Nat) (h : complete f len) (n : Nat) (hn : n ≤ 14) : first f len (n + 1) + many f (n + 1) len ≤ 2 ^ (n + 1) := by
  have hk : kraft f len (n + 1) ≤ 32768 := by
    rcases h with h | ⟨h, h1⟩ | h
    · rw [kraft_zero f len h]; decide
    · have := kraft_one f len h h1 (n + 1); omega
    · rw [← h]; exact kraft_mono f len 15 (n + 1) (by omega)
  have h1 := first_kraft f len n hn
  have h2 : kraft f len (n + 1) = (first f len (n + 1) + many f (n + 1) len) * 2 ^ (14 - n) := by
    show kraft f len n + _ = _; rw [← h1, Nat.add_mul]
  rw [h2] at hk
  have h3 : (32768 : Nat) = 2 ^ (n + 1) * 2 ^ (14 - n) := by rw [← Nat.pow_add, show n + 1 + (14 - n) = 15 by omega]
  rw [h3] at hk
  exact Nat.le_of_mul_le_mul_right hk (Nat.two_pow_pos _)
theorem room' (f : Nat → Int) (len : Nat) (h : complete f len) (k : Nat) (h1 : 1 ≤ k) (h2 : k ≤ 15) : first f len k + many f k len ≤ 2 ^ k := by
  have := room f len h (k - 1) (by omega)
  rwa [show k - 1 + 1 = k by omega] at this
/-- a word is below its length's room -/
theorem word_lt (f : Nat → Int) (len : Nat) (hc : complete f len) (i k : Nat) (hi : i < len) (hk : f i = k) (h1 : 1 ≤ k) (h2 : k ≤ 15) : first f len k + many f k i + 1 ≤ first f len k + many f k len ∧ first f len k + many f k len ≤ 2 ^ k ∧ (2 : Nat) ^ k ≤ 2 ^ 15 := by
  have h := many_mono f k len (i + 1) hi
  rw [many_at f k i hk] at h
  have hr := room' f len hc k h1 h2
  exact ⟨by omega, hr, Nat.pow_le_pow_right (by decide) h2⟩
theorem zero16u (w : World) : (zeroValue 137).run Tryd.prog w = .ok (.agg (Array.replicate 16 (.int .u32 0))) w := by kernel_rfl
theorem u32info : (Tryd.prog.info? 89).map (fun i => (i.zero, i.size, i.bytes)) = some (some (.int .u32 0), 1, 4) := by kernel_rfl
theorem codes_good (x : Option Addr) (len cap : Nat) (f : Nat → Int) (w : World) (hx : Ints w x len f) (hl : len ≤ maxLen) (hb : inBounds f len) (hc : complete f len)
    (EB ES : Value) (hB : w.cell? ⟨0, 0, none⟩ = some EB) (hS : w.cell? ⟨1, 0, none⟩ = some ES) :
    Calls Tryd.prog 59 #[.slice x len cap] w fun e w' => Ext w w' ∧ ∃ B, w.heap.size ≤ B ∧ e = .returned (.tuple #[.slice (some ⟨B, 0, none⟩) len len, .nilIface]) ∧ Cs w' B len .u32 (fun i => (word f len i : Int)) := by
  have HX := Lib.hid hx
  have HB := Lib.hid hb
  have HC := Lib.hid hc
  have h300 := hb.1
  clear hb hc
  go_enter Tryd.func59, Tryd.ntmps59
  go_wp2_with fail
  refine (valid_calls x len cap f w hx hl _ _ hB hS).mono ?_
  rintro e w1 ⟨hE, h1 | h1 | h1⟩
  · obtain ⟨rfl, _⟩ := h1
    have HX1 := Lib.hid (HX.out.ext hE)
    have HE := Lib.hid hE
    clear hx hE
    go_wp2_with fail
    refine (words_calls x len cap f w1 HX1.out hl HB.out.2).mono ?_
    rintro e w2 ⟨rfl, rfl⟩
    have hst := run_storeCells_new (P := Tryd.prog) (w1.alloc (.cells (cellsI .i64 16 fun n => (many f n len : Int)) 135)) 135 (Array.replicate 16 (.int .i64 0)) (cellsI .i64 16 fun n => (many f n len : Int)) (by rw [cellsI_size]; kernel_rfl) (by rw [cellsI_size]; rfl) (by simp [cellsI, Value.oneCell'])
    rw [show (w1.alloc (.cells (cellsI .i64 16 fun n => (many f n len : Int)) 135)).heap.size = w1.heap.size + 1 by simp] at hst
    have hz := zero16
    have hzu := zero16u
    go_wp2_with fail
    clear hst hz hzu
    rw [cellsI_zero]
    have f1 := Cs.born w1 .i64 16 (fun n => (many f n len : Int)) 135
    have f2 := Cs.born (w1.alloc (.cells (cellsI .i64 16 fun n => (many f n len : Int)) 135)) .i64 16 (fun n => (many f n len : Int)) 135
    have f3 := Cs.born ((w1.alloc (.cells (cellsI .i64 16 fun n => (many f n len : Int)) 135)).alloc (.cells (cellsI .i64 16 fun n => (many f n len : Int)) 135)) .u32 16 (fun _ => 0) 137
    have g2 := f2.alloc (by simp) (.cells (cellsI .u32 16 fun _ => 0) 137)
    have hE3 : Ext w (((w1.alloc (.cells (cellsI .i64 16 fun n => (many f n len : Int)) 135)).alloc (.cells (cellsI .i64 16 fun n => (many f n len : Int)) 135)).alloc (.cells (cellsI .u32 16 fun _ => 0) 137)) := ((HE.out.alloc _).alloc _).alloc _
    have G2 : Hid (Cs (((w1.alloc (.cells (cellsI .i64 16 fun n => (many f n len : Int)) 135)).alloc (.cells (cellsI .i64 16 fun n => (many f n len : Int)) 135)).alloc (.cells (cellsI .u32 16 fun _ => 0) 137)) (w1.heap.size + 1) 16 .i64 (fun n => (many f n len : Int))) := Lib.hid (by simpa using g2)
    have G3 : Hid (Cs (((w1.alloc (.cells (cellsI .i64 16 fun n => (many f n len : Int)) 135)).alloc (.cells (cellsI .i64 16 fun n => (many f n len : Int)) 135)).alloc (.cells (cellsI .u32 16 fun _ => 0) 137)) (w1.heap.size + 1 + 1) 16 .u32 (fun _ => 0)) := Lib.hid (by simpa using f3)
    have H3 := Lib.hid hE3
    have hw1 : w.heap.size ≤ w1.heap.size := HE.out.size
    clear f1 f2 f3 g2 hE3
    generalize (((w1.alloc (.cells (cellsI .i64 16 fun n => (many f n len : Int)) 135)).alloc (.cells (cellsI .i64 16 fun n => (many f n len : Int)) 135)).alloc (.cells (cellsI .u32 16 fun _ => 0) 137)) = w3 at *
    go_loopw [7] (fun v wr => ∃ n : Nat, 1 ≤ n ∧ n ≤ 15 ∧ v = .int .i64 (n + 1) ∧ Hid (Cs wr (w1.heap.size + 1) 16 .i64 (fun n => (many f n len : Int))) ∧ Hid (Cs wr (w1.heap.size + 1 + 1) 16 .u32 (fun k => if k ≤ n then (first f len k : Int) else 0)) ∧ Hid (Below w.heap.size w wr)) (fun v _ => 16 - (intOf v).toNat)
    case atStart =>
      refine ⟨1, by omega, by omega, rfl, G2, ?_, H3⟩
      have : (fun k : Nat => if k ≤ 1 then (first f len k : Int) else 0) = fun _ => 0 := by
        funext k
        match k with
        | 0 => rfl
        | 1 => rfl
        | k + 2 => simp
      rw [this]; exact G3
    case round =>
      obtain ⟨n, hn1, hn, rfl, HM, HN, HW⟩ := hrel
      by_cases hlt : n < 15
      · obtain ⟨c1, _⟩ := HM.out n (by omega)
        have c2 : wr.cell? ⟨w1.heap.size + 1 + 1, n, none⟩ = some (.int .u32 (first f len n : Int)) := by have := (HN.out n (by omega)).1; simpa using this
        have c3 : wr.cell? ⟨w1.heap.size + 1 + 1, n + 1, none⟩ = some (.int .u32 0) := by have := (HN.out (n + 1) (by omega)).1; simpa [show ¬ n + 1 ≤ n by omega] using this
        have c4 := (HN.out (n + 1) (by omega)).2
        have hroom : first f len n + many f n len ≤ 2 ^ n := by
          have := room f len HC.out (n - 1) (by omega)
          rwa [show n - 1 + 1 = n by omega] at this
        have hp : 2 ^ n ≤ 2 ^ 14 := Nat.pow_le_pow_right (by decide) (by omega)
        have b1 : first f len n + many f n len ≤ 16384 := by omega
        clear hroom hp
        go_wp2_with fail
        go_region
        go_wp2_with fail
        have e1 : (((first f len n : Nat) : Int) + (many f n len : Int)) * 2 = (first f len (n + 1) : Int) := by rw [first_succ f len n hn1]; omega
        rw [e1]
        refine ⟨⟨n + 1, by omega, by omega, by go_num, Lib.hid ?_, Lib.hid ?_, Lib.hid ?_⟩, by simp [intOf]; omega⟩
        · exact (HM.out.other _ _ (by show w1.heap.size + 1 + 1 ≠ w1.heap.size + 1; omega)).drew
        · refine (HN.out.put (n + 1) _ _ (by omega) ?_).drew
          intro k hk
          by_cases e : k = n + 1
          · subst e; simp
          · rw [if_neg e]
            by_cases e2 : k ≤ n
            · rw [if_pos e2, if_pos (by omega)]
            · rw [if_neg e2, if_neg (by omega)]
        · exact (HW.out.setCell (by show w.heap.size ≤ w1.heap.size + 1 + 1; omega) _).drew
      · obtain rfl : n = 15 := by omega
        have hmk := run_make_row' (P := Tryd.prog) 106 89 (.int .u32 0) 4 Tryd.underlying106 u32info rfl .i64 .i64 len (by omega) (by omega)
        have hlt2 : w1.heap.size + 1 + 1 < wr.heap.size := World.block_lt_of_cell? wr _ (HN.out 0 (by omega)).1
        go_wp2_with fail
        rw [made_eq]
        clear hmk
        have H1 := Lib.hid (Cs.born wr .u32 len (fun _ => 0) 89)
        have H2 := Lib.hid (HN.out.alloc hlt2 (.cells (cellsI .u32 len fun _ => 0) 89))
        have H4 := Lib.hid (HW.out.alloc HW.out.size (.cells (cellsI .u32 len fun _ => 0) 89))
        have hwr : w.heap.size ≤ wr.heap.size := HW.out.size
        generalize (wr.alloc (.cells (cellsI .u32 len fun _ => 0) 89)) = w4 at *
        clear HM HN HW G2 G3 H3
        generalize wr.heap.size = BO at *
        clear wr
        go_loopw [9, 10, 40] (fun _ _ v wr => ∃ i : Nat, i ≤ len ∧ v = .int .i64 i ∧ Hid (Cs wr (w1.heap.size + 1 + 1) 16 .u32 (fun k => if k = 0 then 0 else ((first f len k + many f k i : Nat) : Int))) ∧ Hid (Cs wr BO len .u32 (fun j => if j < i then (word f len j : Int) else 0)) ∧ Hid (Below w.heap.size w wr)) (fun _ _ v _ => len - (intOf v).toNat)
        case atStart =>
          refine ⟨0, by omega, rfl, Lib.hid (H2.out.congr ?_), Lib.hid (H1.out.congr ?_), H4⟩
          · intro k hk
            by_cases e : k = 0
            · subst e; rfl
            · rw [if_neg e, if_pos (by omega)]; rfl
          · intro j hj; rw [if_neg (by omega)]
        case round =>
          obtain ⟨i, hi, rfl, HN, HO, HW⟩ := hrel
          by_cases hlt : i < len
          · obtain ⟨a, rfl⟩ : ∃ a, x = some a := by
              cases x with
              | none => have := HX.out.1 rfl; omega
              | some a => exact ⟨a, rfl⟩
            have hab := HX.out.block (by omega)
            obtain ⟨hc, h1, h2⟩ := (HX.out.on (S := fun k => w.heap.size ≤ k) (Keeps.of_below HW.out) (fun b hb => by injection hb with hb; subst hb; show ¬ _ ≤ _; omega)).2 a rfl i hlt
            obtain ⟨q1, q2⟩ := HB.out.2 i hlt
            obtain ⟨k, hk⟩ : ∃ k : Nat, f i = k := ⟨(f i).toNat, by omega⟩
            have HK := Lib.hid hk
            rw [hk] at hc h1 h2 q1 q2
            clear hk
            by_cases hk0 : k = 0
            · subst hk0
              go_wp2_with fail
              refine ⟨⟨i + 1, by omega, by go_num, Lib.hid (HN.out.congr ?_), Lib.hid (HO.out.congr ?_), HW⟩, by simp [intOf]; omega⟩
              · intro k hk
                by_cases e : k = 0
                · rw [if_pos e, if_pos e]
                · rw [if_neg e, if_neg e, many_not f k i (by have := HK.out; omega)]
              · intro j hj
                by_cases e : j = i
                · subst e
                  have : ¬ 0 < f j := by have := HK.out; omega
                  simp [word, this]
                · by_cases e2 : j < i
                  · rw [if_pos e2, if_pos (by omega)]
                  · rw [if_neg e2, if_neg (by omega)]
            · have c1 : wr.cell? ⟨w1.heap.size + 1 + 1, k, none⟩ = some (.int .u32 ((first f len k + many f k i : Nat) : Int)) := by have := (HN.out k (by omega)).1; simpa [hk0] using this
              have c2 := (HN.out k (by omega)).2
              have c3 := (HO.out i hlt).1
              have c4 := (HO.out i hlt).2
              obtain ⟨w1', w2', w3'⟩ := word_lt f len HC.out i k hlt HK.out (by omega) (by omega)
              have wb : first f len k + many f k i + 1 ≤ 32768 := by omega
              clear w1' w2' w3'
              go_wp2_with fail
              have e1 : ((first f len k : Nat) : Int) + (many f k i : Int) + 1 = ((first f len k + many f k (i + 1) : Nat) : Int) := by rw [many_at f k i HK.out]; omega
              have e2 : ((first f len k : Nat) : Int) + (many f k i : Int) = (word f len i : Int) := by
                have h0 : 0 < f i := by have := HK.out; omega
                have h3 : (f i).toNat = k := by have := HK.out; omega
                unfold word; rw [if_pos h0, h3]; omega
              rw [e1, e2]
              refine ⟨⟨i + 1, by omega, by go_num, Lib.hid ?_, Lib.hid ?_, Lib.hid ?_⟩, by simp [intOf]; omega⟩
              · refine (HN.out.other _ _ (by show BO ≠ _; omega)).put k _ _ (by omega) ?_
                intro m hm
                by_cases e : m = k
                · subst e; simp [hk0]
                · rw [if_neg e]
                  by_cases e2 : m = 0
                  · rw [if_pos e2, if_pos e2]
                  · rw [if_neg e2, if_neg e2, many_not f m i (by have := HK.out; omega)]
              · refine (HO.out.put i _ _ hlt ?_).other _ _ (by show w1.heap.size + 1 + 1 ≠ _; omega)
                intro j hj
                by_cases e : j = i
                · subst e; simp
                · rw [if_neg e]
                  by_cases e2 : j < i
                  · rw [if_pos e2, if_pos (by omega)]
                  · rw [if_neg e2, if_neg (by omega)]
              · exact (HW.out.setCell (by show w.heap.size ≤ BO; omega) _).setCell (by show w.heap.size ≤ w1.heap.size + 1 + 1; omega) _
          · obtain rfl : i = len := by omega
            go_wp2_with fail
            exact bodyPost_ret (v := .tuple #[.slice (some ⟨BO, 0, none⟩) i i, .nilIface]) (by simp [results, Tryd.results59, go_sem, *]) rfl ⟨HW.out, BO, hwr, rfl, HO.out.congr fun j hj => by rw [if_pos hj]⟩
  · exact absurd HB.out h1.2
  · exact absurd HC.out h1.2.2
end Go.Proofs.YtdeiolagnheihaaDoor
namespace Go.Proofs.YtdeiolagnheihaaDoor
open Go.RowKit Go.ChangeShapes Go.WideShapes
theorem i64info : (Tryd.prog.info? 3).map (fun i => (i.zero, i.size, i.bytes)) = some (some (.int .i64 0), 1, 8) := by kernel_rfl
def intsV (len : Nat) (f : Nat → Int) : List Value := (List.range len).map fun i => Value.int .i64 (f i)
theorem intsV_get (len : Nat) (f : Nat → Int) (i : Nat) (h : i < len) : (intsV len f)[i]? = some (.int .i64 (f i)) := by simp [intsV, h]
theorem Ints.of_own {w : World} {base : Nat} {v : Value} {len : Nat} {f : Nat → Int} (h : w.ownsRow base 3 1 v len (intsV len f)) (hb : ∀ i, i < len → -9223372036854775808 ≤ f i ∧ f i ≤ 9223372036854775807) :
  ∃ x cap, v = .slice x len cap ∧ Ints w x len f := by
 rcases ownsRow_slice h with ⟨rfl, h0⟩ | ⟨g, cap, rfl⟩
 ·subst h0; exact ⟨none, 0, rfl, fun _ => rfl, fun a h => by cases h⟩
 ·refine ⟨some ⟨g, 0, none⟩, cap, rfl, (fun h => by cases h), fun a ha i hi => ?_⟩;injection ha with ha; subst ha;rw [add_plain, h.cellAt i (by omega), intsV_get len f i hi];exact ⟨rfl, hb i hi⟩
def IntsV (w : World) (v : Value) (len : Nat) (f : Nat → Int) : Prop := ∃ y c, v = .slice y len c ∧ Ints w y len f
theorem first_ge (f : Nat → Int) (len n : Nat) (h1 : 1 ≤ n) : ∀ d, 2 ^ (d + 1) * (first f len n + many f n len) ≤ first f len (n + d + 1) := by
 intro d;induction d with
 | zero => rw [Nat.add_zero, first_succ f len n h1, Nat.mul_comm]; exact Nat.le_refl _
 | succ d ih =>
  rw [show n + (d + 1) + 1 = (n + d + 1) + 1 by omega, first_succ f len (n + d + 1) (by omega), Nat.pow_succ, Nat.mul_comm (2 ^ (d + 1)) 2, Nat.mul_assoc, Nat.mul_comm 2];exact Nat.mul_le_mul_right _ (by omega)
/-- no word begins another one -/
theorem apart (f : Nat → Int) (len : Nat) (i k : Nat) (hi : i < len) (hik : i ≠ k) (h0 : 0 < f i) (hle : f i ≤ f k) : word f len k / 2 ^ (f k - f i).toNat ≠ word f len i := by
 obtain ⟨n, hn⟩ : ∃ n : Nat, f i = n := ⟨(f i).toNat, by omega⟩;obtain ⟨m, hm⟩ : ∃ m : Nat, f k = m := ⟨(f k).toNat, by omega⟩;have hwi : word f len i = first f len n + many f n i := by unfold word; rw [if_pos h0, hn]; rfl
 have hwk : word f len k = first f len m + many f m k := by unfold word; rw [if_pos (by omega), hm]; rfl
 rw [hwi, hwk, show (f k - f i).toNat = m - n by omega];rcases Nat.lt_or_ge n m with h | h
 ·obtain ⟨d, rfl⟩ : ∃ d, m = n + d + 1 := ⟨m - n - 1, by omega⟩;have h1 := first_ge f len n (by omega) d;have h2 := many_mono f n len (i + 1) hi;rw [many_at f n i hn] at h2;rw [show n + d + 1 - n = d + 1 by omega];have h3 : first f len n + many f n len ≤ (first f len (n + d + 1) + many f (n + d + 1) k) / 2 ^ (d + 1) := by
   rw [Nat.le_div_iff_mul_le (Nat.two_pow_pos _), Nat.mul_comm]; omega
  omega
 ·obtain rfl : m = n := by omega
  rw [Nat.sub_self, Nat.pow_zero, Nat.div_one];rcases Nat.lt_or_ge i k with q | q
  ·have h2 := many_mono f m k (i + 1) q;rw [many_at f m i hn] at h2; omega
  ·have h2 := many_mono f m i (k + 1) (by omega);rw [many_at f m k hm] at h2; omega
end Go.Proofs.YtdeiolagnheihaaDoor
namespace Go.Proofs.YtdeiolagnheihaaDoor
open Go.RowKit
def Bk (w : World) (b : Nat) (cs : Array Value) : Prop := ∃ t, w.heap[b]? = some (.cells cs t (0, 0))
theorem Bk.lt {w : World} {b : Nat} {cs : Array Value} (h : Bk w b cs) : b < w.heap.size := by obtain ⟨t, h⟩ := h; exact lt_of_block h
theorem Bk.at {w : World} {k : Nat} {cs : Array Value} {t : TypeId} (h : w.heap.size = k) : Bk (w.alloc (.cells cs t)) k cs := ⟨t, by rw [← h]; exact heap_alloc_new w _⟩
theorem Bk.old {w : World} {b : Nat} {cs : Array Value} {o : Obj} (h : Bk w b cs) : Bk (w.alloc o) b cs := by
  have hl := h.lt;obtain ⟨t, h⟩ := h;exact ⟨t, (Below.heap_alloc w o b hl).trans h⟩
theorem Bk.keeps {S : Nat → Prop} {w w' : World} {b : Nat} {cs : Array Value} (h : Bk w b cs) (hk : Keeps S w w') (hS : ¬ S b) : Bk w' b cs := by
  have hl := h.lt;obtain ⟨t, h⟩ := h;exact ⟨t, (hk.block b hl hS).trans h⟩
theorem Bk.ext {w w' : World} {b : Nat} {cs : Array Value} (h : Bk w b cs) (hE : Ext w w') : Bk w' b cs := h.keeps (S := fun _ => False) hE.keeps id
theorem Bk.cell {w : World} {b : Nat} {cs : Array Value} (h : Bk w b cs) (i : Nat) : w.cell? ⟨b, i, none⟩ = cs[i]? := by
  obtain ⟨t, h⟩ := h;exact cell_of_row w b i cs t (0, 0) h
theorem Bk.frozen {w : World} {b : Nat} {cs : Array Value} (h : Bk w b cs) (i : Nat) : w.frozen? ⟨b, i, none⟩ = false := by
  obtain ⟨t, h⟩ := h;simp [World.frozen?, h]
theorem Bk.set_ {w : World} {b : Nat} {cs : Array Value} (h : Bk w b cs) (i : Nat) (u : Value) : Bk (w.setCell ⟨b, i, none⟩ u) b (cs.setIfInBounds i u) := by
  obtain ⟨t, h⟩ := h;exact ⟨t, by simp [World.setCell, Array.getElem?_modify, h]⟩
theorem Bk.far {w : World} {b : Nat} {cs : Array Value} (h : Bk w b cs) {p : Addr} (hp : b ≠ p.block) (u : Value) : Bk (w.setCell p u) b cs := by
  obtain ⟨t, h⟩ := h;exact ⟨t, (Below.heap_setCell w p u b hp).trans h⟩
theorem Bk.drewN {w : World} {b : Nat} {cs : Array Value} (h : Bk w b cs) (n : Nat) : Bk (w.drewN n) b cs := h
theorem Bk.drew {w : World} {b : Nat} {cs : Array Value} (h : Bk w b cs) : Bk w.drew b cs := h
end Go.Proofs.YtdeiolagnheihaaDoor
namespace Crc
def T (c : Nat) : Nat := (c / 2) ^^^ (if c % 2 = 1 then 3988292384 else 0)
def Tn : Nat → Nat → Nat
  | 0, c => c
  | n + 1, c => Tn n (T c)
/-- one byte -/
def byte (c b : Nat) : Nat := Tn 8 (c ^^^ b)
def run (c : Nat) (l : List UInt8) : Nat := l.foldl (fun c b => byte c b.toNat) c
def flip (c : Nat) : Nat := c ^^^ 4294967295
def more (c : Nat) (l : List UInt8) : Nat := flip (run (flip c) l)
end Crc
namespace Crc
end Crc
namespace Go.Proofs.YtdeiolagnheihaaDoor
open Go.RowKit
def bytesV (l : List UInt8) : List Value := l.map fun b => Value.int .u8 (b.toNat : Int)
end Go.Proofs.YtdeiolagnheihaaDoor
namespace Go.Proofs.YtdeiolagnheihaaDoor
open Go.RowKit
@[irreducible] def tb (l : List UInt8) : ByteArray := ⟨l.toArray⟩
theorem lit_row {w : World} {base : Nat} {e : TypeId} {size : Nat} {v : Value} {n : Nat} {xs : List Value} (h : w.ownsRow base e size v n xs) : ∃ x c, v = .slice x n c := by
  rcases ownsRow_slice h with ⟨h1, h2⟩ | ⟨g, cap, h1⟩
  · exact ⟨none, 0, by rw [h1, h2]⟩
  · exact ⟨_, cap, h1⟩
end Go.Proofs.YtdeiolagnheihaaDoor
namespace Go.Proofs.YtdeiolagnheihaaDoor
open Go.RowKit
def Unfr (cur : Array Value) (fr : Nat × Nat) : Prop := ∀ j, j < cur.size → (decide (fr.1 ≤ j) && decide (j < fr.2)) = false
/-- a row of bytes in a block of its own, whose mark marks none of its cells -/
def MRow (w : World) (base : Nat) (v : Value) (l : List UInt8) : Prop :=
  ∃ g cap cur fr, v = .slice (some ⟨g, 0, none⟩) l.length cap ∧ base ≤ g ∧ w.heap[g]? = some (.cells cur 5 fr) ∧ Unfr cur fr ∧ l.length ≤ cap ∧ cap ≤ maxLen ∧ cur.size = cap ∧ cur.toList.take l.length = bytesV l
theorem MRow.keeps {S : Nat → Prop} {w w' : World} {base : Nat} {v : Value} {l : List UInt8} (h : MRow w base v l) (hk : Keeps S w w') (hn : ∀ k, v.ownBlock = some k → ¬ S k) : MRow w' base v l := by
  obtain ⟨g, cap, cur, fr, rfl, h1, h2, r⟩ := h;exact ⟨g, cap, cur, fr, rfl, h1, by rw [hk.block g (lt_of_block h2) (hn g rfl)]; exact h2, r⟩
theorem MRow.ext {w w' : World} {base : Nat} {v : Value} {l : List UInt8} (h : MRow w base v l) (hE : Ext w w') : MRow w' base v l := h.keeps (S := fun _ => False) hE.keeps (fun _ _ => id)
theorem MRow.cell {w : World} {base j : Nat} {v : Value} {l : List UInt8} (h : MRow w base v l) (hj : j < l.length) : ∃ g cap, v = .slice (some ⟨g, 0, none⟩) l.length cap ∧ w.cell? ⟨g, j, none⟩ = (bytesV l)[j]? := by
  obtain ⟨g, cap, cur, fr, rfl, h1, h2, _, h4, h5, h6, h7⟩ := h;refine ⟨g, cap, rfl, ?_⟩;rw [cell_of_row w g j cur _ fr h2, ← h7, List.getElem?_take_of_lt hj];simp
end Go.Proofs.YtdeiolagnheihaaDoor
namespace Go.Proofs.YtdeiolagnheihaaDoor
open Go.RowKit
end Go.Proofs.YtdeiolagnheihaaDoor
namespace Go.Proofs.YtdeiolagnheihaaDoor
open Go.RowKit
theorem ext_cell {w w' : World} (h : Ext w w') {p : Addr} {u : Value} (hc : w.cell? p = some u) : w'.cell? p = some u :=
  (Below.cell h (World.block_lt_of_cell? w _ hc)).trans hc
end Go.Proofs.YtdeiolagnheihaaDoor
namespace Go.Proofs.YtdeiolagnheihaaDoor
open Go.RowKit
theorem run_append_zeros {P : Program} (w : World) (t u ty e : TypeId) (i : TypeInfo) (z : Value) (k : IntKind) (ht : P.underlying t = some (.slice e)) (hu : P.underlying u = some (.int k)) (hi : P.info? e = some i) (hz : i.zero = some z)
  (n : Nat) (h0 : 0 < n) (h63 : n ≤ 1000000) (hby : i.bytes ≤ 64) (hsz : 0 < i.size) :
  (Builtin.append_ #[t, u] ty #[.slice none 0 0, .int .i64 (n : Int)]).run P w =
   .ok (.slice (some ⟨w.heap.size, 0, none⟩) n (grownCap w n 0 e)) (w.drew.alloc (.cells (Builtin.zeroCells z.cells n ++ Builtin.zeroCells z.cells (grownCap w n 0 e - n)) e)) := by
 have hn : n ≠ 0 := by omega
 have hw : IntKind.i64.wrap (n : Int) = (n : Int) := by rw [IntKind.wrap_i64]; omega
 have h0' : ¬ ((n : Int) < 0) := by omega
 have h63' : ¬ (9223372036854775807 < (n : Int)) := by omega
 have hmul : n * i.bytes ≤ 64000000 := by
  have := Nat.mul_le_mul h63 hby
  omega
 have hb : ¬ (281474976710656 < (n : Int) * (i.bytes : Int)) := by
  have : (n : Int) * (i.bytes : Int) = ((n * i.bytes : Nat) : Int) := by simp
  omega
 have h48' : ¬ (281474976710656 < Builtin.nextslicecap n 0 * i.bytes) := by rw [nextslicecap_zero h0]; omega
 simp [Builtin.append_, run_underlying ht, run_underlying hu, sizeOf, typeInfo, zeroValue, hi, hz, asInt, asIntOf, hw, h0', hb, hn, h63', h48', Question.forced, run_firstCells_none, newRow, grownCap];intro h; exact absurd h (by have := Nat.mul_pos h0 hsz; omega)
theorem wpList_app_zeros {P : Program} {w : World} {ops : Array Oper} {rest : List Oper} {o : Oper} {a : Act} {Q : Exit → Act → World → Prop} (hgd : o.guard = none) (sl x : Operand) (t u : TypeId)
  (ho : o.op = .call { callee := .builtin .append, args := #[sl, x], argTypes := #[t, u] }) (e : TypeId) (i : TypeInfo) (z : Value) (k : IntKind) (ht : P.underlying t = some (.slice e)) (hu : P.underlying u = some (.int k)) (hi : P.info? e = some i) (hz : i.zero = some z)
  (hzs : z.cells.size = i.size) (n : Nat) (hs : a.eval sl = .slice none 0 0) (hx : a.eval x = .int .i64 (n : Int)) (h0 : 0 < n) (h63 : n ≤ 1000000) (hby : i.bytes ≤ 64) (hsz : 0 < i.size)
  (h : ∀ C cs, n ≤ C → C ≤ maxLen → cs.size = C * i.size → wpList P ops Q rest (a.put o.dst (.slice (some ⟨w.heap.size, 0, none⟩) n C)) (w.drew.alloc (.cells cs e))) : wpList P ops Q (o :: rest) a w := by
 refine wpList_plain hgd fun K hK => ?_;have hr := run_append_zeros (P := P) w t u o.type e i z k ht hu hi hz n h0 h63 hby hsz;have hge := grownCap_ge w n 0 e;unfold Oper.wp execOp;simp only [ho, resolve, invoke, builtin, Sem.run_bind, Sem.run_pure, Result.andThen_ok, List.map_toArray, List.map_cons, List.map_nil, hs, hx, hr];refine hK _ _ (h _ _ hge (grownCap_le_maxLen w n 0 e (by unfold maxLen; omega)) ?_);rw [Array.size_append, size_zeroCells, size_zeroCells, ← Nat.add_mul, hzs];congr 1; omega
/-- rows, one behind the other -/
def concL (ls : Nat → List Int) : Nat → List Int
 | 0 => []
 | m + 1 => concL ls m ++ ls m
theorem concL_mono (ls : Nat → List Int) (m : Nat) : ∀ d, (concL ls m).length ≤ (concL ls (m + d)).length
 | 0 => Nat.le_refl _
 | d + 1 => by
  have := concL_mono ls m d;show _ ≤ (concL ls (m + d) ++ ls (m + d)).length;rw [List.length_append]; omega
def i64V (l : List Int) : List Value := l.map (fun x => Value.int .i64 x)
/-- a row of whole numbers, not empty -/
def Ir (w : World) (v : Value) (l : List Int) : Prop := 0 < l.length ∧ ∃ g c, v = .slice (some ⟨g, 0, none⟩) l.length c ∧ ∀ j, j < l.length → w.cell? ⟨g, j, none⟩ = (i64V l)[j]?
theorem Ir.ext {w w' : World} {v : Value} {l : List Int} (h : Ir w v l) (hE : Ext w w') : Ir w' v l := by
 obtain ⟨h0, g, c, rfl, h1⟩ := h;refine ⟨h0, g, c, rfl, fun j hj => ?_⟩;have hl : g < w.heap.size := by
  have := h1 0 h0;rw [List.getElem?_eq_getElem (by simpa [i64V] using h0)] at this;exact World.block_lt_of_cell? w _ this
 exact (Below.cell hE (p := ⟨g, j, none⟩) hl).trans (h1 j hj)
theorem grow_nil (n : Nat) (w : World) (h0 : 0 < n) (hn : n ≤ 100000) :
  Calls Tryd.prog 78 #[.slice none 0 0, .int .i64 (n : Int)] w fun e w' => (∃ c, e = .returned (.slice (some ⟨w.heap.size, 0, none⟩) 0 c) ∧ w'.ownsRow w.heap.size 3 1 (.slice (some ⟨w.heap.size, 0, none⟩) 0 c) 0 []) ∧ Ext w w' := by
 obtain ⟨i0, hi0, hz0, hz1, hz2⟩ := info_parts i64info;have n1 : ¬ (n : Int) < 0 := by omega
 have n2 : decide ((0 : Int) < (n : Int)) = true := decide_eq_true (by omega);have wn : ∀ z, z = (n : Int) → IntKind.i64.wrap z = z := by rintro _ rfl; rw [IntKind.wrap_i64]; omega
 go_enter Tryd.func78, Tryd.ntmps78
 go_wp2_with (at_builtin; refine wpList_app_zeros rfl _ _ 59 3 rfl 3 i0 (.int .i64 0) .i64 Tryd.underlying59 Tryd.underlying3 hi0 hz0 (by rw [hz1]; rfl) n rfl rfl h0 (by omega) (by omega) (by omega) ?_);intro C cs hC1 hC2 hcs;have hne : ¬ C = 0 := by omega
 go_wp2_with fail;go_ret;refine ⟨⟨C, rfl, by simp, .inr ⟨w.heap.size, C, cs, rfl, Nat.le_refl _, heap_alloc_new w.drew _, Nat.zero_le _, hC2, by omega, by simp⟩⟩, (show Ext w w.drew from Below.drew (Ext.refl _)).alloc _⟩
set_option maxHeartbeats 2000000 in
theorem concat_any (S m c : Nat) (vs : Nat → Value) (ls : Nat → List Int) (w : World) (hm : 1 ≤ m) (hmm : m ≤ 1000) (hS : ∀ i, i < m → w.cell? ⟨S, i, none⟩ = some (vs i)) (hr : ∀ i, i < m → Ir w (vs i) (ls i)) (htot : (concL ls m).length ≤ 100000) :
  Calls Tryd.prog 65 #[.slice (some ⟨S, 0, none⟩) m c] w fun e w' => (∃ v, e = .returned v ∧ w'.ownsRow w.heap.size 3 1 v (concL ls m).length (i64V (concL ls m))) ∧ Ext w w' := by
 obtain ⟨i0, hi0, hz0, hz1, hz2⟩ := info_parts i64info;have HS := Lib.hid hS;have HR := Lib.hid hr;have hpos : 0 < (concL ls m).length := by
  have h1 := concL_mono ls 1 (m - 1);rw [show 1 + (m - 1) = m by omega] at h1;have h2 := (hr 0 (by omega)).1;have h3 : (concL ls 1).length = (ls 0).length := by simp [concL]
  omega
 have hle : ∀ i, i ≤ m → (concL ls i).length ≤ 100000 := fun i hi => by
  have := concL_mono ls i (m - i);rw [show i + (m - i) = m by omega] at this;omega
 have HL := Lib.hid hle;clear hS hr hle;go_enter Tryd.func65, Tryd.ntmps65
 go_wp2_with fail;go_loopw [3, 11] (fun z x wr => ∃ i : Nat, i ≤ m ∧ x = .int .i64 i ∧ z = .int .i64 ((concL ls i).length : Int) ∧ wr = w) (fun _ x _ => m - (intOf x).toNat)
 case atStart => exact ⟨0, by omega, rfl, by first | rfl | trivial, by first | rfl | trivial⟩
 case round =>
  obtain ⟨i, hi, rfl, rfl, hw⟩ := hrel;have hw2 := hw.symm;clear hw;subst hw2;by_cases hlt : i < m
  ·obtain ⟨h0, g, cc, hv, hc⟩ := HR.out i hlt;have hs := HS.out i hlt;rw [hv] at hs;have hb := HL.out (i + 1) (by omega);have e : (concL ls (i + 1)).length = (concL ls i).length + (ls i).length := by simp [concL]
   have wi : ∀ z, z = (i : Int) + 1 → IntKind.i64.wrap z = z := by rintro _ rfl; rw [IntKind.wrap_i64]; omega
   obtain ⟨P, hP⟩ : ∃ P, (concL ls i).length = P := ⟨_, rfl⟩;obtain ⟨Q, hQ⟩ : ∃ Q, (concL ls (i + 1)).length = Q := ⟨_, rfl⟩;have HQ := Lib.hid hQ;rw [hP] at e ⊢;rw [hQ] at e hb;have hPQ : (P : Int) + ((ls i).length : Int) = (Q : Int) := by omega
   have wq : ∀ z, z = (Q : Int) → IntKind.i64.wrap z = z := by rintro _ rfl; rw [IntKind.wrap_i64]; omega
   have hq0 : ¬ (Q : Int) < 0 := by omega
   clear hP hQ hv hc e;go_wp2_with fail;go_roundw
   case rel => exact ⟨i + 1, by omega, by go_num, by rw [HQ.out], by first | rfl | trivial⟩
   case measure => simp [intOf]; omega
  ·obtain rfl : i = m := by omega
   obtain ⟨T, hT⟩ : ∃ T, (concL ls i).length = T := ⟨_, rfl⟩;have HT := Lib.hid hT;rw [hT] at hpos htot ⊢;clear hT;go_wp2_with fail;refine (grow_nil T w hpos htot).mono ?_;rintro e w1 ⟨⟨C, rfl, ho⟩, hX⟩;have HX := Lib.hid hX;have HO : Hid (w1.ownsRow w.heap.size 3 1 (.slice (some ⟨w.heap.size, 0, none⟩) 0 C) (concL ls 0).length (i64V (concL ls 0))) := Lib.hid ho;clear ho hX;go_wp2_with fail;go_loopw [6, 27] (fun z x wz => ∃ k : Nat, k ≤ i ∧ x = .int .i64 k ∧ Hid (wz.ownsRow w.heap.size 3 1 z (concL ls k).length (i64V (concL ls k))) ∧ Hid (Ext w wz)) (fun _ x _ => i - (intOf x).toNat)
   case atStart => exact ⟨0, by omega, rfl, HO, HX⟩
   case round =>
    clear HO HX;obtain ⟨k, hk, rfl, HO, HX⟩ := hrel;by_cases hlt : k < i
    ·obtain ⟨h0, g, cc, hv, hc⟩ := HR.out k hlt;have hs := ext_cell HX.out (HS.out k hlt);rw [hv] at hs;have hb := HL.out (k + 1) (by omega);have e : (concL ls (k + 1)).length = (concL ls k).length + (ls k).length := by simp [concL]
     have wi : ∀ z, z = (k : Int) + 1 → IntKind.i64.wrap z = z := by rintro _ rfl; rw [IntKind.wrap_i64]; omega
     obtain ⟨P, hP⟩ : ∃ P, (concL ls k).length = P := ⟨_, rfl⟩;obtain ⟨Q, hQ⟩ : ∃ Q, (concL ls (k + 1)).length = Q := ⟨_, rfl⟩;have HQ := Lib.hid hQ;obtain ⟨N, hN⟩ : ∃ N, (ls k).length = N := ⟨_, rfl⟩;have ho := HO.out;rw [hP] at e ho;rw [hQ] at e hb;rw [hN] at e hs hc h0;obtain ⟨xo, co, rfl⟩ := lit_row ho;have HO2 := Lib.hid ho;have HC := Lib.hid hc;have HN := Lib.hid hN;have hzz := HX.out.size;have HEq := Lib.hid e;clear hP hQ hv hc ho hN HO e;go_wp2_with (at_builtin; refine wpList_append_own_at _ rfl _ _ 59 rfl w.heap.size 3 i0 (.int .i64 0) 1 8 Tryd.underlying59 hi0 hz0 hz1 hz2 rfl (by decide) _ _ _ rfl HO2.out ⟨g, 0, none⟩ N cc (i64V (ls k)) rfl ?c1 ?c2 ?c6 ?c3 ?c4 hzz ?_)
     case c1 => simp [i64V, HN.out]
     case c2 =>
      intro j u hj;have hj1 := (List.getElem?_eq_some_iff.1 hj).1;simp only [i64V, List.length_map, HN.out] at hj1;rw [add_plain, ext_cell HX.out ((HC.out j hj1).trans hj)]
     case c6 => intro u hu; obtain ⟨x, _, rfl⟩ := List.mem_map.1 hu; rfl
     case c3 => have := HEq.out; unfold maxLen; omega
     case c4 => have := HEq.out; omega
     intro v' w2 hown hgrow _ _;have HO3 : Hid (w2.ownsRow w.heap.size 3 1 v' (concL ls (k + 1)).length (i64V (concL ls (k + 1)))) := Lib.hid (by
      rw [HQ.out, HEq.out, show i64V (concL ls (k + 1)) = i64V (concL ls k) ++ i64V (ls k) by simp [i64V, concL]]; exact hown)
     have HX3 := Lib.hid (Below.trans HX.out ((Keeps.grown hgrow).below hzz (fun q hq e => by have := (HO2.out.lt q e).1; omega)));clear hown hgrow;go_wp2_with fail;go_roundw
     case rel => exact ⟨k + 1, by omega, by go_num, HO3, HX3⟩
     case measure => simp [intOf]; omega
    ·obtain rfl : k = i := by omega
     go_wp2_with fail;go_ret;have h1 := HO.out;rw [HT.out] at h1;first | exact ⟨⟨_, rfl, HO.out⟩, HX.out⟩ | exact ⟨⟨_, rfl, by rw [HT.out]; exact h1⟩, HX.out⟩
end Go.Proofs.YtdeiolagnheihaaDoor
namespace Go.Proofs.YtdeiolagnheihaaDoor
open Go.RowKit
/-- a pack: its cost, its slice, its symbols -/
structure Pk where
 c : Nat
 a : Option Addr
 n : Nat
 k : Nat
 s : List Nat
def Pk.key (p : Pk) : Int := (p.c : Int)
def pkL : List Pk → List Value
 | [] => []
 | p :: l => .int .i64 (p.c : Int) :: .slice p.a p.n p.k :: pkL l
theorem pkL_length : ∀ l : List Pk, (pkL l).length = l.length * 2
 | [] => rfl
 | p :: l => by simp only [pkL, List.length_cons, pkL_length l]; omega
theorem pkL_append : ∀ l m : List Pk, pkL (l ++ m) = pkL l ++ pkL m
 | [], m => rfl
 | p :: l, m => by simp only [List.cons_append, pkL, pkL_append l m]
theorem pkL_at : ∀ (l : List Pk) (i : Nat) (h : i < l.length) (r : List Value), (pkL l ++ r)[i * 2]? = some (.int .i64 (l[i].c : Int)) ∧ (pkL l ++ r)[i * 2 + 1]? = some (.slice l[i].a l[i].n l[i].k)
 | p :: l, 0, _, r => ⟨rfl, rfl⟩
 | p :: l, i + 1, h, r => by
  have ih := pkL_at l i (by simpa using h) r;rw [show (i + 1) * 2 = i * 2 + 1 + 1 by omega];exact ih
theorem pkL_set : ∀ (l : List Pk) (i : Nat) (p : Pk) (r : List Value), i < l.length → ((pkL l ++ r).set (i * 2) (.int .i64 (p.c : Int))).set (i * 2 + 1) (.slice p.a p.n p.k) = pkL (l.set i p) ++ r
 | q :: l, 0, p, r, _ => rfl
 | q :: l, i + 1, p, r, h => by
  have ih := pkL_set l i p r (by simpa using h);rw [show (i + 1) * 2 = i * 2 + 1 + 1 by omega];simp only [pkL, List.cons_append, List.set_cons_succ];rw [ih]
/-- a row of packs at the head of a block -/
def PR (w : World) (B : Nat) (l : List Pk) : Prop := ∃ r, w.heap[B]? = some (.cells (pkL l ++ r).toArray 112 (0, 0))
theorem PR.bk {w : World} {B : Nat} {l : List Pk} (h : PR w B l) : ∃ r, Bk w B (pkL l ++ r).toArray := by obtain ⟨r, h⟩ := h; exact ⟨r, _, h⟩
theorem PR.at {w : World} {B : Nat} {l : List Pk} (h : PR w B l) {i : Nat} (hi : i < l.length) : w.cell? ⟨B, i * 2, none⟩ = some (.int .i64 (l[i].c : Int)) ∧ w.cell? ⟨B, i * 2 + 1, none⟩ = some (.slice l[i].a l[i].n l[i].k) := by
 obtain ⟨r, h⟩ := h.bk;rw [h.cell, h.cell, List.getElem?_toArray, List.getElem?_toArray];exact pkL_at l i hi r
theorem PR.frozen {w : World} {B : Nat} {l : List Pk} (h : PR w B l) (i : Nat) : w.frozen? ⟨B, i, none⟩ = false := by obtain ⟨r, h⟩ := h.bk; exact h.frozen i
theorem PR.lt {w : World} {B : Nat} {l : List Pk} (h : PR w B l) : B < w.heap.size := by obtain ⟨r, h⟩ := h.bk; exact h.lt
theorem PR.keeps {S : Nat → Prop} {w w' : World} {B : Nat} {l : List Pk} (h : PR w B l) (hk : Keeps S w w') (hS : ¬ S B) : PR w' B l := by
 have hl := h.lt;obtain ⟨r, h⟩ := h;exact ⟨r, (hk.block B hl hS).trans h⟩
theorem PR.ext {w w' : World} {B : Nat} {l : List Pk} (h : PR w B l) (hE : Ext w w') : PR w' B l := h.keeps (S := fun _ => False) hE.keeps id
theorem PR.set_ {w : World} {B : Nat} {l : List Pk} (h : PR w B l) {i : Nat} (hi : i < l.length) (p : Pk) : PR ((w.setCell ⟨B, i * 2, none⟩ (.int .i64 (p.c : Int))).setCell ⟨B, i * 2 + 1, none⟩ (.slice p.a p.n p.k)) B (l.set i p) := by
 obtain ⟨r, h⟩ := h;refine ⟨r, ?_⟩;have h2 : ((w.setCell ⟨B, i * 2, none⟩ (.int .i64 (p.c : Int))).setCell ⟨B, i * 2 + 1, none⟩ (.slice p.a p.n p.k)).heap[B]? = some (.cells ((((pkL l ++ r).toArray).setIfInBounds (i * 2) (.int .i64 (p.c : Int))).setIfInBounds (i * 2 + 1) (.slice p.a p.n p.k)) 112 (0, 0)) := by
  simp [World.setCell, Array.getElem?_modify, h]
 rw [List.setIfInBounds_toArray, List.setIfInBounds_toArray, pkL_set l i p r hi] at h2;exact h2
theorem PR.drew {w : World} {B : Nat} {l : List Pk} (h : PR w B l) : PR w.drew B l := h
/-- two change their places -/
def swp (l : List Pk) (i j : Nat) : List Pk := if h : i < l.length ∧ j < l.length then (l.set i l[j]).set j l[i] else l
theorem swp_of {l : List Pk} {i j : Nat} (hi : i < l.length) (hj : j < l.length) : swp l i j = (l.set i l[j]).set j l[i] := dif_pos ⟨hi, hj⟩
theorem swp_length (l : List Pk) (i j : Nat) : (swp l i j).length = l.length := by unfold swp; split <;> simp
theorem PR.swap {w : World} {B : Nat} {l : List Pk} (h : PR w B l) {i j : Nat} (hi : i < l.length) (hj : j < l.length) :
  PR ((((w.setCell ⟨B, i * 2, none⟩ (.int .i64 (l[j].c : Int))).setCell ⟨B, i * 2 + 1, none⟩ (.slice l[j].a l[j].n l[j].k)).setCell ⟨B, j * 2, none⟩ (.int .i64 (l[i].c : Int))).setCell ⟨B, j * 2 + 1, none⟩ (.slice l[i].a l[i].n l[i].k)) B (swp l i j) := by
 rw [swp_of hi hj];exact (h.set_ hi l[j]).set_ (i := j) (by simpa using hj) l[i]
theorem PR.two {w : World} {B : Nat} {l : List Pk} (h : PR w B l) {i j : Nat} (hi : i < l.length) (hj : j < l.length) : ∃ x y : Pk, l[i]? = some x ∧ l[j]? = some y ∧
  w.cell? ⟨B, i * 2, none⟩ = some (.int .i64 (x.c : Int)) ∧ w.cell? ⟨B, i * 2 + 1, none⟩ = some (.slice x.a x.n x.k) ∧ w.cell? ⟨B, j * 2, none⟩ = some (.int .i64 (y.c : Int)) ∧ w.cell? ⟨B, j * 2 + 1, none⟩ = some (.slice y.a y.n y.k) ∧
  PR ((((w.setCell ⟨B, i * 2, none⟩ (.int .i64 (y.c : Int))).setCell ⟨B, i * 2 + 1, none⟩ (.slice y.a y.n y.k)).setCell ⟨B, j * 2, none⟩ (.int .i64 (x.c : Int))).setCell ⟨B, j * 2 + 1, none⟩ (.slice x.a x.n x.k)) B (swp l i j) :=
 ⟨l[i], l[j], List.getElem?_eq_getElem hi, List.getElem?_eq_getElem hj, (h.at hi).1, (h.at hi).2, (h.at hj).1, (h.at hj).2, h.swap hi hj⟩
/-- what a call that turns one row leaves alone -/
def One (B : Nat) (w w' : World) : Prop := Keeps (fun k => k = B) w w'
theorem One.refl (B : Nat) (w : World) : One B w w := Keeps.refl _ _
theorem One.trans {B : Nat} {a b c : World} (h : One B a b) (k : One B b c) : One B a c := Keeps.trans h k (fun _ _ => id)
theorem One.of_ext {B : Nat} {a b : World} (h : Ext a b) : One B a b := h.keeps
theorem One.drew {B : Nat} {a b : World} (h : One B a b) : One B a b.drew := Keeps.drew h
theorem One.four {B : Nat} {a b : World} (h : One B a b) (i j k l : Nat) (x y z t : Value) : One B a ((((b.setCell ⟨B, i, none⟩ x).setCell ⟨B, j, none⟩ y).setCell ⟨B, k, none⟩ z).setCell ⟨B, l, none⟩ t) :=
 Keeps.setCell (Keeps.setCell (Keeps.setCell (Keeps.setCell h (.inl rfl) _) (.inl rfl) _) (.inl rfl) _) (.inl rfl) _
theorem swp_parts (P X Q : List Pk) (x y : Pk) : swp (P ++ x :: (X ++ y :: Q)) P.length (P.length + 1 + X.length) = P ++ y :: (X ++ x :: Q) := by
 rw [swp_of (by simp) (by simp; omega)];have e1 : (P ++ x :: (X ++ y :: Q))[P.length]'(by simp) = x := by simp
 have e2 : (P ++ x :: (X ++ y :: Q))[P.length + 1 + X.length]'(by simp; omega) = y := by
  rw [List.getElem_append_right (by omega)];simp [show P.length + 1 + X.length - P.length = X.length + 1 by omega]
 rw [e1, e2];rw [List.set_append_right _ _ (Nat.le_refl _), Nat.sub_self, List.set_cons_zero, List.set_append_right _ _ (by omega), show P.length + 1 + X.length - P.length = X.length + 1 by omega, List.set_cons_succ, List.set_append_right _ _ (Nat.le_refl _), Nat.sub_self, List.set_cons_zero]
theorem swp_comm (l : List Pk) (i j : Nat) : swp l i j = swp l j i := by
 by_cases h : i < l.length ∧ j < l.length
 ·rw [swp_of h.1 h.2, swp_of h.2 h.1];by_cases e : i = j
  ·subst e; rfl
  ·rw [List.set_comm _ _ e]
 ·unfold swp;rw [dif_neg h, dif_neg (fun q => h ⟨q.2, q.1⟩)]
theorem swp_adj (P Q : List Pk) (x y : Pk) : swp (P ++ x :: y :: Q) P.length (P.length + 1) = P ++ y :: x :: Q := by
 have := swp_parts P [] Q x y;simpa using this
/-- two neighbours, the left one stored first -/
theorem PR.adjU {w : World} {B : Nat} {P Q : List Pk} {x y : Pk} (h : PR w B (P ++ x :: y :: Q)) {J : Nat} (hJ : P.length = J) :
  w.cell? ⟨B, J * 2, none⟩ = some (.int .i64 (x.c : Int)) ∧ w.cell? ⟨B, J * 2 + 1, none⟩ = some (.slice x.a x.n x.k) ∧ w.cell? ⟨B, (J + 1) * 2, none⟩ = some (.int .i64 (y.c : Int)) ∧ w.cell? ⟨B, (J + 1) * 2 + 1, none⟩ = some (.slice y.a y.n y.k) ∧
  PR ((((w.setCell ⟨B, J * 2, none⟩ (.int .i64 (y.c : Int))).setCell ⟨B, J * 2 + 1, none⟩ (.slice y.a y.n y.k)).setCell ⟨B, (J + 1) * 2, none⟩ (.int .i64 (x.c : Int))).setCell ⟨B, (J + 1) * 2 + 1, none⟩ (.slice x.a x.n x.k)) B (P ++ y :: x :: Q) := by
 obtain ⟨x', y', hx, hy, k2, k3, k4, k5, hw⟩ := h.two (i := J) (j := J + 1) (by simp; omega) (by simp; omega);rw [← hJ, List.getElem?_append_right (Nat.le_refl _), Nat.sub_self, List.getElem?_cons_zero] at hx;rw [← hJ, List.getElem?_append_right (by omega), show P.length + 1 - P.length = 1 by omega, List.getElem?_cons_succ, List.getElem?_cons_zero] at hy;injection hx with hx;injection hy with hy;subst hx hy;rw [← hJ, swp_adj, hJ] at hw;exact ⟨k2, k3, k4, k5, hw⟩
/-- two neighbours, the right one stored first -/
theorem PR.adjD {w : World} {B : Nat} {P Q : List Pk} {x y : Pk} (h : PR w B (P ++ x :: y :: Q)) {J : Nat} (hJ : P.length = J) :
  w.cell? ⟨B, J * 2, none⟩ = some (.int .i64 (x.c : Int)) ∧ w.cell? ⟨B, J * 2 + 1, none⟩ = some (.slice x.a x.n x.k) ∧ w.cell? ⟨B, (J + 1) * 2, none⟩ = some (.int .i64 (y.c : Int)) ∧ w.cell? ⟨B, (J + 1) * 2 + 1, none⟩ = some (.slice y.a y.n y.k) ∧
  PR ((((w.setCell ⟨B, (J + 1) * 2, none⟩ (.int .i64 (x.c : Int))).setCell ⟨B, (J + 1) * 2 + 1, none⟩ (.slice x.a x.n x.k)).setCell ⟨B, J * 2, none⟩ (.int .i64 (y.c : Int))).setCell ⟨B, J * 2 + 1, none⟩ (.slice y.a y.n y.k)) B (P ++ y :: x :: Q) := by
 obtain ⟨x', y', hx, hy, k2, k3, k4, k5, hw⟩ := h.two (i := J + 1) (j := J) (by simp; omega) (by simp; omega);rw [← hJ, List.getElem?_append_right (by omega), show P.length + 1 - P.length = 1 by omega, List.getElem?_cons_succ, List.getElem?_cons_zero] at hx;rw [← hJ, List.getElem?_append_right (Nat.le_refl _), Nat.sub_self, List.getElem?_cons_zero] at hy;injection hx with hx;injection hy with hy;subst hx hy;rw [← hJ, swp_comm, swp_adj, hJ] at hw;exact ⟨k4, k5, k2, k3, hw⟩
end Go.Proofs.YtdeiolagnheihaaDoor
