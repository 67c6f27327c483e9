/-
  huff.Read: a tree of a code.
  Plain law of the CRC: a step, eight of them, a byte by the table. No program in sight.
  Plain law of bursts: bits turned within 32 in a row change the CRC. No program in sight.
  A writer of bits: what its memory says (a number and how many bits), and the contract of 'one'.
  Put, and what else a writer does: contracts in terms of its number and its count.
  A reader of bits: contracts in terms of its text's number and its place.
  Get where it cannot: too wide, or no more bits.
  A writer that is new; what a writer, a reader did touched only new blocks. No function of the program is named.
  huff's Tree.Next: what symbol comes next.
  Symbols written by their words and read again: plain laws.
  Blocks that are known whole: variables that a call made. No function of the program is named.
-/
import Derived.Test.YtnhbjgmfbcedaaaDoorDeflateTwiceG1
import Derived.Outline
set_option linter.unusedSimpArgs false
set_option linter.unusedVariables false
set_option maxRecDepth 100000
namespace Go.Proofs.YtnhbjgmfbcedaaaDoor
open Go.RowKit
def symV (l : List Nat) : List Value := l.map fun i : Nat => Value.int .i64 (i : Int)
/-- a tree as it lies in memory: of each length how many words, and the symbols -/
structure TAt (w : World) (T : Nat) (v : Value) (f : Nat → Int) (len : Nat) (l : List Nat) : Prop where
 many : ∀ j, j < 16 → w.cell? ⟨T, j, none⟩ = some (.int .i64 (many f j len : Int))
 cell : w.cell? ⟨T, 16, none⟩ = some v
 free : w.frozen? ⟨T, 16, none⟩ = false
 row : w.ownsRow 0 3 1 v l.length (symV l)
 apart : v.ownBlock ≠ some T
theorem tree_cells (F : Nat → Int) : Array.foldl (fun (cs : Array Value) (x : Value × Nat) => cs.setIfInBounds x.snd x.fst) #[.int .i64 0, .int .i64 0, .int .i64 0, .int .i64 0, .int .i64 0, .int .i64 0, .int .i64 0, .int .i64 0, .int .i64 0, .int .i64 0, .int .i64 0, .int .i64 0, .int .i64 0, .int .i64 0, .int .i64 0, .int .i64 0, .slice none 0 0] ((cellsI .i64 16 F).zipIdx) 0 16 = #[.int .i64 (F 0), .int .i64 (F 1), .int .i64 (F 2), .int .i64 (F 3), .int .i64 (F 4), .int .i64 (F 5), .int .i64 (F 6), .int .i64 (F 7), .int .i64 (F 8), .int .i64 (F 9), .int .i64 (F 10), .int .i64 (F 11), .int .i64 (F 12), .int .i64 (F 13), .int .i64 (F 14), .int .i64 (F 15), .slice none 0 0] := by
 rw [cells16_eq];kernel_rfl
theorem upTo_bd (f : Nat → Int) (len : Nat) : ∀ n, upTo f len n ≤ n * len := by
 intro n;induction n with
 | zero => exact Nat.zero_le _
 | succ n ih => have := many_le f (n + 1) len; simp only [upTo, Nat.succ_mul]; omega
theorem tat_push {w wr w5 : World} {T : Nat} {v v' : Value} {f : Nat → Int} {len i : Nat} {l l0 : List Nat} {o : Obj} (hT : TAt wr T v f len l0) (hX : Ext w wr) (hTw : w.heap.size ≤ T) (hV : ∀ k, v.ownBlock = some k → w.heap.size ≤ k) (hl : l0 = l)
  (hgrow : (wr.alloc o).grownBy w5 v.ownBlock) (hown : w5.ownsRow 0 3 1 v' (l.length + 1) (symV l ++ [.int .i64 (i : Int)])) (hat : v'.ownBlock = v.ownBlock ∨ v'.ownBlock = some (wr.heap.size + 1)) :
  w5.cell? ⟨T, 16, none⟩ = some v ∧ w5.frozen? ⟨T, 16, none⟩ = false ∧ TAt (w5.setCell ⟨T, 16, none⟩ v') T v' f len (l ++ [i]) ∧ (∀ k, v'.ownBlock = some k → w.heap.size ≤ k) ∧ Ext w (w5.setCell ⟨T, 16, none⟩ v') := by
 subst hl;have hlt : T < wr.heap.size := World.block_lt_of_cell? wr _ hT.cell;have hlt2 : T < (wr.alloc o).heap.size := by rw [World.size_alloc]; omega
 have hk := Keeps.grown hgrow;have hn : ¬ v.ownBlock = some T := hT.apart;have cc : ∀ j, w5.cell? ⟨T, j, none⟩ = wr.cell? ⟨T, j, none⟩ := fun j => (hk.cell (p := ⟨T, j, none⟩) hlt2 hn).trans (World.cell?_alloc_past _ _ _ hlt);have ff : ∀ j, w5.frozen? ⟨T, j, none⟩ = wr.frozen? ⟨T, j, none⟩ := fun j => (hk.frozen (p := ⟨T, j, none⟩) hlt2 hn).trans (World.frozen?_alloc_past _ _ _ hlt);have hvT : v'.ownBlock ≠ some T := by
  rcases hat with q | q
  ·rw [q]; exact hn
  ·rw [q]; intro e; injection e with e; omega
 have hv' : ∀ k, v'.ownBlock = some k → w.heap.size ≤ k := by
  intro k hk;rcases hat with q | q
  ·rw [q] at hk; exact hV k hk
  ·rw [q] at hk; injection hk with hk; have := hX.size; omega
 have hE : Ext w w5 := by
  have h1 : Ext w (wr.alloc o) := hX.alloc o;exact ⟨hk.os.trans h1.os, hk.tape.trans h1.tape, hk.output.trans h1.output, Nat.le_trans h1.size hk.size, fun j hj => (hk.block j (by have := h1.size; omega) (fun q => by have := hV j q; omega)).trans (h1.block j hj)⟩
 refine ⟨(cc 16).trans hT.cell, (ff 16).trans hT.free, ⟨fun j hj => ?_, ?_, ?_, ?_, hvT⟩, hv', hE.setCell hTw _⟩
 ·rw [World.cell?_setCell_other _ _ _ _ (by intro e; injection e with _ e; omega), cc]; exact hT.many j hj
 ·exact World.cell?_setCell_same _ _ _ ((cc 16).trans hT.cell)
 ·rw [World.frozen?_setCell, ff]; exact hT.free
 ·have e : symV (l0 ++ [i]) = symV l0 ++ [.int .i64 (i : Int)] := by simp [symV]
  rw [e, List.length_append];exact ownsRow_setCell_other hown hvT _
theorem read_good (x : Option Addr) (len cap : Nat) (f : Nat → Int) (w : World) (E : Nat → Addr) (hE : Errs w E) (hx : Ints w x len f) (hb : inBounds f len) (hc : complete f len) :
  Calls Tryd.prog 108 #[.slice x len cap] w fun e w' => (∃ T v, w.heap.size ≤ T ∧ (∀ k, v.ownBlock = some k → w.heap.size ≤ k) ∧ e = .returned (.tuple #[.pointer (some ⟨T, 0, none⟩), .nilIface]) ∧ TAt w' T v f len (symA f len 15)) ∧ Ext w w' := by
 have hl := hb.1;have HX := Lib.hid hx;have HB := Lib.hid hb;have HC := Lib.hid hc;have HE := Lib.hid hE;clear hx hb hc hE;go_enter Tryd.func108, Tryd.ntmps108
 go_wp2_with fail;refine (valid_calls x len cap f w HX.out (by unfold maxLen; omega) _ _ (HE.out.var 1 (by decide)) (HE.out.var 2 (by decide))).mono ?_;rintro e w2 ⟨h2, h | h | h⟩;rotate_left
 ·exact absurd HB.out h.2
 ·exact absurd HC.out h.2.2
 obtain ⟨rfl, _⟩ := h;have X2 := Lib.hid h2;clear h2;go_wp2_with fail;refine (words_calls x len cap f _ (HX.out.ext X2.out) (by unfold maxLen; omega) HB.out.2).mono ?_;rintro e w3 ⟨rfl, rfl⟩;have X3 := Lib.hid (X2.out.alloc (.cells (cellsI .i64 16 fun n => (many f n len : Int)) 175));go_wp2_with fail;rw [tree_cells];refine wp_world (fun wz => Ext w wz ∧ w2.heap.size + 1 < wz.heap.size ∧ (∀ j, j < 16 → wz.cell? ⟨w2.heap.size + 1, j, none⟩ = some (.int .i64 (many f j len : Int))) ∧ wz.cell? ⟨w2.heap.size + 1, 16, none⟩ = some (.slice none 0 0) ∧ wz.frozen? ⟨w2.heap.size + 1, 16, none⟩ = false) ?_ ?_
 ·refine ⟨X3.out.alloc _, by simp, fun j hj => ?_, ?_, ?_⟩
  ·rw [World.cell?_alloc_at _ _ _ _ (by simp)];match j, hj with
   | 0, _ => rfl
   | 1, _ => rfl
   | 2, _ => rfl
   | 3, _ => rfl
   | 4, _ => rfl
   | 5, _ => rfl
   | 6, _ => rfl
   | 7, _ => rfl
   | 8, _ => rfl
   | 9, _ => rfl
   | 10, _ => rfl
   | 11, _ => rfl
   | 12, _ => rfl
   | 13, _ => rfl
   | 14, _ => rfl
   | 15, _ => rfl
   | n + 16, h => exact absurd h (by omega)
  ·rw [World.cell?_alloc_at _ _ _ _ (by simp)]; rfl
  ·rw [World.frozen?_alloc_at _ _ _ _ (by simp)]
 rintro w4 ⟨hX4, hT, hM, hc, hf⟩;have X4 := Lib.hid hX4;have TA : Hid (TAt w4 (w2.heap.size + 1) (.slice none 0 0) f len (symA f len 0)) := Lib.hid ⟨hM, hc, hf, World.ownsRow_nil _ _ _ _, by intro e; cases e⟩;have hTw : w.heap.size ≤ w2.heap.size + 1 := by have := X2.out.size; omega
 clear hX4 hM hc hf X3;generalize w2.heap.size + 1 = T at *;obtain ⟨i0, hi0, hz0, hz1, hz2⟩ := info_parts i64info;go_loopw [6] (fun c wr => ∃ (n : Nat) (v : Value), 1 ≤ n ∧ n ≤ 16 ∧ c = .int .i64 n ∧ Hid (TAt wr T v f len (symA f len (n - 1))) ∧ Hid (∀ k, v.ownBlock = some k → w.heap.size ≤ k) ∧ Hid (Ext w wr)) (fun c _ => 16 - (intOf c).toNat)
 case atStart => exact ⟨1, .slice none 0 0, by omega, by omega, rfl, TA, Lib.hid (fun k h => by cases h), X4⟩
 case round =>
  obtain ⟨n, v, hn1, hn2, rfl, HT, HV, HXt⟩ := hrel;by_cases hlt : n < 16
  ·have tn : decide ((n : Int) ≤ 15) = true := decide_eq_true (by omega);have HT0 : Hid (TAt wr T v f len (symA f len (n - 1) ++ symL f n 0)) := Lib.hid (by simp only [symL, List.append_nil]; exact HT.out);go_wp2_with fail;go_loopw [24] (fun c wr => ∃ (i : Nat) (v : Value), i ≤ len ∧ c = .int .i64 i ∧ Hid (TAt wr T v f len (symA f len (n - 1) ++ symL f n i)) ∧ Hid (∀ k, v.ownBlock = some k → w.heap.size ≤ k) ∧ Hid (Ext w wr)) (fun c _ => len - (intOf c).toNat)
   case atStart => exact ⟨0, v, by omega, rfl, HT0, HV, HXt⟩
   case round =>
    clear HT HV HXt HT0;obtain ⟨i, v, hi, rfl, HT, HV, HXt⟩ := hrel;by_cases hil : i < len
    ·obtain ⟨a, rfl⟩ : ∃ a, x = some a := by
      cases x with
      | none => have := HX.out.1 rfl; omega
      | some a => exact ⟨a, rfl⟩
     obtain ⟨hcell, f1, f2⟩ := (HX.out.ext HXt.out).2 a rfl i hil;by_cases hfn : f i = n
     ·have t1 : (f i == (n : Int)) = true := beq_iff_eq.2 hfn;have HSY := Lib.hid (symL_yes f n i hfn);have hct := HT.out.cell;have hft := HT.out.free;have hrow := HT.out.row;have hTz : T < wr.heap.size := World.block_lt_of_cell? wr _ hct;obtain ⟨l, hl2⟩ : ∃ l, symA f len (n - 1) ++ symL f n i = l := ⟨_, rfl⟩;have hll : l.length ≤ 5000 := by
       rw [← hl2, List.length_append, symA_length, symL_length];have q1 := many_le f n i;have q2 := upTo_bd f len (n - 1);have q3 : (n - 1) * len ≤ 15 * 300 := Nat.mul_le_mul (by omega) hl;omega
      rw [hl2] at hrow;have HLL := Lib.hid hl2;clear hl2 hfn;go_wp2_with (at_builtin; refine wpList_append_own_at _ rfl _ _ 31 rfl 0 3 i0 (.int .i64 0) 1 8 Tryd.underlying31 hi0 hz0 hz1 hz2 rfl (by decide) _ _ _ rfl (hrow.alloc _) ⟨wr.heap.size, 0, none⟩ 1 1 [.int .i64 (i : Int)] rfl rfl ?c1 ?c2 ?c3 ?c4 ?c5 ?_)
      case c1 =>
       intro j u hj;match j, hj with
       | 0, hj => simp only [List.getElem?_cons_zero, Option.some.injEq] at hj; subst hj; rw [add_plain, World.cell?_alloc_at _ _ _ _ rfl]; rfl
      case c2 => intro u hu; rw [List.mem_singleton.1 hu]; rfl
      case c3 => unfold maxLen; omega
      case c4 => omega
      case c5 => exact Nat.zero_le _
      intro v' w5 hown hgrow _ hat;obtain ⟨g5, cap5, rfl, _, _⟩ := ownsRow_some hown (by omega);have P := tat_push HT.out HXt.out hTw HV.out HLL.out hgrow hown hat;have c16 := P.1;have f16 := P.2.1;have HP := Lib.hid P.2.2;have HT2 : Hid (TAt (w5.setCell ⟨T, 16, none⟩ (.slice (some ⟨g5, 0, none⟩) (l.length + 1) cap5)) T (.slice (some ⟨g5, 0, none⟩) (l.length + 1) cap5) f len (symA f len (n - 1) ++ symL f n (i + 1))) := Lib.hid (by rw [HSY.out, ← List.append_assoc, HLL.out]; exact HP.out.1);clear P hown hgrow hat hrow hct hft;go_wp2_with fail;go_roundw
      case rel => exact ⟨i + 1, _, by omega, by go_num, HT2, Lib.hid HP.out.2.1, Lib.hid HP.out.2.2⟩
      case measure => simp [intOf]; omega
     ·have t1 : (f i == (n : Int)) = false := beq_eq_false_iff_ne.2 hfn;have HSY := Lib.hid (symL_no f n i hfn);clear hfn;go_wp2_with fail;go_roundw
      case rel => exact ⟨i + 1, v, by omega, by go_num, by rw [HSY.out]; exact HT, HV, HXt⟩
      case measure => simp [intOf]; omega
    ·obtain rfl : i = len := by omega
     go_wp2_with fail;go_roundw
     case rel =>
      refine ⟨n + 1, v, by omega, by omega, by go_num, ?_, HV, HXt⟩;have e : symA f i (n + 1 - 1) = symA f i (n - 1) ++ symL f n i := by
       obtain ⟨m, rfl⟩ : ∃ m, n = m + 1 := ⟨n - 1, by omega⟩;rfl
      rw [e]; exact HT
     case measure => simp [intOf]; omega
  ·obtain rfl : n = 16 := by omega
   go_wp2_with fail;go_ret2;exact ⟨⟨T, v, hTw, HV.out, rfl, HT.out⟩, HXt.out⟩
end Go.Proofs.YtnhbjgmfbcedaaaDoor
namespace Crc
def T (c : Nat) : Nat := (c / 2) ^^^ (if c % 2 = 1 then 3988292384 else 0)
def Tn : Nat → Nat → Nat
  | 0, c => c
  | n + 1, c => Tn n (T c)
theorem split8 (c : Nat) : c = (256 * (c / 256)) ^^^ (c % 256) := by
  have h := Nat.two_pow_add_eq_or_of_lt (i := 8) (b := c % 256) (Nat.mod_lt _ (by decide)) (c / 256);apply Nat.eq_of_testBit_eq; intro i;rw [Nat.testBit_xor];have e1 : (256 * (c / 256)).testBit i = (decide (8 ≤ i) && c.testBit i) := by
    rw [show (256 : Nat) = 2 ^ 8 from rfl, Nat.testBit_two_pow_mul, Nat.testBit_div_two_pow];by_cases hi : 8 ≤ i
    · simp [hi]
    · simp [hi]
  have e2 : (c % 256).testBit i = (decide (i < 8) && c.testBit i) := by
    rw [show (256 : Nat) = 2 ^ 8 from rfl, Nat.testBit_mod_two_pow]
  rw [e1, e2];by_cases hi : 8 ≤ i
  · simp [hi, show ¬ i < 8 by omega]
  · simp [hi, show i < 8 by omega]
/-- one byte -/
def byte (c b : Nat) : Nat := Tn 8 (c ^^^ b)
def run (c : Nat) (l : List UInt8) : Nat := l.foldl (fun c b => byte c b.toNat) c
def flip (c : Nat) : Nat := c ^^^ 4294967295
def more (c : Nat) (l : List UInt8) : Nat := flip (run (flip c) l)
end Crc
namespace Crc
/-- the number whose digits to base 256 are the bytes, the lowest first -/
def num : List UInt8 → Nat
  | [] => 0
  | b :: l => b.toNat + 256 * num l
theorem num_cons (b : UInt8) (l : List UInt8) : num (b :: l) = b.toNat ^^^ (256 * num l) := by
  have h := split8 (num (b :: l));have hb : b.toNat < 256 := b.toNat_lt;have e1 : num (b :: l) / 256 = num l := by show (b.toNat + 256 * num l) / 256 = _; omega
  have e2 : num (b :: l) % 256 = b.toNat := by show (b.toNat + 256 * num l) % 256 = _; omega
  rw [e1, e2, Nat.xor_comm] at h;exact h
theorem num_lt (l : List UInt8) : num l < 2 ^ (8 * l.length) := by
  induction l with
  | nil => simp [num]
  | cons b l ih =>
    have hb : b.toNat < 256 := b.toNat_lt;rw [List.length_cons, show 8 * (l.length + 1) = 8 * l.length + 8 by omega, Nat.pow_add];show b.toNat + 256 * num l < _;omega
theorem num_inj : ∀ (l m : List UInt8), l.length = m.length → num l = num m → l = m
  | [], [], _, _ => rfl
  | [], _ :: _, h, _ => by simp at h
  | _ :: _, [], h, _ => by simp at h
  | a :: l, b :: m, h, e => by
    have ha : a.toNat < 256 := a.toNat_lt;have hb : b.toNat < 256 := b.toNat_lt;have e' : a.toNat + 256 * num l = b.toNat + 256 * num m := e;have h1 : a.toNat = b.toNat := by omega
    have h2 : num l = num m := by omega
    rw [UInt8.toNat_inj.1 h1, num_inj l m (by simpa using h) h2]
theorem num_set (l : List UInt8) : ∀ (j : Nat) (c : UInt8), (hj : j < l.length) → num (l.set j c) = num l ^^^ ((l[j].toNat ^^^ c.toNat) * 256 ^ j) := by
  induction l with
  | nil => intro j c hj; simp at hj
  | cons b l ih =>
    intro j c hj;cases j with
    | zero =>
      simp only [List.set_cons_zero, List.getElem_cons_zero, Nat.pow_zero, Nat.mul_one];rw [num_cons, num_cons, show b.toNat ^^^ 256 * num l ^^^ (b.toNat ^^^ c.toNat) = (b.toNat ^^^ b.toNat) ^^^ (c.toNat ^^^ 256 * num l) by ac_rfl, Nat.xor_self, Nat.zero_xor]
    | succ j =>
      simp only [List.set_cons_succ, List.getElem_cons_succ];rw [num_cons, num_cons, ih j c (by simpa using hj), Nat.xor_assoc];congr 1
      rw [show (256 : Nat) = 2 ^ 8 from rfl, Nat.mul_comm, Nat.mul_comm (2 ^ 8) (num l), ← Nat.shiftLeft_eq, ← Nat.shiftLeft_eq, Nat.shiftLeft_xor_distrib, Nat.shiftLeft_eq, Nat.shiftLeft_eq];congr 1
      rw [Nat.mul_assoc, ← Nat.pow_succ]
end Crc
namespace Go.Proofs.YtnhbjgmfbcedaaaDoor
open Go.RowKit
def bytesV (l : List UInt8) : List Value := l.map fun b => Value.int .u8 (b.toNat : Int)
structure WAt (w : World) (B o : Nat) (v : Value) (V n : Nat) : Prop where
 c0 : w.cell? ⟨B, o, none⟩ = some v
 c1 : w.cell? ⟨B, o + 1, none⟩ = some (.int .i64 (n : Int))
 f0 : w.frozen? ⟨B, o, none⟩ = false
 f1 : w.frozen? ⟨B, o + 1, none⟩ = false
 row : ∃ l : List UInt8, l.length = (n + 7) / 8 ∧ Crc.num l = V ∧ w.ownsRow 0 5 1 v l.length (bytesV l)
 apart : v.ownBlock ≠ some B
 lt : V < 2 ^ n
structure WStep (w w' : World) (B o : Nat) (v v' : Value) : Prop where
 keeps : Keeps (fun k => k = B ∨ v.ownBlock = some k) w w'
 cells : ∀ j, j ≠ o → j ≠ o + 1 → w'.cell? ⟨B, j, none⟩ = w.cell? ⟨B, j, none⟩
 marks : ∀ j, w'.frozen? ⟨B, j, none⟩ = w.frozen? ⟨B, j, none⟩
 new : ∀ k, v'.ownBlock = some k → v.ownBlock = some k ∨ w.heap.size ≤ k
theorem WStep.refl (w : World) (B o : Nat) (v : Value) : WStep w w B o v v := ⟨Keeps.refl _ _, fun _ _ _ => rfl, fun _ => rfl, fun _ h => .inl h⟩
theorem WStep.trans {a b c : World} {B o : Nat} {u v x : Value} (h : WStep a b B o u v) (k : WStep b c B o v x) : WStep a c B o u x := by
 refine ⟨h.keeps.trans k.keeps ?_, fun j h1 h2 => (k.cells j h1 h2).trans (h.cells j h1 h2), fun j => (k.marks j).trans (h.marks j), ?_⟩
 ·intro i hi q;rcases q with q | q
  ·exact .inl q
  ·rcases h.new i q with r | r
   ·exact .inr r
   ·omega
 ·intro i q;rcases k.new i q with r | r
  ·exact h.new i r
  ·have := h.keeps.size; exact .inr (by omega)
theorem bytesV_length (l : List UInt8) : (bytesV l).length = l.length := by simp [bytesV]
theorem bytesV_get (l : List UInt8) (j : Nat) (h : j < l.length) : (bytesV l)[j]? = some (.int .u8 (l[j].toNat : Int)) := by simp [bytesV, h]
theorem bytesV_set (l : List UInt8) (j : Nat) (c : UInt8) : (bytesV l).set j (.int .u8 (c.toNat : Int)) = bytesV (l.set j c) := by simp [bytesV, List.map_set]
theorem num_append_zero (l : List UInt8) : Crc.num (l ++ [0]) = Crc.num l := by
 induction l with
 | nil => rfl
 | cons b l ih => show b.toNat + 256 * Crc.num (l ++ [0]) = _; rw [ih]; rfl
/-- a bit laid on top of a number that does not reach so far -/
theorem xor_top (V n b : Nat) (hV : V < 2 ^ n) : V ^^^ b * 2 ^ n = V + b * 2 ^ n := by
 have h := Nat.two_pow_add_eq_or_of_lt (i := n) (b := V) hV b;have h2 : V + b * 2 ^ n = V ||| b * 2 ^ n := by rw [Nat.add_comm, Nat.mul_comm, h, Nat.or_comm]
 rw [h2];apply Nat.eq_of_testBit_eq; intro i;rw [Nat.testBit_xor, Nat.testBit_or, Nat.mul_comm, Nat.testBit_two_pow_mul];by_cases hi : n ≤ i
 ·rw [Nat.testBit_lt_two_pow (Nat.lt_of_lt_of_le hV (Nat.pow_le_pow_right (by decide) hi))]; simp
 ·simp [hi]
theorem num_byte (l : List UInt8) : ∀ (j : Nat) (h : j < l.length), l[j].toNat = Crc.num l / 256 ^ j % 256 := by
 induction l with
 | nil => intro j h; simp at h
 | cons b l ih =>
  intro j h;have hb : b.toNat < 256 := b.toNat_lt;cases j with
  | zero => show b.toNat = (b.toNat + 256 * Crc.num l) / 1 % 256; omega
  | succ j =>
   simp only [List.getElem_cons_succ];rw [ih j (by simpa using h), Nat.pow_succ, Nat.mul_comm, ← Nat.div_div_eq_div_mul];show _ = (b.toNat + 256 * Crc.num l) / 256 / 256 ^ j % 256;congr 2; omega
theorem or_byte (x b t : Nat) (hx : x < 2 ^ t) (hb : b ≤ 1) (ht : t < 8) : ∃ c : UInt8, c.toNat = x ^^^ b * 2 ^ t ∧ bits BinOp.or IntKind.u8 (x : Int) (((b * 2 ^ t : Nat) : Int)) = (c.toNat : Int) := by
 have h2 : 2 ^ t ≤ 2 ^ 7 := Nat.pow_le_pow_right (by decide) (by omega);have h3 : b * 2 ^ t ≤ 2 ^ t := by
  rcases (show b = 0 ∨ b = 1 by omega) with h | h <;> subst h <;> omega
 have hlt : x ^^^ b * 2 ^ t < 2 ^ 8 := Nat.xor_lt_two_pow (by omega) (by omega);have hc : (UInt8.ofNat (x ^^^ b * 2 ^ t)).toNat = x ^^^ b * 2 ^ t := by rw [UInt8.toNat_ofNat']; exact Nat.mod_eq_of_lt hlt
 refine ⟨UInt8.ofNat (x ^^^ b * 2 ^ t), hc, ?_⟩;rw [hc, u8_or_nat _ _ (by omega) (by omega), xor_top x t b hx];have h := Nat.two_pow_add_eq_or_of_lt (i := t) (b := x) hx b;rw [show x + b * 2 ^ t = 2 ^ t * b + x by rw [Nat.mul_comm, Nat.add_comm], h, Nat.mul_comm, Nat.or_comm]
/-- a bit more in the last byte: the memory behind it -/
theorem one_mem (w : World) (B o g cap n V b : Nat) (l : List UInt8) (hl : l.length = n / 8 + 1) (hV : Crc.num l = V) (hlt : V < 2 ^ n) (hb : b ≤ 1) (hne : g ≠ B)
  (c0 : w.cell? ⟨B, o, none⟩ = some (.slice (some ⟨g, 0, none⟩) l.length cap)) (c1 : w.cell? ⟨B, o + 1, none⟩ = some (.int .i64 (n : Int))) (f0 : w.frozen? ⟨B, o, none⟩ = false) (f1 : w.frozen? ⟨B, o + 1, none⟩ = false)
  (hown : w.ownsRow 0 5 1 (.slice (some ⟨g, 0, none⟩) l.length cap) l.length (bytesV l)) (hj : l.length - 1 < l.length) (x : Int)
  (hx : x = bits BinOp.or IntKind.u8 ((l[l.length - 1].toNat : Nat) : Int) ((b : Int) * 2 ^ (n % 8) % 256)) :
  WAt ((w.setCell ⟨g, l.length - 1, none⟩ (.int .u8 x)).setCell ⟨B, o + 1, none⟩ (.int .i64 ((n : Int) + 1))).drew B o (.slice (some ⟨g, 0, none⟩) l.length cap) (V + b * 2 ^ n) (n + 1) ∧
   WStep w ((w.setCell ⟨g, l.length - 1, none⟩ (.int .u8 x)).setCell ⟨B, o + 1, none⟩ (.int .i64 ((n : Int) + 1))).drew B o (.slice (some ⟨g, 0, none⟩) l.length cap) (.slice (some ⟨g, 0, none⟩) l.length cap) := by
 have ht : n % 8 < 8 := by omega
 have hsm : l[l.length - 1].toNat < 2 ^ (n % 8) := by
  rw [num_byte l _ hj];have e : n = 8 * (l.length - 1) + n % 8 := by omega
  have h2 : Crc.num l / 256 ^ (l.length - 1) < 2 ^ (n % 8) := by
   rw [show (256 : Nat) = 2 ^ 8 from rfl, ← Nat.pow_mul];refine Nat.div_lt_of_lt_mul ?_;rw [← Nat.pow_add, ← e, hV]; exact hlt
  exact Nat.lt_of_le_of_lt (Nat.mod_le _ _) h2
 obtain ⟨c, hc1, hc2⟩ := or_byte l[l.length - 1].toNat b (n % 8) hsm hb ht;have hpow : 2 ^ (n % 8) ≤ 2 ^ 7 := Nat.pow_le_pow_right (by decide) (by omega);have hm : (b : Int) * 2 ^ (n % 8) % 256 = ((b * 2 ^ (n % 8) : Nat) : Int) := by
  have h3 : b * 2 ^ (n % 8) < 256 := by
   rcases (show b = 0 ∨ b = 1 by omega) with h | h <;> subst h <;> omega
  rw [show (b : Int) * 2 ^ (n % 8) = ((b * 2 ^ (n % 8) : Nat) : Int) by simp]; omega
 rw [hm, hc2] at hx;subst hx;obtain ⟨st1, st2⟩ := hown.stored (l.length - 1) (.int .u8 (c.toNat : Int));rw [bytesV_set] at st1;have a1 : (⟨g, l.length - 1, none⟩ : Addr) ≠ ⟨B, o, none⟩ := by intro e; injection e with e1; exact hne e1
 have a2 : (⟨g, l.length - 1, none⟩ : Addr) ≠ ⟨B, o + 1, none⟩ := by intro e; injection e with e1; exact hne e1
 have a3 : (⟨B, o + 1, none⟩ : Addr) ≠ ⟨B, o, none⟩ := by intro e; injection e with _ e2; omega
 have d0 := (World.cell?_setCell_other w _ _ (.int .u8 (c.toNat : Int)) a1).trans c0;have d1 := (World.cell?_setCell_other w _ _ (.int .u8 (c.toNat : Int)) a2).trans c1;refine ⟨⟨?_, ?_, ?_, ?_, ⟨l.set (l.length - 1) c, ?_, ?_, ?_⟩, ?_, ?_⟩, ⟨?_, ?_, ?_, ?_⟩⟩
 ·exact (World.cell?_setCell_other _ _ _ _ a3).trans d0
 ·exact World.cell?_setCell_same _ _ _ d1
 ·show World.frozen? (World.setCell _ _ _) _ = _; rw [World.frozen?_setCell, World.frozen?_setCell]; exact f0
 ·show World.frozen? (World.setCell _ _ _) _ = _; rw [World.frozen?_setCell, World.frozen?_setCell]; exact f1
 ·rw [List.length_set]; omega
 ·have e1 : l[l.length - 1].toNat ^^^ c.toNat = b * 2 ^ (n % 8) := by rw [hc1, ← Nat.xor_assoc, Nat.xor_self, Nat.zero_xor]
  rw [Crc.num_set l _ c hj, e1, hV, Nat.mul_assoc, show (256 : Nat) = 2 ^ 8 from rfl, ← Nat.pow_mul, ← Nat.pow_add, show n % 8 + 8 * (l.length - 1) = n by omega, xor_top V n b hlt]
 ·rw [List.length_set];exact ownsRow_setCell_other st1 (by intro e; exact hne (Option.some.inj e)) _
 ·intro e; exact hne (Option.some.inj e)
 ·rw [Nat.pow_succ];rcases (show b = 0 ∨ b = 1 by omega) with h | h <;> subst h <;> omega
 ·exact ((Keeps.refl _ w).setCell (.inl (.inr rfl)) _ |>.setCell (.inl (.inl rfl)) _).drew
 ·intro j h1 h2;have b1 : (⟨B, o + 1, none⟩ : Addr) ≠ ⟨B, j, none⟩ := by intro e; injection e with _ e2; exact h2 e2.symm
  have b2 : (⟨g, l.length - 1, none⟩ : Addr) ≠ ⟨B, j, none⟩ := by intro e; injection e with e1; exact hne e1
  exact (World.cell?_setCell_other _ _ _ _ b1).trans (World.cell?_setCell_other _ _ _ _ b2)
 ·intro j; show World.frozen? (World.setCell _ _ _) _ = _; rw [World.frozen?_setCell, World.frozen?_setCell]
 ·intro k hk; exact .inl hk
theorem u8info : (Tryd.prog.info? 5).map (fun i => (i.zero, i.size, i.bytes)) = some (some (.int .u8 0), 1, 1) := by kernel_rfl
set_option maxRecDepth 100000 in
set_option maxHeartbeats 1000000 in
/-- within a byte -/
theorem one_in (B o n V b : Nat) (v : Value) (w : World) (hW : WAt w B o v V n) (hb : b ≤ 1) (hn : n < 1099511627776) (h8 : n % 8 ≠ 0) :
  Calls Tryd.prog 104 #[.pointer (some ⟨B, o, none⟩), .int .u32 (b : Int)] w fun e w' => e = .returned (.tuple #[]) ∧ ∃ v', WAt w' B o v' (V + b * 2 ^ n) (n + 1) ∧ WStep w w' B o v v' := by
 obtain ⟨c0, c1, f0, f1, ⟨l, hl, hV, hown⟩, hap, hlt⟩ := hW;have hpos : 0 < l.length := by omega
 obtain ⟨g, cap, rfl, hcap, hg⟩ := ownsRow_some hown hpos;have hj : l.length - 1 < l.length := by omega
 have hcell : w.cell? ⟨g, l.length - 1, none⟩ = some (.int .u8 (l[l.length - 1].toNat : Int)) := by
  rw [hown.cellAt _ (by omega), bytesV_get l _ hj]
 have hfr := hown.frozenAt (l.length - 1);have hne : g ≠ B := fun e => hap (by rw [e]; rfl);have hq : ((n : Int) % 8 == 0) = false := by rw [beq_eq_false_iff_ne]; omega
 have H8 := Lib.hid h8;have HL := Lib.hid hl;have HV := Lib.hid hV;have hlen : (l.length : Int) ≤ 1099511627776 := by omega
 have hlen1 : (1 : Int) ≤ (l.length : Int) := by omega
 clear h8 hl hV;go_enter Tryd.func104, Tryd.ntmps104
 go_wp2
 go_region;go_wp2
 go_end0;refine ⟨rfl, .slice (some ⟨g, 0, none⟩) l.length cap, ?_⟩;exact one_mem w B o g cap n V b l (by have := HL.out; have := H8.out; omega) HV.out hlt hb hne c0 c1 f0 f1 hown hj _ rfl
set_option maxRecDepth 100000 in
set_option maxHeartbeats 1000000 in
/-- a new byte -/
theorem one_new (B o n V b : Nat) (v : Value) (w : World) (hW : WAt w B o v V n) (hb : b ≤ 1) (hn : n < 1099511627776) (h8 : n % 8 = 0) :
  Calls Tryd.prog 104 #[.pointer (some ⟨B, o, none⟩), .int .u32 (b : Int)] w fun e w' => e = .returned (.tuple #[]) ∧ ∃ v', WAt w' B o v' (V + b * 2 ^ n) (n + 1) ∧ WStep w w' B o v v' := by
 obtain ⟨c0, c1, f0, f1, ⟨l, hl, hV, hown⟩, hap, hlt⟩ := hW;have hB : B < w.heap.size := World.block_lt_of_cell? w _ c0;have hq : ((n : Int) % 8 == 0) = true := by rw [beq_iff_eq]; omega
 obtain ⟨i0, hi, hz0, hz1, hz2⟩ := info_parts u8info;have H8 := Lib.hid h8;have HL := Lib.hid hl;have HV := Lib.hid hV;have hlen : l.length ≤ 1099511627776 := by omega
 clear h8 hl hV;go_enter Tryd.func104, Tryd.ntmps104
 go_wp2_with (at_builtin; refine wpList_append_own_at _ rfl _ _ 61 rfl 0 5 i0 (.int .u8 0) 1 1 Tryd.underlying61 hi hz0 hz1 hz2 rfl (by decide) _ _ _ rfl (hown.alloc _) ⟨w.heap.size, 0, none⟩ 1 1 [.int .u8 0] rfl rfl ?c1 ?c2 ?c3 ?c4 ?c5 ?_)
 case c1 => exact (cell_one_new _ _ _)
 case c2 => intro u hu; simp at hu; subst hu; rfl
 case c3 => unfold maxLen; omega
 case c4 => omega
 case c5 => simp
 intro v' w' hown' hgrow _ hat;have K : Keeps (fun k => v.ownBlock = some k) w w' := ((Keeps.refl _ w).alloc _).trans (Keeps.grown hgrow) (fun _ _ q => q);have hsz : w.heap.size + 1 ≤ w'.heap.size := by have := hgrow.size; simpa using this
 have e0 : w'.cell? ⟨B, o, none⟩ = some v := (K.cell hB hap).trans c0;have e1 : w'.cell? ⟨B, o + 1, none⟩ = some (.int .i64 (n : Int)) := (K.cell hB hap).trans c1;have z0 : w'.frozen? ⟨B, o, none⟩ = false := (K.frozen hB hap).trans f0;have z1 : w'.frozen? ⟨B, o + 1, none⟩ = false := (K.frozen hB hap).trans f1;have hnew : ∀ k, v'.ownBlock = some k → v.ownBlock = some k ∨ w.heap.size ≤ k := by
  intro k hk;rcases hat with q | q
  ·rw [q] at hk; exact .inl hk
  ·rw [q] at hk; injection hk with hk; have : w.heap.size ≤ (w.alloc (.cells #[.int .u8 0] 5)).heap.size := by simp
   exact .inr (by omega)
 have hap' : v'.ownBlock ≠ some B := fun e => by rcases hnew B e with q | q; exact hap q; omega
 have hown2 : w'.ownsRow 0 5 1 v' (l ++ [0]).length (bytesV (l ++ [0])) := by
  have q := hown'; simp only [bytesV, List.map_append, List.length_append] at q ⊢; exact q
 obtain ⟨g, cap, hv, hcap, hg⟩ := ownsRow_some hown2 (by simp);have HP : Hid (w'.ownsRow 0 5 1 v' (l ++ [0]).length (bytesV (l ++ [0])) ∧ v'.ownBlock ≠ some B ∧ ∀ k, v'.ownBlock = some k → v.ownBlock = some k ∨ w.heap.size ≤ k) := ⟨hown2, hap', hnew⟩;have ST : WStep w (w'.setCell ⟨B, o, none⟩ v') B o v v' := by
  refine ⟨(K.mono fun _ _ q => .inr q).setCell (.inl (.inl rfl)) _, ?_, ?_, hnew⟩
  ·intro j h1 h2;refine (World.cell?_setCell_other _ _ _ _ (by intro e; injection e with _ e2; exact h1 e2.symm)).trans (K.cell hB hap)
  ·intro j;rw [World.frozen?_setCell]; exact K.frozen hB hap
 have HST := Lib.hid ST;clear ST;clear hown' hgrow hown2 hap' hnew hat K c0 c1 f0 f1;rw [hv] at HP HST ⊢;clear hv;obtain ⟨hown3, hap3, hnew3⟩ := HP.out;have hne : g ≠ B := fun e => hap3 (by rw [e]; rfl);have eL : (l ++ [0]).length = l.length + 1 := by simp
 rw [eL] at hown3 HST;go_wp2
 have a1 : (⟨B, o, none⟩ : Addr) ≠ ⟨B, o + 1, none⟩ := by intro e; injection e with _ e2; omega
 have y0 : (w'.setCell ⟨B, o, none⟩ (.slice (some ⟨g, 0, none⟩) (l.length + 1) cap)).cell? ⟨B, o, none⟩ = some (.slice (some ⟨g, 0, none⟩) (l.length + 1) cap) := World.cell?_setCell_same _ _ _ e0;have y1 : (w'.setCell ⟨B, o, none⟩ (.slice (some ⟨g, 0, none⟩) (l.length + 1) cap)).cell? ⟨B, o + 1, none⟩ = some (.int .i64 (n : Int)) := (World.cell?_setCell_other _ _ _ _ a1).trans e1;have x0 : (w'.setCell ⟨B, o, none⟩ (.slice (some ⟨g, 0, none⟩) (l.length + 1) cap)).frozen? ⟨B, o, none⟩ = false := by rw [World.frozen?_setCell]; exact z0
 have x1 : (w'.setCell ⟨B, o, none⟩ (.slice (some ⟨g, 0, none⟩) (l.length + 1) cap)).frozen? ⟨B, o + 1, none⟩ = false := by rw [World.frozen?_setCell]; exact z1
 have hown4 : (w'.setCell ⟨B, o, none⟩ (.slice (some ⟨g, 0, none⟩) (l.length + 1) cap)).ownsRow 0 5 1 (.slice (some ⟨g, 0, none⟩) (l.length + 1) cap) (l.length + 1) (bytesV (l ++ [0])) := ownsRow_setCell_other hown3 (by intro e; exact hne (Option.some.inj e)) _;clear a1 e0 e1 z0 z1 hown3 hsz;generalize (w'.setCell ⟨B, o, none⟩ (.slice (some ⟨g, 0, none⟩) (l.length + 1) cap)) = w2 at *;have hj : l.length < (l ++ [0]).length := by omega
 have hcell : w2.cell? ⟨g, l.length, none⟩ = some (.int .u8 ((l ++ [0])[l.length].toNat : Int)) := by
  rw [hown4.cellAt _ (by omega), bytesV_get (l ++ [0]) _ hj]
 have hfr := hown4.frozenAt l.length;have hlenI : (l.length : Int) ≤ 1099511627776 := by omega
 have HE := Lib.hid eL;clear eL;go_wp2
 go_region;go_wp2
 go_end0;refine ⟨rfl, .slice (some ⟨g, 0, none⟩) (l.length + 1) cap, ?_⟩;have q := one_mem w2 B o g cap n V b (l ++ [0]) (by rw [HE.out, HL.out]; have := H8.out; omega) (by rw [num_append_zero]; exact HV.out) hlt hb hne (by rw [HE.out]; exact y0) y1 x0 x1 (by rw [HE.out]; exact hown4) (by rw [HE.out]; omega)
  (bits BinOp.or IntKind.u8 0 ((b : Int) * 2 ^ (n % 8) % 256)) (by simp)
 simp only [HE.out, Nat.add_sub_cancel] at q;exact ⟨q.1, HST.out.trans q.2⟩
/-- one bit more, whatever it is: only whether the number is odd counts -/
theorem one_calls (B o n V b : Nat) (v : Value) (w : World) (hW : WAt w B o v V n) (hb : b ≤ 1) (hn : n < 1099511627776) :
  Calls Tryd.prog 104 #[.pointer (some ⟨B, o, none⟩), .int .u32 (b : Int)] w fun e w' => e = .returned (.tuple #[]) ∧ ∃ v', WAt w' B o v' (V + b * 2 ^ n) (n + 1) ∧ WStep w w' B o v v' := by
 by_cases h : n % 8 = 0
 ·exact one_new B o n V b v w hW hb hn h
 ·exact one_in B o n V b v w hW hb hn h
end Go.Proofs.YtnhbjgmfbcedaaaDoor
namespace Go.Proofs.YtnhbjgmfbcedaaaDoor
open Go.RowKit
theorem fits_calls (x : Nat) (width : Int) (w : World) (hw1 : -9223372036854775808 ≤ width) (hw2 : width ≤ 9223372036854775807) (hx : x < 4294967296) :
  Calls Tryd.prog 103 #[.int .u32 (x : Int), .int .i64 width] w fun e w' => e = .returned (.bool (decide (0 ≤ width ∧ width ≤ 32 ∧ x < 2 ^ width.toNat))) ∧ w = w' := by
 by_cases h1 : 0 ≤ width
 ·by_cases h2 : width ≤ 32
  ·obtain ⟨k, rfl⟩ : ∃ k : Nat, width = k := ⟨width.toNat, by omega⟩;have hk : k ≤ 32 := by omega
   go_enter Tryd.func103, Tryd.ntmps103
   go_wp2
   go_ret;refine ⟨ret_bool ?_, rfl⟩;rw [Bool.eq_iff_iff, beq_iff_eq, decide_eq_true_iff];simp only [Int.toNat_natCast];rw [show ((x : Int) / 2 ^ k) = ((x / 2 ^ k : Nat) : Int) by simp];constructor
   ·intro h;have h' : x / 2 ^ k = 0 := by omega
    rcases (Nat.div_eq_zero_iff).1 h' with q | q
    ·have := Nat.two_pow_pos k; omega
    ·exact ⟨by omega, by omega, q⟩
   ·intro h;rw [Nat.div_eq_of_lt h.2.2]; rfl
  ·go_enter Tryd.func103, Tryd.ntmps103
   go_wp2
   go_ret;exact ⟨ret_bool (by symm; simp only [Bool.and_eq_false_iff, decide_eq_false_iff_not]; omega), rfl⟩
 ·go_enter Tryd.func103, Tryd.ntmps103
  go_wp2
  go_ret;exact ⟨ret_bool (by symm; simp only [Bool.and_eq_false_iff, decide_eq_false_iff_not]; omega), rfl⟩
theorem bit_and (x i : Nat) (hx : x / 2 ^ i < 4294967296) : bits BinOp.and IntKind.u32 ((x : Int) / 2 ^ i) 1 = ((x / 2 ^ i % 2 : Nat) : Int) := by
 rw [show (x : Int) / 2 ^ i = ((x / 2 ^ i : Nat) : Int) by simp, show (1 : Int) = ((1 : Nat) : Int) from rfl, u32_and_nat _ _ hx (by decide), Nat.and_one_is_mod]
theorem mod_next (x i : Nat) : x % 2 ^ (i + 1) = x % 2 ^ i + x / 2 ^ i % 2 * 2 ^ i := by
 rw [Nat.pow_succ, Nat.mod_mul, Nat.mul_comm (2 ^ i)]
theorem put_in (B o n V x k : Nat) (v : Value) (w : World) (hW : WAt w B o v V n) (hk : k ≤ 32) (hx : x < 2 ^ k) (hn : n + 32 < 1099511627776) :
  Calls Tryd.prog 72 #[.pointer (some ⟨B, o, none⟩), .int .u32 (x : Int), .int .i64 (k : Int)] w fun e w' => e = .returned .nilIface ∧ ∃ v', WAt w' B o v' (V + x * 2 ^ n) (n + k) ∧ WStep w w' B o v v' := by
 have hx32 : x < 4294967296 := Nat.lt_of_lt_of_le hx (Nat.pow_le_pow_right (n := 2) (by decide) hk);have hfit : decide (0 ≤ (k : Int) ∧ (k : Int) ≤ 32 ∧ x < 2 ^ (k : Int).toNat) = true := by rw [decide_eq_true_iff]; exact ⟨by omega, by omega, by simpa using hx⟩
 have HX := Lib.hid hx;have HW := Lib.hid hW;have HF := Lib.hid hfit;clear hx hW hfit;go_enter Tryd.func72, Tryd.ntmps72
 go_wp2_with fail;refine (fits_calls x k _ (by omega) (by omega) hx32).mono ?_;rintro e w1 ⟨he, rfl⟩;rw [HF.out] at he;subst he;go_wp2_with fail;go_loopw [7, 14] (fun _ c wr => ∃ (i : Nat) (u : Value), i ≤ k ∧ c = .int .i64 i ∧ Hid (WAt wr B o u (V + x % 2 ^ i * 2 ^ n) (n + i)) ∧ Hid (WStep w wr B o v u)) (fun _ c _ => k - (intOf c).toNat)
 case atStart =>
  refine ⟨0, v, by omega, rfl, ?_, Lib.hid (WStep.refl _ _ _ _)⟩;have q := HW.out;show WAt _ _ _ _ _ _;simpa [Nat.mod_one] using q
 case round =>
  obtain ⟨i, u, hi, rfl, HA, HS⟩ := hrel;by_cases hlt : i < k
  ·go_wp2_with fail;rw [bit_and x i (Nat.lt_of_le_of_lt (Nat.div_le_self _ _) hx32)];refine (one_calls B o (n + i) _ _ u _ HA.out (by omega) (by omega)).mono ?_;rintro e w2 ⟨rfl, u2, hA2, hS2⟩;have HA2 := Lib.hid hA2;have HS2 := Lib.hid (HS.out.trans hS2);clear hA2 hS2 HA HS;go_wp2_with fail;go_roundw
   case rel =>
    refine ⟨i + 1, u2, by omega, by go_num, ?_, HS2⟩;show WAt _ _ _ _ _ _;have e1 : V + x % 2 ^ (i + 1) * 2 ^ n = V + x % 2 ^ i * 2 ^ n + x / 2 ^ i % 2 * 2 ^ (n + i) := by
     rw [mod_next, Nat.add_mul, Nat.pow_add, Nat.mul_assoc (x / 2 ^ i % 2), Nat.mul_comm (2 ^ i) (2 ^ n), Nat.add_assoc]
    rw [e1]; exact HA2.out
   case measure => simp [intOf]; omega
  ·obtain rfl : i = k := by omega
   go_wp2_with fail;go_ret;refine ⟨rfl, u, ?_, HS.out⟩;have q := HA.out;rwa [Nat.mod_eq_of_lt HX.out] at q
theorem text_calls (B o n V : Nat) (v : Value) (w : World) (hW : WAt w B o v V n) :
  Calls Tryd.prog 75 #[.pointer (some ⟨B, o, none⟩)] w fun e w' => (∃ l : List UInt8, l.length = (n + 7) / 8 ∧ Crc.num l = V ∧ e = .returned (.string ⟨l.toArray⟩)) ∧ w = w' := by
 obtain ⟨c0, c1, f0, f1, ⟨l, hl, hV, hown⟩, hap, hlt⟩ := hW;rcases ownsRow_slice hown with ⟨rfl, h0⟩ | ⟨g, cap, rfl⟩
 ·have hcr : (convert 61 9 (.slice none 0 0)).run Tryd.prog w = .ok (.string ⟨l.toArray⟩) w := by
   obtain rfl := List.eq_nil_of_length_eq_zero h0;rw [run_convert_bytes_string w 61 9 5 none 0 0 Tryd.underlying61 Tryd.underlying5 Tryd.underlying9];rfl
  have HL := Lib.hid hl;have HV := Lib.hid hV;clear hl hV h0;go_enter Tryd.func75, Tryd.ntmps75
  go_wp2
  go_ret;exact ⟨⟨l, HL.out, HV.out, rfl⟩, rfl⟩
 ·have hcr : (convert 61 9 (.slice (some ⟨g, 0, none⟩) l.length cap)).run Tryd.prog w = .ok (.string ⟨l.toArray⟩) w := by
   refine run_convert_bytes_back (P := Tryd.prog) w 61 9 5 ⟨g, 0, none⟩ _ l Tryd.underlying61 Tryd.underlying5 Tryd.underlying9 (fun j hj => ?_);rw [add_plain, hown.cellAt _ (by omega), bytesV_get l _ hj]
  have HL := Lib.hid hl;have HV := Lib.hid hV;clear hl hV;go_enter Tryd.func75, Tryd.ntmps75
  go_wp2
  go_ret;exact ⟨⟨l, HL.out, HV.out, rfl⟩, rfl⟩
end Go.Proofs.YtnhbjgmfbcedaaaDoor
namespace Go.Proofs.YtnhbjgmfbcedaaaDoor
open Go.RowKit
structure RAt (w : World) (B o : Nat) (s : ByteArray) (a : Nat) : Prop where
  c0 : w.cell? ⟨B, o, none⟩ = some (.string s)
  c1 : w.cell? ⟨B, o + 1, none⟩ = some (.int .i64 (a : Int))
  f1 : w.frozen? ⟨B, o + 1, none⟩ = false
  size : s.size ≤ 1099511627776
  le : a ≤ 8 * s.size + 8
structure RStep (w w' : World) (B o : Nat) : Prop where
  keeps : Keeps (fun k => k = B) w w'
  cells : ∀ j, j ≠ o + 1 → w'.cell? ⟨B, j, none⟩ = w.cell? ⟨B, j, none⟩
  marks : ∀ j, w'.frozen? ⟨B, j, none⟩ = w.frozen? ⟨B, j, none⟩
theorem RStep.refl (w : World) (B o : Nat) : RStep w w B o := ⟨Keeps.refl _ _, fun _ _ => rfl, fun _ => rfl⟩
theorem RStep.trans {a b c : World} {B o : Nat} (h : RStep a b B o) (k : RStep b c B o) : RStep a c B o :=
  ⟨h.keeps.trans k.keeps fun _ _ q => q, fun j h1 => (k.cells j h1).trans (h.cells j h1), fun j => (k.marks j).trans (h.marks j)⟩
theorem RAt.drewN {w : World} {B o a : Nat} {s : ByteArray} (h : RAt w B o s a) (m : Nat) : RAt (w.drewN m) B o s a := ⟨h.c0, h.c1, h.f1, h.size, h.le⟩
theorem RStep.drewN {w w' : World} {B o : Nat} (h : RStep w w' B o) (m : Nat) : RStep w (w'.drewN m) B o := ⟨h.keeps.drewN m, h.cells, h.marks⟩
theorem RAt.put {w : World} {B o a : Nat} {s : ByteArray} (h : RAt w B o s a) (a' : Nat) (h' : a' ≤ 8 * s.size + 8) :
    RAt (w.setCell ⟨B, o + 1, none⟩ (.int .i64 (a' : Int))) B o s a' ∧ RStep w (w.setCell ⟨B, o + 1, none⟩ (.int .i64 (a' : Int))) B o := by
  have a3 : (⟨B, o + 1, none⟩ : Addr) ≠ ⟨B, o, none⟩ := by intro e; injection e with _ e2; omega
  refine ⟨⟨(World.cell?_setCell_other _ _ _ _ a3).trans h.c0, World.cell?_setCell_same _ _ _ h.c1, ?_, h.size, h'⟩, ⟨(Keeps.refl (fun k => k = B) w).setCell (.inl rfl) _, ?_, ?_⟩⟩
  · rw [World.frozen?_setCell]; exact h.f1
  · intro j h2
    exact World.cell?_setCell_other _ _ _ _ (by intro e; injection e with _ e2; exact h2 e2.symm)
  · intro j; rw [World.frozen?_setCell]
theorem left_calls (B o a : Nat) (s : ByteArray) (w : World) (hR : RAt w B o s a) :
    Calls Tryd.prog 127 #[.pointer (some ⟨B, o, none⟩)] w fun e w' => e = .returned (.int .i64 (8 * (s.size : Int) - a)) ∧ ∃ m, w' = w.drewN m := by
  obtain ⟨c0, c1, f1, hs, hle⟩ := hR
  go_enter Tryd.func127, Tryd.ntmps127
  go_wp2
  go_quiet (fail)
  go_wp2
  go_ret
  exact ⟨rfl, _, rfl⟩
theorem at_calls (B o a : Nat) (s : ByteArray) (w : World) (hR : RAt w B o s a) :
    Calls Tryd.prog 39 #[.pointer (some ⟨B, o, none⟩)] w fun e w' => e = .returned (.int .i64 (a : Int)) ∧ w = w' := by
  obtain ⟨c0, c1, f1, hs, hle⟩ := hR
  go_enter Tryd.func39, Tryd.ntmps39
  go_wp2
  go_ret
  exact ⟨rfl, rfl⟩
theorem newReader_calls (s : ByteArray) (w : World) (hs : s.size ≤ 1099511627776) :
    Calls Tryd.prog 36 #[.string s] w fun e w' => e = .returned (.pointer (some ⟨w.heap.size, 0, none⟩)) ∧ RAt w' w.heap.size 0 s 0 ∧ Ext w w' := by
  go_enter Tryd.func36, Tryd.ntmps36
  go_wp2
  go_ret
  refine ⟨rfl, ⟨?_, ?_, ?_, hs, by omega⟩, ?_⟩
  · rw [World.cell?_alloc_at _ _ _ _ rfl]; rfl
  · rw [World.cell?_alloc_at _ _ _ _ rfl]; rfl
  · rw [World.frozen?_alloc_at _ _ _ _ rfl]
  · exact ((Below.refl _ _).alloc (Nat.le_refl _) _)
theorem byte_bit (l : List UInt8) (p : Nat) (hj : p / 8 < l.length) : l[p / 8].toNat / 2 ^ (p % 8) % 2 = Crc.num l / 2 ^ p % 2 := by
  rw [num_byte l (p / 8) hj, show (256 : Nat) ^ (p / 8) = 2 ^ (8 * (p / 8)) by rw [Nat.pow_mul], show (256 : Nat) = 2 ^ 8 from rfl]
  have h : ∀ x : Nat, x % 2 ^ 8 / 2 ^ (p % 8) % 2 = x / 2 ^ (p % 8) % 2 := by
    intro x
    have h1 : (x % 2 ^ 8).testBit (p % 8) = x.testBit (p % 8) := by rw [Nat.testBit_mod_two_pow]; have : p % 8 < 8 := by omega
                                                                    simp [this]
    rw [Nat.testBit_eq_decide_div_mod_eq, Nat.testBit_eq_decide_div_mod_eq, decide_eq_decide] at h1
    omega
  rw [h, Nat.div_div_eq_div_mul, ← Nat.pow_add, show 8 * (p / 8) + p % 8 = p by omega]
theorem get_next (N a i y t : Nat) (hi : i < 32) (hy : y < 256) (hb : y / 2 ^ t % 2 = N / 2 ^ (a + i) % 2) :
    bits BinOp.or IntKind.u32 ((N : Int) / 2 ^ a % 2 ^ i) (bits BinOp.and IntKind.u8 ((y : Int) / 2 ^ t) 1 % 4294967296 * 2 ^ i % 4294967296) = ((N / 2 ^ a % 2 ^ (i + 1) : Nat) : Int) := by
  have hp : 2 ^ i ≤ 2 ^ 31 := Nat.pow_le_pow_right (by decide) (by omega)
  have e1 : bits BinOp.and IntKind.u8 ((y : Int) / 2 ^ t) 1 = ((y / 2 ^ t % 2 : Nat) : Int) := by
    have : y / 2 ^ t < 256 := Nat.lt_of_le_of_lt (Nat.div_le_self _ _) hy
    rw [show (y : Int) / 2 ^ t = ((y / 2 ^ t : Nat) : Int) by simp, show (1 : Int) = ((1 : Nat) : Int) from rfl, u8_and_nat _ _ this (by decide), Nat.and_one_is_mod]
  rw [e1, hb]
  have e2 : ((N / 2 ^ (a + i) % 2 : Nat) : Int) % 4294967296 * 2 ^ i % 4294967296 = ((N / 2 ^ a / 2 ^ i % 2 * 2 ^ i : Nat) : Int) := by
    rw [Nat.div_div_eq_div_mul, ← Nat.pow_add]
    have hb2 : N / 2 ^ (a + i) % 2 < 2 := Nat.mod_lt _ (by decide)
    generalize N / 2 ^ (a + i) % 2 = b at *
    rw [show (2 : Int) ^ i = ((2 ^ i : Nat) : Int) by simp]
    generalize 2 ^ i = q at *
    rcases (show b = 0 ∨ b = 1 by omega) with h | h <;> subst h <;> omega
  have hm : N / 2 ^ a % 2 ^ i < 2 ^ i := Nat.mod_lt _ (Nat.two_pow_pos i)
  rw [e2, show (N : Int) / 2 ^ a % 2 ^ i = ((N / 2 ^ a % 2 ^ i : Nat) : Int) by simp, mod_next]
  generalize N / 2 ^ a = A at *
  have hb2 : A / 2 ^ i % 2 < 2 := Nat.mod_lt _ (by decide)
  have hB : A / 2 ^ i % 2 * 2 ^ i ≤ 2 ^ i := by
    generalize A / 2 ^ i % 2 = b at *
    rcases (show b = 0 ∨ b = 1 by omega) with h | h <;> subst h <;> omega
  rw [u32_or_nat _ _ (by omega) (by omega)]
  have h := Nat.two_pow_add_eq_or_of_lt (i := i) (b := A % 2 ^ i) hm (A / 2 ^ i % 2)
  rw [Nat.mul_comm] at h
  rw [Nat.or_comm, ← h, Nat.add_comm]
theorem get_in (B o a k : Nat) (s : ByteArray) (w : World) (hR : RAt w B o s a) (hk : k ≤ 32) (ha : a + k ≤ 8 * s.size) :
    Calls Tryd.prog 105 #[.pointer (some ⟨B, o, none⟩), .int .i64 (k : Int)] w fun e w' => e = .returned (.tuple #[.int .u32 ((Crc.num s.data.toList / 2 ^ a % 2 ^ k : Nat) : Int), .nilIface]) ∧ RAt w' B o s (a + k) ∧ RStep w w' B o := by
  have hle := hR.le
  have hs := hR.size
  have HR := Lib.hid hR
  clear hR
  go_enter Tryd.func105, Tryd.ntmps105
  go_wp2_with fail
  refine (left_calls B o a s _ HR.out).mono ?_
  rintro e w1 ⟨rfl, m, rfl⟩
  go_wp2_with fail
  go_loopw [6, 7, 21] (fun x _ c wr => ∃ (i : Nat), i ≤ k ∧ x = .int .u32 ((Crc.num s.data.toList / 2 ^ a % 2 ^ i : Nat) : Int) ∧ c = .int .i64 i ∧ Hid (RAt wr B o s (a + i)) ∧ Hid (RStep w wr B o)) (fun _ _ c _ => k - (intOf c).toNat)
  case atStart =>
    refine ⟨0, by omega, by simp [Nat.mod_one], rfl, ?_, ?_⟩
    · exact Lib.hid (HR.out.drewN m)
    · exact Lib.hid ((RStep.refl _ _ _).drewN m)
  case round =>
    obtain ⟨i, hi, rfl, rfl, HA, HS⟩ := hrel
    by_cases hlt : i < k
    · obtain ⟨c0, c1, f1, _, _⟩ := HA.out
      have hj : (a + i) / 8 < s.size := by omega
      have hj1 : (0 : Int) ≤ ((a : Int) + i) / 8 := by omega
      have hj2 : ((a : Int) + i) / 8 < (s.size : Int) := by omega
      go_wp2_with fail
      go_region
      go_wp2
      go_roundw
      case rel =>
        have hb := byte_bit s.data.toList (a + i) (by simpa using hj)
        refine ⟨i + 1, by omega, val_int ?_, by go_num, ?_, ?_⟩
        · exact get_next (Crc.num s.data.toList) a i _ _ (by omega) (UInt8.toNat_lt _) (by simp at hb; exact hb)
        · have q := (HA.out.put (a + i + 1) (by omega)).1.drewN 1
          rw [show ((a + i + 1 : Nat) : Int) = (a : Int) + i + 1 by omega] at q
          exact q
        · have q := (HA.out.put (a + i + 1) (by omega)).2
          rw [show ((a + i + 1 : Nat) : Int) = (a : Int) + i + 1 by omega] at q
          exact (HS.out.trans q).drewN 1
      case measure => simp [intOf]; omega
    · obtain rfl : i = k := by omega
      go_wp2_with fail
      exact bodyPost_ret (v := .tuple #[.int .u32 ((Crc.num s.data.toList / 2 ^ a % 2 ^ i : Nat) : Int), .nilIface]) (by simp [results, Tryd.results105, go_sem, *]) rfl ⟨rfl, HA.out, HS.out⟩
end Go.Proofs.YtnhbjgmfbcedaaaDoor
namespace Go.Proofs.YtnhbjgmfbcedaaaDoor
open Go.RowKit
structure Er2 (w : World) (E : Nat → Addr) : Prop where
  c0 : w.cell? ⟨1, 0, none⟩ = some (.iface 210 (.pointer (some (E 0))))
  c1 : w.cell? ⟨0, 0, none⟩ = some (.iface 210 (.pointer (some (E 1))))
theorem Er2.ext {w w' : World} {E : Nat → Addr} (h : Er2 w E) (hE : Ext w w') : Er2 w' E :=
  ⟨(hE.cell (p := ⟨1, 0, none⟩) (World.block_lt_of_cell? w _ h.c0)).trans h.c0, (hE.cell (p := ⟨0, 0, none⟩) (World.block_lt_of_cell? w _ h.c1)).trans h.c1⟩
theorem Errs.er2 {w : World} {E : Nat → Addr} (h : Errs w E) : Er2 w E := ⟨h.var 0 (by decide), h.var 1 (by decide)⟩
theorem get_text2 (B o a k : Nat) (s : ByteArray) (w : World) (E : Nat → Addr) (hE : Er2 w E) (hR : RAt w B o s a) (hk : k ≤ 32) (ha : 8 * s.size < a + k) (_ha2 : a ≤ 8 * s.size) :
    Calls Tryd.prog 105 #[.pointer (some ⟨B, o, none⟩), .int .i64 (k : Int)] w fun e w' => e = .returned (.tuple #[.int .u32 0, sentV (E 0)]) ∧ Ext w w' := by
  have c1 := hE.c0;clear hE;go_enter Tryd.func105, Tryd.ntmps105
  go_wp2_with fail;refine (left_calls B o a s _ hR).mono ?_;rintro e w2 ⟨rfl, m, rfl⟩;go_wp2_with fail;go_quiet (fail)
  go_wp2
  unfold sentV;go_ret2;exact ⟨rfl, by repeat (first | exact Ext.refl _ | refine Ext.drewN ?_ _)⟩
theorem get_text (B o a k : Nat) (s : ByteArray) (w : World) (E : Nat → Addr) (hE : Errs w E) (hR : RAt w B o s a) (hk : k ≤ 32) (ha : 8 * s.size < a + k) (ha2 : a ≤ 8 * s.size) :
    Calls Tryd.prog 105 #[.pointer (some ⟨B, o, none⟩), .int .i64 (k : Int)] w fun e w' => e = .returned (.tuple #[.int .u32 0, sentV (E 0)]) ∧ Ext w w' :=
  get_text2 B o a k s w E hE.er2 hR hk ha ha2
end Go.Proofs.YtnhbjgmfbcedaaaDoor
namespace Go.Proofs.YtnhbjgmfbcedaaaDoor
open Go.RowKit
theorem WAt.fresh (w : World) (t : TypeId) : WAt (w.alloc (.cells #[.slice none 0 0, .int .i64 0] t)) w.heap.size 0 (.slice none 0 0) 0 0 := by
  refine ⟨?_, ?_, ?_, ?_, ⟨[], rfl, rfl, World.ownsRow_nil _ _ _ _⟩, ?_, by decide⟩
  · rw [World.cell?_alloc_at _ _ _ _ rfl]; rfl
  · rw [World.cell?_alloc_at _ _ _ _ rfl]; rfl
  · rw [World.frozen?_alloc_at _ _ _ _ rfl]
  · rw [World.frozen?_alloc_at _ _ _ _ rfl]
  · intro e; cases e
/-- what a writer did touched only new blocks, if it and its row are new -/
theorem WStep.below {w w' : World} {B o H : Nat} {v v' : Value} (h : WStep w w' B o v v') (hB : H ≤ B) (hv : ∀ k, v.ownBlock = some k → H ≤ k) (hH : H ≤ w.heap.size) : Below H w w' :=
  h.keeps.below hH fun k hk q => by
    rcases q with q | q
    · omega
    · have := hv k q; omega
theorem RStep.below {w w' : World} {B o H : Nat} (h : RStep w w' B o) (hB : H ≤ B) (hH : H ≤ w.heap.size) : Below H w w' :=
  h.keeps.below hH fun k hk q => by subst q; omega
end Go.Proofs.YtnhbjgmfbcedaaaDoor
namespace Go.Proofs.YtnhbjgmfbcedaaaDoor
open Go.RowKit
theorem TAt.kept {S : Nat → Prop} {w w' : World} {T : Nat} {v : Value} {f : Nat → Int} {len : Nat} {l : List Nat} (h : TAt w T v f len l) (hk : Keeps S w w') (hT : ¬ S T) (hv : ∀ k, v.ownBlock = some k → ¬ S k) : TAt w' T v f len l := by
 have hlt : T < w.heap.size := World.block_lt_of_cell? w _ h.cell;exact ⟨fun j hj => (hk.cell (p := ⟨T, j, none⟩) hlt hT).trans (h.many j hj), (hk.cell (p := ⟨T, 16, none⟩) hlt hT).trans h.cell, (hk.frozen (p := ⟨T, 16, none⟩) hlt hT).trans h.free, ownsRow_kept h.row hk hv, h.apart⟩
theorem or_bit (c b : Nat) (hc : c < 1048576) (hb : b < 2) : bits BinOp.or IntKind.i64 ((2 * c : Nat) : Int) (b : Int) = ((2 * c + b : Nat) : Int) := by
 have e : (2 * c) ||| b = 2 * c + b := by
  have := Nat.two_pow_add_eq_or_of_lt (i := 1) (b := b) (by omega) c;simpa using this.symm
 show IntKind.i64.wrap ((BitVec.ofInt 64 ((2 * c : Nat) : Int) ||| BitVec.ofInt 64 (b : Int)).toNat : Int) = _;rw [BitVec.ofInt_natCast, BitVec.ofInt_natCast, BitVec.toNat_or, BitVec.toNat_ofNat, BitVec.toNat_ofNat, Nat.mod_eq_of_lt (by omega), Nat.mod_eq_of_lt (by omega), e, IntKind.wrap_i64];omega
theorem RAt.lt {w : World} {B o a : Nat} {s : ByteArray} (h : RAt w B o s a) : B < w.heap.size := World.block_lt_of_cell? w _ h.c0
theorem RAt.ext {w w' : World} {B o a : Nat} {s : ByteArray} (h : RAt w B o s a) (hE : Ext w w') : RAt w' B o s a :=
 ⟨(hE.cell (p := ⟨B, o, none⟩) h.lt).trans h.c0, (hE.cell (p := ⟨B, o + 1, none⟩) h.lt).trans h.c1, (hE.frozen (p := ⟨B, o + 1, none⟩) h.lt).trans h.f1, h.size, h.le⟩
theorem RStep.of_ext {w w' : World} {B : Nat} (o : Nat) (hE : Ext w w') (hB : B < w.heap.size) : RStep w w' B o :=
 ⟨hE.keeps, fun j _ => hE.cell (p := ⟨B, j, none⟩) hB, fun j => hE.frozen (p := ⟨B, j, none⟩) hB⟩
theorem RStep.after {w0 w w' : World} {B o : Nat} (h : RStep w w' B o) (hX : Ext w0 w) (hB : w0.heap.size ≤ B) : Ext w0 w' := Below.trans hX (h.below hB hX.size)
def NextIs (w' : World) (e : Ending) (B o : Nat) (s : ByteArray) (a : Nat) (f : Nat → Int) (len : Nat) (E : Nat → Addr) : Prop :=
 (∃ n k, 1 ≤ n ∧ n ≤ 15 ∧ a + n ≤ 8 * s.size ∧ NoHit f len (Crc.num s.data.toList) a (n - 1) ∧ k < len ∧ f k = (n : Int) ∧ word f len k = codeAt (Crc.num s.data.toList) a n ∧ e = .returned (.tuple #[.int .i64 (k : Int), .nilIface]) ∧ RAt w' B o s (a + n)) ∨
 ((∀ m, m ≤ 15 → a + m ≤ 8 * s.size → NoHit f len (Crc.num s.data.toList) a m) ∧ e = .returned (.tuple #[.int .i64 0, sentV (E 0)]) ∧ ∃ a', a' ≤ 8 * s.size ∧ RAt w' B o s a')
theorem next_none (T B o a : Nat) (x : Option Addr) (cap : Nat) (f : Nat → Int) (len : Nat) (s : ByteArray) (w0 w : World) (E : Nat → Addr) (hE : Errs w0 E) (hX : Ext w0 w) (hU : upTo f len 15 = 0) (hT : w.cell? ⟨T, 16, none⟩ = some (.slice x 0 cap)) (hR : RAt w B o s a) (ha : a ≤ 8 * s.size) :
  Calls Tryd.prog 110 #[.pointer (some ⟨T, 0, none⟩), .pointer (some ⟨B, o, none⟩)] w fun e w' => NextIs w' e B o s a f len E ∧ RStep w w' B o := by
 have hv := (hE.ext hX).var 0 (by decide);simp only [gk, sentV] at hv;have HR := Lib.hid hR;have HU := Lib.hid hU;clear hE hX hR hU;go_enter Tryd.func110, Tryd.ntmps110
 go_wp2_with fail;refine wp_loop_rounds 1 ?_;rw [rounds_succ];go_wp2_with fail;go_region;all_goals go_wp2_with fail
 all_goals go_ret2
 all_goals exact ⟨.inr ⟨fun m hm _ => by
  intro j h1 h2;exact NoHit.all (NoHit.zero f len (Crc.num s.data.toList) a) (by rw [HU.out]; exact Nat.zero_le _) (by omega) j h1 (by omega), rfl, a, ha, HR.out.drewN 1⟩, (RStep.refl _ _ _).drewN 1⟩
theorem next_some (T B o a g cap : Nat) (f : Nat → Int) (len : Nat) (s : ByteArray) (w0 w : World) (E : Nat → Addr) (hE : Errs w0 E) (hX : Ext w0 w) (hB : w0.heap.size ≤ B) (hl : len ≤ 300) (hT : TAt w T (.slice (some ⟨g, 0, none⟩) (upTo f len 15) cap) f len (symA f len 15)) (hR : RAt w B o s a) (ha : a ≤ 8 * s.size) (hTB : T ≠ B) (hvB : g ≠ B) :
  Calls Tryd.prog 110 #[.pointer (some ⟨T, 0, none⟩), .pointer (some ⟨B, o, none⟩)] w fun e w' => NextIs w' e B o s a f len E ∧ RStep w w' B o := by
 have hsz := hR.size;have HE := Lib.hid hE;have HX := Lib.hid hX;have HT := Lib.hid hT;have HR := Lib.hid hR;have HTB := Lib.hid hTB;have HVB := Lib.hid hvB;have HLL := Lib.hid (symA_length f len 15);have HS0 := Lib.hid (hit_sym f len);clear hE hX hT hR hTB hvB;go_enter Tryd.func110, Tryd.ntmps110
 go_wp2_with fail;go_loopw [6, 7, 8, 9] (fun c fi at_ n wr => ∃ m : Nat, m ≤ 15 ∧ c = .int .i64 ((2 * codeAt (Crc.num s.data.toList) a m : Nat) : Int) ∧ fi = .int .i64 (first f len (m + 1) : Int) ∧ at_ = .int .i64 (upTo f len m : Int) ∧ n = .int .i64 ((m : Int) + 1) ∧ Hid (NoHit f len (Crc.num s.data.toList) a m) ∧ a + m ≤ 8 * s.size ∧ Hid (RAt wr B o s (a + m)) ∧ Hid (RStep w wr B o)) (fun _ _ _ n _ => 16 - (intOf n).toNat)
 case atStart => exact ⟨0, by omega, rfl, rfl, rfl, rfl, Lib.hid (NoHit.zero _ _ _ _), by omega, HR, Lib.hid (RStep.refl _ _ _)⟩
 case round =>
  obtain ⟨m, hm, rfl, rfl, rfl, rfl, HN, ham, HA, HS⟩ := hrel;have hTw := HT.out.kept (S := fun k => k = B) HS.out.keeps HTB.out (fun k hk e => HVB.out (by cases hk; exact e));have hcl : codeAt (Crc.num s.data.toList) a m < 32768 := Nat.lt_of_lt_of_le (codeAt_lt _ _ m) (Nat.pow_le_pow_right (n := 2) (by decide) hm);have hu1 : upTo f len m ≤ 4500 := Nat.le_trans (upTo_bd f len m) (Nat.mul_le_mul hm hl);have hu2 : upTo f len 15 ≤ 4500 := Nat.le_trans (upTo_bd f len 15) (Nat.mul_le_mul (Nat.le_refl _) hl);have hfi := HN.out.next;have c16 := hTw.cell;have HTW := Lib.hid hTw;clear hTw;obtain ⟨C, hC⟩ : ∃ C, 2 * codeAt (Crc.num s.data.toList) a m = C := ⟨_, rfl⟩;obtain ⟨F, hF⟩ : ∃ F, first f len (m + 1) = F := ⟨_, rfl⟩
  obtain ⟨U, hU⟩ : ∃ U, upTo f len m = U := ⟨_, rfl⟩;obtain ⟨V, hV⟩ : ∃ V, upTo f len 15 = V := ⟨_, rfl⟩;have hC2 : C ≤ 65536 := by omega
  rw [hC, hF] at hfi;rw [hU] at hu1;rw [hV] at hu2 c16;rw [hC, hF, hU];have HC := Lib.hid hC;have HF := Lib.hid hF;have HU := Lib.hid hU;have HV := Lib.hid hV;clear hC hF hU hV hcl;by_cases hgo : m < 15 ∧ U < V
  ·obtain ⟨hm15, hup⟩ := hgo;have t1 : decide ((m : Int) + 1 ≤ 15) = true := decide_eq_true (by omega);have t2 : decide (U < V) = true := decide_eq_true hup;by_cases hbit : a + m + 1 ≤ 8 * s.size
   ·obtain ⟨b, hb⟩ : ∃ b, Crc.num s.data.toList / 2 ^ (a + m) % 2 = b := ⟨_, rfl⟩;have hb2 : b < 2 := by rw [← hb]; exact Nat.mod_lt _ (by decide)
    have HBI := Lib.hid hb;clear hb;go_wp2_with fail;refine (get_in B o (a + m) 1 s _ HA.out (by omega) hbit).mono ?_;rintro e w2 ⟨rfl, hA2, hS2⟩;rw [show (2 : Nat) ^ 1 = 2 from rfl, HBI.out];have HA2 := Lib.hid hA2;have HS2 := Lib.hid (HS.out.trans hS2);have hTw2 := HT.out.kept (S := fun k => k = B) (HS2.out).keeps HTB.out (fun k hk e => HVB.out (by cases hk; exact e));have hcn := hTw2.many (m + 1) (by omega);have c16' := hTw2.cell;rw [HV.out] at c16';have HTW2 := Lib.hid hTw2;obtain ⟨K, hK⟩ : ∃ K, many f (m + 1) len = K := ⟨_, rfl⟩;have hKl : K ≤ 300 := by rw [← hK]; exact Nat.le_trans (many_le f (m + 1) len) hl
    rw [hK] at hcn;obtain ⟨D, hD⟩ : ∃ D, C + b = D := ⟨_, rfl⟩;have hor : bits BinOp.or IntKind.i64 (C : Int) (b : Int) = (D : Int) := by
     have := or_bit (codeAt (Crc.num s.data.toList) a m) b (Nat.lt_of_lt_of_le (codeAt_lt _ _ m) (Nat.pow_le_pow_right (n := 2) (by decide) (by omega : m ≤ 20))) hb2;rw [HC.out] at this; rw [this, hD]
    have HOR := Lib.hid hor;have hD1 : C ≤ D := by omega
    have hD2 : D ≤ C + 1 := by omega
    have HD := Lib.hid hD;have HK := Lib.hid hK;clear hA2 hS2 hTw2 c16 hD hK;by_cases hhit : D < F + K
    ·have t3 : decide ((D : Int) - F < K) = true := decide_eq_true (by omega);have hcode : codeAt (Crc.num s.data.toList) a (m + 1) = D := by
      rw [← HD.out, ← HC.out, ← HBI.out]; rfl
     obtain ⟨k, hk1, hk2, hk3, hk4⟩ := HS0.out D (m + 1) (by omega) (by omega) (by rw [HF.out]; omega) (by rw [HF.out, HK.out]; exact hhit);rw [Nat.add_sub_cancel, HU.out, HF.out] at hk1;have hidx : U + D - F < V := by
      rw [← HV.out, ← HLL.out];rcases Nat.lt_or_ge (U + (D - F)) (symA f len 15).length with q | q
      ·omega
      ·rw [List.getElem?_eq_none q] at hk1; cases hk1
     have hrow := HTW2.out.row;rw [HLL.out, HV.out] at hrow;have hcell : w2.cell? ⟨g, U + D - F, none⟩ = some (.int .i64 (k : Int)) := by
      have q := hrow.cellAt (U + D - F) (by omega);rw [q]; unfold symV; rw [List.getElem?_map, show U + D - F = U + (D - F) by omega, hk1]; rfl
     have HK2 := Lib.hid hk2;have HK3 := Lib.hid hk3;have HK4 := Lib.hid hk4;have HCD := Lib.hid hcode;have hi1 : (0 : Int) ≤ (U : Int) + D - F := by omega
     have hi2 : (U : Int) + D - F < (V : Int) := by omega
     clear hrow hk1 hk2 hk3 hk4 hcode t3 hcn hor;have t3 : decide ((D : Int) - F < K) = true := decide_eq_true (by omega);have hcn := HTW2.out.many (m + 1) (by omega);rw [HK.out] at hcn;have hor : bits BinOp.or IntKind.i64 (C : Int) (b : Int) = (D : Int) := HOR.out;go_wp2_with fail;go_ret2;refine ⟨.inl ⟨m + 1, k, by omega, by omega, by omega, ?_, HK2.out, HK3.out, ?_, rfl, HA2.out⟩, HS2.out⟩
     ·rw [Nat.add_sub_cancel]; exact HN.out
     ·rw [HCD.out]; exact HK4.out
    ·have t3 : decide ((D : Int) - F < K) = false := decide_eq_false (by omega);go_wp2_with fail;go_roundw
     case rel =>
      have hcode : codeAt (Crc.num s.data.toList) a (m + 1) = D := by
       rw [← HD.out, ← HC.out, ← HBI.out]; rfl
      refine ⟨m + 1, by omega, ?_, ?_, ?_, by go_num, Lib.hid (HN.out.succ ?_), by omega, HA2, HS2⟩
      ·rw [hcode]; exact val_int (by omega)
      ·rw [first_succ f len (m + 1) (by omega), HF.out, HK.out]; exact val_int (by omega)
      ·exact val_int (by rw [← HU.out, ← HK.out]; simp only [upTo]; omega)
      ·rw [hcode, HF.out, HK.out]; omega
     case measure => simp [intOf]; omega
   ·have hv := (HE.out.ext (HS.out.after HX.out hB)).var 0 (by decide);go_wp2_with fail;refine (get_text B o (a + m) 1 s _ E (HE.out.ext (HS.out.after HX.out hB)) HA.out (by omega) (by omega) ham).mono ?_;rintro e w2 ⟨rfl, h2⟩;have HA2 := Lib.hid (HA.out.ext h2);have HS2 := Lib.hid (HS.out.trans (RStep.of_ext o h2 HA.out.lt));clear h2 hv c16;unfold sentV;go_wp2_with fail;go_ret2;refine ⟨.inr ⟨fun m' h1 h2 => ?_, rfl, a + m, ham, HA2.out⟩, HS2.out⟩;have : m' ≤ m := by omega
    exact fun j q1 q2 => HN.out j q1 (by omega)
  ·have hv := (HE.out.ext (HS.out.after HX.out hB)).var 0 (by decide);simp only [gk, sentV] at hv;by_cases hm15 : m < 15
   ·have t1 : decide ((m : Int) + 1 ≤ 15) = true := decide_eq_true (by omega);have t2 : decide (U < V) = false := decide_eq_false (by omega);have huv : V ≤ U := by omega
    go_wp2_with fail;go_region;all_goals go_wp2_with fail
    all_goals go_ret2
    all_goals exact ⟨.inr ⟨fun m' h1 h2 => fun j q1 q2 => NoHit.all HN.out (by rw [HV.out, HU.out]; exact huv) hm j q1 (by omega), rfl, a + m, ham, HA.out.drewN 1⟩, HS.out.drewN 1⟩
   ·have t1 : decide ((m : Int) + 1 ≤ 15) = false := decide_eq_false (by omega);go_wp2_with fail;go_region;all_goals go_wp2_with fail
    all_goals go_ret2
    all_goals exact ⟨.inr ⟨fun m' h1 h2 => fun j q1 q2 => HN.out j q1 (by omega), rfl, a + m, ham, HA.out.drewN 1⟩, HS.out.drewN 1⟩
theorem next_any (T B o a : Nat) (v : Value) (f : Nat → Int) (len : Nat) (s : ByteArray) (w0 w : World) (E : Nat → Addr) (hE : Errs w0 E) (hX : Ext w0 w) (hB : w0.heap.size ≤ B) (hl : len ≤ 300) (hT : TAt w T v f len (symA f len 15)) (hR : RAt w B o s a) (ha : a ≤ 8 * s.size) (hTB : T ≠ B) (hvB : v.ownBlock ≠ some B) :
  Calls Tryd.prog 110 #[.pointer (some ⟨T, 0, none⟩), .pointer (some ⟨B, o, none⟩)] w fun e w' => NextIs w' e B o s a f len E ∧ RStep w w' B o := by
 have hrow := hT.row;rcases ownsRow_slice hrow with ⟨rfl, h2⟩ | ⟨g, cap, rfl⟩
 ·exact next_none T B o a none 0 f len s w0 w E hE hX (by rw [← symA_length]; exact h2) hT.cell hR ha
 ·rw [symA_length] at hT hvB;exact next_some T B o a g cap f len s w0 w E hE hX hB hl hT hR ha hTB (fun e => hvB (by rw [e]; rfl))
end Go.Proofs.YtnhbjgmfbcedaaaDoor
namespace Go.Proofs.YtnhbjgmfbcedaaaDoor
open Go.RowKit
theorem word_lt2 (f : Nat → Int) (len k m : Nat) (hc : complete f len) (hk : k < len) (hf : f k = m) (h1 : 1 ≤ m) (h2 : m ≤ 15) : word f len k < first f len m + many f m len ∧ word f len k < 2 ^ m := by
 have hw : word f len k = first f len m + many f m k := by unfold word; rw [if_pos (by omega), hf]; rfl
 have := word_lt f len hc k m hk hf h1 h2;omega
/-- what comes next where a symbol's word stands -/
theorem next_word {w' : World} {e : Ending} {B o a len k m : Nat} {s : ByteArray} {E : Nat → Addr} {f : Nat → Int} (h : NextIs w' e B o s a f len E) (hc : complete f len) (hk : k < len) (hf : f k = m) (h1 : 1 ≤ m) (h2 : m ≤ 15)
  (hs : a + m ≤ 8 * s.size) (hv : codeAt (Crc.num s.data.toList) a m = word f len k) : e = .returned (.tuple #[.int .i64 (k : Int), .nilIface]) ∧ RAt w' B o s (a + m) := by
 have hN := nohit_word hf h1 hv;have hlt := (word_lt2 f len k m hc hk hf h1 h2).1;rcases h with ⟨n, k', q1, q2, _, qN, q5, q6, q7, he, hR⟩ | ⟨hA, _, _⟩
 ·have hlt' := (word_lt2 f len k' n hc q5 q6 q1 q2).1;have hnm : n = m := by
   rcases Nat.lt_trichotomy n m with q | q | q
   ·have := hN n q1 (by omega); omega
   ·exact q
   ·have := qN m h1 (by omega); omega
  subst hnm;have hkk : k' = k := by
   rcases Nat.decEq k' k with q | q
   ·have := apart f len k k' hk (fun e => q e.symm) (by omega) (by omega);rw [q6, hf, Int.sub_self, Int.toNat_zero, Nat.pow_zero, Nat.div_one, q7, hv] at this;exact absurd rfl this
   ·exact q
  subst hkk;exact ⟨he, hR⟩
 ·have := hA m h2 hs m h1 (Nat.le_refl _);omega
theorem ownsRow_ne {w : World} {b b' e e' s s' n n' : Nat} {v v' : Value} {xs xs' : List Value} (h : w.ownsRow b e s v n xs) (h' : w.ownsRow b' e' s' v' n' xs') (hne : e ≠ e') : ∀ k, v.ownBlock = some k → v'.ownBlock ≠ some k := by
 intro k hk hk';rcases h.2 with ⟨rfl, _⟩ | ⟨g, cap, cur, rfl, _, hh, _⟩
 ·cases hk
 ·rcases h'.2 with ⟨rfl, _⟩ | ⟨g', cap', cur', rfl, _, hh', _⟩
  ·cases hk'
  ·have e1 : g = k := by simpa [Value.ownBlock] using hk
   have e2 : g' = k := by simpa [Value.ownBlock] using hk'
   subst e1; subst e2;rw [hh] at hh';injection hh' with q; injection q with _ q2;exact hne q2
/-- a writer and a row of numbers beside it, both newer than H -/
structure WR (w0 w : World) (W0 : Nat) (u : Value) (V n : Nat) (t : Value) (l : List Nat) : Prop where
 ext : Ext w0 w
 wat : WAt w W0 0 u V n
 row : w.ownsRow 0 3 1 t l.length (symV l)
 wn : w0.heap.size ≤ W0
 un : ∀ k, u.ownBlock = some k → w0.heap.size ≤ k
 tn : ∀ k, t.ownBlock = some k → w0.heap.size ≤ k ∧ k ≠ W0
theorem WR.apart {w0 w : World} {W0 : Nat} {u : Value} {V n : Nat} {t : Value} {l : List Nat} (h : WR w0 w W0 u V n t l) : ∀ k, u.ownBlock = some k → t.ownBlock ≠ some k := by
 obtain ⟨b, _, _, hb⟩ := h.wat.row;exact ownsRow_ne hb h.row (by decide)
theorem WR.drew {w0 w : World} {W0 : Nat} {u : Value} {V n : Nat} {t : Value} {l : List Nat} (h : WR w0 w W0 u V n t l) : WR w0 w.drew W0 u V n t l :=
 ⟨h.ext.drew, ⟨h.wat.c0, h.wat.c1, h.wat.f0, h.wat.f1, h.wat.row, h.wat.apart, h.wat.lt⟩, h.row, h.wn, h.un, h.tn⟩
end Go.Proofs.YtnhbjgmfbcedaaaDoor
namespace Go.Proofs.YtnhbjgmfbcedaaaDoor
open Go.RowKit
def Bk (w : World) (b : Nat) (cs : Array Value) : Prop := ∃ t, w.heap[b]? = some (.cells cs t (0, 0))
theorem Bk.lt {w : World} {b : Nat} {cs : Array Value} (h : Bk w b cs) : b < w.heap.size := by obtain ⟨t, h⟩ := h; exact lt_of_block h
theorem Bk.at {w : World} {k : Nat} {cs : Array Value} {t : TypeId} (h : w.heap.size = k) : Bk (w.alloc (.cells cs t)) k cs := ⟨t, by rw [← h]; exact heap_alloc_new w _⟩
theorem Bk.old {w : World} {b : Nat} {cs : Array Value} {o : Obj} (h : Bk w b cs) : Bk (w.alloc o) b cs := by
  have hl := h.lt;obtain ⟨t, h⟩ := h;exact ⟨t, (Below.heap_alloc w o b hl).trans h⟩
theorem Bk.keeps {S : Nat → Prop} {w w' : World} {b : Nat} {cs : Array Value} (h : Bk w b cs) (hk : Keeps S w w') (hS : ¬ S b) : Bk w' b cs := by
  have hl := h.lt;obtain ⟨t, h⟩ := h;exact ⟨t, (hk.block b hl hS).trans h⟩
theorem Bk.ext {w w' : World} {b : Nat} {cs : Array Value} (h : Bk w b cs) (hE : Ext w w') : Bk w' b cs := h.keeps (S := fun _ => False) hE.keeps id
theorem Bk.cell {w : World} {b : Nat} {cs : Array Value} (h : Bk w b cs) (i : Nat) : w.cell? ⟨b, i, none⟩ = cs[i]? := by
  obtain ⟨t, h⟩ := h;exact cell_of_row w b i cs t (0, 0) h
theorem Bk.frozen {w : World} {b : Nat} {cs : Array Value} (h : Bk w b cs) (i : Nat) : w.frozen? ⟨b, i, none⟩ = false := by
  obtain ⟨t, h⟩ := h;simp [World.frozen?, h]
theorem Bk.set_ {w : World} {b : Nat} {cs : Array Value} (h : Bk w b cs) (i : Nat) (u : Value) : Bk (w.setCell ⟨b, i, none⟩ u) b (cs.setIfInBounds i u) := by
  obtain ⟨t, h⟩ := h;exact ⟨t, by simp [World.setCell, Array.getElem?_modify, h]⟩
theorem Bk.far {w : World} {b : Nat} {cs : Array Value} (h : Bk w b cs) {p : Addr} (hp : b ≠ p.block) (u : Value) : Bk (w.setCell p u) b cs := by
  obtain ⟨t, h⟩ := h;exact ⟨t, (Below.heap_setCell w p u b hp).trans h⟩
theorem Bk.drewN {w : World} {b : Nat} {cs : Array Value} (h : Bk w b cs) (n : Nat) : Bk (w.drewN n) b cs := h
theorem Bk.drew {w : World} {b : Nat} {cs : Array Value} (h : Bk w b cs) : Bk w.drew b cs := h
end Go.Proofs.YtnhbjgmfbcedaaaDoor
