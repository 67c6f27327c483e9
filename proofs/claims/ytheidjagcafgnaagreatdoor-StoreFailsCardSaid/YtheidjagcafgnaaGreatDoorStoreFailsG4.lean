/-
  The store's texts: Get, Drop, name, Put.
  store.name, Put.
  Put.
  (*store.Store).Sync's closure: texts, a flush, a head, a flush.
  slices.Sorted(maps.Keys(m)), m a map of texts: the library's contracts laid at this program.
  (*store.Store).Names: the names, sorted.
  A builder that may be empty: its text.
-/
import Derived.Test.YtheidjagcafgnaaGreatDoorStoreFailsG1
import Derived.Test.YtheidjagcafgnaaGreatDoorStoreFailsG3
import Derived.Lib.ConvBytes
import Derived.Shelf.SlIter.Nil
import Derived.Shelf.SortM.Plain
import Derived.Shelf.SortM.SortNone
import Derived.Shelf.SlGeneric
import Derived.Test.YtheidjagcafgnaaGreatDoorProg
import Derived.Test.YtheidjagcafgnaaGreatDoorStoreFailsG2
set_option linter.unusedSimpArgs false
set_option linter.unusedVariables false
set_option maxRecDepth 100000
namespace Go.Proofs.YtheidjagcafgnaaGreatDoor
open Go.RowKit
/-- a store's variable -/
abbrev stV (d mb sy hf : Nat) (lost : Bool) : Array Value := #[.pointer (some ⟨d, 0, none⟩), .map (some mb), .int .u32 (sy : Int), .int .i64 (hf : Int), .bool lost]
/-- a text's answer -/
def GetP (w w' : World) (E : Nat → Addr) (r : Option ByteArray) (e : Ending) : Prop :=
 Ext w w' ∧ match r with
 | some t => e = .returned (.tuple #[.string t, .nilIface])
 | none => e = .returned (.tuple #[.string ⟨#[]⟩, sentV (E 5)])
theorem get_any (s mb n : Nat) (L : List Ck) (k : ByteArray) (w : World) (E : Nat → Addr) (hE : Errs w E) (c1 : w.cell? ⟨s, 1, none⟩ = some (.map (some mb))) (hT : TM w mb n L) (hk : k.size ≤ maxLen) :
  Calls Tryz.prog 23 #[.pointer (some ⟨s, 0, none⟩), .string k] w fun e w' => GetP w w' E (Tx.fnd L k) e := by
 obtain ⟨hl, _, _⟩ := hT.look k hk;obtain ⟨r, hr⟩ : ∃ r, Tx.fnd L k = r := ⟨_, rfl⟩;rw [hr] at hl ⊢;have ec : w.cell? ⟨5, 0, none⟩ = some (.iface 188 (.pointer (some (E 5)))) := hE.var 5 (by decide);clear hr hT hE hk;cases r with
 | some t =>
  simp only [Option.getD_some, Option.isSome_some] at hl;go_enter Tryz.func23, Tryz.ntmps23
  go_wp2_with fail;go_ret2;exact ⟨Ext.refl _, rfl⟩
 | none =>
  simp only [Option.getD_none, Option.isSome_none] at hl;go_enter Tryz.func23, Tryz.ntmps23
  go_wp2_with fail;go_region;all_goals
   go_wp2_with fail;go_ret2;exact ⟨Below.drew (Ext.refl _), rfl⟩
theorem drop_lost (s : Nat) (k : ByteArray) (w : World) (E : Nat → Addr) (hE : Errs w E) (c4 : w.cell? ⟨s, 4, none⟩ = some (.bool true)) :
  Calls Tryz.prog 39 #[.pointer (some ⟨s, 0, none⟩), .string k] w fun e w' => e = .returned (sentV (E 8)) ∧ w' = w := by
 have ec : w.cell? ⟨2, 0, none⟩ = some (.iface 188 (.pointer (some (E 8)))) := hE.var 8 (by decide);clear hE;go_enter Tryz.func39, Tryz.ntmps39
 go_wp2_with fail;go_ret;exact ⟨rfl, rfl⟩
/-- Drop: an error, or one text less -/
theorem drop_any (s mb n : Nat) (L : List Ck) (k : ByteArray) (w : World) (E : Nat → Addr) (hE : Errs w E) (c1 : w.cell? ⟨s, 1, none⟩ = some (.map (some mb))) (c4 : w.cell? ⟨s, 4, none⟩ = some (.bool false)) (hT : TM w mb n L) (hk : k.size ≤ maxLen) :
  Calls Tryz.prog 39 #[.pointer (some ⟨s, 0, none⟩), .string k] w fun e w' => ((Tx.fnd L k = none ∧ e = .returned (sentV (E 5)) ∧ w' = w) ∨ (Tx.fnd L k ≠ none ∧ e = .returned .nilIface ∧ TM w' mb n (Tx.drp L k) ∧ Keeps (fun q => q = mb) w w' ∧ w'.heap.size = w.heap.size)) := by
 obtain ⟨hl, _, _⟩ := hT.look k hk;obtain ⟨w1, hd, hT1, hK1, hz1⟩ := hT.drop k hk 0;have HT1 := Lib.hid (And.intro hT1 (And.intro hK1 hz1));obtain ⟨r, hr⟩ : ∃ r, Tx.fnd L k = r := ⟨_, rfl⟩;rw [hr] at hl ⊢;have ec : w.cell? ⟨5, 0, none⟩ = some (.iface 188 (.pointer (some (E 5)))) := hE.var 5 (by decide);clear hr hT hE hk hT1 hK1 hz1;cases r with
 | some t =>
  simp only [Option.getD_some, Option.isSome_some] at hl;clear ec;go_enter Tryz.func39, Tryz.ntmps39
  go_wp2_with fail;go_ret;exact .inr ⟨by simp, rfl, HT1.out⟩
 | none =>
  simp only [Option.getD_none, Option.isSome_none] at hl;clear hd;go_enter Tryz.func39, Tryz.ntmps39
  go_wp2_with fail;go_ret;exact .inl ⟨by first | trivial | rfl, rfl, rfl⟩
end Go.Proofs.YtheidjagcafgnaaGreatDoor
namespace Go.Proofs.YtheidjagcafgnaaGreatDoor
open Go.RowKit
/-- no byte of a name -/
def badK (c : Nat) : Prop := (c < 97 ∨ 122 < c) ∧ (c < 48 ∨ 57 < c)
instance (c : Nat) : Decidable (badK c) := by unfold badK; infer_instance
def bK (s : ByteArray) (j : Nat) : Nat := (s.data.toList.getD j 0).toNat
/-- a text's name? -/
def isKey (s : ByteArray) : Prop := 1 ≤ s.size ∧ s.size ≤ 12 ∧ ∀ j, j < s.size → ¬ badK (bK s j)
theorem bK_at {s : ByteArray} {i : Nat} (h : i < s.size) : bK s i = (s[i]).toNat := by
 unfold bK;have h' : i < s.data.toList.length := by simpa using h
 rw [List.getD, List.getElem?_eq_getElem h'];simp;rfl
theorem nameBad_any (c : Nat) (hc : c < 256) (w : World) :
  Calls Tryz.prog 56 #[.int .u8 (c : Int)] w fun e w' => e = .returned (.bool (decide (badK c))) ∧ w = w' := by
 obtain ⟨b, hb⟩ : ∃ b : Bool, decide (badK c) = b := ⟨_, rfl⟩;rw [hb];have HB := Lib.hid hb;clear hb;by_cases h1 : c < 97
 ·have t1 : decide ((c : Int) < 97) = true := decide_eq_true (by omega);by_cases h3 : c < 48
  ·have t3 : decide ((c : Int) < 48) = true := decide_eq_true (by omega);have HV : Hid (b = true) := Lib.hid (by rw [← HB.out]; exact decide_eq_true ⟨.inl h1, .inl h3⟩);clear h1 h3 hc;go_enter Tryz.func56, Tryz.ntmps56
   go_wp2_with fail;go_ret;exact ⟨by rw [HV.out]; rfl, rfl⟩
  ·have t3 : decide ((c : Int) < 48) = false := decide_eq_false (by omega);by_cases h4 : 57 < c
   ·have t4 : decide ((57 : Int) < (c : Int)) = true := decide_eq_true (by omega);have HV : Hid (b = true) := Lib.hid (by rw [← HB.out]; exact decide_eq_true ⟨.inl h1, .inr h4⟩);clear h1 h3 h4 hc;go_enter Tryz.func56, Tryz.ntmps56
    go_wp2_with fail;go_ret;exact ⟨by rw [HV.out]; rfl, rfl⟩
   ·have t4 : decide ((57 : Int) < (c : Int)) = false := decide_eq_false (by omega);have HV : Hid (b = false) := Lib.hid (by rw [← HB.out]; exact decide_eq_false (fun q => by rcases q.2 with q | q <;> omega));clear h1 h3 h4 hc;go_enter Tryz.func56, Tryz.ntmps56
    go_wp2_with fail;go_ret;exact ⟨by rw [HV.out]; rfl, rfl⟩
 ·have t1 : decide ((c : Int) < 97) = false := decide_eq_false (by omega);by_cases h2 : 122 < c
  ·have t2 : decide ((122 : Int) < (c : Int)) = true := decide_eq_true (by omega);have t3 : decide ((c : Int) < 48) = false := decide_eq_false (by omega);have t4 : decide ((57 : Int) < (c : Int)) = true := decide_eq_true (by omega);have HV : Hid (b = true) := Lib.hid (by rw [← HB.out]; exact decide_eq_true ⟨.inr h2, .inr (by omega)⟩);clear h1 h2 hc;go_enter Tryz.func56, Tryz.ntmps56
   go_wp2_with fail;go_ret;exact ⟨by rw [HV.out]; rfl, rfl⟩
  ·have t2 : decide ((122 : Int) < (c : Int)) = false := decide_eq_false (by omega);have HV : Hid (b = false) := Lib.hid (by rw [← HB.out]; exact decide_eq_false (fun q => by rcases q.1 with q | q <;> omega));clear h1 h2 hc;go_enter Tryz.func56, Tryz.ntmps56
   go_wp2_with fail;go_ret;exact ⟨by rw [HV.out]; rfl, rfl⟩
/-- a text's bytes in a block -/
def ByB (w : World) (B : Nat) (s : ByteArray) : Prop := ∀ j (h : j < s.size), w.cell? ⟨B, j, none⟩ = some (.int .u8 ((s[j]).toNat : Int))
theorem byB_laid (s : ByteArray) (w : World) : ByB (Lib.bytesWorld w 5 s) w.heap.size s := fun j h => by
 have := Lib.bytesWorld_cell w 5 s j h;rw [this];simp [List.getD, h];rfl
theorem byB_ext (s : ByteArray) (w : World) : Ext w (Lib.bytesWorld w 5 s) := ⟨rfl, rfl, rfl, by rw [Lib.bytesWorld_size]; omega, fun k hk => Lib.bytesWorld_at_old w _ s k hk⟩
theorem idxK (B n cap : Nat) (s : ByteArray) (w : World) (hn : s.size = n) (hm : n ≤ maxLen) (hB : ByB w B s) :
  Calls Tryz.prog 73 #[.slice (some ⟨B, 0, none⟩) n cap, .func (.func 56) #[] #[]] w fun e w' => (∃ i : Int, e = .returned (.int .i64 i) ∧ ((i = -1 ∧ ∀ j, j < n → ¬ badK (bK s j)) ∨ (0 ≤ i ∧ ∃ j, j < n ∧ badK (bK s j)))) ∧ w = w' := by
 unfold maxLen at hm;have HB := Lib.hid hB;clear hB;go_enter Tryz.func73, Tryz.ntmps73
 go_wp2
 go_loop [5, 8] (fun _ c => ∃ i : Nat, i ≤ n ∧ c = .int .i64 i ∧ Hid (∀ j, j < i → ¬ badK (bK s j))) (fun _ c => n - (intOf c).toNat)
 case atStart => exact ⟨0, by omega, rfl, Lib.hid fun j hj => by omega⟩
 case round =>
  obtain ⟨i, hi, rfl, HF⟩ := hrel;by_cases hlt : i < n
  ·have hc := HB.out i (by omega);have HD : Hid (∀ w, Calls Tryz.prog 56 #[.int .u8 (s[i].toNat : Int)] w fun e w' => e = .returned (.bool (decide (badK (bK s i)))) ∧ w = w') := Lib.hid (fun w => by rw [bK_at (by omega)]; exact nameBad_any _ (s[i].toNat_lt) w);generalize s[i].toNat = c at hc HD;go_wp2_with fail;refine (HD.out _).mono ?_;rintro e w1 ⟨rfl, rfl⟩;by_cases hbad : badK (bK s i)
   ·have hb := decide_eq_true hbad;have HBAD := Lib.hid hbad;clear hbad;go_wp2_with fail;go_ret;exact ⟨⟨i, rfl, .inr ⟨by omega, i, hlt, HBAD.out⟩⟩, rfl⟩
   ·have hb := decide_eq_false hbad;have HBAD := Lib.hid hbad;clear hbad;go_wp2_with fail;go_round
    case rel =>
     refine ⟨i + 1, by omega, by go_num, Lib.hid fun j hj => ?_⟩;rcases Nat.lt_succ_iff_lt_or_eq.1 hj with q | rfl
     ·exact HF.out j q
     ·exact HBAD.out
    case measure => simp [intOf]; omega
  ·obtain rfl : i = n := by omega
   go_wp2
   go_ret;exact ⟨⟨-1, rfl, .inl ⟨rfl, HF.out⟩⟩, rfl⟩
theorem hasK (B n cap : Nat) (s : ByteArray) (w : World) (hn : s.size = n) (hm : n ≤ maxLen) (hB : ByB w B s) :
  Calls Tryz.prog 55 #[.slice (some ⟨B, 0, none⟩) n cap, .func (.func 56) #[] #[]] w fun e w' => (∃ b : Bool, e = .returned (.bool b) ∧ ((b = false ∧ ∀ j, j < n → ¬ badK (bK s j)) ∨ (b = true ∧ ∃ j, j < n ∧ badK (bK s j)))) ∧ w = w' := by
 go_enter Tryz.func55, Tryz.ntmps55
 go_wp2_with fail;refine (idxK B n cap s w hn hm hB).mono ?_;rintro e w1 ⟨⟨i, rfl, h⟩, rfl⟩;rcases h with ⟨rfl, h⟩ | ⟨hi, h⟩
 ·have H := Lib.hid h;clear h;go_wp2_with fail;go_ret;exact ⟨⟨false, rfl, .inl ⟨rfl, H.out⟩⟩, rfl⟩
 ·have H := Lib.hid h;have t : decide ((0 : Int) ≤ i) = true := decide_eq_true hi;clear h;go_wp2_with fail;go_ret;exact ⟨⟨true, by simp, .inr ⟨rfl, H.out⟩⟩, rfl⟩
theorem name_any (s : ByteArray) (w : World) (hs : s.size ≤ maxLen) :
  Calls Tryz.prog 33 #[.string s] w fun e w' => (∃ b : Bool, e = .returned (.bool b) ∧ (b = true ↔ isKey s)) ∧ Ext w w' := by
 unfold maxLen at hs;obtain ⟨N, hN⟩ : ∃ N, s.size = N := ⟨_, rfl⟩;by_cases h1 : 1 ≤ N
 ·have t1 : decide ((1 : Int) ≤ (s.size : Int)) = true := decide_eq_true (by omega);by_cases h2 : N ≤ 12
  ·have t2 : decide ((s.size : Int) ≤ 12) = true := decide_eq_true (by omega);have m2 : decide (s.size ≤ 12) = true := decide_eq_true (by omega);have hcv := Lib.run_convert_string_bytes (P := Tryz.prog) w 9 34 5 s Tryz.underlying9 Tryz.underlying34 Tryz.underlying5;have HB := Lib.hid (byB_laid s w);have HX := Lib.hid (byB_ext s w);have HS := Lib.hid hN;clear h1 h2 hN;go_enter Tryz.func33, Tryz.ntmps33
   go_wp2_with fail;refine (hasK _ _ _ s _ rfl (by unfold maxLen; omega) HB.out).mono ?_;rintro e w1 ⟨⟨b, rfl, h⟩, rfl⟩;have H := Lib.hid h;clear h hcv;cases b
   ·go_wp2_with fail;go_ret;exact ⟨⟨true, rfl, ⟨fun _ => (by rcases H.out with q | q; exact ⟨by have := of_decide_eq_true t1; omega, by have := of_decide_eq_true t2; omega, q.2⟩; cases q.1), fun _ => rfl⟩⟩, HX.out⟩
   ·go_wp2_with fail;go_ret;exact ⟨⟨false, rfl, ⟨fun q => (by cases q), fun q => (by rcases H.out with x | x; cases x.1; obtain ⟨j, hj, hb⟩ := x.2; exact absurd hb (q.2.2 j hj))⟩⟩, HX.out⟩
  ·have t2 : decide ((s.size : Int) ≤ 12) = false := decide_eq_false (by omega);have m2 : decide (s.size ≤ 12) = false := decide_eq_false (by omega);have HV : Hid (¬ isKey s) := Lib.hid (fun q => by have := q.2.1; omega);clear h1 h2 hN;go_enter Tryz.func33, Tryz.ntmps33
   go_wp2_with fail;go_ret;exact ⟨⟨false, rfl, ⟨fun q => (by cases q), fun q => absurd q HV.out⟩⟩, Ext.refl _⟩
 ·have t1 : decide ((1 : Int) ≤ (s.size : Int)) = false := decide_eq_false (by omega);have m1 : decide (1 ≤ s.size) = false := decide_eq_false (by omega);have HV : Hid (¬ isKey s) := Lib.hid (fun q => by have := q.1; omega);clear h1 hN;go_enter Tryz.func33, Tryz.ntmps33
  go_wp2_with fail;go_ret;exact ⟨⟨false, rfl, ⟨fun q => (by cases q), fun q => absurd q HV.out⟩⟩, Ext.refl _⟩
end Go.Proofs.YtheidjagcafgnaaGreatDoor
namespace Go.Proofs.YtheidjagcafgnaaGreatDoor
open Go.RowKit
theorem ext_keeps {S : Nat → Prop} {a b c : World} (h : Ext a b) (k : Keeps S b c) : Keeps S a c := (h.keeps (S := S)).trans k (fun _ _ q => q)
/-- no room for a text: too long, or too many -/
def tooMuch (L : List Ck) (k t : ByteArray) : Prop := 300000 < t.size ∨ (Tx.fnd L k = none ∧ 100 ≤ L.length)
instance (L : List Ck) (k t : ByteArray) : Decidable (tooMuch L k t) := by unfold tooMuch; infer_instance
open Classical in
/-- what Put answers -/
noncomputable def putE (L : List Ck) (lost : Bool) (k t : ByteArray) : Option Nat :=
 if lost = true then some 8 else if ¬ isKey k then some 4 else if tooMuch L k t then some 1 else none
def PutP (w w' : World) (E : Nat → Addr) (mb n : Nat) (L : List Ck) (k t : ByteArray) (r : Option Nat) (e : Ending) : Prop :=
 match r with
 | some c => e = .returned (sentV (E c)) ∧ Ext w w'
 | none => e = .returned .nilIface ∧ TM w' mb (n + 1) (Tx.ins k t L) ∧ Keeps (fun q => q = mb) w w'
set_option maxHeartbeats 4000000 in
theorem put_any (s mb n : Nat) (L : List Ck) (lost : Bool) (k t : ByteArray) (w : World) (E : Nat → Addr) (hE : Errs w E) (c1 : w.cell? ⟨s, 1, none⟩ = some (.map (some mb))) (c4 : w.cell? ⟨s, 4, none⟩ = some (.bool lost)) (hT : TM w mb n L) (hs : Tx.Sorted L) (hn : n ≤ 1000000) (hk : k.size ≤ maxLen) (ht : t.size ≤ maxLen) :
  Calls Tryz.prog 11 #[.pointer (some ⟨s, 0, none⟩), .string k, .string t] w fun e w' => PutP w w' E mb n L k t (putE L lost k t) e := by
 obtain ⟨r, hr⟩ : ∃ r, putE L lost k t = r := ⟨_, rfl⟩;rw [hr];unfold putE at hr;obtain ⟨hl, _, _⟩ := hT.look k hk;obtain ⟨fo, hfo⟩ : ∃ b : Bool, (Tx.fnd L k).isSome = b := ⟨_, rfl⟩;obtain ⟨fv, hfv⟩ : ∃ v, (Tx.fnd L k).getD ⟨#[]⟩ = v := ⟨_, rfl⟩;rw [hfo, hfv] at hl;have HFO : Hid (fo = false ↔ Tx.fnd L k = none) := Lib.hid (by rw [← hfo]; cases Tx.fnd L k <;> simp);have HE := Lib.hid hE;have HT := Lib.hid hT;have HTZ := Lib.hid (And.intro hk ht);have ep : w.cell? ⟨2, 0, none⟩ = some (.iface 188 (.pointer (some (E 8)))) := hE.var 8 (by decide);have HNM := Lib.hid (name_any k w hk);unfold maxLen at ht;have HL1 := Lib.hid (World.block_lt_of_cell? w _ c1);have HL4 := Lib.hid (World.block_lt_of_cell? w _ c4);clear hfo hfv hE hT hk;cases lost with
 | true =>
  rw [if_pos rfl] at hr;subst hr;go_enter Tryz.func11, Tryz.ntmps11
  go_wp2_with fail;go_ret;exact ⟨rfl, Ext.refl _⟩
 | false =>
  rw [if_neg (by decide)] at hr;clear ep;go_enter Tryz.func11, Tryz.ntmps11
  go_wp2_with fail;refine HNM.out.mono ?_;rintro e w1 ⟨⟨b, rfl, hb⟩, hX⟩;have X1 := Lib.hid hX;have T1 := Lib.hid (HT.out.ext hX);have en : w1.cell? ⟨3, 0, none⟩ = some (.iface 188 (.pointer (some (E 4)))) := (HE.out.ext hX).var 4 (by decide);have eb : w1.cell? ⟨0, 0, none⟩ = some (.iface 188 (.pointer (some (E 1)))) := (HE.out.ext hX).var 1 (by decide);have d1 : w1.cell? ⟨s, 1, none⟩ = some (.map (some mb)) := (hX.cell (p := ⟨s, 1, none⟩) HL1.out).trans c1;clear hX c1 c4 hl HNM HE HT;have HB := Lib.hid hb;clear hb;cases b with
  | false =>
   rw [if_pos (fun q => by have := HB.out.2 q; cases this)] at hr;subst hr;clear eb;go_wp2_with fail;go_ret;exact ⟨rfl, X1.out⟩
  | true =>
   rw [if_neg (fun q => q (HB.out.1 rfl))] at hr;clear en;obtain ⟨N, hN⟩ : ∃ N, t.size = N := ⟨_, rfl⟩;obtain ⟨M, hM⟩ : ∃ M, L.length = M := ⟨_, rfl⟩;have hlen := T1.out.len hs 3;rw [hM] at hlen;have HTM : Hid (tooMuch L k t ↔ (300000 < N ∨ (fo = false ∧ 100 ≤ M))) := Lib.hid (by unfold tooMuch; rw [hN, hM, HFO.out]);obtain ⟨w2, hst, hT2, hK2, _⟩ := T1.out.store k t HTZ.out.1 HTZ.out.2 (by unfold maxLen; omega);have HR2 := Lib.hid (And.intro hT2 hK2);clear hT2 hK2 hM;by_cases h3 : 300000 < N
   ·have t3 : decide ((300000 : Int) < (N : Int)) = true := decide_eq_true (by omega);rw [if_pos (HTM.out.2 (.inl h3))] at hr;subst hr;clear hst hlen h3;go_wp2_with fail;go_ret;exact ⟨rfl, X1.out⟩
   ·have t3 : decide ((300000 : Int) < (N : Int)) = false := decide_eq_false (by omega);cases fo with
    | true =>
     rw [if_neg (fun q => by rcases HTM.out.1 q with q | q; exact h3 q; cases q.1)] at hr;subst hr;clear eb hlen h3;go_wp2_with fail;go_ret;exact ⟨rfl, HR2.out.1, ext_keeps X1.out HR2.out.2⟩
    | false =>
     by_cases h1 : 100 ≤ M
     ·have t4 : decide ((100 : Int) ≤ (M : Int)) = true := decide_eq_true (by omega);rw [if_pos (HTM.out.2 (.inr ⟨rfl, h1⟩))] at hr;subst hr;clear hst h3 h1;go_wp2_with fail;go_ret;exact ⟨rfl, X1.out⟩
     ·have t4 : decide ((100 : Int) ≤ (M : Int)) = false := decide_eq_false (by omega);rw [if_neg (fun q => by rcases HTM.out.1 q with q | q; exact h3 q; exact h1 q.2)] at hr;subst hr;clear eb h3 h1;go_wp2_with fail;go_ret;exact ⟨rfl, HR2.out.1, ext_keeps X1.out HR2.out.2⟩
end Go.Proofs.YtheidjagcafgnaaGreatDoor
namespace Go.Proofs.YtheidjagcafgnaaGreatDoor
open Go.RowKit
namespace Sto4
/-- how many sectors a text takes -/
def secs (p : ByteArray) : Nat := (p.size + 63) / 64
def part (p : ByteArray) (k : Nat) : ByteArray := p.extract (k * 64) (min p.size ((k + 1) * 64))
/-- a disk on which k sectors of a text were written -/
def wAt (m : Dk.DM) (p : ByteArray) (base : Nat) : Nat → Dk.DM
 | 0 => m
 | k + 1 => Dk.wr (wAt m p base k) (base + k) (Dk.pad (part p k))
/-- how a sync ends -/
inductive SyncR (m : Dk.DM) (p : ByteArray) (base hi : Nat) (h : ByteArray) : Dk.DM → Bool → Prop
 | part (k : Nat) (hk : k ≤ secs p) (h0 : (wAt m p base k).left = 0) : SyncR m p base hi h (wAt m p base k) false
 | flushed (h0 : (Dk.fl (wAt m p base (secs p))).left = 0) : SyncR m p base hi h (Dk.fl (wAt m p base (secs p))) false
 | headed (h0 : (Dk.wr (Dk.fl (wAt m p base (secs p))) hi (Dk.pad h)).left = 0) : SyncR m p base hi h (Dk.wr (Dk.fl (wAt m p base (secs p))) hi (Dk.pad h)) false
 | done : SyncR m p base hi h (Dk.fl (Dk.wr (Dk.fl (wAt m p base (secs p))) hi (Dk.pad h))) true
theorem secs_lt {p : ByteArray} {k : Nat} : k < secs p ↔ k * 64 < p.size := by unfold secs; omega
end Sto4
theorem After.trans {S : Nat → Prop} {w w1 w2 : World} {d n b b1 : Nat} {m m1 : Dk.DM} (h : After S w w1 d n m b) (k : After (grow S w w1) w1 w2 d n m1 b1) : After S w w2 d n m1 b1 := by
 obtain ⟨hD, hK⟩ := h;obtain ⟨kD, kK⟩ := k;obtain ⟨gk, ck, gn, cn, vw, hx⟩ := kD.ex;have hsub : ∀ q, grow (grow S w w1) w1 w2 q → grow S w w2 q := fun q hq => by
  have s1 := hK.size;have s2 := kK.size;rcases hq with (q1 | q1) | q1
  ·exact .inl q1
  ·exact .inr ⟨q1.1, by omega⟩
  ·exact .inr ⟨by omega, q1.2⟩
 refine ⟨⟨⟨gk, ck, gn, cn, vw, hx.mono hsub⟩, kD.ok, fun q hq => ?_, kD.n1⟩, hK.trans kK (fun i hi q => ?_)⟩
 ·rcases hq with q1 | q1
  ·have s1 := kK.size;have s2 := hD.lt q (.inl q1);omega
  ·exact q1.2
 ·rcases q with q | q
  ·exact q
  ·omega
theorem After.refl {S : Nat → Prop} {w : World} {d n b : Nat} {m : Dk.DM} (h : DS w S d n m b) : After S w w d n m b := After.same h (Keeps.refl _ _)
theorem After.ext {S : Nat → Prop} {w w1 w2 : World} {d n b : Nat} {m : Dk.DM} (h : After S w w1 d n m b) (hE : Ext w1 w2) : After S w w2 d n m b :=
 h.trans (After.same (h.1.ext hE) hE.keeps)
theorem DS.zero {w : World} {S : Nat → Prop} {d n b : Nat} {m : Dk.DM} (h : DS w S d n m b) (hw : m.ws = []) : DS w S d n m 0 := ⟨h.ex, ⟨h.ok.left, h.ok.ws, by rw [hw]; exact Nat.le_refl _⟩, h.lt, h.n1⟩
/-- what lies beside the disk while a sync goes on -/
structure SyE (w w0 : World) (S : Nat → Prop) (pb qb ab s d n : Nat) (bx : Array Value) (p : ByteArray) (at_ : Nat) (m : Dk.DM) (b : Nat) : Prop where
 P : Bk w pb #[.string p]
 Q : Bk w qb #[.pointer (some ⟨s, 0, none⟩)]
 A : Bk w ab #[.int .i64 (at_ : Int)]
 B : Bk w s bx
 D : After S w0 w d n m b
 np : ¬ S pb ∧ pb < w0.heap.size
 nq : ¬ S qb ∧ qb < w0.heap.size
 na : ¬ S ab ∧ ab < w0.heap.size
 ns : ¬ S s ∧ s < w0.heap.size
section
variable {w w0 w' : World} {S : Nat → Prop} {pb qb ab s d n : Nat} {bx : Array Value} {p : ByteArray} {at_ : Nat} {m m' : Dk.DM} {b b' : Nat}
theorem ngrow {S : Nat → Prop} {w w' : World} {k : Nat} (h : ¬ S k ∧ k < w.heap.size) : ¬ grow S w w' k := fun q => by rcases q with q | q; exact h.1 q; omega
theorem SyE.ext (h : SyE w w0 S pb qb ab s d n bx p at_ m b) (hE : Ext w w') : SyE w' w0 S pb qb ab s d n bx p at_ m b :=
 ⟨h.P.ext hE, h.Q.ext hE, h.A.ext hE, h.B.ext hE, h.D.ext hE, h.np, h.nq, h.na, h.ns⟩
theorem SyE.go (h : SyE w w0 S pb qb ab s d n bx p at_ m b) (k : After (grow S w0 w) w w' d n m' b') : SyE w' w0 S pb qb ab s d n bx p at_ m' b' :=
 ⟨h.P.keeps k.2 (ngrow h.np), h.Q.keeps k.2 (ngrow h.nq), h.A.keeps k.2 (ngrow h.na), h.B.keeps k.2 (ngrow h.ns), h.D.trans k, h.np, h.nq, h.na, h.ns⟩
end
/-- what the closure answers -/
def SynP (w w' : World) (E : Nat → Addr) (S : Nat → Prop) (pb qb ab s d n : Nat) (bx : Array Value) (p : ByteArray) (at_ : Nat) (m : Dk.DM) (b base hi : Nat) (h : ByteArray) (e : Ending) : Prop :=
 ∃ m' ok b', Sto4.SyncR m p base hi h m' ok ∧ b' ≤ b + Sto4.secs p + 1 ∧ (ok = true → b' = 0) ∧ SyE w' w S pb qb ab s d n bx p at_ m' b' ∧ e = .returned (if ok then .nilIface else sentV (E 8))
set_option linter.unusedSimpArgs false in
set_option maxHeartbeats 8000000 in
theorem syn_any (pb qb ab s d mb n : Nat) (t : ByteArray) (at_ sy hf : Nat) (m : Dk.DM) (b : Nat) (S : Nat → Prop) (w : World) (E : Nat → Addr) (hE : Errs w E) (hB0 : ∀ k, S k → ∀ c, c < 9 → gk c ≠ k ∧ (E c).block ≠ k)
  (h : SyE w w S pb qb ab s d n (stV d mb sy hf false) t at_ m b) (hat : at_ ≤ 1) (hn : 2 ≤ n) (hK : Sto4.secs t ≤ (n - 2) / 2) (hsy : sy ≤ 1000000) (hb : b + Sto4.secs t + 1 ≤ 5000) :
  Calls Tryz.prog 45 #[.pointer (some ⟨pb, 0, none⟩), .pointer (some ⟨qb, 0, none⟩), .pointer (some ⟨ab, 0, none⟩)] w fun e w' => SynP w w' E S pb qb ab s d n (stV d mb sy hf false) t at_ m b (2 + at_ * ((n - 2) / 2)) ((sy + 1) % 2) (Sto4.hd (sy + 1) at_ t.size (Crc.crc t.data.toList)) e := by
 have HN := h.D.1.n1;have hnb : n ≤ 4000 := HN.2;clear HN;obtain ⟨hf2, hhf⟩ : ∃ q, (n - 2) / 2 = q := ⟨_, rfl⟩;have HHF := Lib.hid hhf;rw [hhf] at hK ⊢;obtain ⟨K, hKK⟩ : ∃ K, Sto4.secs t = K := ⟨_, rfl⟩;have HK := Lib.hid hKK;rw [hKK] at hK hb;have hf2b : hf2 ≤ 1999 ∧ 2 * hf2 ≤ n - 2 := by omega
 have hts : t.size ≤ 64 * 2000 := by unfold Sto4.secs at hKK; omega
 obtain ⟨ah, hah⟩ : ∃ q, at_ * hf2 = q := ⟨_, rfl⟩;have hahb : ah ≤ hf2 := by rw [← hah]; exact Nat.le_trans (Nat.mul_le_mul_right _ hat) (by omega)
 rw [hah];obtain ⟨base, hbase⟩ : ∃ q, 2 + ah = q := ⟨_, rfl⟩;rw [hbase];obtain ⟨hi, hhi⟩ : ∃ q, (sy + 1) % 2 = q := ⟨_, rfl⟩;rw [hhi];obtain ⟨hh, hhh⟩ : ∃ q, Sto4.hd (sy + 1) at_ t.size (Crc.crc t.data.toList) = q := ⟨_, rfl⟩;have HHH := Lib.hid hhh;rw [hhh];have mah : (at_ : Int) * (hf2 : Int) = (ah : Int) := by rw [← hah]; push_cast; rfl
 have mb0 : (2 : Int) + (ah : Int) = (base : Int) := by omega
 obtain ⟨wa1, wb1⟩ := stq (x := (ah : Int)) ⟨by omega, by omega⟩;obtain ⟨wa2, wb2⟩ := stq (x := (base : Int)) ⟨by omega, by omega⟩;have HES := Lib.hid (And.intro hE hB0);have H0 := Lib.hid h;have HHI := Lib.hid hhi;have HBS := Lib.hid (And.intro hah hbase);clear hE h hhf hKK hhh hhi hah hbase hB0;have HEA : Hid (∀ wz, SyE wz w S pb qb ab s d n (stV d mb sy hf false) t at_ m b → True) := Lib.hid (fun _ _ => trivial);have HEK : Hid (∀ (wz : World) (m1 : Dk.DM) (b1 : Nat), SyE wz w S pb qb ab s d n (stV d mb sy hf false) t at_ m1 b1 → ErD wz E) := Lib.hid (fun wz m1 b1 hs => by
  have e1 := HES.out.1;have hk := hs.D.2;have hv : ∀ c, c < 9 → wz.cell? ⟨gk c, 0, none⟩ = some (sentV (E c)) := fun c hc => (hk.cell (p := ⟨gk c, 0, none⟩) (World.block_lt_of_cell? w _ (e1.var c hc)) (fun q => (HES.out.2 _ q c hc).1 rfl)).trans (e1.var c hc);exact ⟨hv 1 (by decide), hv 2 (by decide), hv 8 (by decide)⟩)
 clear HEA;go_enter Tryz.func45, Tryz.ntmps45
 go_wp2_with fail;go_loopw [4] (fun kv wr => ∃ k : Nat, kv = .int .i64 (k : Int) ∧ k ≤ K ∧ Hid (SyE wr w S pb qb ab s d n (stV d mb sy hf false) t at_ (Sto4.wAt m t base k) (b + k))) (fun kv _ => K - (intOf kv).toNat)
 case atStart => exact ⟨0, rfl, by omega, H0⟩
 case round =>
  obtain ⟨k, rfl, hk, HX⟩ := hrel;obtain ⟨k64, hk64⟩ : ∃ q, k * 64 = q := ⟨_, rfl⟩;have e1 : (k : Int) * 64 = (k64 : Int) := by omega
  obtain ⟨wa3, wb3⟩ := stq (x := (k64 : Int)) ⟨by omega, by omega⟩;have HLT : Hid (k < K ↔ k64 < t.size) := Lib.hid (by rw [← HK.out, ← hk64]; exact Sto4.secs_lt);have p0 := HX.out.P.cell 0;obtain ⟨mk, hmk⟩ : ∃ q, Sto4.wAt m t base k = q := ⟨_, rfl⟩;have HMK := Lib.hid hmk;rw [hmk] at HX;clear hmk;by_cases hlt : k < K
  ·as_aux_lemma =>
    have hlt2 := HLT.out.1 hlt;have t1 : decide ((k64 : Int) < (t.size : Int)) = true := decide_eq_true (by omega);have n1 : k64 < t.size := hlt2;obtain ⟨kp, hkp⟩ : ∃ q, k + 1 = q := ⟨_, rfl⟩;have e2 : (k : Int) + 1 = (kp : Int) := by omega
    obtain ⟨kp64, hkp64⟩ : ∃ q, kp * 64 = q := ⟨_, rfl⟩;have e3 : (kp : Int) * 64 = (kp64 : Int) := by omega
    obtain ⟨wa4, wb4⟩ := stq (x := (kp : Int)) ⟨by omega, by omega⟩;obtain ⟨wa5, wb5⟩ := stq (x := (kp64 : Int)) ⟨by omega, by omega⟩;obtain ⟨bk, hbk⟩ : ∃ q, base + k = q := ⟨_, rfl⟩;have e4 : (base : Int) + (k : Int) = (bk : Int) := by omega
    obtain ⟨wa6, wb6⟩ := stq (x := (bk : Int)) ⟨by omega, by omega⟩;have hbn : bk < n := by have := HBS.out.2; omega
    obtain ⟨en, hen⟩ : ∃ q, min t.size kp64 = q := ⟨_, rfl⟩;have henb : k64 ≤ en ∧ en ≤ t.size ∧ en ≤ k64 + 64 := by omega
    have hmin : ∀ (wz : World) (ts : Array TypeId) (ty : TypeId), (Builtin.min_ ts ty #[.int .i64 (t.size : Int), .int .i64 (kp64 : Int)]).run Tryz.prog wz = .ok (.int .i64 (en : Int)) wz := fun wz ts ty => by
     rw [run_min_int2];have e : (if (kp64 : Int) < (t.size : Int) then (kp64 : Int) else (t.size : Int)) = (en : Int) := by split <;> omega
     rw [e]
    obtain ⟨PT, hPT⟩ : ∃ q : ByteArray, t.extract k64 en = q := ⟨_, rfl⟩;have hPTs : PT.size ≤ 64 := by rw [← hPT, ByteArray.size_extract]; omega
    have HPT : Hid (Sto4.part t k = PT) := Lib.hid (by unfold Sto4.part; rw [hk64, hkp, hkp64, hen]; exact hPT);have b1 : (0 : Int) ≤ (k64 : Int) := by omega
    have b2 : (k64 : Int) ≤ (en : Int) := by omega
    have b3 : (en : Int) ≤ (t.size : Int) := by omega
    have b4 : k64 ≤ en := henb.1;have b5 : en ≤ t.size := henb.2.1;have HIX := Lib.hid (And.intro hk64 (And.intro hkp (And.intro hkp64 (And.intro hbk hen))));clear hk64 hkp hkp64 hbk hen henb;go_upto_region 4 with fail;clear p0 t1 n1;have HXD := Lib.hid (HX.out.ext (show Ext wr wr.drew from Below.drew (Ext.refl wr)));have p0 : wr.drew.cell? ⟨pb, 0, none⟩ = some (.string t) := HXD.out.P.cell 0;have q0 : wr.drew.cell? ⟨qb, 0, none⟩ = some (.pointer (some ⟨s, 0, none⟩)) := HXD.out.Q.cell 0;have a0 : wr.drew.cell? ⟨ab, 0, none⟩ = some (.int .i64 (at_ : Int)) := HXD.out.A.cell 0;have d0 : wr.drew.cell? ⟨s, 0, none⟩ = some (.pointer (some ⟨d, 0, none⟩)) := HXD.out.B.cell 0;have HHA : Hid (∀ wz, wz = wr.drew → Calls Tryz.prog 44 #[.pointer (some ⟨d, 0, none⟩)] wz fun e w' => e = .returned (.int .i64 (hf2 : Int)) ∧ w' = wz) := Lib.hid (fun wz e => by subst e; rw [← HHF.out]; exact (half_any d n (b + k) mk (grow S w wr.drew) wr.drew HXD.out.D.1 (by omega) (by omega)).mono (fun _ _ q => ⟨q.1, q.2.symm⟩));refine wp_region_tailQ 24 (by kernel_rfl) (by kernel_rfl) ?_;simp only [List.take_succ_cons, List.take_zero, List.drop_succ_cons, List.drop_zero];refine wpQ_yes (by kernel_rfl) (fun K hK => ?_);go_simp;refine hK _ ?_;clear hK K;refine wpQ_yes (by kernel_rfl) (fun K hK => ?_);go_simp;refine hK _ ?_;clear hK K;refine wpQ_yes (by kernel_rfl) (fun K hK => ?_);go_simp;refine hK _ ?_;clear hK K;refine wpQ_yes (by kernel_rfl) (fun K hK => ?_);go_simp;refine hK _ ?_;clear hK K
    refine wpQ_yes (by kernel_rfl) (fun K hK => ?_);go_simp;refine hK _ ?_;clear hK K;refine wpQ_yes (by kernel_rfl) (fun K hK => ?_);go_simp;refine hK _ ?_;clear hK K;refine wpQ_yes (by kernel_rfl) (fun K hK => ?_);go_simp;refine hK _ ?_;clear hK K;refine wpQ_yes (by kernel_rfl) (fun K hK => ?_);go_simp;refine hK _ ?_;clear hK K;refine wpQ_yes (by kernel_rfl) (fun K hK => ?_);go_simp;refine hK _ ?_;clear hK K;refine wpQ_yes (by kernel_rfl) (fun K hK => ?_);go_simp;refine ⟨_, HHA.out _ rfl, hK _ ?_⟩;clear hK K;refine wpQ_yes (by kernel_rfl) (fun K hK => ?_);go_simp;refine hK _ ?_;clear hK K;refine wpQ_yes (by kernel_rfl) (fun K hK => ?_);go_simp;refine hK _ ?_;clear hK K;refine wpQ_yes (by kernel_rfl) (fun K hK => ?_);go_simp;refine hK _ ?_;clear hK K;refine wpQ_yes (by kernel_rfl) (fun K hK => ?_);go_simp;refine hK _ ?_;clear hK K;refine wpQ_yes (by kernel_rfl) (fun K hK => ?_);go_simp;refine hK _ ?_;clear hK K;refine wpQ_yes (by kernel_rfl) (fun K hK => ?_);go_simp;refine hK _ ?_;clear hK K;refine wpQ_yes (by kernel_rfl) (fun K hK => ?_);go_simp;refine hK _ ?_;clear hK K;refine wpQ_yes (by kernel_rfl) (fun K hK => ?_);go_simp;refine hK _ ?_;clear hK K;refine wpQ_yes (by kernel_rfl) (fun K hK => ?_);go_simp;refine hK _ ?_;clear hK K;refine wpQ_yes (by kernel_rfl) (fun K hK => ?_);go_simp;refine hK _ ?_;clear hK K;refine wpQ_yes (by kernel_rfl) (fun K hK => ?_);go_simp;refine hK _ ?_;clear hK K;refine wpQ_yes (by kernel_rfl) (fun K hK => ?_);go_simp;refine hK _ ?_;clear hK K;refine wpQ_yes (by kernel_rfl) (fun K hK => ?_)
    go_simp;refine hK _ ?_;clear hK K;refine wpQ_yes (by kernel_rfl) (fun K hK => ?_);go_simp;refine hK _ ?_;clear hK K;refine wpQ_nil ?_;clear p0 q0 a0 d0 HHA hmin b1 b2 b3 b4 b5 hPT;generalize wr.drew = wd at HXD ⊢;by_cases hl0 : mk.left = 0
    ·as_aux_lemma =>
      have HWR := Lib.hid (write_power d n (b + k) bk mk PT (grow S w wd) wd E (HEK.out wd mk (b + k) HXD.out) HXD.out.D.1 hbn hPTs hl0);go_wp2_with fail;refine HWR.out.mono ?_;rintro e w2 ⟨rfl, rfl⟩;clear HWR;go_wp2_with fail;go_ret;exact ⟨mk, false, b + k, by rw [← HMK.out] at hl0 ⊢; exact .part k (by rw [HK.out]; omega) hl0, by rw [HK.out]; omega, (fun q => by cases q), HXD.out, rfl⟩
    ·as_aux_lemma =>
      have HWR := Lib.hid (write_ok d n (b + k) bk mk PT (grow S w wd) wd HXD.out.D.1 hbn hPTs hl0 (by omega));go_wp2_with fail;refine HWR.out.mono ?_;rintro e w2 ⟨rfl, hA⟩;have HX2 := Lib.hid (HXD.out.go hA);clear hA HWR;go_wp2_with fail;go_roundw
      case rel => exact ⟨kp, by first | rfl | go_num, by have := HIX.out.2.1; omega, Lib.hid (by
       have h := HX2.out;rw [← HIX.out.2.1];show SyE _ _ _ _ _ _ _ _ _ _ _ _ (Dk.wr (Sto4.wAt m t base k) (base + k) (Dk.pad (Sto4.part t k))) (b + k + 1);rw [HMK.out, HIX.out.2.2.2.1, HPT.out];exact h)⟩
      case measure => have := HIX.out.2.1; simp [intOf]; omega
  ·as_aux_lemma =>
    obtain rfl : k = K := by omega
    have hnl : ¬ k64 < t.size := fun q => hlt (HLT.out.2 q);have t1 : decide ((k64 : Int) < (t.size : Int)) = false := decide_eq_false (by omega);have n1 : ¬ k64 < t.size := hnl;have q0 := HX.out.Q.cell 0;have d0 := HX.out.B.cell 0;by_cases hl0 : mk.left = 0
    ·as_aux_lemma =>
      have HFL := Lib.hid (flush_power d n (b + k) mk (grow S w wr) wr E (HEK.out wr mk (b + k) HX.out) HX.out.D.1 hl0);go_wp2_with fail;refine HFL.out.mono ?_;rintro e w2 ⟨rfl, rfl⟩;clear HFL;go_wp2_with fail;go_ret;exact ⟨mk, false, b + k, by rw [← HMK.out] at hl0 ⊢; exact .part k (by rw [HK.out]; omega) hl0, by rw [HK.out]; omega, (fun q => by cases q), HX.out, rfl⟩
    ·as_aux_lemma =>
      have HFL := Lib.hid (flush_ok d n (b + k) mk (grow S w wr) wr HX.out.D.1 hl0);go_wp2_with fail;refine HFL.out.mono ?_;rintro e w2 ⟨rfl, hA⟩;have HX2 := Lib.hid (HX.out.go ⟨hA.1.zero rfl, hA.2⟩);clear hA HFL p0 q0 d0;obtain ⟨m2, hm2⟩ : ∃ q, Dk.fl mk = q := ⟨_, rfl⟩;have HM2 : Hid (Dk.fl (Sto4.wAt m t base (Sto4.secs t)) = m2) := Lib.hid (by rw [HK.out, HMK.out]; exact hm2);rw [hm2] at HX2;clear hm2;obtain ⟨s1, hs1⟩ : ∃ q, sy + 1 = q := ⟨_, rfl⟩;have e1s : (sy : Int) + 1 = (s1 : Int) := by omega
      have wu1 := stu32 (x := (s1 : Int)) ⟨by omega, by omega⟩;have e2s : (s1 : Int).tmod 2 = (hi : Int) := by rw [← HHI.out, hs1]; rfl
      have hib : hi ≤ 1 := by have := HHI.out; omega
      have wu2 := stu32 (x := (hi : Int)) ⟨by omega, by omega⟩;obtain ⟨wa8, wb8⟩ := stq (x := (hi : Int)) ⟨by omega, by omega⟩;obtain ⟨ck, hck⟩ : ∃ q, Crc.crc t.data.toList = q := ⟨_, rfl⟩;have hckl : ck < 4294967296 := by rw [← hck]; exact Crc.crc_lt4 _
      have HCR := Lib.hid (fun w => crc_any t w (by unfold maxLen; omega));rw [hck] at HCR;have HHD := Lib.hid (fun w => head_any s1 at_ t.size ck w (by omega) (by omega) (by omega) hckl);have hhd : Sto4.hd s1 at_ t.size ck = hh := by rw [← hs1, ← hck]; exact HHH.out
      rw [hhd] at HHD;have hhs : hh.size ≤ 64 := by rw [← hhd, Sto4.hd_size]; omega
      have HS1 := Lib.hid hs1;clear hck hhd hs1;go_upto_region 10 with fail;have Y_0 := HX2;refine wp_region_held_drew (S := fun w' => w'.cell? ⟨pb, 0, none⟩ = some (.string t) ∧ w'.cell? ⟨qb, 0, none⟩ = some (.pointer (some ⟨s, 0, none⟩)) ∧ w'.cell? ⟨ab, 0, none⟩ = some (.int .i64 (at_ : Int)) ∧ w'.cell? ⟨s, 0, none⟩ = some (.pointer (some ⟨d, 0, none⟩)) ∧ w'.cell? ⟨s, 2, none⟩ = some (.int .u32 (sy : Int))) (by kernel_rfl) ⟨Y_0.out.P.cell 0, Y_0.out.Q.cell 0, Y_0.out.A.cell 0, Y_0.out.B.cell 0, Y_0.out.B.cell 2⟩ (fun hHeld => ?_);clear hHeld;refine anyH_world (fun wz => Ext w2 wz) (show Ext w2 w2.drew from Below.drew (Ext.refl w2)) ?_;rintro y1 h;have Y_1 := Lib.hid (Y_0.out.ext h);clear h Y_0;have hHeld : y1.cell? ⟨pb, 0, none⟩ = some (.string t) ∧ y1.cell? ⟨qb, 0, none⟩ = some (.pointer (some ⟨s, 0, none⟩)) ∧ y1.cell? ⟨ab, 0, none⟩ = some (.int .i64 (at_ : Int)) ∧ y1.cell? ⟨s, 0, none⟩ = some (.pointer (some ⟨d, 0, none⟩)) ∧ y1.cell? ⟨s, 2, none⟩ = some (.int .u32 (sy : Int)) := ⟨Y_1.out.P.cell 0, Y_1.out.Q.cell 0, Y_1.out.A.cell 0, Y_1.out.B.cell 0, Y_1.out.B.cell 2⟩;refine tkH 0 (v := ?_) rfl hHeld ?_ ?_;rotate_left
      ·intro w hSw;(try dsimp only at hSw);go_split_ands;go_simp;(try with_reducible rfl)
      (try simp only [Act.put, xa, xb, xc, xd, xe, xf]);refine tkH 1 (v := ?_) rfl hHeld ?_ ?_;rotate_left
      ·intro w hSw;(try dsimp only at hSw);go_split_ands;go_simp;(try with_reducible rfl)
      (try simp only [Act.put, xa, xb, xc, xd, xe, xf]);refine tkH 2 (v := ?_) rfl hHeld ?_ ?_;rotate_left
      ·intro w hSw;(try dsimp only at hSw);go_split_ands;go_simp;(try with_reducible rfl)
      (try simp only [Act.put, xa, xb, xc, xd, xe, xf]);refine tkH 3 (v := ?_) rfl hHeld ?_ ?_;rotate_left
      ·intro w hSw;(try dsimp only at hSw);go_split_ands;go_simp;(try with_reducible rfl)
      (try simp only [Act.put, xa, xb, xc, xd, xe, xf]);refine tkH 4 (v := ?_) rfl hHeld ?_ ?_;rotate_left
      ·intro w hSw;(try dsimp only at hSw);go_split_ands;go_simp;(try with_reducible rfl)
      (try simp only [Act.put, xa, xb, xc, xd, xe, xf]);refine tkH 5 (v := ?_) rfl hHeld ?_ ?_;rotate_left
      ·intro w hSw;(try dsimp only at hSw);go_split_ands;go_simp;(try with_reducible rfl)
      (try simp only [Act.put, xa, xb, xc, xd, xe, xf]);refine tkH 6 (v := ?_) rfl hHeld ?_ ?_;rotate_left
      ·intro w hSw;(try dsimp only at hSw);go_split_ands;go_simp;(try with_reducible rfl)
      (try simp only [Act.put, xa, xb, xc, xd, xe, xf]);refine tkH 7 (v := ?_) rfl hHeld ?_ ?_;rotate_left
      ·intro w hSw;(try dsimp only at hSw);go_split_ands;go_simp;(try with_reducible rfl)
      (try simp only [Act.put, xa, xb, xc, xd, xe, xf]);refine tkH 8 (v := ?_) rfl hHeld ?_ ?_;rotate_left
      ·intro w hSw;(try dsimp only at hSw);go_split_ands;go_simp;(try with_reducible rfl)
      (try simp only [Act.put, xa, xb, xc, xd, xe, xf]);refine tkH 9 (v := ?_) rfl hHeld ?_ ?_;rotate_left
      ·intro w hSw;(try dsimp only at hSw);go_split_ands;go_simp;(try with_reducible rfl)
      (try simp only [Act.put, xa, xb, xc, xd, xe, xf]);refine tkH 10 (v := ?_) rfl hHeld ?_ ?_;rotate_left
      ·intro w hSw;(try dsimp only at hSw);go_split_ands;go_simp;(try with_reducible rfl)
      (try simp only [Act.put, xa, xb, xc, xd, xe, xf]);refine tkH 11 (v := ?_) rfl hHeld ?_ ?_;rotate_left
      ·intro w hSw;(try dsimp only at hSw);go_split_ands;go_simp;(try with_reducible rfl)
      (try simp only [Act.put, xa, xb, xc, xd, xe, xf]);refine tkH 12 (v := ?_) rfl hHeld ?_ ?_;rotate_left
      ·intro w hSw;(try dsimp only at hSw);go_split_ands;go_simp;(try with_reducible rfl)
      (try simp only [Act.put, xa, xb, xc, xd, xe, xf]);refine tkH 13 (v := ?_) rfl hHeld ?_ ?_;rotate_left
      ·intro w hSw;(try dsimp only at hSw);go_split_ands;go_simp;(try with_reducible rfl)
      (try simp only [Act.put, xa, xb, xc, xd, xe, xf]);refine tkH 14 (v := ?_) rfl hHeld ?_ ?_;rotate_left
      ·intro w hSw;(try dsimp only at hSw);go_split_ands;go_simp;(try with_reducible rfl)
      (try simp only [Act.put, xa, xb, xc, xd, xe, xf]);refine tkH 15 (v := ?_) rfl hHeld ?_ ?_;rotate_left
      ·intro w hSw;(try dsimp only at hSw);go_split_ands;go_simp;(try with_reducible rfl)
      (try simp only [Act.put, xa, xb, xc, xd, xe, xf]);refine tkH 16 (v := ?_) rfl hHeld ?_ ?_;rotate_left
      ·intro w hSw;(try dsimp only at hSw);go_split_ands;go_simp;(try with_reducible rfl)
      (try simp only [Act.put, xa, xb, xc, xd, xe, xf]);refine tkH 17 (v := ?_) rfl hHeld ?_ ?_;rotate_left
      ·intro w hSw;(try dsimp only at hSw);go_split_ands;go_simp;(try with_reducible rfl)
      (try simp only [Act.put, xa, xb, xc, xd, xe, xf]);refine tkH 18 (v := ?_) rfl hHeld ?_ ?_;rotate_left
      ·intro w hSw;(try dsimp only at hSw);go_split_ands;go_simp;(try with_reducible rfl)
      (try simp only [Act.put, xa, xb, xc, xd, xe, xf]);refine tkH 19 (v := ?_) rfl hHeld ?_ ?_;rotate_left
      ·intro w hSw;(try dsimp only at hSw);go_split_ands;go_simp;(try with_reducible rfl)
      (try simp only [Act.put, xa, xb, xc, xd, xe, xf]);refine wpAnyH_ready (rs := [20]) (by kernel_rfl) (by simp) ?_;refine AllReadyH.cons rfl (fun KK hK => ?_) AllReadyH.nil;clear hHeld;go_simp;refine (HCR.out y1).mono ?_;rintro e y2 ⟨rfl, h⟩;have Y_2 := Lib.hid (Y_1.out.ext h);clear h Y_1;go_simp;refine hK.out _ _ ⟨Y_2.out.P.cell 0, Y_2.out.Q.cell 0, Y_2.out.A.cell 0, Y_2.out.B.cell 0, Y_2.out.B.cell 2⟩ (fun hHeld => ?_);clear hK KK;(try simp only [Act.put, xa, xb, xc, xd, xe, xf]);refine wpAnyH_ready (rs := [21]) (by kernel_rfl) (by simp) ?_;refine AllReadyH.cons rfl (fun KK hK => ?_) AllReadyH.nil;clear hHeld;go_simp;refine (HHD.out y2).mono ?_;rintro e y3 ⟨rfl, h⟩;have Y_3 := Lib.hid (Y_2.out.ext h);clear h Y_2;go_simp;refine hK.out _ _ ⟨Y_3.out.P.cell 0, Y_3.out.Q.cell 0, Y_3.out.A.cell 0, Y_3.out.B.cell 0, Y_3.out.B.cell 2⟩ (fun hHeld => ?_);clear hK KK;(try simp only [Act.put, xa, xb, xc, xd, xe, xf]);refine wpAnyH_ready (rs := [22]) (by kernel_rfl) (by simp) ?_;refine AllReadyH.cons rfl (fun KK hK => ?_) AllReadyH.nil;clear hHeld;by_cases hl2 : m2.left = 0
      ·have HWR := Lib.hid (write_power d n 0 hi m2 hh (grow S w y3) y3 E (HEK.out y3 m2 0 Y_3.out) Y_3.out.D.1 (by omega) hhs hl2);go_simp;refine HWR.out.mono ?_;rintro e w9 ⟨rfl, rfl⟩;clear HWR;go_simp;refine hK.out _ _ ⟨Y_3.out.P.cell 0, Y_3.out.Q.cell 0, Y_3.out.A.cell 0, Y_3.out.B.cell 0, Y_3.out.B.cell 2⟩ (fun hHeld => ?_);clear hK KK;(try simp only [Act.put, xa, xb, xc, xd, xe, xf]);refine tkH 23 (v := ?_) rfl hHeld ?_ ?_;rotate_left
       ·intro w hSw;(try dsimp only at hSw);go_split_ands;go_simp;(try with_reducible rfl)
       (try simp only [Act.put, xa, xb, xc, xd, xe, xf]);refine wpAnyH_done (by kernel_rfl) ?_ _;clear hHeld;go_wp2_with fail;go_ret;exact ⟨m2, false, 0, by rw [← HM2.out] at hl2 ⊢; exact .flushed hl2, by omega, (fun q => by cases q), Y_3.out, rfl⟩
      ·have HWR := Lib.hid (write_ok d n 0 hi m2 hh (grow S w y3) y3 Y_3.out.D.1 (by omega) hhs hl2 (by omega));go_simp;refine HWR.out.mono ?_;rintro e y4 ⟨rfl, hA⟩;have Y_4 := Lib.hid (Y_3.out.go hA);clear hA HWR Y_3;go_simp;refine hK.out _ _ ⟨Y_4.out.P.cell 0, Y_4.out.Q.cell 0, Y_4.out.A.cell 0, Y_4.out.B.cell 0, Y_4.out.B.cell 2⟩ (fun hHeld => ?_);clear hK KK;(try simp only [Act.put, xa, xb, xc, xd, xe, xf]);refine tkH 23 (v := ?_) rfl hHeld ?_ ?_;rotate_left
       ·intro w hSw;(try dsimp only at hSw);go_split_ands;go_simp;(try with_reducible rfl)
       (try simp only [Act.put, xa, xb, xc, xd, xe, xf]);refine wpAnyH_done (by kernel_rfl) ?_ _;clear hHeld;obtain ⟨m3, hm3⟩ : ∃ q, Dk.wr m2 hi (Dk.pad hh) = q := ⟨_, rfl⟩;have HM3 : Hid (Dk.wr (Dk.fl (Sto4.wAt m t base (Sto4.secs t))) hi (Dk.pad hh) = m3) := Lib.hid (by rw [HM2.out]; exact hm3);rw [hm3] at Y_4;clear hm3;have q0 := Y_4.out.Q.cell 0;have d0 := Y_4.out.B.cell 0;by_cases hl3 : m3.left = 0
       ·have HFL := Lib.hid (flush_power d n 1 m3 (grow S w y4) y4 E (HEK.out y4 m3 1 Y_4.out) Y_4.out.D.1 hl3);go_wp2_with fail;refine HFL.out.mono ?_;rintro e w9 ⟨rfl, rfl⟩;clear HFL;go_wp2_with fail;go_ret;exact ⟨m3, false, 1, by rw [← HM3.out] at hl3 ⊢; exact .headed hl3, by omega, (fun q => by cases q), Y_4.out, rfl⟩
       ·have HFL := Lib.hid (flush_ok d n 1 m3 (grow S w y4) y4 Y_4.out.D.1 hl3);go_wp2_with fail;refine HFL.out.mono ?_;rintro e w9 ⟨rfl, hA⟩;have HX9 := Lib.hid (Y_4.out.go ⟨hA.1.zero rfl, hA.2⟩);clear hA HFL;go_wp2_with fail;go_ret;exact ⟨Dk.fl m3, true, 0, by rw [← HM3.out]; exact .done, by omega, fun _ => rfl, HX9.out, rfl⟩
end Go.Proofs.YtheidjagcafgnaaGreatDoor
namespace Go.Proofs.YtheidjagcafgnaaGreatDoor
open Go.RowKit Go.Maps Go.Sort Go.Shelf
def keysL_ren : Go.Shelf.Ren := ⟨fun | 7 => 61 | 10 => 82 | n => n, fun | 23 => 74 | 26 => 9 | 3 => 9 | 28 => 118 | 0 => 0 | 27 => 117 | 33 => 80 | 4 => 4 | n => n, fun | n => n⟩
theorem keysL : Go.Proofs.SlLaysZ.n7 Tryz.prog keysL_ren := {
  mixed := by kernel_rfl
  f7 := ⟨Tryz.f61.name, by decide, Tryz.func61.trans (congrArg some (by kernel_rfl))⟩
  f10 := ⟨Tryz.f82.name, by decide, Tryz.func82.trans (congrArg some (by kernel_rfl))⟩
  t0 := Tryz.underlying0
  a0 := Tryz.isAgg0
  z0 := Tryz.sizeOf0
  v0 := Tryz.zeroValue0
  t4 := Tryz.underlying4
  a4 := Tryz.isAgg4
  z4 := Tryz.sizeOf4
  v4 := Tryz.zeroValue4
  t23 := Tryz.underlying74
  a23 := Tryz.isAgg74
  z23 := Tryz.sizeOf74
  v23 := Tryz.zeroValue74
  t26 := Tryz.underlying9
  a26 := Tryz.isAgg9
  z26 := Tryz.sizeOf9
  v26 := Tryz.zeroValue9
  t27 := Tryz.underlying117
  a27 := Tryz.isAgg117
  z27 := Tryz.sizeOf117
  v27 := Tryz.zeroValue117
  t28 := Tryz.underlying118
  a28 := Tryz.isAgg118
  z28 := Tryz.sizeOf118
  v28 := Tryz.zeroValue118
  t33 := Tryz.underlying80
  a33 := Tryz.isAgg80
  z33 := Tryz.sizeOf80
  v33 := Tryz.zeroValue80 }
def sortedL_ren : Go.Shelf.Ren := ⟨fun | 6 => 60 | 8 => 80 | 9 => 81 | 11 => 88 | 13 => 90 | 12 => 89 | 23 => 100 | 24 => 101 | 14 => 91 | 15 => 92 | 16 => 93 | 17 => 94 | 18 => 95 | 19 => 96 | 20 => 97 | 21 => 98 | 22 => 99 | 25 => 102 | 26 => 103 | 27 => 104 | 28 => 105 | 29 => 106 | 30 => 107 | 31 => 108 | n => n, fun | 26 => 9 | 28 => 118 | 24 => 64 | 0 => 0 | 3 => 3 | 37 => 97 | 48 => 75 | 50 => 128 | 4 => 4 | 40 => 172 | 39 => 171 | 45 => 176 | 5 => 5 | 9 => 9 | 51 => 180 | 55 => 184 | 57 => 186 | 58 => 81 | 33 => 80 | n => n, fun | n => n⟩
theorem sortedL : Go.Proofs.SlLaysZ.n6 Tryz.prog sortedL_ren := {
  mixed := by kernel_rfl
  f6 := ⟨Tryz.f60.name, by decide, Tryz.func60.trans (congrArg some (by kernel_rfl))⟩
  f8 := ⟨Tryz.f80.name, by decide, Tryz.func80.trans (congrArg some (by kernel_rfl))⟩
  f11 := ⟨Tryz.f88.name, by decide, Tryz.func88.trans (congrArg some (by kernel_rfl))⟩
  t0 := Tryz.underlying0
  a0 := Tryz.isAgg0
  z0 := Tryz.sizeOf0
  v0 := Tryz.zeroValue0
  t24 := Tryz.underlying64
  a24 := Tryz.isAgg64
  z24 := Tryz.sizeOf64
  v24 := Tryz.zeroValue64
  t26 := Tryz.underlying9
  a26 := Tryz.isAgg9
  z26 := Tryz.sizeOf9
  v26 := Tryz.zeroValue9
  t28 := Tryz.underlying118
  a28 := Tryz.isAgg118
  z28 := Tryz.sizeOf118
  v28 := Tryz.zeroValue118
  i26 := by kernel_rfl }
def sortL_ren : Go.Shelf.Ren := ⟨fun | 6 => 81 | 8 => 90 | 9 => 89 | 19 => 100 | 20 => 101 | 21 => 91 | 22 => 92 | 23 => 93 | 24 => 94 | 25 => 95 | 26 => 96 | 27 => 97 | 28 => 98 | 29 => 99 | 36 => 102 | 31 => 103 | 32 => 104 | 37 => 105 | 38 => 106 | 39 => 107 | 41 => 108 | n => n, fun | 27 => 64 | 29 => 9 | 3 => 3 | 32 => 97 | 26 => 64 | 0 => 0 | 44 => 75 | 46 => 128 | 4 => 4 | 36 => 172 | 35 => 171 | 41 => 176 | 5 => 5 | 9 => 9 | 53 => 180 | 57 => 184 | 63 => 186 | 64 => 81 | n => n, fun | n => n⟩
theorem sortL : Go.Proofs.SlLaysM.n6 Tryz.prog sortL_ren := {
  mixed := by kernel_rfl
  f6 := ⟨Tryz.f81.name, by decide, Tryz.func81.trans (congrArg some (by kernel_rfl))⟩
  f8 := Tryz.func90.trans (congrArg some (by kernel_rfl))
  f9 := ⟨Tryz.f89.name, by decide, Tryz.func89.trans (congrArg some (by kernel_rfl))⟩
  f19 := Tryz.func100.trans (congrArg some (by kernel_rfl))
  f20 := Tryz.func101.trans (congrArg some (by kernel_rfl))
  f21 := ⟨Tryz.f91.name, by decide, Tryz.func91.trans (congrArg some (by kernel_rfl))⟩
  f22 := ⟨Tryz.f92.name, by decide, Tryz.func92.trans (congrArg some (by kernel_rfl))⟩
  f23 := ⟨Tryz.f93.name, by decide, Tryz.func93.trans (congrArg some (by kernel_rfl))⟩
  f24 := ⟨Tryz.f94.name, by decide, Tryz.func94.trans (congrArg some (by kernel_rfl))⟩
  f25 := ⟨Tryz.f95.name, by decide, Tryz.func95.trans (congrArg some (by kernel_rfl))⟩
  f26 := ⟨Tryz.f96.name, by decide, Tryz.func96.trans (congrArg some (by kernel_rfl))⟩
  f27 := ⟨Tryz.f97.name, by decide, Tryz.func97.trans (congrArg some (by kernel_rfl))⟩
  f28 := ⟨Tryz.f98.name, by decide, Tryz.func98.trans (congrArg some (by kernel_rfl))⟩
  f29 := ⟨Tryz.f99.name, by decide, Tryz.func99.trans (congrArg some (by kernel_rfl))⟩
  f31 := Tryz.func103.trans (congrArg some (by kernel_rfl))
  f32 := Tryz.func104.trans (congrArg some (by kernel_rfl))
  f36 := ⟨Tryz.f102.name, by decide, Tryz.func102.trans (congrArg some (by kernel_rfl))⟩
  f37 := ⟨Tryz.f105.name, by decide, Tryz.func105.trans (congrArg some (by kernel_rfl))⟩
  f38 := ⟨Tryz.f106.name, by decide, Tryz.func106.trans (congrArg some (by kernel_rfl))⟩
  f39 := ⟨Tryz.f107.name, by decide, Tryz.func107.trans (congrArg some (by kernel_rfl))⟩
  f41 := ⟨Tryz.f108.name, by decide, Tryz.func108.trans (congrArg some (by kernel_rfl))⟩
  t0 := Tryz.underlying0
  a0 := Tryz.isAgg0
  z0 := Tryz.sizeOf0
  v0 := Tryz.zeroValue0
  t3 := Tryz.underlying3
  a3 := Tryz.isAgg3
  z3 := Tryz.sizeOf3
  v3 := Tryz.zeroValue3
  t4 := Tryz.underlying4
  a4 := Tryz.isAgg4
  z4 := Tryz.sizeOf4
  v4 := Tryz.zeroValue4
  t5 := Tryz.underlying5
  a5 := Tryz.isAgg5
  z5 := Tryz.sizeOf5
  v5 := Tryz.zeroValue5
  t9 := Tryz.underlying9
  a9 := Tryz.isAgg9
  z9 := Tryz.sizeOf9
  v9 := Tryz.zeroValue9
  t26 := Tryz.underlying64
  a26 := Tryz.isAgg64
  z26 := Tryz.sizeOf64
  v26 := Tryz.zeroValue64
  t27 := Tryz.underlying64
  a27 := Tryz.isAgg64
  z27 := Tryz.sizeOf64
  v27 := Tryz.zeroValue64
  t29 := Tryz.underlying9
  a29 := Tryz.isAgg9
  z29 := Tryz.sizeOf9
  v29 := Tryz.zeroValue9
  t32 := Tryz.underlying97
  a32 := Tryz.isAgg97
  z32 := Tryz.sizeOf97
  v32 := Tryz.zeroValue97
  t35 := Tryz.underlying171
  a35 := Tryz.isAgg171
  z35 := Tryz.sizeOf171
  v35 := Tryz.zeroValue171
  t36 := Tryz.underlying172
  a36 := Tryz.isAgg172
  z36 := Tryz.sizeOf172
  v36 := Tryz.zeroValue172
  t41 := Tryz.underlying176
  a41 := Tryz.isAgg176
  z41 := Tryz.sizeOf176
  v41 := Tryz.zeroValue176
  t44 := Tryz.underlying75
  a44 := Tryz.isAgg75
  z44 := Tryz.sizeOf75
  v44 := Tryz.zeroValue75
  t46 := Tryz.underlying128
  a46 := Tryz.isAgg128
  z46 := Tryz.sizeOf128
  v46 := Tryz.zeroValue128
  t53 := Tryz.underlying180
  a53 := Tryz.isAgg180
  z53 := Tryz.sizeOf180
  v53 := Tryz.zeroValue180
  t57 := Tryz.underlying184
  a57 := Tryz.isAgg184
  z57 := Tryz.sizeOf184
  v57 := Tryz.zeroValue184
  t63 := Tryz.underlying186
  a63 := Tryz.isAgg186
  z63 := Tryz.sizeOf186
  v63 := Tryz.zeroValue186
  t64 := Tryz.underlying81
  a64 := Tryz.isAgg81
  z64 := Tryz.sizeOf81
  v64 := Tryz.zeroValue81 }
theorem sortsL (m : Nat) : AnyZ.SortsIn Tryz.prog sortedL_ren Fence.wide m :=
  ⟨fun blk off cap ss W hH hblk hsz => callsIn_wide.2 (AnyM.slices_Sort_string sortL blk off cap ss W hH hblk hsz),
   fun p cap W => callsIn_wide.2 (AnyM.slices_Sort_string_none sortL p cap W)⟩
theorem mapsKeys (mb : Option Nat) (W : World) : CallsIn Fence.wide 5 Tryz.prog 61 #[.map mb] W fun e w' => e = .returned (.func (.func 82) #[] #[.pointer (some ⟨W.heap.size, 0, none⟩)]) ∧ w' = W.alloc (.cells #[.map mb] 74) :=
  AnyZ.keys_in keysL Fence.wide 5 trivial rfl mb W
set_option maxHeartbeats 1000000 in
theorem sortedKeys {H : Type} (b nn : Nat) (D0 : DataW H) (R : Value → Option (DataW H × List MemPlace)) (w : World) (hown : w.ownsMap Tryz.prog 9 R b nn D0) (hmax : Maps.size D0 ≤ maxLen) (hbytes : Maps.size D0 * 16 ≤ 140737488355328) :
    CallsIn Fence.wide 5 Tryz.prog 60 #[.func (.func 82) #[] #[.pointer (some ⟨w.heap.size, 0, none⟩)]] (w.alloc (.cells #[.map (some b)] 74)) fun e w' => ∃ (v : Value) (ss : List (List UInt8)), e = .returned v ∧ ss.Perm (strKeys D0) ∧
      w'.ownsRow (w.alloc (.cells #[.map (some b)] 74)).heap.size 9 1 v ss.length ((ss.mergeSort (fun x y => decide (x ≤ y))).map encStr) ∧ (v = .slice none 0 0 ↔ ss = []) ∧ Below (w.alloc (.cells #[.map (some b)] 74)).heap.size (w.alloc (.cells #[.map (some b)] 74)) w' := by
  have hbl := hown.lt
  have hseq : SeqGives Fence.wide 2 Tryz.prog 82 #[.pointer (some ⟨w.heap.size, 0, none⟩)] encStr (fun ss => ss.Perm (strKeys D0)) (Maps.size D0) (w.alloc (.cells #[.map (some b)] 74)) :=
    AnyZ.keys_gives (ρ := keysL_ren) { keysL with } Fence.wide _ trivial rfl (by omega) w.heap.size b nn D0 _ (by simp) (by simp) (by
      obtain ⟨es, clock, hb, Ft, hs, hD⟩ := hown
      exact ⟨es, clock, (Below.heap_alloc _ _ b hbl).trans hb, Ft, hs, hD⟩)
  exact AnyZ.sorted_in sortedL Fence.wide 5 trivial trivial trivial trivial rfl (by omega) (sortsL _) (enters_of Tryz.func81 (by kernel_rfl) rfl) 82 #[.pointer (some ⟨w.heap.size, 0, none⟩)] trivial (enters_of Tryz.func82 (by kernel_rfl) rfl) _ _ hmax hbytes _ hseq
end Go.Proofs.YtheidjagcafgnaaGreatDoor
namespace Go.Proofs.YtheidjagcafgnaaGreatDoor
open Go.RowKit Go.Maps Go.Sort Go.Shelf
/-- a row of the call's own that holds these names -/
def nmV (L : List Ck) : List Value := L.map fun c => .string c.k
set_option maxHeartbeats 1000000 in
theorem names_any (s mb n : Nat) (L : List Ck) (w : World) (c1 : w.cell? ⟨s, 1, none⟩ = some (.map (some mb))) (hT : TM w mb n L) (hs : Tx.Sorted L) (hn : n ≤ 100000) :
    Calls Tryz.prog 41 #[.pointer (some ⟨s, 0, none⟩)] w fun e w' => Ext w w' ∧ ∃ v, e = .returned v ∧ w'.ownsRow w.heap.size 9 1 v L.length (nmV L) := by
  obtain ⟨D, ho, hI, hsz, hle⟩ := hT.size hs;have hmax : Maps.size D ≤ maxLen := by unfold maxLen; omega
  have hbytes : Maps.size D * 16 ≤ 140737488355328 := by omega
  refine (callsIn_wide (n := 6)).1 ?_;have hfK : Fence.wide.fn 61 := trivial;have hfS : Fence.wide.fn 60 := trivial;refine callsIn_of_wp Tryz.func41 rfl trivial ?_ rfl;simp only [Tryz.ntmps41, List.size_toArray, List.length_cons, List.length_nil, Nat.reduceAdd, Nat.reduceSub, Array.replicate_succ, Array.replicate_zero, List.push_toArray, List.append_toArray, List.nil_append, List.cons_append];gi_wp2_with (first
    | (gi_at_call 61; refine (mapsKeys _ _).mono ?_; rintro e w' ⟨rfl, rfl⟩)
    | (gi_at_call 60; refine (sortedKeys mb n D (plainElem Tryz.prog 9) w ho hmax hbytes).mono ?_; rintro e w' ⟨v, ss, rfl, hS, hrow, hnil, hb⟩))
  go_ret;refine ⟨((Below.refl _ w).alloc (Nat.le_refl _) _).trans (hb.mono (by simp)), v, rfl, ?_⟩;have e := names_sort hI hs ho hS;have hl : ss.length = L.length := by
    have := hS.length_eq.trans (hI.perm hs ho).length_eq.symm;rw [List.length_map] at this;exact this
  rw [e, hl] at hrow;have e2 : (L.map (fun c => Tx.key c.k)).map encStr = nmV L := by
    unfold nmV;rw [List.map_map];rfl
  rw [e2] at hrow;exact ownsRow_base_a hrow (by simp)
end Go.Proofs.YtheidjagcafgnaaGreatDoor
namespace Go.Proofs.YtheidjagcafgnaaGreatDoor
open Go.RowKit
def BldZ (B b : Nat) (l : List UInt8) (w : World) : Prop := Bld B b l w ∧ (l = [] → w.cell? ⟨b, 1, none⟩ = some (.slice none 0 0))
theorem BldZ.ext {B b : Nat} {l : List UInt8} {w w' : World} (h : BldZ B b l w) (hE : Ext w w') : BldZ B b l w' :=
  ⟨h.1.ext hE, fun e => (hE.cell (p := ⟨b, 1, none⟩) h.1.lt).trans (h.2 e)⟩
theorem BldZ.fresh (w : World) : BldZ w.heap.size w.heap.size [] (w.alloc (.cells #[.pointer none, .slice none 0 0] 103)) :=
  ⟨Bld.fresh w, fun _ => by rw [Lib.cell_of_heap (heap_alloc_new w _)]; rfl⟩
theorem BldZ.of {B b : Nat} {l : List UInt8} {w : World} (h : Bld B b l w) (hl : l ≠ []) : BldZ B b l w := ⟨h, fun e => absurd e hl⟩
set_option maxHeartbeats 2000000 in
theorem bldz_string (B b : Nat) (l : List UInt8) (w : World) (h : BldZ B b l w) :
    Calls Tryz.prog 53 #[.pointer (some ⟨b, 0, none⟩)] w fun e w' => e = .returned (.string ⟨l.toArray⟩) ∧ Below B w w' := by
  by_cases h0 : l = []
  · have mixed : Tryz.prog.follows .mixedOrders = true := by kernel_rfl
    have c1 : w.drew.cell? ⟨b, 1, none⟩ = some (.slice none 0 0) := h.2 h0;have hSD : (Builtin.unsafeSliceData_ #[34] 131 #[.slice none 0 0]).run Tryz.prog w.drew = .ok (.pointer none) w.drew := Lib.run_unsafeSliceData_nil _ _ _ _ _;have hUS := Lib.run_unsafeString_none (P := Tryz.prog) (w := w.drew) 131 3 9 none;have HD := Lib.hid h0;clear h h0;go_enter Tryz.func53, Tryz.ntmps53
    go_wp2
    go_region_o
    all_goals (go_wp2; go_ret; exact ⟨by rw [HD.out]; rfl, Below.drew (Below.refl B w)⟩)
  · exact bld_string B b l w h.1 h0
end Go.Proofs.YtheidjagcafgnaaGreatDoor
