/-
  store.Open.
  A store's disk: what was synced is read. No function of the program is named.
  A store's disk: what a sync does to it, and what is left when the power goes. No function of the program is named.
  The store of a law: where it lies, and what its functions leave.
  The law's closed fact: a store holds a text.
  Decimal of the document.
  coded: an error's number, without a place.
  StoreMany's walk.
-/
import Derived.Test.YtheidjagcafgnaaGreatDoorStoreManyG1
import Derived.Test.YtheidjagcafgnaaGreatDoorStoreManyG6
import Derived.Test.YtheidjagcafgnaaGreatDoorStoreManyG3
import Derived.Test.YtheidjagcafgnaaGreatDoorStoreManyG4
import Derived.Test.YtheidjagcafgnaaGreatDoorStoreManyG2
set_option linter.unusedSimpArgs false
set_option linter.unusedVariables false
set_option maxRecDepth 100000
namespace Go.Proofs.YtheidjagcafgnaaGreatDoor
open Go.RowKit
namespace Sto4
/-- the better of two heads -/
def best (a b : Option (Nat × Nat × List Ck)) : Option (Nat × Nat × List Ck) :=
 match a, b with
 | none, r => r
 | some x, none => some x
 | some x, some y => if x.1 < y.1 then some y else some x
def openS (f : Nat → ByteArray) (n : Nat) : Option (Nat × Nat × List Ck) := best (readS f n 0) (readS f n 1)
end Sto4
def OpenP (w w' : World) (E : Nat → Addr) (d : Nat) (r : Option (Nat × Nat × List Ck)) (e : Ending) : Prop :=
 Ext w w' ∧ match r with
 | none => e = .returned (.tuple #[.pointer none, sentV (E 0)])
 | some (sy, at_, l) => ∃ s mb, e = .returned (.tuple #[.pointer (some ⟨s, 0, none⟩), .nilIface]) ∧ Bk w' s (stV d mb sy at_ false) ∧ TM w' mb l.length (Sto4.putAll l) ∧ w.heap.size ≤ s ∧ w.heap.size ≤ mb ∧ s ≠ mb
/-- a store that was read, or none -/
def RdV (w w' : World) (d : Nat) (r : Option (Nat × Nat × List Ck)) (v : Value) : Prop :=
 match r with
 | none => v = .pointer none
 | some (sy, at_, l) => ∃ s mb, v = .pointer (some ⟨s, 0, none⟩) ∧ Bk w' s (stV d mb sy at_ false) ∧ TM w' mb l.length (Sto4.putAll l) ∧ w.heap.size ≤ s ∧ w.heap.size ≤ mb ∧ s ≠ mb
theorem RdV.ext {w0 w w' : World} {d : Nat} {r : Option (Nat × Nat × List Ck)} {v : Value} (h : RdV w0 w d r v) (hE : Ext w w') : RdV w0 w' d r v := by
 unfold RdV at h ⊢;cases r with
 | none => exact h
 | some q =>
  obtain ⟨sy, at_, l⟩ := q;obtain ⟨s, mb, h1, h2, h3, h4⟩ := h;exact ⟨s, mb, h1, h2.ext hE, h3.ext hE, h4⟩
theorem read_lit {w w' : World} {d : Nat} {r : Option (Nat × Nat × List Ck)} {e : Ending} (h : ReadP w w' d r e) : Ext w w' ∧ ∃ v, e = .returned (.tuple #[v, .bool r.isSome]) ∧ RdV w w' d r v := by
 obtain ⟨hX, h⟩ := h;refine ⟨hX, ?_⟩;cases r with
 | none => exact ⟨_, h, rfl⟩
 | some q =>
  obtain ⟨sy, at_, l⟩ := q;obtain ⟨s, mb, rfl, h⟩ := h;exact ⟨_, rfl, s, mb, rfl, h⟩
set_option linter.unusedSimpArgs false in
set_option maxHeartbeats 8000000 in
theorem open_any (d n b : Nat) (m : Dk.DM) (S : Nat → Prop) (w : World) (E : Nat → Addr) (hE : Errs w E) (h : DS w S d n m b) (hn : 8 ≤ n) (h64 : ∀ k, k < n → (m.now k).size = 64) :
  Calls Tryz.prog 19 #[.pointer (some ⟨d, 0, none⟩)] w fun e w' => OpenP w w' E d (Sto4.openS m.now n) e := by
 obtain ⟨r0, hr0⟩ : ∃ r, Sto4.readS m.now n 0 = r := ⟨_, rfl⟩;obtain ⟨r1, hr1⟩ : ∃ r, Sto4.readS m.now n 1 = r := ⟨_, rfl⟩;have HO : Hid (Sto4.openS m.now n = Sto4.best r0 r1) := Lib.hid (by unfold Sto4.openS; rw [hr0, hr1]);have HE := Lib.hid hE;have HED : Hid (ErD w E) := Lib.hid ⟨hE.var 1 (by decide), hE.var 2 (by decide), hE.var 8 (by decide)⟩;have HR0 := Lib.hid (rd_any d n b 0 m S w E HED.out h (by omega) hn h64);have HR1 := Lib.hid (fun (w1 : World) (hX : Ext w w1) => rd_any d n b 1 m S w1 E (HED.out.ext hX) (h.ext hX) (by omega) hn h64);rw [hr0] at HR0;rw [hr1] at HR1;clear hE h h64 hr0 hr1;go_enter Tryz.func19, Tryz.ntmps19
 go_wp2_with fail;refine wp_loop_rounds 3 ?_;rw [rounds_succ];go_wp2_with fail;refine HR0.out.mono ?_;rintro e w1 hP;obtain ⟨hX, v0, rfl, hV⟩ := read_lit hP;have X1 := Lib.hid hX;have V0 := Lib.hid hV;clear hX hV hP HR0;cases r0 with
 | none =>
  obtain rfl : v0 = .pointer none := V0.out;simp only [Option.isSome_none];go_wp2_with fail;refine wp_regionQ (by kernel_rfl) (by kernel_rfl) ?_;refine wpQ_yes (by kernel_rfl) (fun K hK => ?_);go_simp;refine hK _ ?_;clear hK K;refine wpQ_yes (by kernel_rfl) (fun K hK => ?_);go_simp;refine hK _ ?_;clear hK K;refine wpQ_no (by kernel_rfl) ?_;(try simp only [Act.put, xa, xb, xc, xd, xe, xf]);refine wpQ_no (by kernel_rfl) ?_;(try simp only [Act.put, xa, xb, xc, xd, xe, xf]);refine wpQ_no (by kernel_rfl) ?_;(try simp only [Act.put, xa, xb, xc, xd, xe, xf]);refine wpQ_no (by kernel_rfl) ?_;(try simp only [Act.put, xa, xb, xc, xd, xe, xf]);refine wpQ_no (by kernel_rfl) ?_;(try simp only [Act.put, xa, xb, xc, xd, xe, xf]);refine wpQ_no (by kernel_rfl) ?_;(try simp only [Act.put, xa, xb, xc, xd, xe, xf]);refine wpQ_no (by kernel_rfl) ?_;(try simp only [Act.put, xa, xb, xc, xd, xe, xf]);refine wpQ_no (by kernel_rfl) ?_;(try simp only [Act.put, xa, xb, xc, xd, xe, xf]);refine wpQ_no (by kernel_rfl) ?_;(try simp only [Act.put, xa, xb, xc, xd, xe, xf]);refine wpQ_no (by kernel_rfl) ?_;(try simp only [Act.put, xa, xb, xc, xd, xe, xf]);refine wpQ_no (by kernel_rfl) ?_;(try simp only [Act.put, xa, xb, xc, xd, xe, xf]);refine wpQ_no (by kernel_rfl) ?_;(try simp only [Act.put, xa, xb, xc, xd, xe, xf]);refine wpQ_no (by kernel_rfl) ?_;(try simp only [Act.put, xa, xb, xc, xd, xe, xf]);refine wpQ_yes (by kernel_rfl) (fun K hK => ?_);go_simp;refine hK _ ?_;clear hK K;refine wpQ_nil ?_;obtain ⟨w2, hw2⟩ : ∃ z, w1.drew = z := ⟨_, rfl⟩
  have hD : Ext w1 w2 := by rw [← hw2]; exact Below.drew (Ext.refl _)
  rw [hw2];clear hw2;have X2 := Lib.hid (X1.out.trans hD);clear hD X1;go_wp2_with fail;rw [rounds_succ];go_wp2_with fail;refine (HR1.out _ X2.out).mono ?_;rintro e w3 hP;obtain ⟨hX, v1, rfl, hV⟩ := read_lit hP;have X3 := Lib.hid (X2.out.trans hX);have V1 := Lib.hid hV;have HSZ := Lib.hid X2.out.size;clear hX hV hP HR1 X2;cases r1 with
  | none =>
   obtain rfl : v1 = .pointer none := V1.out;simp only [Option.isSome_none];go_wp2_with fail;refine wp_regionQ (by kernel_rfl) (by kernel_rfl) ?_;refine wpQ_yes (by kernel_rfl) (fun K hK => ?_);go_simp;refine hK _ ?_;clear hK K;refine wpQ_yes (by kernel_rfl) (fun K hK => ?_);go_simp;refine hK _ ?_;clear hK K;refine wpQ_no (by kernel_rfl) ?_;(try simp only [Act.put, xa, xb, xc, xd, xe, xf]);refine wpQ_no (by kernel_rfl) ?_;(try simp only [Act.put, xa, xb, xc, xd, xe, xf]);refine wpQ_no (by kernel_rfl) ?_;(try simp only [Act.put, xa, xb, xc, xd, xe, xf]);refine wpQ_no (by kernel_rfl) ?_;(try simp only [Act.put, xa, xb, xc, xd, xe, xf]);refine wpQ_no (by kernel_rfl) ?_;(try simp only [Act.put, xa, xb, xc, xd, xe, xf]);refine wpQ_no (by kernel_rfl) ?_;(try simp only [Act.put, xa, xb, xc, xd, xe, xf]);refine wpQ_no (by kernel_rfl) ?_;(try simp only [Act.put, xa, xb, xc, xd, xe, xf]);refine wpQ_no (by kernel_rfl) ?_;(try simp only [Act.put, xa, xb, xc, xd, xe, xf]);refine wpQ_no (by kernel_rfl) ?_;(try simp only [Act.put, xa, xb, xc, xd, xe, xf]);refine wpQ_no (by kernel_rfl) ?_;(try simp only [Act.put, xa, xb, xc, xd, xe, xf]);refine wpQ_no (by kernel_rfl) ?_;(try simp only [Act.put, xa, xb, xc, xd, xe, xf]);refine wpQ_no (by kernel_rfl) ?_;(try simp only [Act.put, xa, xb, xc, xd, xe, xf]);refine wpQ_no (by kernel_rfl) ?_;(try simp only [Act.put, xa, xb, xc, xd, xe, xf]);refine wpQ_yes (by kernel_rfl) (fun K hK => ?_);go_simp;refine hK _ ?_;clear hK K;refine wpQ_nil ?_;obtain ⟨w4, hw4⟩ : ∃ z, w3.drew = z := ⟨_, rfl⟩
   have hD : Ext w3 w4 := by rw [← hw4]; exact Below.drew (Ext.refl _)
   rw [hw4];clear hw4;have X4 := Lib.hid (X3.out.trans hD);clear hD X3;go_wp2_with fail;rw [rounds_succ];go_wp2_with fail;have ec : w4.cell? ⟨4, 0, none⟩ = some (.iface 188 (.pointer (some (E 0)))) := (HE.out.ext X4.out).var 0 (by decide);go_region;all_goals
    go_wp2_with fail;go_ret2;rw [HO.out];exact ⟨X4.out.trans (Below.drew (Ext.refl _)), rfl⟩
  | some q1 =>
   obtain ⟨sy1, at1, l1⟩ := q1;obtain ⟨s1, mb1, rfl, hB1, hT1, hs1, hm1, hn1⟩ := V1.out;have C3 := Lib.hid hB1;have U3 := Lib.hid hT1;have HS1 := Lib.hid (And.intro hs1 (And.intro hm1 hn1));clear hB1 hT1 hs1 hm1 hn1 V1;simp only [Option.isSome_some];go_wp2_with fail;refine wp_regionQ (by kernel_rfl) (by kernel_rfl) ?_;refine wpQ_yes (by kernel_rfl) (fun K hK => ?_);go_simp;refine hK _ ?_;clear hK K;refine wpQ_yes (by kernel_rfl) (fun K hK => ?_);go_simp;refine hK _ ?_;clear hK K;refine wpQ_yes (by kernel_rfl) (fun K hK => ?_);go_simp;refine hK _ ?_;clear hK K;refine wpQ_yes (by kernel_rfl) (fun K hK => ?_);go_simp;refine hK _ ?_;clear hK K;refine wpQ_yes (by kernel_rfl) (fun K hK => ?_);go_simp;refine hK _ ?_;clear hK K;refine wpQ_no (by kernel_rfl) ?_;(try simp only [Act.put, xa, xb, xc, xd, xe, xf]);refine wpQ_no (by kernel_rfl) ?_;(try simp only [Act.put, xa, xb, xc, xd, xe, xf]);refine wpQ_no (by kernel_rfl) ?_;(try simp only [Act.put, xa, xb, xc, xd, xe, xf]);refine wpQ_no (by kernel_rfl) ?_;(try simp only [Act.put, xa, xb, xc, xd, xe, xf]);refine wpQ_no (by kernel_rfl) ?_;(try simp only [Act.put, xa, xb, xc, xd, xe, xf]);refine wpQ_no (by kernel_rfl) ?_;(try simp only [Act.put, xa, xb, xc, xd, xe, xf]);refine wpQ_no (by kernel_rfl) ?_;(try simp only [Act.put, xa, xb, xc, xd, xe, xf]);refine wpQ_no (by kernel_rfl) ?_;(try simp only [Act.put, xa, xb, xc, xd, xe, xf]);refine wpQ_no (by kernel_rfl) ?_;(try simp only [Act.put, xa, xb, xc, xd, xe, xf]);refine wpQ_yes (by kernel_rfl) (fun K hK => ?_)
   go_simp;refine hK _ ?_;clear hK K;refine wpQ_yes (by kernel_rfl) (fun K hK => ?_);go_simp;refine hK _ ?_;clear hK K;refine wpQ_nil ?_;obtain ⟨w4, hw4⟩ : ∃ z, w3.drew = z := ⟨_, rfl⟩;have hD : Ext w3 w4 := by rw [← hw4]; exact Below.drew (Ext.refl _)
   rw [hw4];clear hw4;have X4 := Lib.hid (X3.out.trans hD);have C4 := Lib.hid (C3.out.ext hD);have U4 := Lib.hid (U3.out.ext hD);clear hD X3 C3 U3;go_wp2_with fail;rw [rounds_succ];go_wp2_with fail;go_ret2;rw [HO.out];exact ⟨X4.out, s1, mb1, rfl, C4.out, U4.out, by have h1 := HS1.out.1; have h2 := HSZ.out; omega, by have h1 := HS1.out.2.1; have h2 := HSZ.out; omega, HS1.out.2.2⟩
 | some q0 =>
  obtain ⟨sy0, at0, l0⟩ := q0;obtain ⟨s0, mb0, rfl, hB0, hT0, hs0, hm0, hn0⟩ := V0.out;have B1 := Lib.hid hB0;have T1 := Lib.hid hT0;have HS0 := Lib.hid (And.intro hs0 (And.intro hm0 hn0));clear hB0 hT0 hs0 hm0 hn0 V0;simp only [Option.isSome_some];go_wp2_with fail;refine wp_regionQ (by kernel_rfl) (by kernel_rfl) ?_;refine wpQ_yes (by kernel_rfl) (fun K hK => ?_);go_simp;refine hK _ ?_;clear hK K;refine wpQ_yes (by kernel_rfl) (fun K hK => ?_);go_simp;refine hK _ ?_;clear hK K;refine wpQ_yes (by kernel_rfl) (fun K hK => ?_);go_simp;refine hK _ ?_;clear hK K;refine wpQ_yes (by kernel_rfl) (fun K hK => ?_);go_simp;refine hK _ ?_;clear hK K;refine wpQ_yes (by kernel_rfl) (fun K hK => ?_);go_simp;refine hK _ ?_;clear hK K;refine wpQ_no (by kernel_rfl) ?_;(try simp only [Act.put, xa, xb, xc, xd, xe, xf]);refine wpQ_no (by kernel_rfl) ?_;(try simp only [Act.put, xa, xb, xc, xd, xe, xf]);refine wpQ_no (by kernel_rfl) ?_;(try simp only [Act.put, xa, xb, xc, xd, xe, xf]);refine wpQ_no (by kernel_rfl) ?_;(try simp only [Act.put, xa, xb, xc, xd, xe, xf]);refine wpQ_no (by kernel_rfl) ?_;(try simp only [Act.put, xa, xb, xc, xd, xe, xf]);refine wpQ_no (by kernel_rfl) ?_;(try simp only [Act.put, xa, xb, xc, xd, xe, xf]);refine wpQ_no (by kernel_rfl) ?_;(try simp only [Act.put, xa, xb, xc, xd, xe, xf]);refine wpQ_no (by kernel_rfl) ?_;(try simp only [Act.put, xa, xb, xc, xd, xe, xf]);refine wpQ_no (by kernel_rfl) ?_;(try simp only [Act.put, xa, xb, xc, xd, xe, xf]);refine wpQ_yes (by kernel_rfl) (fun K hK => ?_)
  go_simp;refine hK _ ?_;clear hK K;refine wpQ_yes (by kernel_rfl) (fun K hK => ?_);go_simp;refine hK _ ?_;clear hK K;refine wpQ_nil ?_;obtain ⟨w2, hw2⟩ : ∃ z, w1.drew = z := ⟨_, rfl⟩;have hD : Ext w1 w2 := by rw [← hw2]; exact Below.drew (Ext.refl _)
  rw [hw2];clear hw2;have X2 := Lib.hid (X1.out.trans hD);have B2 := Lib.hid (B1.out.ext hD);have T2 := Lib.hid (T1.out.ext hD);clear hD X1 B1 T1;go_wp2_with fail;rw [rounds_succ];go_wp2_with fail;refine (HR1.out _ X2.out).mono ?_;rintro e w3 hP;obtain ⟨hX, v1, rfl, hV⟩ := read_lit hP;have X3 := Lib.hid (X2.out.trans hX);have V1 := Lib.hid hV;have B3 := Lib.hid (B2.out.ext hX);have T3 := Lib.hid (T2.out.ext hX);clear B2 T2;have HSZ := Lib.hid X2.out.size;clear hX hV hP HR1 X2;cases r1 with
  | none =>
   obtain rfl : v1 = .pointer none := V1.out;simp only [Option.isSome_none];go_wp2_with fail;refine wp_regionQ (by kernel_rfl) (by kernel_rfl) ?_;refine wpQ_yes (by kernel_rfl) (fun K hK => ?_);go_simp;refine hK _ ?_;clear hK K;refine wpQ_yes (by kernel_rfl) (fun K hK => ?_);go_simp;refine hK _ ?_;clear hK K;refine wpQ_no (by kernel_rfl) ?_;(try simp only [Act.put, xa, xb, xc, xd, xe, xf]);refine wpQ_no (by kernel_rfl) ?_;(try simp only [Act.put, xa, xb, xc, xd, xe, xf]);refine wpQ_no (by kernel_rfl) ?_;(try simp only [Act.put, xa, xb, xc, xd, xe, xf]);refine wpQ_no (by kernel_rfl) ?_;(try simp only [Act.put, xa, xb, xc, xd, xe, xf]);refine wpQ_no (by kernel_rfl) ?_;(try simp only [Act.put, xa, xb, xc, xd, xe, xf]);refine wpQ_no (by kernel_rfl) ?_;(try simp only [Act.put, xa, xb, xc, xd, xe, xf]);refine wpQ_no (by kernel_rfl) ?_;(try simp only [Act.put, xa, xb, xc, xd, xe, xf]);refine wpQ_no (by kernel_rfl) ?_;(try simp only [Act.put, xa, xb, xc, xd, xe, xf]);refine wpQ_no (by kernel_rfl) ?_;(try simp only [Act.put, xa, xb, xc, xd, xe, xf]);refine wpQ_no (by kernel_rfl) ?_;(try simp only [Act.put, xa, xb, xc, xd, xe, xf]);refine wpQ_no (by kernel_rfl) ?_;(try simp only [Act.put, xa, xb, xc, xd, xe, xf]);refine wpQ_no (by kernel_rfl) ?_;(try simp only [Act.put, xa, xb, xc, xd, xe, xf]);refine wpQ_no (by kernel_rfl) ?_;(try simp only [Act.put, xa, xb, xc, xd, xe, xf]);refine wpQ_yes (by kernel_rfl) (fun K hK => ?_);go_simp;refine hK _ ?_;clear hK K;refine wpQ_nil ?_;obtain ⟨w4, hw4⟩ : ∃ z, w3.drew = z := ⟨_, rfl⟩
   have hD : Ext w3 w4 := by rw [← hw4]; exact Below.drew (Ext.refl _)
   rw [hw4];clear hw4;have X4 := Lib.hid (X3.out.trans hD);have B4 := Lib.hid (B3.out.ext hD);have T4 := Lib.hid (T3.out.ext hD);clear hD X3 B3 T3;go_wp2_with fail;rw [rounds_succ];go_wp2_with fail;go_ret2;rw [HO.out];exact ⟨X4.out, s0, mb0, rfl, B4.out, T4.out, HS0.out⟩
  | some q1 =>
   obtain ⟨sy1, at1, l1⟩ := q1;obtain ⟨s1, mb1, rfl, hB1, hT1, hs1, hm1, hn1⟩ := V1.out;have C3 := Lib.hid hB1;have U3 := Lib.hid hT1;have HS1 := Lib.hid (And.intro hs1 (And.intro hm1 hn1));clear hB1 hT1 hs1 hm1 hn1 V1;simp only [Option.isSome_some];by_cases hlt : sy0 < sy1
   ·have t9 : decide ((sy0 : Int) < (sy1 : Int)) = true := decide_eq_true (by omega);have n9 : sy0 < sy1 := hlt;have D1 : w3.drew.cell? ⟨s1, 2, none⟩ = some (.int .u32 (sy1 : Int)) := (C3.out.ext (show Ext w3 w3.drew from Below.drew (Ext.refl w3))).cell 2;have D0 : w3.drew.cell? ⟨s0, 2, none⟩ = some (.int .u32 (sy0 : Int)) := (B3.out.ext (show Ext w3 w3.drew from Below.drew (Ext.refl w3))).cell 2;go_wp2_with fail;refine wp_regionQ (by kernel_rfl) (by kernel_rfl) ?_;refine wpQ_yes (by kernel_rfl) (fun K hK => ?_);go_simp;refine hK _ ?_;clear hK K;refine wpQ_yes (by kernel_rfl) (fun K hK => ?_);go_simp;refine hK _ ?_;clear hK K;refine wpQ_yes (by kernel_rfl) (fun K hK => ?_);go_simp;refine hK _ ?_;clear hK K;refine wpQ_yes (by kernel_rfl) (fun K hK => ?_);go_simp;refine hK _ ?_;clear hK K;refine wpQ_yes (by kernel_rfl) (fun K hK => ?_);go_simp;refine hK _ ?_;clear hK K;refine wpQ_yes (by kernel_rfl) (fun K hK => ?_);go_simp;refine hK _ ?_;clear hK K;refine wpQ_yes (by kernel_rfl) (fun K hK => ?_);go_simp;refine hK _ ?_;clear hK K;refine wpQ_yes (by kernel_rfl) (fun K hK => ?_);go_simp;refine hK _ ?_;clear hK K;refine wpQ_yes (by kernel_rfl) (fun K hK => ?_);go_simp;refine hK _ ?_;clear hK K;refine wpQ_yes (by kernel_rfl) (fun K hK => ?_);go_simp;refine hK _ ?_;clear hK K;refine wpQ_yes (by kernel_rfl) (fun K hK => ?_);go_simp;refine hK _ ?_;clear hK K;refine wpQ_yes (by kernel_rfl) (fun K hK => ?_);go_simp;refine hK _ ?_;clear hK K;refine wpQ_yes (by kernel_rfl) (fun K hK => ?_);go_simp
    refine hK _ ?_;clear hK K;refine wpQ_yes (by kernel_rfl) (fun K hK => ?_);go_simp;refine hK _ ?_;clear hK K;refine wpQ_yes (by kernel_rfl) (fun K hK => ?_);go_simp;refine hK _ ?_;clear hK K;refine wpQ_yes (by kernel_rfl) (fun K hK => ?_);go_simp;refine hK _ ?_;clear hK K;refine wpQ_nil ?_;clear D0 D1;obtain ⟨w4, hw4⟩ : ∃ z, w3.drew = z := ⟨_, rfl⟩;have hD : Ext w3 w4 := by rw [← hw4]; exact Below.drew (Ext.refl _)
    rw [hw4];clear hw4;have X4 := Lib.hid (X3.out.trans hD);have B4 := Lib.hid (B3.out.ext hD);have T4 := Lib.hid (T3.out.ext hD);have C4 := Lib.hid (C3.out.ext hD);have U4 := Lib.hid (U3.out.ext hD);clear hD X3 B3 T3 C3 U3;go_wp2_with fail;rw [rounds_succ];go_wp2_with fail;go_ret2;rw [HO.out];unfold Sto4.best;simp only;rw [if_pos n9];exact ⟨X4.out, s1, mb1, rfl, C4.out, U4.out, by have h1 := HS1.out.1; have h2 := HSZ.out; omega, by have h1 := HS1.out.2.1; have h2 := HSZ.out; omega, HS1.out.2.2⟩
   ·have t9 : decide ((sy0 : Int) < (sy1 : Int)) = false := decide_eq_false (by omega);have n9 : ¬ sy0 < sy1 := hlt;have D1 : w3.drew.cell? ⟨s1, 2, none⟩ = some (.int .u32 (sy1 : Int)) := (C3.out.ext (show Ext w3 w3.drew from Below.drew (Ext.refl w3))).cell 2;have D0 : w3.drew.cell? ⟨s0, 2, none⟩ = some (.int .u32 (sy0 : Int)) := (B3.out.ext (show Ext w3 w3.drew from Below.drew (Ext.refl w3))).cell 2;go_wp2_with fail;refine wp_regionQ (by kernel_rfl) (by kernel_rfl) ?_;refine wpQ_yes (by kernel_rfl) (fun K hK => ?_);go_simp;refine hK _ ?_;clear hK K;refine wpQ_yes (by kernel_rfl) (fun K hK => ?_);go_simp;refine hK _ ?_;clear hK K;refine wpQ_yes (by kernel_rfl) (fun K hK => ?_);go_simp;refine hK _ ?_;clear hK K;refine wpQ_yes (by kernel_rfl) (fun K hK => ?_);go_simp;refine hK _ ?_;clear hK K;refine wpQ_yes (by kernel_rfl) (fun K hK => ?_);go_simp;refine hK _ ?_;clear hK K;refine wpQ_yes (by kernel_rfl) (fun K hK => ?_);go_simp;refine hK _ ?_;clear hK K;refine wpQ_yes (by kernel_rfl) (fun K hK => ?_);go_simp;refine hK _ ?_;clear hK K;refine wpQ_yes (by kernel_rfl) (fun K hK => ?_);go_simp;refine hK _ ?_;clear hK K;refine wpQ_yes (by kernel_rfl) (fun K hK => ?_);go_simp;refine hK _ ?_;clear hK K;refine wpQ_yes (by kernel_rfl) (fun K hK => ?_);go_simp;refine hK _ ?_;clear hK K;refine wpQ_yes (by kernel_rfl) (fun K hK => ?_);go_simp;refine hK _ ?_;clear hK K;refine wpQ_yes (by kernel_rfl) (fun K hK => ?_);go_simp;refine hK _ ?_;clear hK K;refine wpQ_yes (by kernel_rfl) (fun K hK => ?_)
    go_simp;refine hK _ ?_;clear hK K;refine wpQ_yes (by kernel_rfl) (fun K hK => ?_);go_simp;refine hK _ ?_;clear hK K;refine wpQ_yes (by kernel_rfl) (fun K hK => ?_);go_simp;refine hK _ ?_;clear hK K;refine wpQ_yes (by kernel_rfl) (fun K hK => ?_);go_simp;refine hK _ ?_;clear hK K;refine wpQ_nil ?_;clear D0 D1;obtain ⟨w4, hw4⟩ : ∃ z, w3.drew = z := ⟨_, rfl⟩;have hD : Ext w3 w4 := by rw [← hw4]; exact Below.drew (Ext.refl _)
    rw [hw4];clear hw4;have X4 := Lib.hid (X3.out.trans hD);have B4 := Lib.hid (B3.out.ext hD);have T4 := Lib.hid (T3.out.ext hD);have C4 := Lib.hid (C3.out.ext hD);have U4 := Lib.hid (U3.out.ext hD);clear hD X3 B3 T3 C3 U3;go_wp2_with fail;rw [rounds_succ];go_wp2_with fail;go_ret2;rw [HO.out];unfold Sto4.best;simp only;rw [if_neg n9];exact ⟨X4.out, s0, mb0, rfl, B4.out, T4.out, HS0.out⟩
end Go.Proofs.YtheidjagcafgnaaGreatDoor
namespace Go.Proofs.YtheidjagcafgnaaGreatDoor
open Go.RowKit
theorem dl_app (a b : ByteArray) : (a ++ b).data.toList = a.data.toList ++ b.data.toList := by simp [ByteArray.data_append]
theorem dl_ext (s : ByteArray) (a b : Nat) : (s.extract a b).data.toList = (s.data.toList.drop a).take (b - a) := by
 rw [ByteArray.data_extract, Array.toList_extract]; first | done | rw [List.extract_eq_drop_take]
theorem dl_len (s : ByteArray) : s.data.toList.length = s.size := rfl
theorem dl_nB (n : Nat) : (Sto4.nB n).data.toList = big4 n := rfl
theorem dl_inj {a b : ByteArray} (h : a.data.toList = b.data.toList) : a = b := Tx.key_inj h
theorem dl_pkB (L : List Ck) : (pkB L).data.toList = Sto4.pk L := rfl
namespace Sto4
theorem part_size (p : ByteArray) (k : Nat) : (part p k).size ≤ 64 := by unfold part; rw [ByteArray.size_extract]; omega
theorem pad_size {s : ByteArray} (h : s.size ≤ 64) : (Dk.pad s).size = 64 := by unfold Dk.pad; rw [ByteArray.size_append, zB_size]; omega
theorem hd0_list (sy hf sz ck : Nat) : (hd0 sy hf sz ck).data.toList = magic.data.toList ++ (big4 sy ++ (big4 hf ++ (big4 sz ++ big4 ck))) := by
 unfold hd0; rw [dl_app, dl_app, dl_app, dl_app, dl_nB, dl_nB, dl_nB, dl_nB]; simp only [List.append_assoc]
theorem hd_pad (sy hf sz ck : Nat) : ∃ z, (Dk.pad (hd sy hf sz ck)).data.toList = magic.data.toList ++ (big4 sy ++ (big4 hf ++ (big4 sz ++ (big4 ck ++ z)))) := by
 refine ⟨big4 (Crc.crc (hd0 sy hf sz ck).data.toList) ++ (zB (64 - (hd sy hf sz ck).size)).data.toList, ?_⟩;show (hd0 sy hf sz ck ++ nB (Crc.crc (hd0 sy hf sz ck).data.toList) ++ zB (64 - (hd sy hf sz ck).size)).data.toList = _;rw [dl_app, dl_app, hd0_list, dl_nB];simp only [List.append_assoc]
theorem n4_of {h : ByteArray} {i n : Nat} {x z : List UInt8} (hl : h.data.toList = x ++ (big4 n ++ z)) (hx : x.length = i) (hn : n < 4294967296) : n4 h i = n := by
 unfold n4;rw [hl, List.drop_append_of_le_length (by omega), List.drop_of_length_le (by omega), List.nil_append, List.take_append_of_le_length (by rw [show (big4 n).length = 4 from rfl]; exact Nat.le_refl _), List.take_of_length_le (by rw [show (big4 n).length = 4 from rfl]; exact Nat.le_refl _)];exact valN_big4 n hn
theorem hd_read {sy hf sz ck : Nat} (h1 : sy < 4294967296) (h2 : hf < 4294967296) (h3 : sz < 4294967296) (h4 : ck < 4294967296) (s : ByteArray) (hs : s = Dk.pad (hd sy hf sz ck)) :
  s.data.toList.take 4 = magic.data.toList ∧ n4 s 4 = sy ∧ n4 s 8 = hf ∧ n4 s 12 = sz ∧ n4 s 16 = ck ∧ s.extract 0 24 = hd sy hf sz ck := by
 subst hs;obtain ⟨z, hz⟩ := hd_pad sy hf sz ck;refine ⟨by rw [hz]; rfl, n4_of hz rfl h1, n4_of (x := magic.data.toList ++ big4 sy) (z := big4 sz ++ (big4 ck ++ z)) (by rw [hz]; simp only [List.append_assoc]) rfl h2,
  n4_of (x := magic.data.toList ++ (big4 sy ++ big4 hf)) (z := big4 ck ++ z) (by rw [hz]; simp only [List.append_assoc]) rfl h3,
  n4_of (x := magic.data.toList ++ (big4 sy ++ (big4 hf ++ big4 sz))) (z := z) (by rw [hz]; simp only [List.append_assoc]) rfl h4, ?_⟩
 apply dl_inj;rw [dl_ext];unfold Dk.pad;rw [dl_app, List.drop_zero, List.take_append_of_le_length (by rw [dl_len, hd_size]; exact Nat.le_refl _), List.take_of_length_le (by rw [dl_len, hd_size]; exact Nat.le_refl _)]
theorem take_itm {t a r : ByteArray} (h : t = itm a ++ r) (ha : a.size < 4294967296) : takeL t = some (a, r) := by
 have hs : t.size = 4 + a.size + r.size := by rw [h, ByteArray.size_append, itm_size]
 have hl : t.data.toList = big4 a.size ++ (a.data.toList ++ r.data.toList) := by rw [h, dl_app]; unfold itm; rw [dl_app, dl_nB, List.append_assoc]
 have hv : valN (t.data.toList.take 4) = a.size := by
  rw [hl, List.take_append_of_le_length (by rw [show (big4 a.size).length = 4 from rfl]; exact Nat.le_refl _), List.take_of_length_le (by rw [show (big4 a.size).length = 4 from rfl]; exact Nat.le_refl _)];exact valN_big4 _ ha
 unfold takeL;rw [if_neg (by omega), hv, if_neg (by omega)];have e1 : t.extract 4 (4 + a.size) = a := by
  apply dl_inj;rw [dl_ext, hl, List.drop_append_of_le_length (by exact Nat.le_refl _), List.drop_of_length_le (by exact Nat.le_refl _), List.nil_append, List.take_append_of_le_length (by rw [dl_len]; omega), List.take_of_length_le (by rw [dl_len]; omega)]
 have e2 : t.extract (4 + a.size) t.size = r := by
  apply dl_inj;rw [dl_ext, hl, ← List.append_assoc, List.drop_append_of_le_length (by rw [List.length_append, dl_len, show (big4 a.size).length = 4 from rfl]; exact Nat.le_refl _), List.drop_of_length_le (by rw [List.length_append, dl_len, show (big4 a.size).length = 4 from rfl]; exact Nat.le_refl _), List.nil_append, List.take_of_length_le (by rw [dl_len]; omega)]
 rw [e1, e2]
theorem tk_pk : ∀ (L : List Ck), (∀ c ∈ L, c.k.size ≤ 300000 ∧ c.d.size ≤ 300000) → tk (pkB L) = some L
 | [], _ => tk_nil rfl
 | c :: L, h => by
  have hc := h c (List.mem_cons_self ..);have e : pkB (c :: L) = itm c.k ++ (itm c.d ++ pkB L) := by
   apply dl_inj;rw [dl_pkB, dl_app, dl_app, dl_pkB];show (itm c.k ++ itm c.d).data.toList ++ pk L = _;rw [dl_app, List.append_assoc]
  have hz : (pkB (c :: L)).size ≠ 0 := by rw [e, ByteArray.size_append, itm_size]; omega
  rw [tk_go hz (take_itm e (by omega)) (take_itm rfl (by omega)), tk_pk L (fun x hx => h x (List.mem_cons_of_mem _ hx))];rfl
theorem ins_last : ∀ (L : List Ck) (k t : ByteArray), (∀ c ∈ L, Tx.key c.k < Tx.key k) → Tx.ins k t L = L ++ [⟨k, t⟩]
 | [], _, _, _ => rfl
 | c :: L, k, t, h => by
  unfold Tx.ins;rw [if_neg (List.not_le.2 (h c (List.mem_cons_self ..))), ins_last L k t (fun x hx => h x (List.mem_cons_of_mem _ hx))];rfl
theorem put_sorted {L : List Ck} (h : Tx.Sorted L) : putAll L = L := by
 have : ∀ (L A : List Ck), Tx.Sorted (A ++ L) → L.foldl (fun L c => Tx.ins c.k c.d L) A = A ++ L := by
  intro L;induction L with
  | nil => intro A _; simp
  | cons c L ih =>
   intro A h;have hA : ∀ x ∈ A, Tx.key x.k < Tx.key c.k := fun x hx => (List.pairwise_append.1 h).2.2 x hx c (List.mem_cons_self ..);rw [List.foldl_cons, ins_last A c.k c.d hA, ih _ (by rw [List.append_assoc]; exact h), List.append_assoc];rfl
 exact this L [] h
theorem dat_of {f : Nat → ByteArray} {p : ByteArray} {base : Nat} (h : ∀ k, k < secs p → f (base + k) = Dk.pad (part p k)) : ∀ k, k ≤ secs p → (datL f base k).length = 64 * k ∧ (datL f base k).take p.size = p.data.toList.take (64 * k)
 | 0, _ => by simp [datL]
 | k + 1, hk => by
  obtain ⟨h1, h2⟩ := dat_of h k (by omega);have hlt := secs_lt.1 (show k < secs p by omega);have hp := h k (by omega);have hpl : (Dk.pad (part p k)).data.toList.length = 64 := by rw [dl_len]; exact pad_size (part_size p k)
  have e : datL f base (k + 1) = datL f base k ++ (f (base + k)).data.toList := rfl;rw [e, hp];refine ⟨by rw [List.length_append, h1, hpl]; omega, ?_⟩;have e0 : datL f base k = p.data.toList.take (64 * k) := by rw [← h2, List.take_of_length_le (by omega)]
  rw [List.take_append, List.take_of_length_le (by omega), h1, e0];have e1 : (Dk.pad (part p k)).data.toList.take (p.size - 64 * k) = (p.data.toList.drop (64 * k)).take 64 := by
   unfold Dk.pad part;rw [dl_app, dl_ext, Nat.mul_comm k 64, Nat.mul_comm (k + 1) 64];by_cases hc : 64 * (k + 1) ≤ p.size
   ·rw [Nat.min_eq_right hc];have e3 : (p.extract (64 * k) (64 * (k + 1))).size = 64 := by rw [ByteArray.size_extract]; omega
    have e4 : (zB (64 - (p.extract (64 * k) (64 * (k + 1))).size)).data.toList = [] := by rw [e3]; rfl
    rw [e4, List.append_nil, List.take_take];congr 1; omega
   ·rw [Nat.min_eq_left (by omega), List.take_append_of_le_length]
    ·rw [List.take_take, Nat.min_self, List.take_of_length_le (by rw [List.length_drop, dl_len]; exact Nat.le_refl _), List.take_of_length_le (by rw [List.length_drop, dl_len]; omega)]
    ·rw [List.length_take, List.length_drop, dl_len]; omega
  rw [e1, Nat.mul_add, List.take_add, Nat.mul_one]
theorem rest_of {f : Nat → ByteArray} {p : ByteArray} {base : Nat} (h : ∀ k, k < secs p → f (base + k) = Dk.pad (part p k)) : rest f base p.size = p := by
 apply dl_inj;show (datL f base (secs p)).take p.size = _;rw [(dat_of h (secs p) (Nat.le_refl _)).2, List.take_of_length_le];rw [dl_len]; unfold secs; omega
/-- a head that counts fewer syncs, or is none -/
def Old (h : ByteArray) (sy : Nat) : Prop := h.data.toList.take 4 = magic.data.toList → n4 h 4 < sy
/-- what a synced disk is like -/
structure Inv (f : Nat → ByteArray) (n sy hf : Nat) (L : List Ck) : Prop where
 hd : f (sy % 2) = Dk.pad (Sto4.hd sy hf (pkB L).size (Crc.crc (pkB L).data.toList))
 tx : ∀ k, k < secs (pkB L) → f (2 + hf * ((n - 2) / 2) + k) = Dk.pad (part (pkB L) k)
 old : Old (f (1 - sy % 2)) sy
 sz : (pkB L).size ≤ (n - 2) / 2 * 64
 hf1 : hf ≤ 1
 sy1 : sy ≤ 1000000
 so : Tx.Sorted L
 all : ∀ k, k < n → (f k).size = 64
 it : ∀ c ∈ L, c.k.size ≤ 300000 ∧ c.d.size ≤ 300000
 n8 : 8 ≤ n
 n4 : n ≤ 4000
theorem readS_old {f : Nat → ByteArray} {n i sy : Nat} (h : Old (f i) sy) : ∀ r, readS f n i = some r → r.1 < sy := by
 intro r hr;unfold readS at hr;simp only at hr;by_cases hm : (f i).data.toList.take 4 = magic.data.toList
 ·rw [if_pos hm] at hr;split at hr
  ·cases hr
  split at hr
  ·cases hr
  cases ht : tk (rest f (2 + Sto4.n4 (f i) 8 * ((n - 2) / 2)) (Sto4.n4 (f i) 12)) with
  | none => rw [ht] at hr; cases hr
  | some l =>
   rw [ht] at hr;injection hr with hr;rw [← hr];exact h hm
 ·rw [if_neg hm] at hr; cases hr
theorem Inv.read {f : Nat → ByteArray} {n sy hf : Nat} {L : List Ck} (h : Inv f n sy hf L) : readS f n (sy % 2) = some (sy, hf, L) := by
 have hn := h.n4;have hs := h.sz;have h1 := h.sy1;have h2 := h.hf1;obtain ⟨g1, g2, g3, g4, g5, g6⟩ := hd_read (sy := sy) (hf := hf) (sz := (pkB L).size) (ck := Crc.crc (pkB L).data.toList) (by omega) (by omega) (by omega) (Crc.crc_lt4 _) _ h.hd;unfold readS;simp only;rw [if_pos g1, g2, g3, g4, g5, g6, if_neg (by simp; omega), rest_of h.tx, if_neg (by simp), tk_pk L h.it];rfl
theorem Inv.opens {f : Nat → ByteArray} {n sy hf : Nat} {L : List Ck} (h : Inv f n sy hf L) : openS f n = some (sy, hf, L) := by
 have hr := h.read;have ho := readS_old (n := n) h.old;unfold openS;rcases Nat.mod_two_eq_zero_or_one sy with e | e
 ·rw [e] at hr ho;rw [hr];cases h1 : readS f n 1 with
  | none => rfl
  | some r =>
   have := ho r h1;show (if sy < r.1 then some r else some (sy, hf, L)) = _;rw [if_neg (by omega)]
 ·rw [e] at hr ho;rw [hr];cases h1 : readS f n 0 with
  | none => rfl
  | some r =>
   have := ho r h1;show (if r.1 < sy then some (sy, hf, L) else some r) = _;rw [if_pos (by omega)]
theorem Inv.same {f g : Nat → ByteArray} {n sy hf : Nat} {L : List Ck} (h : Inv f n sy hf L) (h0 : ∀ k, k < 2 → g k = f k) (h1 : ∀ k, k < (n - 2) / 2 → g (2 + hf * ((n - 2) / 2) + k) = f (2 + hf * ((n - 2) / 2) + k)) (hs : ∀ k, k < n → (g k).size = 64) : Inv g n sy hf L := by
 refine ⟨by rw [h0 _ (by omega)]; exact h.hd, fun k hk => ?_, by rw [h0 _ (by omega)]; exact h.old, h.sz, h.hf1, h.sy1, h.so, hs, h.it, h.n8, h.n4⟩;rw [h1 k (by have := secs_lt.1 hk; have := h.sz; omega)];exact h.tx k hk
end Sto4
end Go.Proofs.YtheidjagcafgnaaGreatDoor
namespace Go.Proofs.YtheidjagcafgnaaGreatDoor
open Go.RowKit
namespace Sto4
theorem wAt_now (m : Dk.DM) (p : ByteArray) (base j : Nat) : ∀ k, (wAt m p base k).now j = if base ≤ j ∧ j < base + k then Dk.pad (part p (j - base)) else m.now j
 | 0 => by rw [if_neg (by omega)]; rfl
 | k + 1 => by
  show (if j = base + k then Dk.pad (part p k) else (wAt m p base k).now j) = _;rw [wAt_now m p base j k];by_cases e : j = base + k
  ·rw [if_pos e, if_pos (by omega), show j - base = k by omega]
  ·rw [if_neg e];by_cases e2 : base ≤ j ∧ j < base + k
   ·rw [if_pos e2, if_pos (by omega)]
   ·rw [if_neg e2, if_neg (by omega)]
theorem Inv.made {f : Nat → ByteArray} {n sy hf : Nat} {L : List Ck} (ho : Old (f (1 - sy % 2)) sy) (hz : (pkB L).size ≤ (n - 2) / 2 * 64) (h1 : hf ≤ 1) (h2 : sy ≤ 1000000) (so : Tx.Sorted L) (all : ∀ k, k < n → (f k).size = 64) (it : ∀ c ∈ L, c.k.size ≤ 300000 ∧ c.d.size ≤ 300000) (n8 : 8 ≤ n) (n4 : n ≤ 4000)
  (hf0 : ∀ k, k < secs (pkB L) → f (2 + hf * ((n - 2) / 2) + k) = Dk.pad (part (pkB L) k)) : Inv (Dk.upS f (sy % 2) (Dk.pad (Sto4.hd sy hf (pkB L).size (Crc.crc (pkB L).data.toList)))) n sy hf L := by
 refine ⟨if_pos rfl, fun k hk => ?_, ?_, hz, h1, h2, so, fun k hk => ?_, it, n8, n4⟩
 ·rw [← hf0 k hk];exact if_neg (by omega)
 ·have : Dk.upS f (sy % 2) (Dk.pad (Sto4.hd sy hf (pkB L).size (Crc.crc (pkB L).data.toList))) (1 - sy % 2) = f (1 - sy % 2) := if_neg (by omega);rw [this]; exact ho
 ·show (if k = sy % 2 then _ else f k).size = 64;split
  ·exact pad_size (by rw [hd_size]; omega)
  ·exact all k hk
theorem Inv.old_next {f : Nat → ByteArray} {n sy hf : Nat} {L : List Ck} (h : Inv f n sy hf L) : Old (f (1 - (sy + 1) % 2)) (sy + 1) := by
 have e : 1 - (sy + 1) % 2 = sy % 2 := by omega
 have hs := h.sz;have h4 := h.n4;have h1 := h.sy1;have h2 := h.hf1;obtain ⟨g1, g2, _⟩ := hd_read (sy := sy) (hf := hf) (sz := (pkB L).size) (ck := Crc.crc (pkB L).data.toList) (by omega) (by omega) (by omega) (Crc.crc_lt4 _) _ h.hd;intro _;rw [e, g2]; omega
/-- no write waits -/
def Calm (m : Dk.DM) : Prop := m.ws = [] ∧ m.now = m.kept
theorem Calm.fl (m : Dk.DM) : Calm (Dk.fl m) := ⟨rfl, rfl⟩
theorem Calm.cr (m : Dk.DM) (keep : Nat → Bool) : Calm (Dk.cr m keep) := ⟨rfl, rfl⟩
section
variable {m : Dk.DM} {n sy hf : Nat} {L0 L : List Ck}
theorem far {n hf : Nat} (h1 : hf ≤ 1) (k j : Nat) (hk : k < (n - 2) / 2) (hj : j < (n - 2) / 2) : 2 + hf * ((n - 2) / 2) + k ≠ 2 + (1 - hf) * ((n - 2) / 2) + j := by
 rcases (show hf = 0 ∨ hf = 1 by omega) with rfl | rfl <;> omega
/-- the writes of a sync leave what was synced -/
theorem Inv.wAt (h : Inv m.now n sy hf L0) (hz : (pkB L).size ≤ (n - 2) / 2 * 64) {k : Nat} (hk : k ≤ secs (pkB L)) : Inv (wAt m (pkB L) (2 + (1 - hf) * ((n - 2) / 2)) k).now n sy hf L0 := by
 have hsec : secs (pkB L) ≤ (n - 2) / 2 := by unfold secs; omega
 refine h.same (fun j hj => ?_) (fun j hj => ?_) (fun j hj => ?_)
 ·rw [wAt_now, if_neg (by omega)]
 ·rw [wAt_now, if_neg];intro q;have := far (n := n) h.hf1 j (2 + hf * ((n - 2) / 2) + j - (2 + (1 - hf) * ((n - 2) / 2))) hj (by omega);omega
 ·rw [wAt_now];split
  ·exact pad_size (part_size _ _)
  ·exact h.all j hj
theorem sync_done (h : Inv m.now n sy hf L0) (hz : (pkB L).size ≤ (n - 2) / 2 * 64) (so : Tx.Sorted L) (it : ∀ c ∈ L, c.k.size ≤ 300000 ∧ c.d.size ≤ 300000) (hsy : sy + 1 ≤ 1000000) :
  Inv (Dk.upS (Sto4.wAt m (pkB L) (2 + (1 - hf) * ((n - 2) / 2)) (secs (pkB L))).now ((sy + 1) % 2) (Dk.pad (Sto4.hd (sy + 1) (1 - hf) (pkB L).size (Crc.crc (pkB L).data.toList)))) n (sy + 1) (1 - hf) L := by
 have h2 := h.wAt (L := L) hz (Nat.le_refl _);refine Inv.made h2.old_next hz (by omega) hsy so h2.all it h.n8 h.n4 (fun k hk => ?_);rw [wAt_now, if_pos (by omega)];congr 2; omega
theorem sync_ok {m' : Dk.DM} {ok : Bool} (hr : SyncR m (pkB L) (2 + (1 - hf) * ((n - 2) / 2)) ((sy + 1) % 2) (Sto4.hd (sy + 1) (1 - hf) (pkB L).size (Crc.crc (pkB L).data.toList)) m' ok)
  (h : Inv m.now n sy hf L0) (hz : (pkB L).size ≤ (n - 2) / 2 * 64) (so : Tx.Sorted L) (it : ∀ c ∈ L, c.k.size ≤ 300000 ∧ c.d.size ≤ 300000) (hsy : sy + 1 ≤ 1000000) (hok : ok = true) :
  Calm m' ∧ Inv m'.now n (sy + 1) (1 - hf) L := by
 subst hok;cases hr
 exact ⟨Calm.fl _, sync_done h hz so it hsy⟩
end
theorem fmt_inv {m : Dk.DM} {n : Nat} (all : ∀ k, k < n → (m.now k).size = 64) (n8 : 8 ≤ n) (n4 : n ≤ 4000) : Calm (fmt m) ∧ Inv (fmt m).now n 1 1 [] := by
 refine ⟨Calm.fl _, ?_⟩;have e : (fmt m).now = Dk.upS (wipe m 2).now (1 % 2) (Dk.pad (Sto4.hd 1 1 (pkB []).size (Crc.crc (pkB []).data.toList))) := rfl;rw [e];have hw : ∀ k, (wipe m 2).now k = if k = 1 then Dk.pad ⟨#[]⟩ else if k = 0 then Dk.pad ⟨#[]⟩ else m.now k := fun _ => rfl
 refine Inv.made (fun hm => ?_) (by show 0 ≤ _; omega) (Nat.le_refl _) (by omega) List.Pairwise.nil (fun k hk => ?_) (fun c hc => by cases hc) n8 n4 (fun k hk => by exact absurd hk (by show ¬ k < 0; omega))
 ·rw [hw, if_neg (by decide), if_pos (by decide)] at hm;exact absurd hm (by decide +kernel)
 ·rw [hw];split
  ·rfl
  split
  ·rfl
  ·exact all k hk
end Sto4
end Go.Proofs.YtheidjagcafgnaaGreatDoor
namespace Go.Proofs.YtheidjagcafgnaaGreatDoor
open Go.RowKit
theorem Errs.low {w0 : World} {E : Nat → Addr} (h : Errs w0 E) : ∀ c, c < 9 → gk c < w0.heap.size ∧ (E c).block < w0.heap.size := fun c hc => by
 refine ⟨World.block_lt_of_cell? w0 _ (h.var c hc), ?_⟩;obtain ⟨c, t, hr⟩ := h.row c hc;exact lt_of_block hr
theorem Errs.lowT {w0 : World} {E : Nat → Addr} (h : Errs w0 E) : 9 < w0.heap.size := World.block_lt_of_cell? w0 _ h.et
structure LS (w0 w : World) (S : Nat → Prop) (s d mb n cn : Nat) (m : Dk.DM) (b : Nat) (L : List Ck) (sy hf : Nat) (lost : Bool) : Prop where
 st : StS w w0.heap.size S s d mb n cn m b L sy hf lost
 ext : Ext w0 w
section
variable {w0 w w' : World} {S : Nat → Prop} {s d mb n cn : Nat} {m m' : Dk.DM} {b b' : Nat} {L : List Ck} {sy hf : Nat} {lost : Bool} {E : Nat → Addr}
theorem LS.step (h : LS w0 w S s d mb n cn m b L sy hf lost) (hE : Ext w w') : LS w0 w' S s d mb n cn m b L sy hf lost := ⟨h.st.ext hE, h.ext.trans hE⟩
theorem LS.keep {F : Nat → Prop} (h : Ext w0 w) (hk : Keeps F w w') (hF : ∀ k, F k → w0.heap.size ≤ k) : Ext w0 w' :=
 Below.trans h (hk.below h.size (fun k hk q => by have := hF k q; omega))
theorem LS.put {k t : ByteArray} (h : LS w0 w S s d mb n cn m b L sy hf lost) (hT : TM w' mb (cn + 1) (Tx.ins k t L)) (hK : Keeps (fun q => q = mb) w w') (hk : k.size ≤ 300000) (ht : t.size ≤ 300000) (hc : cn + 1 ≤ 100000) :
  LS w0 w' S s d mb n (cn + 1) m b (Tx.ins k t L) sy hf lost := by
 have g := h.st;refine ⟨⟨g.D.keeps hK (fun k hS e => g.nm (e ▸ hS)), g.B.keeps hK g.ne, hT, g.so.ins k t, fun c hc => ?_, g.ns, g.nm, g.ne, g.lo, g.los, g.lom, hc⟩, LS.keep h.ext hK (fun k e => e ▸ g.lom)⟩;rcases Tx.mem_ins hc with rfl | ⟨hc, _⟩
 ·exact ⟨hk, ht⟩
 ·exact g.sz c hc
theorem LS.drop {k : ByteArray} (h : LS w0 w S s d mb n cn m b L sy hf lost) (hT : TM w' mb cn (Tx.drp L k)) (hK : Keeps (fun q => q = mb) w w') : LS w0 w' S s d mb n cn m b (Tx.drp L k) sy hf lost := by
 have g := h.st;exact ⟨⟨g.D.keeps hK (fun k hS e => g.nm (e ▸ hS)), g.B.keeps hK g.ne, hT, g.so.drp k, fun c hc => g.sz c (Tx.mem_drp.1 hc).1, g.ns, g.nm, g.ne, g.lo, g.los, g.lom, g.cnb⟩, LS.keep h.ext hK (fun k e => e ▸ g.lom)⟩
theorem LS.sync {sy' hf' : Nat} {lost' : Bool} (h : LS w0 w S s d mb n cn m b L sy hf lost) (hS : StS w' w0.heap.size (grow S w w') s d mb n cn m' b' L sy' hf' lost') (hK : Keeps (fun k => S k ∨ k = s) w w') : LS w0 w' (grow S w w') s d mb n cn m' b' L sy' hf' lost' :=
 ⟨hS, LS.keep h.ext hK (fun k e => by
  rcases e with e | rfl
  ·exact h.st.lo k e
  ·exact h.st.los)⟩
theorem ps (h : LS w0 w S s d mb n cn m b L sy hf lost) : w.cell? ⟨s, 1, none⟩ = some (.map (some mb)) ∧ w.cell? ⟨s, 4, none⟩ = some (.bool lost) := ⟨h.st.B.cell 1, h.st.B.cell 4⟩
/-- a store that was opened -/
theorem LS.opened {sy' at_ s' mb' : Nat} {l : List Ck} (hX : Ext w0 w) (hE : Ext w w') (hD : DS w S d n m b) (hlo : ∀ k, S k → w0.heap.size ≤ k) (hB : Bk w' s' (stV d mb' sy' at_ false)) (hT : TM w' mb' l.length (Sto4.putAll l))
  (h1 : w.heap.size ≤ s') (h2 : w.heap.size ≤ mb') (h3 : s' ≠ mb') (hl : l.length ≤ 100000) (hz : ∀ c ∈ l, c.k.size ≤ 300000 ∧ c.d.size ≤ 300000) (so : Tx.Sorted l) : LS w0 w' S s' d mb' n l.length m b l sy' at_ false := by
 rw [Sto4.put_sorted so] at hT;exact ⟨⟨hD.ext hE, hB, hT, so, hz, fun q => by have := hD.lt _ q; omega, fun q => by have := hD.lt _ q; omega, h3, hlo, Nat.le_trans hX.size h1, Nat.le_trans hX.size h2, hl⟩, hX.trans hE⟩
end
end Go.Proofs.YtheidjagcafgnaaGreatDoor
namespace Go.Proofs.YtheidjagcafgnaaGreatDoor
open Go.RowKit
theorem putE_ax : putE [] false ⟨#[97]⟩ ⟨#[120]⟩ = none := by
 unfold putE tooMuch;have h1 : isKey ⟨#[97]⟩ := ⟨by decide, by decide, by decide +kernel⟩;simp only [Bool.false_eq_true, if_false];rw [if_neg (by simp [h1])];refine if_neg ?_;intro q;rcases q with q | q
 ·exact absurd q (by decide +kernel)
 ·exact absurd q.2 (by decide)
set_option linter.unusedSimpArgs false in
set_option maxHeartbeats 8000000 in
theorem hold_any (w : World) (E : Nat → Addr) (hE : Errs w E) : Calls Tryz.prog 8 #[] w fun e w' => e = .returned (.bool true) ∧ Ext w w' := by
 have HE := Lib.hid hE;clear hE;go_enter Tryz.func8, Tryz.ntmps8
 go_wp2_with fail;refine (new_ok 100 w (by omega)).mono ?_;rintro e w1 ⟨⟨d, rfl, hd⟩, hX⟩;have X1 := Lib.hid hX;have D1 := Lib.hid hd;clear hX hd;go_wp2_with fail;refine (format_any w.heap.size d 100 0 Dk.new _ w1 E (HE.out.ext X1.out) HE.out.low HE.out.lowT D1.out (fun k q => q.1) X1.out.size rfl (by omega)).mono ?_;rintro e w2 hP;unfold FmtP at hP;rw [if_neg (by omega)] at hP;obtain ⟨s, mb, S, rfl, hS, _, _, h1, h2, hK⟩ := hP;have L2 := Lib.hid (show LS w w2 S s d mb 100 0 (Sto4.fmt Dk.new) 0 [] 1 1 false from ⟨hS, LS.keep X1.out hK (fun k q => q.1)⟩);have I2 := Lib.hid (Sto4.fmt_inv (m := Dk.new) (n := 100) (fun k _ => zB_size 64) (by omega) (by omega));clear hS hK h1 h2 X1 D1;go_wp2_with fail;have hp := ps L2.out;refine (put_any s mb 0 [] false ⟨#[97]⟩ ⟨#[120]⟩ w2 E (HE.out.ext L2.out.ext) hp.1 hp.2 L2.out.st.T L2.out.st.so (by omega) (by decide) (by decide)).mono ?_;rw [putE_ax];rintro e w3 ⟨rfl, hT, hK⟩;have L3 := Lib.hid (L2.out.put hT hK (by decide) (by decide) (by omega));clear hT hK hp;go_wp2_with fail;refine (sync_any w.heap.size s d mb 100 1 _ 0 _ 1 1 false S w3 E (HE.out.ext L3.out.ext) HE.out.low L3.out.st (by omega) (by omega) (by omega) (by omega)).mono ?_;rintro e w4 hP;unfold SyncP at hP;have hz : (pkB (Tx.ins ⟨#[97]⟩ ⟨#[120]⟩ [])).size = 10 := by decide +kernel
 rw [if_neg (by decide), if_neg (by rw [hz]; decide)] at hP;obtain ⟨m', ok, b', hR, hb', hb0, hS, hK, rfl⟩ := hP;have hok := (hR.sure rfl).1;have hI := Sto4.sync_ok hR I2.out.2 (by rw [hz]; decide) L3.out.st.so L3.out.st.sz (by omega) hok;subst hok;have L4 := Lib.hid (L3.out.sync hS hK);have I4 := Lib.hid hI;clear hR hb' hb0 hS hK hI I2 L2 L3 hz;simp only [if_true];go_wp2_with fail;refine (open_any d 100 b' m' _ w4 E (HE.out.ext L4.out.ext) L4.out.st.D (by omega) I4.out.2.all).mono ?_;rintro e w5 hP;rw [I4.out.2.opens] at hP;obtain ⟨hX, s', mb', rfl, hB, hT, h1, h2, h3⟩ := hP;have L5 := Lib.hid (LS.opened L4.out.ext hX L4.out.st.D L4.out.st.lo hB hT h1 h2 h3 (by decide) L4.out.st.sz L4.out.st.so);clear hX hB hT h1 h2 h3 L4 I4;go_wp2_with fail;have hp := ps L5.out;refine (get_any s' mb' _ _ ⟨#[97]⟩ w5 E (HE.out.ext L5.out.ext) hp.1 L5.out.st.T (by decide)).mono ?_;have hf : Tx.fnd (Tx.ins ⟨#[97]⟩ ⟨#[120]⟩ []) ⟨#[97]⟩ = some ⟨#[120]⟩ := by rw [Tx.fnd_ins, if_pos rfl]
 rw [hf];rintro e w6 ⟨hX, rfl⟩;have X6 := Lib.hid (L5.out.ext.trans hX);clear hX hp hf;go_wp2_with fail;go_ret;exact ⟨rfl, X6.out⟩
end Go.Proofs.YtheidjagcafgnaaGreatDoor
namespace Go.Proofs.YtheidjagcafgnaaGreatDoor
open Go.RowKit
/-- digits -/
def decF : Nat → Nat → List UInt8
 | 0, _ => []
 | f + 1, n => if n < 10 then [UInt8.ofNat (48 + n)] else decF f (n / 10) ++ [UInt8.ofNat (48 + n % 10)]
def decN (n : Nat) : List UInt8 := decF (n + 1) n
theorem decF_same : ∀ (f g n : Nat), n < f → n < g → decF f n = decF g n
 | 0, _, _, h, _ => by omega
 | _, 0, _, _, h => by omega
 | f + 1, g + 1, n, hf, hg => by
  unfold decF;by_cases h : n < 10
  ·rw [if_pos h, if_pos h]
  ·rw [if_neg h, if_neg h, decF_same f g (n / 10) (by omega) (by omega)]
theorem decN_small {n : Nat} (h : n < 10) : decN n = [UInt8.ofNat (48 + n)] := by unfold decN decF; rw [if_pos h]
theorem decN_big {n : Nat} (h : ¬ n < 10) : decN n = decN (n / 10) ++ [UInt8.ofNat (48 + n % 10)] := by
 have e : decF n (n / 10) = decN (n / 10) := decF_same _ _ _ (by omega) (by omega);rw [← e]; unfold decN decF; rw [if_neg h]; cases n with
 | zero => omega
 | succ n => rfl
theorem decN_len : ∀ (n : Nat), (decN n).length ≤ n + 1
 | n => by
  by_cases h : n < 10
  ·rw [decN_small h]; simp
  ·rw [decN_big h, List.length_append];have := decN_len (n / 10);simp only [List.length_cons, List.length_nil];omega
termination_by n => n
decreasing_by omega
theorem neg_div10 (n : Nat) : (-(n : Int)).tdiv 10 = -((n / 10 : Nat) : Int) := by rw [Int.neg_tdiv]; rfl
theorem neg_mod10 (n : Nat) : (-(n : Int)).tmod 10 = -((n % 10 : Nat) : Int) := by rw [Int.neg_tmod]; rfl
set_option maxHeartbeats 4000000 in
theorem below_any (n : Nat) (w : World) (hn : n ≤ 1000000000) : Calls Tryz.prog 34 #[.int .i64 (-(n : Int))] w fun e w' => e = .returned (.string ⟨(decN n).toArray⟩) ∧ Ext w w' := by
 induction n using Nat.strongRecOn generalizing w with
 | ind n ih =>
  by_cases h : n < 10
  ·have t0 : (-10 : Int) < -(n : Int) := by omega
   obtain ⟨k, hk⟩ : ∃ k, 48 + n = k := ⟨_, rfl⟩;have e1 : (48 : Int) - -(n : Int) = (k : Int) := by omega
   have wa : IntKind.i64.wrap (k : Int) = k := by rw [IntKind.wrap_i64]; omega
   have wb : wrap64 (k : Int) = k := by unfold wrap64; omega
   have HV : Hid (decN n = [UInt8.ofNat k]) := Lib.hid (by rw [decN_small h, hk]);have hk2 : k < 256 := by omega
   obtain ⟨v, hv⟩ : ∃ v, -(n : Int) = v := ⟨_, rfl⟩;rw [hv] at t0 e1 ⊢;clear hv ih h hk;go_enter Tryz.func34, Tryz.ntmps34
   go_wp2_with fail;refine (byte_any k hk2 w).mono ?_;rintro e w1 ⟨rfl, hX⟩;have X1 := Lib.hid hX;clear hX;go_wp2_with fail;go_ret;exact ⟨by rw [HV.out]; rfl, X1.out⟩
  ·have t0 : ¬ (-10 : Int) < -(n : Int) := by omega
   obtain ⟨q, hq⟩ : ∃ q, n / 10 = q := ⟨_, rfl⟩;obtain ⟨r, hr⟩ : ∃ r, n % 10 = r := ⟨_, rfl⟩;have e1 : (-(n : Int)).tdiv 10 = -(q : Int) := by rw [neg_div10, hq]
   have e2 : (-(n : Int)).tmod 10 = -(r : Int) := by rw [neg_mod10, hr]
   have HI := Lib.hid (fun w => ih q (by omega) w (by omega));obtain ⟨k, hk⟩ : ∃ k, 48 + r = k := ⟨_, rfl⟩;have e3 : (48 : Int) - -(r : Int) = (k : Int) := by omega
   have wa : IntKind.i64.wrap (k : Int) = k := by rw [IntKind.wrap_i64]; omega
   have wb : wrap64 (k : Int) = k := by unfold wrap64; omega
   have wc : IntKind.i64.wrap (-(q : Int)) = -(q : Int) := by rw [IntKind.wrap_i64]; omega
   have wd : wrap64 (-(q : Int)) = -(q : Int) := by unfold wrap64; omega
   have we : IntKind.i64.wrap (-(r : Int)) = -(r : Int) := by rw [IntKind.wrap_i64]; omega
   have wf : wrap64 (-(r : Int)) = -(r : Int) := by unfold wrap64; omega
   have HV : Hid (decN n = decN q ++ [UInt8.ofNat k]) := Lib.hid (by rw [decN_big h, hq, hr, hk]);have hk2 : k < 256 := by omega
   have HL : Hid ((decN q).length ≤ 1000000000) := Lib.hid (by have := decN_len q; omega);have hz : ¬ 9223372036854775807 < (⟨(decN q).toArray⟩ : ByteArray).size + (⟨#[UInt8.ofNat k]⟩ : ByteArray).size := by
    have h1 : (⟨(decN q).toArray⟩ : ByteArray).size = (decN q).length := by simp [ByteArray.size]
    have h2 : (⟨#[UInt8.ofNat k]⟩ : ByteArray).size = 1 := rfl;have := HL.out;omega
   obtain ⟨D, hD⟩ : ∃ D : ByteArray, ⟨(decN q).toArray⟩ = D := ⟨_, rfl⟩;have HD := Lib.hid hD;rw [hD] at HI hz;obtain ⟨v, hv⟩ : ∃ v, -(n : Int) = v := ⟨_, rfl⟩;rw [hv] at t0 e1 e2 ⊢;clear hv ih h hk hq hr hD;go_enter Tryz.func34, Tryz.ntmps34
   go_wp2_with fail;refine (HI.out w).mono ?_;rintro e w1 ⟨rfl, hX⟩;have X1 := Lib.hid hX;clear hX;go_wp2_with fail;refine (byte_any k hk2 w1).mono ?_;rintro e w2 ⟨rfl, hX⟩;have X2 := Lib.hid (X1.out.trans hX);clear hX;go_wp2_with fail;go_ret;exact ⟨by rw [HV.out, ← HD.out]; first | rfl | (show _ = Ending.returned (.string _); congr 2; apply ByteArray.ext; apply Array.ext'; simp), X2.out⟩
theorem decimal_any (n : Nat) (w : World) (hn : n ≤ 1000000000) : Calls Tryz.prog 12 #[.int .i64 (n : Int)] w fun e w' => e = .returned (.string ⟨(decN n).toArray⟩) ∧ Ext w w' := by
 have t0 : ¬ (n : Int) < 0 := by omega
 have HB := Lib.hid (below_any n w hn);obtain ⟨v, hv⟩ : ∃ v, -(n : Int) = v := ⟨_, rfl⟩;have wa : IntKind.i64.wrap v = v := by rw [IntKind.wrap_i64]; omega
 have wb : wrap64 v = v := by unfold wrap64; omega
 rw [hv] at HB;clear hn;go_enter Tryz.func12, Tryz.ntmps12
 go_wp2_with fail;refine HB.out.mono ?_;rintro e w1 ⟨rfl, hX⟩;have X1 := Lib.hid hX;clear hX;go_wp2_with fail;go_ret;exact ⟨rfl, X1.out⟩
end Go.Proofs.YtheidjagcafgnaaGreatDoor
namespace Go.Proofs.YtheidjagcafgnaaGreatDoor
open Go.RowKit
theorem coded_any (w : World) (E : Nat → Addr) (hE : Errs w E) (v : Value) (c a n : Int) (h : ErrV w E v c a) : Calls Tryz.prog 13 #[v, .int .i64 n] w fun e w' => e = .returned (.bool (decide (c = n ∧ a = -1))) ∧ Ext w w' := by
  by_cases hc : c = n
  · subst hc;go_enter Tryz.func13, Tryz.ntmps13
    go_wp2_with fail;refine (code_any _ E hE _ _ _ h).mono ?_;rintro e w2 ⟨rfl, h2⟩;go_wp2_with fail;go_ret;exact ⟨ret_bool (by rw [Bool.eq_iff_iff]; simp), h2⟩
  · have t1 : (c == n) = false := beq_eq_false_iff_ne.2 hc;go_enter Tryz.func13, Tryz.ntmps13
    go_wp2_with fail;refine (code_any _ E hE _ _ _ h).mono ?_;rintro e w2 ⟨rfl, h2⟩;go_wp2_with fail;go_ret;exact ⟨ret_bool (by rw [Bool.eq_iff_iff]; simp [hc]), h2⟩
end Go.Proofs.YtheidjagcafgnaaGreatDoor
namespace Go.Proofs.YtheidjagcafgnaaGreatDoor
open Go.RowKit
namespace Tx
theorem length_ins_new : ∀ (L : List Ck) (k t : ByteArray), fnd L k = none → (ins k t L).length = L.length + 1
  | [], _, _, _ => rfl
  | c :: L, k, t, h => by
    unfold ins
    split
    · rw [drp_same h]; rfl
    · rw [fnd_cons] at h
      by_cases e : c.k = k
      · rw [if_pos e] at h; cases h
      · rw [if_neg e] at h
        rw [List.length_cons, length_ins_new L k t h, List.length_cons]
end Tx
def mnN (i : Nat) : ByteArray := ⟨(116 :: decN i).toArray⟩
def mnL : Nat → List Ck
  | 0 => []
  | i + 1 => if i < 100 then Tx.ins (mnN i) ⟨#[120]⟩ (mnL i) else mnL i
theorem mnN_key : ∀ i, i < 110 → isKey (mnN i) := by
  have h : ∀ i, i < 110 → 1 ≤ (mnN i).size ∧ (mnN i).size ≤ 12 ∧ ∀ j, j < (mnN i).size → ¬ badK (bK (mnN i) j) := by unfold badK; decide +kernel
  exact h
theorem mnN_inj : ∀ i, i < 110 → ∀ j, j < 110 → mnN i = mnN j → i = j := by
  have h : ∀ i, i < 110 → ∀ j, j < 110 → decN i = decN j → i = j := by decide +kernel
  intro i hi j hj e
  refine h i hi j hj ?_
  have : (mnN i).data.toList = (mnN j).data.toList := by rw [e]
  exact (List.cons.inj this).2
theorem mnL_facts : ∀ i, i ≤ 110 → (mnL i).length = min i 100 ∧ ∀ j, j < 110 → (Tx.fnd (mnL i) (mnN j) = none ↔ ¬ (j < i ∧ j < 100))
  | 0, _ => ⟨rfl, fun j hj => by simp [mnL, Tx.fnd_nil]⟩
  | i + 1, hi => by
    obtain ⟨h1, h2⟩ := mnL_facts i (by omega)
    unfold mnL
    by_cases h : i < 100
    · rw [if_pos h]
      have hn := (h2 i (by omega)).2 (by omega)
      refine ⟨by rw [Tx.length_ins_new _ _ _ hn, h1]; omega, fun j hj => ?_⟩
      rw [Tx.fnd_ins]
      by_cases e : mnN j = mnN i
      · have := mnN_inj j hj i (by omega) e
        rw [if_pos e]
        simp; omega
      · have hji : j ≠ i := fun q => e (by rw [q])
        rw [if_neg e, h2 j hj]
        omega
    · rw [if_neg h]
      refine ⟨by omega, fun j hj => ?_⟩
      rw [h2 j hj]
      omega
theorem mn_put {i : Nat} (hi : i < 110) : putE (mnL i) false (mnN i) ⟨#[120]⟩ = if i < 100 then none else some 1 := by
  obtain ⟨h1, h2⟩ := mnL_facts i (by omega)
  have hn := (h2 i hi).2 (by omega)
  unfold putE
  rw [if_neg (by simp), if_neg (by simp [mnN_key i hi])]
  unfold tooMuch
  have hx : ¬ 300000 < (⟨#[120]⟩ : ByteArray).size := by decide
  by_cases h : i < 100
  · rw [if_pos h]
    exact if_neg (fun q => by rcases q with q | q; exact hx q; omega)
  · rw [if_neg h]
    exact if_pos (.inr ⟨hn, by omega⟩)
theorem mn_last {n : Nat} (hn : n ≤ 110) (t : ByteArray) : putE (mnL n) false (mnN 0) t = if 300000 < t.size then some 1 else none := by
  obtain ⟨h1, h2⟩ := mnL_facts n hn
  unfold putE
  rw [if_neg (by simp), if_neg (by simp [mnN_key 0 (by omega)])]
  unfold tooMuch
  by_cases h : 300000 < t.size
  · rw [if_pos h]
    exact if_pos (.inl h)
  · rw [if_neg h]
    exact if_neg (fun q => by
      rcases q with q | q
      · exact h q
      · have := (h2 0 (by omega)).1 q.1
        omega)
set_option linter.unusedSimpArgs false in
set_option maxHeartbeats 8000000 in
theorem storeMany_any (n long : Int) (w : World) (E : Nat → Addr) (hE : Errs w E) : Calls Tryz.prog 3 #[.int .i64 n, .int .i64 long] w fun e w' => e = .returned (.bool true) ∧ Ext w w' := by
  have HE := Lib.hid hE
  clear hE
  go_enter Tryz.func3, Tryz.ntmps3
  go_wp2_with fail
  refine (hold_any w E HE.out).mono ?_
  rintro e w1 ⟨rfl, hX⟩
  have X1 := Lib.hid hX
  clear hX
  by_cases q1 : n < 0
  · have t1 : decide (n < 0) = true := decide_eq_true q1
    go_wp2_with fail
    go_ret
    exact ⟨rfl, X1.out⟩
  have t1 : decide (n < 0) = false := decide_eq_false q1
  by_cases q2 : 110 < n
  · have t2 : decide (110 < n) = true := decide_eq_true q2
    go_wp2_with fail
    go_ret
    exact ⟨rfl, X1.out⟩
  have t2 : decide (110 < n) = false := decide_eq_false q2
  by_cases q3 : long < 0
  · have t3 : decide (long < 0) = true := decide_eq_true q3
    go_wp2_with fail
    go_ret
    exact ⟨rfl, X1.out⟩
  have t3 : decide (long < 0) = false := decide_eq_false q3
  by_cases q4 : 300010 < long
  · have t4 : decide (300010 < long) = true := decide_eq_true q4
    go_wp2_with fail
    go_ret
    exact ⟨rfl, X1.out⟩
  have t4 : decide (300010 < long) = false := decide_eq_false q4
  obtain ⟨N, rfl⟩ : ∃ N : Nat, n = N := ⟨n.toNat, by omega⟩
  obtain ⟨Q, rfl⟩ : ∃ Q : Nat, long = Q := ⟨long.toNat, by omega⟩
  have hN : N ≤ 110 := by omega
  have hQ : Q ≤ 300010 := by omega
  go_wp2_with fail
  refine (new_ok 4000 w1 (by omega)).mono ?_
  rintro e w2 ⟨⟨d, rfl, hd⟩, hX⟩
  have X2 := Lib.hid (X1.out.trans hX)
  have D1 := Lib.hid hd
  have HLO : Hid (w.heap.size ≤ w1.heap.size) := Lib.hid X1.out.size
  clear hX hd X1 t1 t2 t3 t4 q1 q2 q3 q4
  go_wp2_with fail
  refine (format_any w.heap.size d 4000 0 Dk.new _ w2 E (HE.out.ext X2.out) HE.out.low HE.out.lowT D1.out (fun k q => Nat.le_trans HLO.out q.1) X2.out.size rfl (by omega)).mono ?_
  rintro e w3 hP
  unfold FmtP at hP
  rw [if_neg (by omega)] at hP
  obtain ⟨s, mb, S, rfl, hS, _, _, h1, h2, hK⟩ := hP
  have L2 := Lib.hid (show LS w w3 S s d mb 4000 0 (Sto4.fmt Dk.new) 0 [] 1 1 false from ⟨hS, LS.keep X2.out hK (fun k q => Nat.le_trans HLO.out q.1)⟩)
  clear hS hK h1 h2 X2 D1 HLO
  go_wp2_with fail
  go_loopw [9] (fun cc wr => ∃ (i cn : Nat), i ≤ N ∧ cn ≤ i ∧ cc = .int .i64 (i : Int) ∧ Hid (LS w wr S s d mb 4000 cn (Sto4.fmt Dk.new) 0 (mnL i) 1 1 false)) (fun cc _ => N - (intOf cc).toNat)
  case atStart => exact ⟨0, 0, by omega, by omega, rfl, L2⟩
  case round =>
    clear L2
    obtain ⟨i, cn, hi, hcn, rfl, HL⟩ := hrel
    by_cases hlt : i < N
    · as_aux_lemma =>
        have ht : (i : Int) < (N : Int) := by omega
        have wi : ∀ z, z = (i : Int) + 1 → IntKind.i64.wrap z = z := by rintro _ rfl; rw [IntKind.wrap_i64]; omega
        obtain ⟨D, hD⟩ : ∃ D : ByteArray, ⟨(decN i).toArray⟩ = D := ⟨_, rfl⟩
        have hDs : D.size ≤ 200 := by
          rw [← hD]
          have := decN_len i
          simp only [ByteArray.size, List.size_toArray]
          omega
        have hz : ¬ 9223372036854775807 < (⟨#[116]⟩ : ByteArray).size + D.size := by
          have : (⟨#[116]⟩ : ByteArray).size = 1 := rfl
          omega
        have HM : Hid (⟨#[116]⟩ ++ D = mnN i) := Lib.hid (by rw [← hD]; apply dl_inj; rw [dl_app]; rfl)
        have HZ : Hid ((mnN i).size ≤ 201) := Lib.hid (by rw [← HM.out, ByteArray.size_append]; have : (⟨#[116]⟩ : ByteArray).size = 1 := rfl; omega)
        have HDC := Lib.hid (decimal_any i wr (by omega))
        rw [hD] at HDC
        have HPU := Lib.hid (mn_put (i := i) (by omega))
        clear hDs hD
        go_wp2_with fail
        refine HDC.out.mono ?_
        rintro e w4 ⟨rfl, hX⟩
        have L3 := Lib.hid (HL.out.step hX)
        clear hX HL
        go_wp2_with fail
        rw [HM.out]
        have hp := ps L3.out
        refine (put_any s mb cn (mnL i) false (mnN i) ⟨#[120]⟩ w4 E (HE.out.ext L3.out.ext) hp.1 hp.2 L3.out.st.T L3.out.st.so (by omega) (by unfold maxLen; have := HZ.out; omega) (by decide)).mono ?_
        rw [HPU.out]
        clear hp
        by_cases hh : i < 100
        · rw [if_pos hh]
          rintro e w5 ⟨rfl, hT, hK⟩
          have L4 := Lib.hid (L3.out.put hT hK (by have := HZ.out; omega) (by decide) (by omega))
          have L5 : Hid (LS w w5 S s d mb 4000 (cn + 1) (Sto4.fmt Dk.new) 0 (mnL (i + 1)) 1 1 false) := Lib.hid (by
            have h := L4.out
            have e : mnL (i + 1) = Tx.ins (mnN i) ⟨#[120]⟩ (mnL i) := by unfold mnL; rw [if_pos hh]; cases i <;> rfl
            rw [e]; exact h)
          clear hT hK L4 L3
          have h1 : decide ((i : Int) < 100) = true := decide_eq_true (by omega)
          have h2 : ¬ (100 : Int) ≤ (i : Int) := by omega
          go_wp2_with fail
          go_roundw
          case rel => exact ⟨i + 1, cn + 1, by omega, by omega, by go_num, L5⟩
          case measure => simp [intOf]; omega
        · rw [if_neg hh]
          rintro e w5 ⟨rfl, hX⟩
          have L4 := Lib.hid (L3.out.step hX)
          have HMI : Hid (mnL (i + 1) = mnL i) := Lib.hid (by conv => lhs; unfold mnL
                                                              rw [if_neg hh])
          clear hX L3
          have h1 : decide ((i : Int) < 100) = false := decide_eq_false (by omega)
          have h2 : (100 : Int) ≤ (i : Int) := by omega
          go_wp2_with fail
          refine (coded_any w5 E (HE.out.ext L4.out.ext) _ _ _ 2 (ErrV.sent 1 (by decide))).mono ?_
          rintro e w6 ⟨rfl, hX⟩
          have L5 := Lib.hid (L4.out.step hX)
          clear hX L4
          go_wp2_with fail
          go_roundw
          case rel => exact ⟨i + 1, cn, by omega, by omega, by go_num, by rw [HMI.out]; exact L5⟩
          case measure => simp [intOf]; omega
    · obtain rfl : i = N := by omega
      have ht : ¬ (i : Int) < (i : Int) := by omega
      have HLA := Lib.hid (mn_last (n := i) (by omega) (zB Q))
      have hmk : (Instr.makeSlice 34 (.int .i64 (Q : Int)) (.int .i64 (Q : Int))).run Tryz.prog wr = .ok (.slice (some ⟨wr.heap.size, 0, none⟩) Q Q) (wr.alloc (.cells (madeCells #[.int .u8 0] Q) 5)) :=
        run_make_row' (P := Tryz.prog) 34 5 (.int .u8 0) 1 Tryz.underlying34 u8info rfl .i64 .i64 Q (by omega) (by omega) wr
      have hcv : (convert 34 9 (.slice (some ⟨wr.heap.size, 0, none⟩) Q Q)).run Tryz.prog (wr.alloc (.cells (madeCells #[.int .u8 0] Q) 5)) = .ok (.string (zB Q)) (wr.alloc (.cells (madeCells #[.int .u8 0] Q) 5)) := by
        have h := run_convert_bytes_back (P := Tryz.prog) (wr.alloc (.cells (madeCells #[.int .u8 0] Q) 5)) 34 9 5 ⟨wr.heap.size, 0, none⟩ Q (List.replicate Q 0) Tryz.underlying34 Tryz.underlying5 Tryz.underlying9 (fun j hj => by
          rw [List.length_replicate] at hj
          rw [add_plain, (Cv.made wr Q (.int .u8 0) 5 j hj).1, List.getElem_replicate]; rfl)
        rw [List.length_replicate] at h
        exact h
      obtain ⟨Z, hZ⟩ : ∃ Z, zB Q = Z := ⟨_, rfl⟩
      have hZs : Z.size = Q := by rw [← hZ]; exact zB_size Q
      rw [hZ, hZs] at HLA
      rw [hZ] at hcv
      have L3 := Lib.hid (HL.out.step ((Ext.refl wr).alloc (.cells (madeCells #[.int .u8 0] Q) 5)))
      obtain ⟨wz, hwz⟩ : ∃ wz, wr.alloc (.cells (madeCells #[.int .u8 0] Q) 5) = wz := ⟨_, rfl⟩
      rw [hwz] at hmk hcv L3
      have e0 : mnN 0 = ⟨#[116, 48]⟩ := by decide +kernel
      rw [e0] at HLA
      clear hZ HL hwz
      go_wp2_with fail
      have hp := ps L3.out
      refine (put_any s mb cn (mnL i) false ⟨#[116, 48]⟩ Z wz E (HE.out.ext L3.out.ext) hp.1 hp.2 L3.out.st.T L3.out.st.so (by omega) (by decide) (by unfold maxLen; omega)).mono ?_
      rw [HLA.out]
      clear hp
      by_cases hh : 300000 < Q
      · rw [if_pos hh]
        rintro e w5 ⟨rfl, hX⟩
        have X5 := Lib.hid (L3.out.ext.trans hX)
        have h1 : (300000 : Int) < (Q : Int) := by omega
        clear hX L3 hmk hcv
        go_wp2_with fail
        refine (coded_any w5 E (HE.out.ext X5.out) _ _ _ 2 (ErrV.sent 1 (by decide))).mono ?_
        rintro e w6 ⟨rfl, hX⟩
        have X6 := Lib.hid (X5.out.trans hX)
        clear hX X5
        go_wp2_with fail
        go_ret
        exact ⟨rfl, X6.out⟩
      · rw [if_neg hh]
        rintro e w5 ⟨rfl, hT, hK⟩
        have X5 := Lib.hid (LS.keep L3.out.ext hK (fun k e => e ▸ L3.out.st.lom))
        have h1 : ¬ (300000 : Int) < (Q : Int) := by omega
        clear hT hK L3 hmk hcv
        go_wp2_with fail
        go_ret
        exact ⟨rfl, X5.out⟩
end Go.Proofs.YtheidjagcafgnaaGreatDoor
