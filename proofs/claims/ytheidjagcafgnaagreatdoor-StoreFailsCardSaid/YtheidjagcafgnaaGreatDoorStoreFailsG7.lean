/-
  store.Open.
  A store's disk: what was synced is read. No function of the program is named.
  A store's disk: what a sync does to it, and what is left when the power goes. No function of the program is named.
  The store of a law: where it lies, and what its functions leave.
  The law's closed fact: a store holds a text.
  The document's texts: FindText, Size, IsKey.
  The document's SameTexts on two rows of names; the law's holds.
-/
import Derived.Test.YtheidjagcafgnaaGreatDoorStoreFailsG1
import Derived.Test.YtheidjagcafgnaaGreatDoorStoreFailsG6
import Derived.Test.YtheidjagcafgnaaGreatDoorStoreFailsG3
import Derived.Test.YtheidjagcafgnaaGreatDoorStoreFailsG4
set_option linter.unusedSimpArgs false
set_option linter.unusedVariables false
set_option maxRecDepth 100000
namespace Go.Proofs.YtheidjagcafgnaaGreatDoor
open Go.RowKit
namespace Sto4
/-- the better of two heads -/
def best (a b : Option (Nat × Nat × List Ck)) : Option (Nat × Nat × List Ck) :=
 match a, b with
 | none, r => r
 | some x, none => some x
 | some x, some y => if x.1 < y.1 then some y else some x
def openS (f : Nat → ByteArray) (n : Nat) : Option (Nat × Nat × List Ck) := best (readS f n 0) (readS f n 1)
end Sto4
def OpenP (w w' : World) (E : Nat → Addr) (d : Nat) (r : Option (Nat × Nat × List Ck)) (e : Ending) : Prop :=
 Ext w w' ∧ match r with
 | none => e = .returned (.tuple #[.pointer none, sentV (E 0)])
 | some (sy, at_, l) => ∃ s mb, e = .returned (.tuple #[.pointer (some ⟨s, 0, none⟩), .nilIface]) ∧ Bk w' s (stV d mb sy at_ false) ∧ TM w' mb l.length (Sto4.putAll l) ∧ w.heap.size ≤ s ∧ w.heap.size ≤ mb ∧ s ≠ mb
/-- a store that was read, or none -/
def RdV (w w' : World) (d : Nat) (r : Option (Nat × Nat × List Ck)) (v : Value) : Prop :=
 match r with
 | none => v = .pointer none
 | some (sy, at_, l) => ∃ s mb, v = .pointer (some ⟨s, 0, none⟩) ∧ Bk w' s (stV d mb sy at_ false) ∧ TM w' mb l.length (Sto4.putAll l) ∧ w.heap.size ≤ s ∧ w.heap.size ≤ mb ∧ s ≠ mb
theorem RdV.ext {w0 w w' : World} {d : Nat} {r : Option (Nat × Nat × List Ck)} {v : Value} (h : RdV w0 w d r v) (hE : Ext w w') : RdV w0 w' d r v := by
 unfold RdV at h ⊢;cases r with
 | none => exact h
 | some q =>
  obtain ⟨sy, at_, l⟩ := q;obtain ⟨s, mb, h1, h2, h3, h4⟩ := h;exact ⟨s, mb, h1, h2.ext hE, h3.ext hE, h4⟩
theorem read_lit {w w' : World} {d : Nat} {r : Option (Nat × Nat × List Ck)} {e : Ending} (h : ReadP w w' d r e) : Ext w w' ∧ ∃ v, e = .returned (.tuple #[v, .bool r.isSome]) ∧ RdV w w' d r v := by
 obtain ⟨hX, h⟩ := h;refine ⟨hX, ?_⟩;cases r with
 | none => exact ⟨_, h, rfl⟩
 | some q =>
  obtain ⟨sy, at_, l⟩ := q;obtain ⟨s, mb, rfl, h⟩ := h;exact ⟨_, rfl, s, mb, rfl, h⟩
set_option linter.unusedSimpArgs false in
set_option maxHeartbeats 8000000 in
theorem open_any (d n b : Nat) (m : Dk.DM) (S : Nat → Prop) (w : World) (E : Nat → Addr) (hE : Errs w E) (h : DS w S d n m b) (hn : 8 ≤ n) (h64 : ∀ k, k < n → (m.now k).size = 64) :
  Calls Tryz.prog 19 #[.pointer (some ⟨d, 0, none⟩)] w fun e w' => OpenP w w' E d (Sto4.openS m.now n) e := by
 obtain ⟨r0, hr0⟩ : ∃ r, Sto4.readS m.now n 0 = r := ⟨_, rfl⟩;obtain ⟨r1, hr1⟩ : ∃ r, Sto4.readS m.now n 1 = r := ⟨_, rfl⟩;have HO : Hid (Sto4.openS m.now n = Sto4.best r0 r1) := Lib.hid (by unfold Sto4.openS; rw [hr0, hr1]);have HE := Lib.hid hE;have HED : Hid (ErD w E) := Lib.hid ⟨hE.var 1 (by decide), hE.var 2 (by decide), hE.var 8 (by decide)⟩;have HR0 := Lib.hid (rd_any d n b 0 m S w E HED.out h (by omega) hn h64);have HR1 := Lib.hid (fun (w1 : World) (hX : Ext w w1) => rd_any d n b 1 m S w1 E (HED.out.ext hX) (h.ext hX) (by omega) hn h64);rw [hr0] at HR0;rw [hr1] at HR1;clear hE h h64 hr0 hr1;go_enter Tryz.func19, Tryz.ntmps19
 go_wp2_with fail;refine wp_loop_rounds 3 ?_;rw [rounds_succ];go_wp2_with fail;refine HR0.out.mono ?_;rintro e w1 hP;obtain ⟨hX, v0, rfl, hV⟩ := read_lit hP;have X1 := Lib.hid hX;have V0 := Lib.hid hV;clear hX hV hP HR0;cases r0 with
 | none =>
  obtain rfl : v0 = .pointer none := V0.out;simp only [Option.isSome_none];go_wp2_with fail;refine wp_regionQ (by kernel_rfl) (by kernel_rfl) ?_;refine wpQ_yes (by kernel_rfl) (fun K hK => ?_);go_simp;refine hK _ ?_;clear hK K;refine wpQ_yes (by kernel_rfl) (fun K hK => ?_);go_simp;refine hK _ ?_;clear hK K;refine wpQ_no (by kernel_rfl) ?_;(try simp only [Act.put, xa, xb, xc, xd, xe, xf]);refine wpQ_no (by kernel_rfl) ?_;(try simp only [Act.put, xa, xb, xc, xd, xe, xf]);refine wpQ_no (by kernel_rfl) ?_;(try simp only [Act.put, xa, xb, xc, xd, xe, xf]);refine wpQ_no (by kernel_rfl) ?_;(try simp only [Act.put, xa, xb, xc, xd, xe, xf]);refine wpQ_no (by kernel_rfl) ?_;(try simp only [Act.put, xa, xb, xc, xd, xe, xf]);refine wpQ_no (by kernel_rfl) ?_;(try simp only [Act.put, xa, xb, xc, xd, xe, xf]);refine wpQ_no (by kernel_rfl) ?_;(try simp only [Act.put, xa, xb, xc, xd, xe, xf]);refine wpQ_no (by kernel_rfl) ?_;(try simp only [Act.put, xa, xb, xc, xd, xe, xf]);refine wpQ_no (by kernel_rfl) ?_;(try simp only [Act.put, xa, xb, xc, xd, xe, xf]);refine wpQ_no (by kernel_rfl) ?_;(try simp only [Act.put, xa, xb, xc, xd, xe, xf]);refine wpQ_no (by kernel_rfl) ?_;(try simp only [Act.put, xa, xb, xc, xd, xe, xf]);refine wpQ_no (by kernel_rfl) ?_;(try simp only [Act.put, xa, xb, xc, xd, xe, xf]);refine wpQ_no (by kernel_rfl) ?_;(try simp only [Act.put, xa, xb, xc, xd, xe, xf]);refine wpQ_yes (by kernel_rfl) (fun K hK => ?_);go_simp;refine hK _ ?_;clear hK K;refine wpQ_nil ?_;obtain ⟨w2, hw2⟩ : ∃ z, w1.drew = z := ⟨_, rfl⟩
  have hD : Ext w1 w2 := by rw [← hw2]; exact Below.drew (Ext.refl _)
  rw [hw2];clear hw2;have X2 := Lib.hid (X1.out.trans hD);clear hD X1;go_wp2_with fail;rw [rounds_succ];go_wp2_with fail;refine (HR1.out _ X2.out).mono ?_;rintro e w3 hP;obtain ⟨hX, v1, rfl, hV⟩ := read_lit hP;have X3 := Lib.hid (X2.out.trans hX);have V1 := Lib.hid hV;have HSZ := Lib.hid X2.out.size;clear hX hV hP HR1 X2;cases r1 with
  | none =>
   obtain rfl : v1 = .pointer none := V1.out;simp only [Option.isSome_none];go_wp2_with fail;refine wp_regionQ (by kernel_rfl) (by kernel_rfl) ?_;refine wpQ_yes (by kernel_rfl) (fun K hK => ?_);go_simp;refine hK _ ?_;clear hK K;refine wpQ_yes (by kernel_rfl) (fun K hK => ?_);go_simp;refine hK _ ?_;clear hK K;refine wpQ_no (by kernel_rfl) ?_;(try simp only [Act.put, xa, xb, xc, xd, xe, xf]);refine wpQ_no (by kernel_rfl) ?_;(try simp only [Act.put, xa, xb, xc, xd, xe, xf]);refine wpQ_no (by kernel_rfl) ?_;(try simp only [Act.put, xa, xb, xc, xd, xe, xf]);refine wpQ_no (by kernel_rfl) ?_;(try simp only [Act.put, xa, xb, xc, xd, xe, xf]);refine wpQ_no (by kernel_rfl) ?_;(try simp only [Act.put, xa, xb, xc, xd, xe, xf]);refine wpQ_no (by kernel_rfl) ?_;(try simp only [Act.put, xa, xb, xc, xd, xe, xf]);refine wpQ_no (by kernel_rfl) ?_;(try simp only [Act.put, xa, xb, xc, xd, xe, xf]);refine wpQ_no (by kernel_rfl) ?_;(try simp only [Act.put, xa, xb, xc, xd, xe, xf]);refine wpQ_no (by kernel_rfl) ?_;(try simp only [Act.put, xa, xb, xc, xd, xe, xf]);refine wpQ_no (by kernel_rfl) ?_;(try simp only [Act.put, xa, xb, xc, xd, xe, xf]);refine wpQ_no (by kernel_rfl) ?_;(try simp only [Act.put, xa, xb, xc, xd, xe, xf]);refine wpQ_no (by kernel_rfl) ?_;(try simp only [Act.put, xa, xb, xc, xd, xe, xf]);refine wpQ_no (by kernel_rfl) ?_;(try simp only [Act.put, xa, xb, xc, xd, xe, xf]);refine wpQ_yes (by kernel_rfl) (fun K hK => ?_);go_simp;refine hK _ ?_;clear hK K;refine wpQ_nil ?_;obtain ⟨w4, hw4⟩ : ∃ z, w3.drew = z := ⟨_, rfl⟩
   have hD : Ext w3 w4 := by rw [← hw4]; exact Below.drew (Ext.refl _)
   rw [hw4];clear hw4;have X4 := Lib.hid (X3.out.trans hD);clear hD X3;go_wp2_with fail;rw [rounds_succ];go_wp2_with fail;have ec : w4.cell? ⟨4, 0, none⟩ = some (.iface 188 (.pointer (some (E 0)))) := (HE.out.ext X4.out).var 0 (by decide);go_region;all_goals
    go_wp2_with fail;go_ret2;rw [HO.out];exact ⟨X4.out.trans (Below.drew (Ext.refl _)), rfl⟩
  | some q1 =>
   obtain ⟨sy1, at1, l1⟩ := q1;obtain ⟨s1, mb1, rfl, hB1, hT1, hs1, hm1, hn1⟩ := V1.out;have C3 := Lib.hid hB1;have U3 := Lib.hid hT1;have HS1 := Lib.hid (And.intro hs1 (And.intro hm1 hn1));clear hB1 hT1 hs1 hm1 hn1 V1;simp only [Option.isSome_some];go_wp2_with fail;refine wp_regionQ (by kernel_rfl) (by kernel_rfl) ?_;refine wpQ_yes (by kernel_rfl) (fun K hK => ?_);go_simp;refine hK _ ?_;clear hK K;refine wpQ_yes (by kernel_rfl) (fun K hK => ?_);go_simp;refine hK _ ?_;clear hK K;refine wpQ_yes (by kernel_rfl) (fun K hK => ?_);go_simp;refine hK _ ?_;clear hK K;refine wpQ_yes (by kernel_rfl) (fun K hK => ?_);go_simp;refine hK _ ?_;clear hK K;refine wpQ_yes (by kernel_rfl) (fun K hK => ?_);go_simp;refine hK _ ?_;clear hK K;refine wpQ_no (by kernel_rfl) ?_;(try simp only [Act.put, xa, xb, xc, xd, xe, xf]);refine wpQ_no (by kernel_rfl) ?_;(try simp only [Act.put, xa, xb, xc, xd, xe, xf]);refine wpQ_no (by kernel_rfl) ?_;(try simp only [Act.put, xa, xb, xc, xd, xe, xf]);refine wpQ_no (by kernel_rfl) ?_;(try simp only [Act.put, xa, xb, xc, xd, xe, xf]);refine wpQ_no (by kernel_rfl) ?_;(try simp only [Act.put, xa, xb, xc, xd, xe, xf]);refine wpQ_no (by kernel_rfl) ?_;(try simp only [Act.put, xa, xb, xc, xd, xe, xf]);refine wpQ_no (by kernel_rfl) ?_;(try simp only [Act.put, xa, xb, xc, xd, xe, xf]);refine wpQ_no (by kernel_rfl) ?_;(try simp only [Act.put, xa, xb, xc, xd, xe, xf]);refine wpQ_no (by kernel_rfl) ?_;(try simp only [Act.put, xa, xb, xc, xd, xe, xf]);refine wpQ_yes (by kernel_rfl) (fun K hK => ?_)
   go_simp;refine hK _ ?_;clear hK K;refine wpQ_yes (by kernel_rfl) (fun K hK => ?_);go_simp;refine hK _ ?_;clear hK K;refine wpQ_nil ?_;obtain ⟨w4, hw4⟩ : ∃ z, w3.drew = z := ⟨_, rfl⟩;have hD : Ext w3 w4 := by rw [← hw4]; exact Below.drew (Ext.refl _)
   rw [hw4];clear hw4;have X4 := Lib.hid (X3.out.trans hD);have C4 := Lib.hid (C3.out.ext hD);have U4 := Lib.hid (U3.out.ext hD);clear hD X3 C3 U3;go_wp2_with fail;rw [rounds_succ];go_wp2_with fail;go_ret2;rw [HO.out];exact ⟨X4.out, s1, mb1, rfl, C4.out, U4.out, by have h1 := HS1.out.1; have h2 := HSZ.out; omega, by have h1 := HS1.out.2.1; have h2 := HSZ.out; omega, HS1.out.2.2⟩
 | some q0 =>
  obtain ⟨sy0, at0, l0⟩ := q0;obtain ⟨s0, mb0, rfl, hB0, hT0, hs0, hm0, hn0⟩ := V0.out;have B1 := Lib.hid hB0;have T1 := Lib.hid hT0;have HS0 := Lib.hid (And.intro hs0 (And.intro hm0 hn0));clear hB0 hT0 hs0 hm0 hn0 V0;simp only [Option.isSome_some];go_wp2_with fail;refine wp_regionQ (by kernel_rfl) (by kernel_rfl) ?_;refine wpQ_yes (by kernel_rfl) (fun K hK => ?_);go_simp;refine hK _ ?_;clear hK K;refine wpQ_yes (by kernel_rfl) (fun K hK => ?_);go_simp;refine hK _ ?_;clear hK K;refine wpQ_yes (by kernel_rfl) (fun K hK => ?_);go_simp;refine hK _ ?_;clear hK K;refine wpQ_yes (by kernel_rfl) (fun K hK => ?_);go_simp;refine hK _ ?_;clear hK K;refine wpQ_yes (by kernel_rfl) (fun K hK => ?_);go_simp;refine hK _ ?_;clear hK K;refine wpQ_no (by kernel_rfl) ?_;(try simp only [Act.put, xa, xb, xc, xd, xe, xf]);refine wpQ_no (by kernel_rfl) ?_;(try simp only [Act.put, xa, xb, xc, xd, xe, xf]);refine wpQ_no (by kernel_rfl) ?_;(try simp only [Act.put, xa, xb, xc, xd, xe, xf]);refine wpQ_no (by kernel_rfl) ?_;(try simp only [Act.put, xa, xb, xc, xd, xe, xf]);refine wpQ_no (by kernel_rfl) ?_;(try simp only [Act.put, xa, xb, xc, xd, xe, xf]);refine wpQ_no (by kernel_rfl) ?_;(try simp only [Act.put, xa, xb, xc, xd, xe, xf]);refine wpQ_no (by kernel_rfl) ?_;(try simp only [Act.put, xa, xb, xc, xd, xe, xf]);refine wpQ_no (by kernel_rfl) ?_;(try simp only [Act.put, xa, xb, xc, xd, xe, xf]);refine wpQ_no (by kernel_rfl) ?_;(try simp only [Act.put, xa, xb, xc, xd, xe, xf]);refine wpQ_yes (by kernel_rfl) (fun K hK => ?_)
  go_simp;refine hK _ ?_;clear hK K;refine wpQ_yes (by kernel_rfl) (fun K hK => ?_);go_simp;refine hK _ ?_;clear hK K;refine wpQ_nil ?_;obtain ⟨w2, hw2⟩ : ∃ z, w1.drew = z := ⟨_, rfl⟩;have hD : Ext w1 w2 := by rw [← hw2]; exact Below.drew (Ext.refl _)
  rw [hw2];clear hw2;have X2 := Lib.hid (X1.out.trans hD);have B2 := Lib.hid (B1.out.ext hD);have T2 := Lib.hid (T1.out.ext hD);clear hD X1 B1 T1;go_wp2_with fail;rw [rounds_succ];go_wp2_with fail;refine (HR1.out _ X2.out).mono ?_;rintro e w3 hP;obtain ⟨hX, v1, rfl, hV⟩ := read_lit hP;have X3 := Lib.hid (X2.out.trans hX);have V1 := Lib.hid hV;have B3 := Lib.hid (B2.out.ext hX);have T3 := Lib.hid (T2.out.ext hX);clear B2 T2;have HSZ := Lib.hid X2.out.size;clear hX hV hP HR1 X2;cases r1 with
  | none =>
   obtain rfl : v1 = .pointer none := V1.out;simp only [Option.isSome_none];go_wp2_with fail;refine wp_regionQ (by kernel_rfl) (by kernel_rfl) ?_;refine wpQ_yes (by kernel_rfl) (fun K hK => ?_);go_simp;refine hK _ ?_;clear hK K;refine wpQ_yes (by kernel_rfl) (fun K hK => ?_);go_simp;refine hK _ ?_;clear hK K;refine wpQ_no (by kernel_rfl) ?_;(try simp only [Act.put, xa, xb, xc, xd, xe, xf]);refine wpQ_no (by kernel_rfl) ?_;(try simp only [Act.put, xa, xb, xc, xd, xe, xf]);refine wpQ_no (by kernel_rfl) ?_;(try simp only [Act.put, xa, xb, xc, xd, xe, xf]);refine wpQ_no (by kernel_rfl) ?_;(try simp only [Act.put, xa, xb, xc, xd, xe, xf]);refine wpQ_no (by kernel_rfl) ?_;(try simp only [Act.put, xa, xb, xc, xd, xe, xf]);refine wpQ_no (by kernel_rfl) ?_;(try simp only [Act.put, xa, xb, xc, xd, xe, xf]);refine wpQ_no (by kernel_rfl) ?_;(try simp only [Act.put, xa, xb, xc, xd, xe, xf]);refine wpQ_no (by kernel_rfl) ?_;(try simp only [Act.put, xa, xb, xc, xd, xe, xf]);refine wpQ_no (by kernel_rfl) ?_;(try simp only [Act.put, xa, xb, xc, xd, xe, xf]);refine wpQ_no (by kernel_rfl) ?_;(try simp only [Act.put, xa, xb, xc, xd, xe, xf]);refine wpQ_no (by kernel_rfl) ?_;(try simp only [Act.put, xa, xb, xc, xd, xe, xf]);refine wpQ_no (by kernel_rfl) ?_;(try simp only [Act.put, xa, xb, xc, xd, xe, xf]);refine wpQ_no (by kernel_rfl) ?_;(try simp only [Act.put, xa, xb, xc, xd, xe, xf]);refine wpQ_yes (by kernel_rfl) (fun K hK => ?_);go_simp;refine hK _ ?_;clear hK K;refine wpQ_nil ?_;obtain ⟨w4, hw4⟩ : ∃ z, w3.drew = z := ⟨_, rfl⟩
   have hD : Ext w3 w4 := by rw [← hw4]; exact Below.drew (Ext.refl _)
   rw [hw4];clear hw4;have X4 := Lib.hid (X3.out.trans hD);have B4 := Lib.hid (B3.out.ext hD);have T4 := Lib.hid (T3.out.ext hD);clear hD X3 B3 T3;go_wp2_with fail;rw [rounds_succ];go_wp2_with fail;go_ret2;rw [HO.out];exact ⟨X4.out, s0, mb0, rfl, B4.out, T4.out, HS0.out⟩
  | some q1 =>
   obtain ⟨sy1, at1, l1⟩ := q1;obtain ⟨s1, mb1, rfl, hB1, hT1, hs1, hm1, hn1⟩ := V1.out;have C3 := Lib.hid hB1;have U3 := Lib.hid hT1;have HS1 := Lib.hid (And.intro hs1 (And.intro hm1 hn1));clear hB1 hT1 hs1 hm1 hn1 V1;simp only [Option.isSome_some];by_cases hlt : sy0 < sy1
   ·have t9 : decide ((sy0 : Int) < (sy1 : Int)) = true := decide_eq_true (by omega);have n9 : sy0 < sy1 := hlt;have D1 : w3.drew.cell? ⟨s1, 2, none⟩ = some (.int .u32 (sy1 : Int)) := (C3.out.ext (show Ext w3 w3.drew from Below.drew (Ext.refl w3))).cell 2;have D0 : w3.drew.cell? ⟨s0, 2, none⟩ = some (.int .u32 (sy0 : Int)) := (B3.out.ext (show Ext w3 w3.drew from Below.drew (Ext.refl w3))).cell 2;go_wp2_with fail;refine wp_regionQ (by kernel_rfl) (by kernel_rfl) ?_;refine wpQ_yes (by kernel_rfl) (fun K hK => ?_);go_simp;refine hK _ ?_;clear hK K;refine wpQ_yes (by kernel_rfl) (fun K hK => ?_);go_simp;refine hK _ ?_;clear hK K;refine wpQ_yes (by kernel_rfl) (fun K hK => ?_);go_simp;refine hK _ ?_;clear hK K;refine wpQ_yes (by kernel_rfl) (fun K hK => ?_);go_simp;refine hK _ ?_;clear hK K;refine wpQ_yes (by kernel_rfl) (fun K hK => ?_);go_simp;refine hK _ ?_;clear hK K;refine wpQ_yes (by kernel_rfl) (fun K hK => ?_);go_simp;refine hK _ ?_;clear hK K;refine wpQ_yes (by kernel_rfl) (fun K hK => ?_);go_simp;refine hK _ ?_;clear hK K;refine wpQ_yes (by kernel_rfl) (fun K hK => ?_);go_simp;refine hK _ ?_;clear hK K;refine wpQ_yes (by kernel_rfl) (fun K hK => ?_);go_simp;refine hK _ ?_;clear hK K;refine wpQ_yes (by kernel_rfl) (fun K hK => ?_);go_simp;refine hK _ ?_;clear hK K;refine wpQ_yes (by kernel_rfl) (fun K hK => ?_);go_simp;refine hK _ ?_;clear hK K;refine wpQ_yes (by kernel_rfl) (fun K hK => ?_);go_simp;refine hK _ ?_;clear hK K;refine wpQ_yes (by kernel_rfl) (fun K hK => ?_);go_simp
    refine hK _ ?_;clear hK K;refine wpQ_yes (by kernel_rfl) (fun K hK => ?_);go_simp;refine hK _ ?_;clear hK K;refine wpQ_yes (by kernel_rfl) (fun K hK => ?_);go_simp;refine hK _ ?_;clear hK K;refine wpQ_yes (by kernel_rfl) (fun K hK => ?_);go_simp;refine hK _ ?_;clear hK K;refine wpQ_nil ?_;clear D0 D1;obtain ⟨w4, hw4⟩ : ∃ z, w3.drew = z := ⟨_, rfl⟩;have hD : Ext w3 w4 := by rw [← hw4]; exact Below.drew (Ext.refl _)
    rw [hw4];clear hw4;have X4 := Lib.hid (X3.out.trans hD);have B4 := Lib.hid (B3.out.ext hD);have T4 := Lib.hid (T3.out.ext hD);have C4 := Lib.hid (C3.out.ext hD);have U4 := Lib.hid (U3.out.ext hD);clear hD X3 B3 T3 C3 U3;go_wp2_with fail;rw [rounds_succ];go_wp2_with fail;go_ret2;rw [HO.out];unfold Sto4.best;simp only;rw [if_pos n9];exact ⟨X4.out, s1, mb1, rfl, C4.out, U4.out, by have h1 := HS1.out.1; have h2 := HSZ.out; omega, by have h1 := HS1.out.2.1; have h2 := HSZ.out; omega, HS1.out.2.2⟩
   ·have t9 : decide ((sy0 : Int) < (sy1 : Int)) = false := decide_eq_false (by omega);have n9 : ¬ sy0 < sy1 := hlt;have D1 : w3.drew.cell? ⟨s1, 2, none⟩ = some (.int .u32 (sy1 : Int)) := (C3.out.ext (show Ext w3 w3.drew from Below.drew (Ext.refl w3))).cell 2;have D0 : w3.drew.cell? ⟨s0, 2, none⟩ = some (.int .u32 (sy0 : Int)) := (B3.out.ext (show Ext w3 w3.drew from Below.drew (Ext.refl w3))).cell 2;go_wp2_with fail;refine wp_regionQ (by kernel_rfl) (by kernel_rfl) ?_;refine wpQ_yes (by kernel_rfl) (fun K hK => ?_);go_simp;refine hK _ ?_;clear hK K;refine wpQ_yes (by kernel_rfl) (fun K hK => ?_);go_simp;refine hK _ ?_;clear hK K;refine wpQ_yes (by kernel_rfl) (fun K hK => ?_);go_simp;refine hK _ ?_;clear hK K;refine wpQ_yes (by kernel_rfl) (fun K hK => ?_);go_simp;refine hK _ ?_;clear hK K;refine wpQ_yes (by kernel_rfl) (fun K hK => ?_);go_simp;refine hK _ ?_;clear hK K;refine wpQ_yes (by kernel_rfl) (fun K hK => ?_);go_simp;refine hK _ ?_;clear hK K;refine wpQ_yes (by kernel_rfl) (fun K hK => ?_);go_simp;refine hK _ ?_;clear hK K;refine wpQ_yes (by kernel_rfl) (fun K hK => ?_);go_simp;refine hK _ ?_;clear hK K;refine wpQ_yes (by kernel_rfl) (fun K hK => ?_);go_simp;refine hK _ ?_;clear hK K;refine wpQ_yes (by kernel_rfl) (fun K hK => ?_);go_simp;refine hK _ ?_;clear hK K;refine wpQ_yes (by kernel_rfl) (fun K hK => ?_);go_simp;refine hK _ ?_;clear hK K;refine wpQ_yes (by kernel_rfl) (fun K hK => ?_);go_simp;refine hK _ ?_;clear hK K;refine wpQ_yes (by kernel_rfl) (fun K hK => ?_)
    go_simp;refine hK _ ?_;clear hK K;refine wpQ_yes (by kernel_rfl) (fun K hK => ?_);go_simp;refine hK _ ?_;clear hK K;refine wpQ_yes (by kernel_rfl) (fun K hK => ?_);go_simp;refine hK _ ?_;clear hK K;refine wpQ_yes (by kernel_rfl) (fun K hK => ?_);go_simp;refine hK _ ?_;clear hK K;refine wpQ_nil ?_;clear D0 D1;obtain ⟨w4, hw4⟩ : ∃ z, w3.drew = z := ⟨_, rfl⟩;have hD : Ext w3 w4 := by rw [← hw4]; exact Below.drew (Ext.refl _)
    rw [hw4];clear hw4;have X4 := Lib.hid (X3.out.trans hD);have B4 := Lib.hid (B3.out.ext hD);have T4 := Lib.hid (T3.out.ext hD);have C4 := Lib.hid (C3.out.ext hD);have U4 := Lib.hid (U3.out.ext hD);clear hD X3 B3 T3 C3 U3;go_wp2_with fail;rw [rounds_succ];go_wp2_with fail;go_ret2;rw [HO.out];unfold Sto4.best;simp only;rw [if_neg n9];exact ⟨X4.out, s0, mb0, rfl, B4.out, T4.out, HS0.out⟩
end Go.Proofs.YtheidjagcafgnaaGreatDoor
namespace Go.Proofs.YtheidjagcafgnaaGreatDoor
open Go.RowKit
theorem dl_app (a b : ByteArray) : (a ++ b).data.toList = a.data.toList ++ b.data.toList := by simp [ByteArray.data_append]
theorem dl_ext (s : ByteArray) (a b : Nat) : (s.extract a b).data.toList = (s.data.toList.drop a).take (b - a) := by
 rw [ByteArray.data_extract, Array.toList_extract]; first | done | rw [List.extract_eq_drop_take]
theorem dl_len (s : ByteArray) : s.data.toList.length = s.size := rfl
theorem dl_nB (n : Nat) : (Sto4.nB n).data.toList = big4 n := rfl
theorem dl_inj {a b : ByteArray} (h : a.data.toList = b.data.toList) : a = b := Tx.key_inj h
theorem dl_pkB (L : List Ck) : (pkB L).data.toList = Sto4.pk L := rfl
namespace Sto4
theorem part_size (p : ByteArray) (k : Nat) : (part p k).size ≤ 64 := by unfold part; rw [ByteArray.size_extract]; omega
theorem pad_size {s : ByteArray} (h : s.size ≤ 64) : (Dk.pad s).size = 64 := by unfold Dk.pad; rw [ByteArray.size_append, zB_size]; omega
theorem hd0_list (sy hf sz ck : Nat) : (hd0 sy hf sz ck).data.toList = magic.data.toList ++ (big4 sy ++ (big4 hf ++ (big4 sz ++ big4 ck))) := by
 unfold hd0; rw [dl_app, dl_app, dl_app, dl_app, dl_nB, dl_nB, dl_nB, dl_nB]; simp only [List.append_assoc]
theorem hd_pad (sy hf sz ck : Nat) : ∃ z, (Dk.pad (hd sy hf sz ck)).data.toList = magic.data.toList ++ (big4 sy ++ (big4 hf ++ (big4 sz ++ (big4 ck ++ z)))) := by
 refine ⟨big4 (Crc.crc (hd0 sy hf sz ck).data.toList) ++ (zB (64 - (hd sy hf sz ck).size)).data.toList, ?_⟩;show (hd0 sy hf sz ck ++ nB (Crc.crc (hd0 sy hf sz ck).data.toList) ++ zB (64 - (hd sy hf sz ck).size)).data.toList = _;rw [dl_app, dl_app, hd0_list, dl_nB];simp only [List.append_assoc]
theorem n4_of {h : ByteArray} {i n : Nat} {x z : List UInt8} (hl : h.data.toList = x ++ (big4 n ++ z)) (hx : x.length = i) (hn : n < 4294967296) : n4 h i = n := by
 unfold n4;rw [hl, List.drop_append_of_le_length (by omega), List.drop_of_length_le (by omega), List.nil_append, List.take_append_of_le_length (by rw [show (big4 n).length = 4 from rfl]; exact Nat.le_refl _), List.take_of_length_le (by rw [show (big4 n).length = 4 from rfl]; exact Nat.le_refl _)];exact valN_big4 n hn
theorem hd_read {sy hf sz ck : Nat} (h1 : sy < 4294967296) (h2 : hf < 4294967296) (h3 : sz < 4294967296) (h4 : ck < 4294967296) (s : ByteArray) (hs : s = Dk.pad (hd sy hf sz ck)) :
  s.data.toList.take 4 = magic.data.toList ∧ n4 s 4 = sy ∧ n4 s 8 = hf ∧ n4 s 12 = sz ∧ n4 s 16 = ck ∧ s.extract 0 24 = hd sy hf sz ck := by
 subst hs;obtain ⟨z, hz⟩ := hd_pad sy hf sz ck;refine ⟨by rw [hz]; rfl, n4_of hz rfl h1, n4_of (x := magic.data.toList ++ big4 sy) (z := big4 sz ++ (big4 ck ++ z)) (by rw [hz]; simp only [List.append_assoc]) rfl h2,
  n4_of (x := magic.data.toList ++ (big4 sy ++ big4 hf)) (z := big4 ck ++ z) (by rw [hz]; simp only [List.append_assoc]) rfl h3,
  n4_of (x := magic.data.toList ++ (big4 sy ++ (big4 hf ++ big4 sz))) (z := z) (by rw [hz]; simp only [List.append_assoc]) rfl h4, ?_⟩
 apply dl_inj;rw [dl_ext];unfold Dk.pad;rw [dl_app, List.drop_zero, List.take_append_of_le_length (by rw [dl_len, hd_size]; exact Nat.le_refl _), List.take_of_length_le (by rw [dl_len, hd_size]; exact Nat.le_refl _)]
theorem take_itm {t a r : ByteArray} (h : t = itm a ++ r) (ha : a.size < 4294967296) : takeL t = some (a, r) := by
 have hs : t.size = 4 + a.size + r.size := by rw [h, ByteArray.size_append, itm_size]
 have hl : t.data.toList = big4 a.size ++ (a.data.toList ++ r.data.toList) := by rw [h, dl_app]; unfold itm; rw [dl_app, dl_nB, List.append_assoc]
 have hv : valN (t.data.toList.take 4) = a.size := by
  rw [hl, List.take_append_of_le_length (by rw [show (big4 a.size).length = 4 from rfl]; exact Nat.le_refl _), List.take_of_length_le (by rw [show (big4 a.size).length = 4 from rfl]; exact Nat.le_refl _)];exact valN_big4 _ ha
 unfold takeL;rw [if_neg (by omega), hv, if_neg (by omega)];have e1 : t.extract 4 (4 + a.size) = a := by
  apply dl_inj;rw [dl_ext, hl, List.drop_append_of_le_length (by exact Nat.le_refl _), List.drop_of_length_le (by exact Nat.le_refl _), List.nil_append, List.take_append_of_le_length (by rw [dl_len]; omega), List.take_of_length_le (by rw [dl_len]; omega)]
 have e2 : t.extract (4 + a.size) t.size = r := by
  apply dl_inj;rw [dl_ext, hl, ← List.append_assoc, List.drop_append_of_le_length (by rw [List.length_append, dl_len, show (big4 a.size).length = 4 from rfl]; exact Nat.le_refl _), List.drop_of_length_le (by rw [List.length_append, dl_len, show (big4 a.size).length = 4 from rfl]; exact Nat.le_refl _), List.nil_append, List.take_of_length_le (by rw [dl_len]; omega)]
 rw [e1, e2]
theorem tk_pk : ∀ (L : List Ck), (∀ c ∈ L, c.k.size ≤ 300000 ∧ c.d.size ≤ 300000) → tk (pkB L) = some L
 | [], _ => tk_nil rfl
 | c :: L, h => by
  have hc := h c (List.mem_cons_self ..);have e : pkB (c :: L) = itm c.k ++ (itm c.d ++ pkB L) := by
   apply dl_inj;rw [dl_pkB, dl_app, dl_app, dl_pkB];show (itm c.k ++ itm c.d).data.toList ++ pk L = _;rw [dl_app, List.append_assoc]
  have hz : (pkB (c :: L)).size ≠ 0 := by rw [e, ByteArray.size_append, itm_size]; omega
  rw [tk_go hz (take_itm e (by omega)) (take_itm rfl (by omega)), tk_pk L (fun x hx => h x (List.mem_cons_of_mem _ hx))];rfl
theorem ins_last : ∀ (L : List Ck) (k t : ByteArray), (∀ c ∈ L, Tx.key c.k < Tx.key k) → Tx.ins k t L = L ++ [⟨k, t⟩]
 | [], _, _, _ => rfl
 | c :: L, k, t, h => by
  unfold Tx.ins;rw [if_neg (List.not_le.2 (h c (List.mem_cons_self ..))), ins_last L k t (fun x hx => h x (List.mem_cons_of_mem _ hx))];rfl
theorem put_sorted {L : List Ck} (h : Tx.Sorted L) : putAll L = L := by
 have : ∀ (L A : List Ck), Tx.Sorted (A ++ L) → L.foldl (fun L c => Tx.ins c.k c.d L) A = A ++ L := by
  intro L;induction L with
  | nil => intro A _; simp
  | cons c L ih =>
   intro A h;have hA : ∀ x ∈ A, Tx.key x.k < Tx.key c.k := fun x hx => (List.pairwise_append.1 h).2.2 x hx c (List.mem_cons_self ..);rw [List.foldl_cons, ins_last A c.k c.d hA, ih _ (by rw [List.append_assoc]; exact h), List.append_assoc];rfl
 exact this L [] h
theorem dat_of {f : Nat → ByteArray} {p : ByteArray} {base : Nat} (h : ∀ k, k < secs p → f (base + k) = Dk.pad (part p k)) : ∀ k, k ≤ secs p → (datL f base k).length = 64 * k ∧ (datL f base k).take p.size = p.data.toList.take (64 * k)
 | 0, _ => by simp [datL]
 | k + 1, hk => by
  obtain ⟨h1, h2⟩ := dat_of h k (by omega);have hlt := secs_lt.1 (show k < secs p by omega);have hp := h k (by omega);have hpl : (Dk.pad (part p k)).data.toList.length = 64 := by rw [dl_len]; exact pad_size (part_size p k)
  have e : datL f base (k + 1) = datL f base k ++ (f (base + k)).data.toList := rfl;rw [e, hp];refine ⟨by rw [List.length_append, h1, hpl]; omega, ?_⟩;have e0 : datL f base k = p.data.toList.take (64 * k) := by rw [← h2, List.take_of_length_le (by omega)]
  rw [List.take_append, List.take_of_length_le (by omega), h1, e0];have e1 : (Dk.pad (part p k)).data.toList.take (p.size - 64 * k) = (p.data.toList.drop (64 * k)).take 64 := by
   unfold Dk.pad part;rw [dl_app, dl_ext, Nat.mul_comm k 64, Nat.mul_comm (k + 1) 64];by_cases hc : 64 * (k + 1) ≤ p.size
   ·rw [Nat.min_eq_right hc];have e3 : (p.extract (64 * k) (64 * (k + 1))).size = 64 := by rw [ByteArray.size_extract]; omega
    have e4 : (zB (64 - (p.extract (64 * k) (64 * (k + 1))).size)).data.toList = [] := by rw [e3]; rfl
    rw [e4, List.append_nil, List.take_take];congr 1; omega
   ·rw [Nat.min_eq_left (by omega), List.take_append_of_le_length]
    ·rw [List.take_take, Nat.min_self, List.take_of_length_le (by rw [List.length_drop, dl_len]; exact Nat.le_refl _), List.take_of_length_le (by rw [List.length_drop, dl_len]; omega)]
    ·rw [List.length_take, List.length_drop, dl_len]; omega
  rw [e1, Nat.mul_add, List.take_add, Nat.mul_one]
theorem rest_of {f : Nat → ByteArray} {p : ByteArray} {base : Nat} (h : ∀ k, k < secs p → f (base + k) = Dk.pad (part p k)) : rest f base p.size = p := by
 apply dl_inj;show (datL f base (secs p)).take p.size = _;rw [(dat_of h (secs p) (Nat.le_refl _)).2, List.take_of_length_le];rw [dl_len]; unfold secs; omega
/-- a head that counts fewer syncs, or is none -/
def Old (h : ByteArray) (sy : Nat) : Prop := h.data.toList.take 4 = magic.data.toList → n4 h 4 < sy
/-- what a synced disk is like -/
structure Inv (f : Nat → ByteArray) (n sy hf : Nat) (L : List Ck) : Prop where
 hd : f (sy % 2) = Dk.pad (Sto4.hd sy hf (pkB L).size (Crc.crc (pkB L).data.toList))
 tx : ∀ k, k < secs (pkB L) → f (2 + hf * ((n - 2) / 2) + k) = Dk.pad (part (pkB L) k)
 old : Old (f (1 - sy % 2)) sy
 sz : (pkB L).size ≤ (n - 2) / 2 * 64
 hf1 : hf ≤ 1
 sy1 : sy ≤ 1000000
 so : Tx.Sorted L
 all : ∀ k, k < n → (f k).size = 64
 it : ∀ c ∈ L, c.k.size ≤ 300000 ∧ c.d.size ≤ 300000
 n8 : 8 ≤ n
 n4 : n ≤ 4000
theorem readS_old {f : Nat → ByteArray} {n i sy : Nat} (h : Old (f i) sy) : ∀ r, readS f n i = some r → r.1 < sy := by
 intro r hr;unfold readS at hr;simp only at hr;by_cases hm : (f i).data.toList.take 4 = magic.data.toList
 ·rw [if_pos hm] at hr;split at hr
  ·cases hr
  split at hr
  ·cases hr
  cases ht : tk (rest f (2 + Sto4.n4 (f i) 8 * ((n - 2) / 2)) (Sto4.n4 (f i) 12)) with
  | none => rw [ht] at hr; cases hr
  | some l =>
   rw [ht] at hr;injection hr with hr;rw [← hr];exact h hm
 ·rw [if_neg hm] at hr; cases hr
theorem Inv.read {f : Nat → ByteArray} {n sy hf : Nat} {L : List Ck} (h : Inv f n sy hf L) : readS f n (sy % 2) = some (sy, hf, L) := by
 have hn := h.n4;have hs := h.sz;have h1 := h.sy1;have h2 := h.hf1;obtain ⟨g1, g2, g3, g4, g5, g6⟩ := hd_read (sy := sy) (hf := hf) (sz := (pkB L).size) (ck := Crc.crc (pkB L).data.toList) (by omega) (by omega) (by omega) (Crc.crc_lt4 _) _ h.hd;unfold readS;simp only;rw [if_pos g1, g2, g3, g4, g5, g6, if_neg (by simp; omega), rest_of h.tx, if_neg (by simp), tk_pk L h.it];rfl
theorem Inv.opens {f : Nat → ByteArray} {n sy hf : Nat} {L : List Ck} (h : Inv f n sy hf L) : openS f n = some (sy, hf, L) := by
 have hr := h.read;have ho := readS_old (n := n) h.old;unfold openS;rcases Nat.mod_two_eq_zero_or_one sy with e | e
 ·rw [e] at hr ho;rw [hr];cases h1 : readS f n 1 with
  | none => rfl
  | some r =>
   have := ho r h1;show (if sy < r.1 then some r else some (sy, hf, L)) = _;rw [if_neg (by omega)]
 ·rw [e] at hr ho;rw [hr];cases h1 : readS f n 0 with
  | none => rfl
  | some r =>
   have := ho r h1;show (if r.1 < sy then some (sy, hf, L) else some r) = _;rw [if_pos (by omega)]
theorem Inv.same {f g : Nat → ByteArray} {n sy hf : Nat} {L : List Ck} (h : Inv f n sy hf L) (h0 : ∀ k, k < 2 → g k = f k) (h1 : ∀ k, k < (n - 2) / 2 → g (2 + hf * ((n - 2) / 2) + k) = f (2 + hf * ((n - 2) / 2) + k)) (hs : ∀ k, k < n → (g k).size = 64) : Inv g n sy hf L := by
 refine ⟨by rw [h0 _ (by omega)]; exact h.hd, fun k hk => ?_, by rw [h0 _ (by omega)]; exact h.old, h.sz, h.hf1, h.sy1, h.so, hs, h.it, h.n8, h.n4⟩;rw [h1 k (by have := secs_lt.1 hk; have := h.sz; omega)];exact h.tx k hk
end Sto4
end Go.Proofs.YtheidjagcafgnaaGreatDoor
namespace Go.Proofs.YtheidjagcafgnaaGreatDoor
open Go.RowKit
namespace Sto4
theorem wAt_kept (m : Dk.DM) (p : ByteArray) (base : Nat) : ∀ k, (wAt m p base k).kept = m.kept
 | 0 => rfl
 | k + 1 => wAt_kept m p base k
theorem wAt_now (m : Dk.DM) (p : ByteArray) (base j : Nat) : ∀ k, (wAt m p base k).now j = if base ≤ j ∧ j < base + k then Dk.pad (part p (j - base)) else m.now j
 | 0 => by rw [if_neg (by omega)]; rfl
 | k + 1 => by
  show (if j = base + k then Dk.pad (part p k) else (wAt m p base k).now j) = _;rw [wAt_now m p base j k];by_cases e : j = base + k
  ·rw [if_pos e, if_pos (by omega), show j - base = k by omega]
  ·rw [if_neg e];by_cases e2 : base ≤ j ∧ j < base + k
   ·rw [if_pos e2, if_pos (by omega)]
   ·rw [if_neg e2, if_neg (by omega)]
theorem wAt_ws (m : Dk.DM) (p : ByteArray) (base : Nat) (hm : m.ws = []) : ∀ k, ∀ q ∈ (wAt m p base k).ws, base ≤ q.1 ∧ q.1 < base + k ∧ q.2.size = 64
 | 0, q, hq => by
  have : q ∈ m.ws := hq;rw [hm] at this; cases this
 | k + 1, q, hq => by
  have hq : q ∈ (wAt m p base k).ws ++ [(base + k, Dk.pad (part p k))] := hq;rcases List.mem_append.1 hq with hq | hq
  ·have := wAt_ws m p base hm k q hq;omega
  ·rw [List.mem_singleton.1 hq];exact ⟨Nat.le_add_right _ _, by show base + k < base + (k + 1); omega, pad_size (part_size p k)⟩
theorem crk_off {keep : Nat → Bool} {ws : List (Nat × ByteArray)} {f : Nat → ByteArray} {j : Nat} (h : ∀ q ∈ ws, q.1 ≠ j) : ∀ k, Dk.crk keep ws f k j = f j
 | 0 => rfl
 | k + 1 => by
  unfold Dk.crk;cases e : ws[k]? with
  | none => exact crk_off h k
  | some q =>
   simp only;split
   ·show (if j = q.1 then q.2 else Dk.crk keep ws f k j) = _;rw [if_neg (fun x => h q (List.mem_of_getElem? e) x.symm)];exact crk_off h k
   ·exact crk_off h k
theorem crk_size {keep : Nat → Bool} {ws : List (Nat × ByteArray)} {f : Nat → ByteArray} {j : Nat} (h : ∀ q ∈ ws, q.2.size = 64) (hf : (f j).size = 64) : ∀ k, (Dk.crk keep ws f k j).size = 64
 | 0 => hf
 | k + 1 => by
  unfold Dk.crk;cases e : ws[k]? with
  | none => exact crk_size h hf k
  | some q =>
   simp only;split
   ·show (if j = q.1 then q.2 else Dk.crk keep ws f k j).size = _;split
    ·exact h q (List.mem_of_getElem? e)
    ·exact crk_size h hf k
   ·exact crk_size h hf k
theorem Inv.made {f : Nat → ByteArray} {n sy hf : Nat} {L : List Ck} (ho : Old (f (1 - sy % 2)) sy) (hz : (pkB L).size ≤ (n - 2) / 2 * 64) (h1 : hf ≤ 1) (h2 : sy ≤ 1000000) (so : Tx.Sorted L) (all : ∀ k, k < n → (f k).size = 64) (it : ∀ c ∈ L, c.k.size ≤ 300000 ∧ c.d.size ≤ 300000) (n8 : 8 ≤ n) (n4 : n ≤ 4000)
  (hf0 : ∀ k, k < secs (pkB L) → f (2 + hf * ((n - 2) / 2) + k) = Dk.pad (part (pkB L) k)) : Inv (Dk.upS f (sy % 2) (Dk.pad (Sto4.hd sy hf (pkB L).size (Crc.crc (pkB L).data.toList)))) n sy hf L := by
 refine ⟨if_pos rfl, fun k hk => ?_, ?_, hz, h1, h2, so, fun k hk => ?_, it, n8, n4⟩
 ·rw [← hf0 k hk];exact if_neg (by omega)
 ·have : Dk.upS f (sy % 2) (Dk.pad (Sto4.hd sy hf (pkB L).size (Crc.crc (pkB L).data.toList))) (1 - sy % 2) = f (1 - sy % 2) := if_neg (by omega);rw [this]; exact ho
 ·show (if k = sy % 2 then _ else f k).size = 64;split
  ·exact pad_size (by rw [hd_size]; omega)
  ·exact all k hk
theorem Inv.old_next {f : Nat → ByteArray} {n sy hf : Nat} {L : List Ck} (h : Inv f n sy hf L) : Old (f (1 - (sy + 1) % 2)) (sy + 1) := by
 have e : 1 - (sy + 1) % 2 = sy % 2 := by omega
 have hs := h.sz;have h4 := h.n4;have h1 := h.sy1;have h2 := h.hf1;obtain ⟨g1, g2, _⟩ := hd_read (sy := sy) (hf := hf) (sz := (pkB L).size) (ck := Crc.crc (pkB L).data.toList) (by omega) (by omega) (by omega) (Crc.crc_lt4 _) _ h.hd;intro _;rw [e, g2]; omega
/-- no write waits -/
def Calm (m : Dk.DM) : Prop := m.ws = [] ∧ m.now = m.kept
theorem Calm.fl (m : Dk.DM) : Calm (Dk.fl m) := ⟨rfl, rfl⟩
theorem Calm.cr (m : Dk.DM) (keep : Nat → Bool) : Calm (Dk.cr m keep) := ⟨rfl, rfl⟩
theorem cr_calm {m : Dk.DM} (h : Calm m) (keep : Nat → Bool) : (Dk.cr m keep).now = m.now := by
 show Dk.crk keep m.ws m.kept m.ws.length = _;rw [h.1, h.2]; rfl
section
variable {m : Dk.DM} {n sy hf : Nat} {L0 L : List Ck}
theorem far {n hf : Nat} (h1 : hf ≤ 1) (k j : Nat) (hk : k < (n - 2) / 2) (hj : j < (n - 2) / 2) : 2 + hf * ((n - 2) / 2) + k ≠ 2 + (1 - hf) * ((n - 2) / 2) + j := by
 rcases (show hf = 0 ∨ hf = 1 by omega) with rfl | rfl <;> omega
/-- the writes of a sync leave what was synced -/
theorem Inv.wAt (h : Inv m.now n sy hf L0) (hz : (pkB L).size ≤ (n - 2) / 2 * 64) {k : Nat} (hk : k ≤ secs (pkB L)) : Inv (wAt m (pkB L) (2 + (1 - hf) * ((n - 2) / 2)) k).now n sy hf L0 := by
 have hsec : secs (pkB L) ≤ (n - 2) / 2 := by unfold secs; omega
 refine h.same (fun j hj => ?_) (fun j hj => ?_) (fun j hj => ?_)
 ·rw [wAt_now, if_neg (by omega)]
 ·rw [wAt_now, if_neg];intro q;have := far (n := n) h.hf1 j (2 + hf * ((n - 2) / 2) + j - (2 + (1 - hf) * ((n - 2) / 2))) hj (by omega);omega
 ·rw [wAt_now];split
  ·exact pad_size (part_size _ _)
  ·exact h.all j hj
theorem sync_done (h : Inv m.now n sy hf L0) (hz : (pkB L).size ≤ (n - 2) / 2 * 64) (so : Tx.Sorted L) (it : ∀ c ∈ L, c.k.size ≤ 300000 ∧ c.d.size ≤ 300000) (hsy : sy + 1 ≤ 1000000) :
  Inv (Dk.upS (Sto4.wAt m (pkB L) (2 + (1 - hf) * ((n - 2) / 2)) (secs (pkB L))).now ((sy + 1) % 2) (Dk.pad (Sto4.hd (sy + 1) (1 - hf) (pkB L).size (Crc.crc (pkB L).data.toList)))) n (sy + 1) (1 - hf) L := by
 have h2 := h.wAt (L := L) hz (Nat.le_refl _);refine Inv.made h2.old_next hz (by omega) hsy so h2.all it h.n8 h.n4 (fun k hk => ?_);rw [wAt_now, if_pos (by omega)];congr 2; omega
theorem sync_ok {m' : Dk.DM} {ok : Bool} (hr : SyncR m (pkB L) (2 + (1 - hf) * ((n - 2) / 2)) ((sy + 1) % 2) (Sto4.hd (sy + 1) (1 - hf) (pkB L).size (Crc.crc (pkB L).data.toList)) m' ok)
  (h : Inv m.now n sy hf L0) (hz : (pkB L).size ≤ (n - 2) / 2 * 64) (so : Tx.Sorted L) (it : ∀ c ∈ L, c.k.size ≤ 300000 ∧ c.d.size ≤ 300000) (hsy : sy + 1 ≤ 1000000) (hok : ok = true) :
  Calm m' ∧ Inv m'.now n (sy + 1) (1 - hf) L := by
 subst hok;cases hr
 exact ⟨Calm.fl _, sync_done h hz so it hsy⟩
theorem sync_lost {m' : Dk.DM} {ok : Bool} (hr : SyncR m (pkB L) (2 + (1 - hf) * ((n - 2) / 2)) ((sy + 1) % 2) (Sto4.hd (sy + 1) (1 - hf) (pkB L).size (Crc.crc (pkB L).data.toList)) m' ok)
  (h : Inv m.now n sy hf L0) (hc : Calm m) (hz : (pkB L).size ≤ (n - 2) / 2 * 64) (so : Tx.Sorted L) (it : ∀ c ∈ L, c.k.size ≤ 300000 ∧ c.d.size ≤ 300000) (hsy : sy + 1 ≤ 1000000) (hok : ok = false) :
  m'.left = 0 ∧ ∀ keep, Inv (Dk.cr m' keep).now n sy hf L0 ∨ Inv (Dk.cr m' keep).now n (sy + 1) (1 - hf) L := by
 have hsec : secs (pkB L) ≤ (n - 2) / 2 := by unfold secs; omega
 subst hok;cases hr with
 | part k hk h0 =>
  refine ⟨h0, fun keep => .inl ?_⟩;have hws := wAt_ws m (pkB L) (2 + (1 - hf) * ((n - 2) / 2)) hc.1 k;show Inv (Dk.crk keep (Sto4.wAt m (pkB L) (2 + (1 - hf) * ((n - 2) / 2)) k).ws (Sto4.wAt m (pkB L) (2 + (1 - hf) * ((n - 2) / 2)) k).kept (Sto4.wAt m (pkB L) (2 + (1 - hf) * ((n - 2) / 2)) k).ws.length) n sy hf L0;rw [wAt_kept, ← hc.2];refine h.same (fun j hj => crk_off (fun q hq => ?_) _) (fun j hj => crk_off (fun q hq => ?_) _) (fun j hj => crk_size (fun q hq => (hws q hq).2.2) (h.all j hj) _)
  ·have := hws q hq; omega
  ·have := hws q hq;have := far (n := n) h.hf1 j (q.1 - (2 + (1 - hf) * ((n - 2) / 2))) hj (by omega);omega
 | flushed h0 =>
  refine ⟨h0, fun keep => .inl ?_⟩;rw [cr_calm (Calm.fl _)];exact h.wAt hz (Nat.le_refl _)
 | headed h0 =>
  refine ⟨h0, fun keep => ?_⟩;have e : (Dk.cr (Dk.wr (Dk.fl (Sto4.wAt m (pkB L) (2 + (1 - hf) * ((n - 2) / 2)) (secs (pkB L)))) ((sy + 1) % 2) (Dk.pad (Sto4.hd (sy + 1) (1 - hf) (pkB L).size (Crc.crc (pkB L).data.toList)))) keep).now =
    if keep 0 then Dk.upS (Sto4.wAt m (pkB L) (2 + (1 - hf) * ((n - 2) / 2)) (secs (pkB L))).now ((sy + 1) % 2) (Dk.pad (Sto4.hd (sy + 1) (1 - hf) (pkB L).size (Crc.crc (pkB L).data.toList))) else (Sto4.wAt m (pkB L) (2 + (1 - hf) * ((n - 2) / 2)) (secs (pkB L))).now := rfl
  rw [e];split
  ·exact .inr (sync_done h hz so it hsy)
  ·exact .inl (h.wAt hz (Nat.le_refl _))
end
theorem fmt_inv {m : Dk.DM} {n : Nat} (all : ∀ k, k < n → (m.now k).size = 64) (n8 : 8 ≤ n) (n4 : n ≤ 4000) : Calm (fmt m) ∧ Inv (fmt m).now n 1 1 [] := by
 refine ⟨Calm.fl _, ?_⟩;have e : (fmt m).now = Dk.upS (wipe m 2).now (1 % 2) (Dk.pad (Sto4.hd 1 1 (pkB []).size (Crc.crc (pkB []).data.toList))) := rfl;rw [e];have hw : ∀ k, (wipe m 2).now k = if k = 1 then Dk.pad ⟨#[]⟩ else if k = 0 then Dk.pad ⟨#[]⟩ else m.now k := fun _ => rfl
 refine Inv.made (fun hm => ?_) (by show 0 ≤ _; omega) (Nat.le_refl _) (by omega) List.Pairwise.nil (fun k hk => ?_) (fun c hc => by cases hc) n8 n4 (fun k hk => by exact absurd hk (by show ¬ k < 0; omega))
 ·rw [hw, if_neg (by decide), if_pos (by decide)] at hm;exact absurd hm (by decide +kernel)
 ·rw [hw];split
  ·rfl
  split
  ·rfl
  ·exact all k hk
end Sto4
end Go.Proofs.YtheidjagcafgnaaGreatDoor
namespace Go.Proofs.YtheidjagcafgnaaGreatDoor
open Go.RowKit
theorem Errs.low {w0 : World} {E : Nat → Addr} (h : Errs w0 E) : ∀ c, c < 9 → gk c < w0.heap.size ∧ (E c).block < w0.heap.size := fun c hc => by
 refine ⟨World.block_lt_of_cell? w0 _ (h.var c hc), ?_⟩;obtain ⟨c, t, hr⟩ := h.row c hc;exact lt_of_block hr
theorem Errs.lowT {w0 : World} {E : Nat → Addr} (h : Errs w0 E) : 9 < w0.heap.size := World.block_lt_of_cell? w0 _ h.et
structure LS (w0 w : World) (S : Nat → Prop) (s d mb n cn : Nat) (m : Dk.DM) (b : Nat) (L : List Ck) (sy hf : Nat) (lost : Bool) : Prop where
 st : StS w w0.heap.size S s d mb n cn m b L sy hf lost
 ext : Ext w0 w
section
variable {w0 w w' : World} {S : Nat → Prop} {s d mb n cn : Nat} {m m' : Dk.DM} {b b' : Nat} {L : List Ck} {sy hf : Nat} {lost : Bool} {E : Nat → Addr}
theorem LS.step (h : LS w0 w S s d mb n cn m b L sy hf lost) (hE : Ext w w') : LS w0 w' S s d mb n cn m b L sy hf lost := ⟨h.st.ext hE, h.ext.trans hE⟩
theorem LS.keep {F : Nat → Prop} (h : Ext w0 w) (hk : Keeps F w w') (hF : ∀ k, F k → w0.heap.size ≤ k) : Ext w0 w' :=
 Below.trans h (hk.below h.size (fun k hk q => by have := hF k q; omega))
theorem LS.put {k t : ByteArray} (h : LS w0 w S s d mb n cn m b L sy hf lost) (hT : TM w' mb (cn + 1) (Tx.ins k t L)) (hK : Keeps (fun q => q = mb) w w') (hk : k.size ≤ 300000) (ht : t.size ≤ 300000) (hc : cn + 1 ≤ 100000) :
  LS w0 w' S s d mb n (cn + 1) m b (Tx.ins k t L) sy hf lost := by
 have g := h.st;refine ⟨⟨g.D.keeps hK (fun k hS e => g.nm (e ▸ hS)), g.B.keeps hK g.ne, hT, g.so.ins k t, fun c hc => ?_, g.ns, g.nm, g.ne, g.lo, g.los, g.lom, hc⟩, LS.keep h.ext hK (fun k e => e ▸ g.lom)⟩;rcases Tx.mem_ins hc with rfl | ⟨hc, _⟩
 ·exact ⟨hk, ht⟩
 ·exact g.sz c hc
theorem LS.drop {k : ByteArray} (h : LS w0 w S s d mb n cn m b L sy hf lost) (hT : TM w' mb cn (Tx.drp L k)) (hK : Keeps (fun q => q = mb) w w') : LS w0 w' S s d mb n cn m b (Tx.drp L k) sy hf lost := by
 have g := h.st;exact ⟨⟨g.D.keeps hK (fun k hS e => g.nm (e ▸ hS)), g.B.keeps hK g.ne, hT, g.so.drp k, fun c hc => g.sz c (Tx.mem_drp.1 hc).1, g.ns, g.nm, g.ne, g.lo, g.los, g.lom, g.cnb⟩, LS.keep h.ext hK (fun k e => e ▸ g.lom)⟩
theorem LS.sync {sy' hf' : Nat} {lost' : Bool} (h : LS w0 w S s d mb n cn m b L sy hf lost) (hS : StS w' w0.heap.size (grow S w w') s d mb n cn m' b' L sy' hf' lost') (hK : Keeps (fun k => S k ∨ k = s) w w') : LS w0 w' (grow S w w') s d mb n cn m' b' L sy' hf' lost' :=
 ⟨hS, LS.keep h.ext hK (fun k e => by
  rcases e with e | rfl
  ·exact h.st.lo k e
  ·exact h.st.los)⟩
theorem ps (h : LS w0 w S s d mb n cn m b L sy hf lost) : w.cell? ⟨s, 1, none⟩ = some (.map (some mb)) ∧ w.cell? ⟨s, 4, none⟩ = some (.bool lost) := ⟨h.st.B.cell 1, h.st.B.cell 4⟩
/-- a store that was opened -/
theorem LS.opened {sy' at_ s' mb' : Nat} {l : List Ck} (hX : Ext w0 w) (hE : Ext w w') (hD : DS w S d n m b) (hlo : ∀ k, S k → w0.heap.size ≤ k) (hB : Bk w' s' (stV d mb' sy' at_ false)) (hT : TM w' mb' l.length (Sto4.putAll l))
  (h1 : w.heap.size ≤ s') (h2 : w.heap.size ≤ mb') (h3 : s' ≠ mb') (hl : l.length ≤ 100000) (hz : ∀ c ∈ l, c.k.size ≤ 300000 ∧ c.d.size ≤ 300000) (so : Tx.Sorted l) : LS w0 w' S s' d mb' n l.length m b l sy' at_ false := by
 rw [Sto4.put_sorted so] at hT;exact ⟨⟨hD.ext hE, hB, hT, so, hz, fun q => by have := hD.lt _ q; omega, fun q => by have := hD.lt _ q; omega, h3, hlo, Nat.le_trans hX.size h1, Nat.le_trans hX.size h2, hl⟩, hX.trans hE⟩
end
end Go.Proofs.YtheidjagcafgnaaGreatDoor
namespace Go.Proofs.YtheidjagcafgnaaGreatDoor
open Go.RowKit
theorem putE_ax : putE [] false ⟨#[97]⟩ ⟨#[120]⟩ = none := by
 unfold putE tooMuch;have h1 : isKey ⟨#[97]⟩ := ⟨by decide, by decide, by decide +kernel⟩;simp only [Bool.false_eq_true, if_false];rw [if_neg (by simp [h1])];refine if_neg ?_;intro q;rcases q with q | q
 ·exact absurd q (by decide +kernel)
 ·exact absurd q.2 (by decide)
set_option linter.unusedSimpArgs false in
set_option maxHeartbeats 8000000 in
theorem hold_any (w : World) (E : Nat → Addr) (hE : Errs w E) : Calls Tryz.prog 8 #[] w fun e w' => e = .returned (.bool true) ∧ Ext w w' := by
 have HE := Lib.hid hE;clear hE;go_enter Tryz.func8, Tryz.ntmps8
 go_wp2_with fail;refine (new_ok 100 w (by omega)).mono ?_;rintro e w1 ⟨⟨d, rfl, hd⟩, hX⟩;have X1 := Lib.hid hX;have D1 := Lib.hid hd;clear hX hd;go_wp2_with fail;refine (format_any w.heap.size d 100 0 Dk.new _ w1 E (HE.out.ext X1.out) HE.out.low HE.out.lowT D1.out (fun k q => q.1) X1.out.size rfl (by omega)).mono ?_;rintro e w2 hP;unfold FmtP at hP;rw [if_neg (by omega)] at hP;obtain ⟨s, mb, S, rfl, hS, _, _, h1, h2, hK⟩ := hP;have L2 := Lib.hid (show LS w w2 S s d mb 100 0 (Sto4.fmt Dk.new) 0 [] 1 1 false from ⟨hS, LS.keep X1.out hK (fun k q => q.1)⟩);have I2 := Lib.hid (Sto4.fmt_inv (m := Dk.new) (n := 100) (fun k _ => zB_size 64) (by omega) (by omega));clear hS hK h1 h2 X1 D1;go_wp2_with fail;have hp := ps L2.out;refine (put_any s mb 0 [] false ⟨#[97]⟩ ⟨#[120]⟩ w2 E (HE.out.ext L2.out.ext) hp.1 hp.2 L2.out.st.T L2.out.st.so (by omega) (by decide) (by decide)).mono ?_;rw [putE_ax];rintro e w3 ⟨rfl, hT, hK⟩;have L3 := Lib.hid (L2.out.put hT hK (by decide) (by decide) (by omega));clear hT hK hp;go_wp2_with fail;refine (sync_any w.heap.size s d mb 100 1 _ 0 _ 1 1 false S w3 E (HE.out.ext L3.out.ext) HE.out.low L3.out.st (by omega) (by omega) (by omega) (by omega)).mono ?_;rintro e w4 hP;unfold SyncP at hP;have hz : (pkB (Tx.ins ⟨#[97]⟩ ⟨#[120]⟩ [])).size = 10 := by decide +kernel
 rw [if_neg (by decide), if_neg (by rw [hz]; decide)] at hP;obtain ⟨m', ok, b', hR, hb', hb0, hS, hK, rfl⟩ := hP;have hok := (hR.sure rfl).1;have hI := Sto4.sync_ok hR I2.out.2 (by rw [hz]; decide) L3.out.st.so L3.out.st.sz (by omega) hok;subst hok;have L4 := Lib.hid (L3.out.sync hS hK);have I4 := Lib.hid hI;clear hR hb' hb0 hS hK hI I2 L2 L3 hz;simp only [if_true];go_wp2_with fail;refine (open_any d 100 b' m' _ w4 E (HE.out.ext L4.out.ext) L4.out.st.D (by omega) I4.out.2.all).mono ?_;rintro e w5 hP;rw [I4.out.2.opens] at hP;obtain ⟨hX, s', mb', rfl, hB, hT, h1, h2, h3⟩ := hP;have L5 := Lib.hid (LS.opened L4.out.ext hX L4.out.st.D L4.out.st.lo hB hT h1 h2 h3 (by decide) L4.out.st.sz L4.out.st.so);clear hX hB hT h1 h2 h3 L4 I4;go_wp2_with fail;have hp := ps L5.out;refine (get_any s' mb' _ _ ⟨#[97]⟩ w5 E (HE.out.ext L5.out.ext) hp.1 L5.out.st.T (by decide)).mono ?_;have hf : Tx.fnd (Tx.ins ⟨#[97]⟩ ⟨#[120]⟩ []) ⟨#[97]⟩ = some ⟨#[120]⟩ := by rw [Tx.fnd_ins, if_pos rfl]
 rw [hf];rintro e w6 ⟨hX, rfl⟩;have X6 := Lib.hid (L5.out.ext.trans hX);clear hX hp hf;go_wp2_with fail;go_ret;exact ⟨rfl, X6.out⟩
end Go.Proofs.YtheidjagcafgnaaGreatDoor
namespace Go.Proofs.YtheidjagcafgnaaGreatDoor
open Go.RowKit
theorem Tx.fnd_at {k : ByteArray} : ∀ {L : List Ck} {i : Nat} {c : Ck}, (∀ j x, j < i → L[j]? = some x → x.k ≠ k) → L[i]? = some c → c.k = k → Tx.fnd L k = some c.d
 | [], _, _, _, h, _ => by cases h
 | x :: L, 0, c, _, h, hk => by
  injection h with h;subst h;rw [Tx.fnd_cons, if_pos hk]
 | x :: L, i + 1, c, hn, h, hk => by
  rw [Tx.fnd_cons, if_neg (hn 0 x (by omega) rfl)];exact Tx.fnd_at (fun j y hj hy => hn (j + 1) y (by omega) hy) h hk
/-- where a text lies, -1: nowhere -/
def FindP (L : List Ck) (k : ByteArray) (e : Ending) : Prop :=
 (Tx.fnd L k = none ∧ e = .returned (.int .i64 (-1))) ∨ (∃ (i : Nat) (c : Ck), L[i]? = some c ∧ Tx.fnd L k = some c.d ∧ e = .returned (.int .i64 (i : Int)))
set_option maxHeartbeats 4000000 in
theorem find_any (x : Option Addr) (cap : Nat) (L : List Ck) (k : ByteArray) (w : World) (hx : Cks w x L) (hn : L.length ≤ 100000) :
  Calls Tryz.prog 24 #[.slice x L.length cap, .string k] w fun e w' => FindP L k e ∧ w = w' := by
 have HX := Lib.hid hx;clear hx;obtain ⟨n, hn0⟩ : ∃ n, L.length = n := ⟨_, rfl⟩;have HN := Lib.hid hn0;rw [hn0] at hn ⊢;clear hn0;go_enter Tryz.func24, Tryz.ntmps24
 go_wp2_with fail;go_loop [5] (fun cc => ∃ (i : Nat), i ≤ n ∧ cc = .int .i64 (i : Int) ∧ Hid (∀ j y, j < i → L[j]? = some y → y.k ≠ k)) (fun cc => n - (intOf cc).toNat)
 case atStart => exact ⟨0, by omega, rfl, Lib.hid (fun j y hj => by omega)⟩
 case round =>
  obtain ⟨i, hi, rfl, HB⟩ := hrel;by_cases hlt : i < n
  ·obtain ⟨a, rfl⟩ := HX.out.isSome (i := i) (by rw [HN.out]; exact hlt);obtain ⟨c, hc⟩ : ∃ c, L[i]? = some c := ⟨_, List.getElem?_eq_getElem (by rw [HN.out]; exact hlt)⟩;obtain ⟨c0, c1⟩ := HX.out.2 a rfl i c hc;have HC := Lib.hid hc;clear c1 hc;have wi : ∀ z, z = (i : Int) + 1 → IntKind.i64.wrap z = z := by rintro _ rfl; rw [IntKind.wrap_i64]; omega
   by_cases hk : c.k = k
   ·have t1 : (c.k.toList == k.toList) = true := by rw [hk]; exact beq_self_eq_true _
    have HK := Lib.hid hk;clear hk;go_wp2_with fail;go_ret;exact ⟨.inr ⟨i, c, HC.out, Tx.fnd_at HB.out HC.out HK.out, rfl⟩, rfl⟩
   ·have t1 : (c.k.toList == k.toList) = false := by
     rw [ByteArray.toList_eq, ByteArray.toList_eq];exact beq_eq_false_iff_ne.2 (fun e => hk (dl_inj e))
    have HK := Lib.hid hk;clear hk;go_wp2_with fail;go_round
    case rel => exact ⟨i + 1, by omega, by go_num, Lib.hid (fun j y hj hy => by
     by_cases e : j = i
     ·subst e;rw [HC.out] at hy;injection hy with hy;rw [← hy]; exact HK.out
     ·exact HB.out j y (by omega) hy)⟩
    case measure => simp [intOf]; omega
  ·obtain rfl : i = n := by omega
   go_wp2_with fail;go_ret;refine ⟨.inl ⟨Tx.fnd_none.2 (fun c hc => ?_), rfl⟩, rfl⟩;obtain ⟨j, hj, rfl⟩ := List.mem_iff_getElem.1 hc;exact HB.out j _ (by rw [← HN.out]; exact hj) (List.getElem?_eq_getElem hj)
theorem bad_low {s : ByteArray} {i : Nat} (h : i < s.size) : ((s[i]).toNat : Int) = (bK s i : Int) := by rw [bK_at h]
def KeyP (s : ByteArray) (e : Ending) : Prop := ∃ b : Bool, e = .returned (.bool b) ∧ (b = true ↔ isKey s)
theorem KeyP.no {s : ByteArray} (h : ¬ isKey s) : KeyP s (.returned (.bool false)) := ⟨false, rfl, ⟨fun q => (by cases q), fun q => absurd q h⟩⟩
theorem KeyP.yes {s : ByteArray} (h : isKey s) : KeyP s (.returned (.bool true)) := ⟨true, rfl, ⟨fun _ => h, fun _ => rfl⟩⟩
set_option maxHeartbeats 4000000 in
theorem isKey_any (s : ByteArray) (w : World) (hs : s.size ≤ maxLen) :
  Calls Tryz.prog 36 #[.string s] w fun e w' => KeyP s e ∧ w = w' := by
 unfold maxLen at hs;obtain ⟨N, hN⟩ : ∃ N, s.size = N := ⟨_, rfl⟩;by_cases h1 : s.size < 1
 ·have t1 : decide ((s.size : Int) < 1) = true := decide_eq_true (by omega);have HV : Hid (¬ isKey s) := Lib.hid (fun q => by have := q.1; omega);clear hN;go_enter Tryz.func36, Tryz.ntmps36
  go_wp2_with fail;go_ret;exact ⟨KeyP.no HV.out, rfl⟩
 have t1 : decide ((s.size : Int) < 1) = false := decide_eq_false (by omega);by_cases h2 : 12 < s.size
 ·have t2 : decide ((12 : Int) < (s.size : Int)) = true := decide_eq_true (by omega);have HV : Hid (¬ isKey s) := Lib.hid (fun q => by have := q.2.1; omega);clear hN;go_enter Tryz.func36, Tryz.ntmps36
  go_wp2_with fail;go_ret;exact ⟨KeyP.no HV.out, rfl⟩
 have t2 : decide ((12 : Int) < (s.size : Int)) = false := decide_eq_false (by omega);have HSZ := Lib.hid (And.intro h1 h2);go_enter Tryz.func36, Tryz.ntmps36
 go_wp2_with fail;clear t1 t2 h1 h2;go_loop [3, 4, 5] (fun cc u v => ∃ (i : Nat), i ≤ N ∧ cc = .int .i64 (i : Int) ∧ Hid (∀ j, j < i → ¬ badK (bK s j))) (fun cc _ _ => N - (intOf cc).toNat)
 case atStart => exact ⟨0, by omega, rfl, Lib.hid (fun j hj => by omega)⟩
 case round =>
  obtain ⟨i, hi, rfl, HB⟩ := hrel;by_cases hlt : i < N
  ·as_aux_lemma =>
    have hlt2 : i < s.size := by omega
    have ht : (i : Int) < (s.size : Int) := by omega
    have hc := bad_low hlt2;obtain ⟨c, hcc⟩ : ∃ c, bK s i = c := ⟨_, rfl⟩;rw [hcc] at hc;have HCC := Lib.hid hcc;have wi : ∀ z, z = (i : Int) + 1 → IntKind.i64.wrap z = z := by rintro _ rfl; rw [IntKind.wrap_i64]; omega
    clear hcc;obtain ⟨p1, hp1⟩ : ∃ b, decide ((97 : Int) ≤ (c : Int)) = b := ⟨_, rfl⟩;obtain ⟨p2, hp2⟩ : ∃ b, decide ((c : Int) ≤ 122) = b := ⟨_, rfl⟩;obtain ⟨p3, hp3⟩ : ∃ b, decide ((48 : Int) ≤ (c : Int)) = b := ⟨_, rfl⟩;obtain ⟨p4, hp4⟩ : ∃ b, decide ((c : Int) ≤ 57) = b := ⟨_, rfl⟩;have HP : Hid (badK c ↔ ¬ (p1 = true ∧ p2 = true) ∧ ¬ (p3 = true ∧ p4 = true)) := Lib.hid (by
     rw [← hp1, ← hp2, ← hp3, ← hp4]; unfold badK; simp only [decide_eq_true_eq]; omega)
    by_cases hb : badK c
    ·as_aux_lemma =>
      have HV : Hid (¬ isKey s) := Lib.hid (fun q => q.2.2 i hlt2 (by rw [HCC.out]; exact hb));have hq : (p1 = false ∨ p2 = false) ∧ (p3 = false ∨ p4 = false) := by
       have := HP.out.1 hb;cases p1 <;> cases p2 <;> cases p3 <;> cases p4 <;> simp at this ⊢
      clear HP hb HB wi;cases p1 <;> cases p2 <;> cases p3 <;> cases p4 <;> simp at hq
      all_goals
       clear hq;go_wp2_with fail;go_ret;exact ⟨KeyP.no HV.out, rfl⟩
    ·as_aux_lemma =>
      have hq : (p1 = true ∧ p2 = true) ∨ (p3 = true ∧ p4 = true) := by
       have h := fun q => hb (HP.out.2 q);cases p1 <;> cases p2 <;> cases p3 <;> cases p4 <;> simp at h ⊢
      have HB2 : Hid (∀ j, j < i + 1 → ¬ badK (bK s j)) := Lib.hid (fun j hj => by
       by_cases e : j = i
       ·subst e; rw [HCC.out]; exact hb
       ·exact HB.out j (by omega))
      clear HP hb HB;cases p1 <;> cases p2 <;> cases p3 <;> cases p4 <;> simp at hq
      all_goals
       clear hq;go_wp2_with fail;go_round
       case rel => exact ⟨i + 1, by omega, by go_num, HB2⟩
       case measure => simp [intOf]; omega
  ·obtain rfl : i = N := by omega
   have ht : ¬ (i : Int) < (s.size : Int) := by omega
   go_wp2_with fail;go_ret;exact ⟨KeyP.yes ⟨by have := HSZ.out.1; omega, by have := HSZ.out.2; omega, fun j hj => HB.out j (by omega)⟩, rfl⟩
end Go.Proofs.YtheidjagcafgnaaGreatDoor
namespace Go.Proofs.YtheidjagcafgnaaGreatDoor
open Go.RowKit
/-- a row of texts as it is read -/
def Sx (w : World) (v : Value) (L : List ByteArray) : Prop := ∃ x c, v = .slice x L.length c ∧ (x = none → L = []) ∧ ∀ a, x = some a → ∀ (i : Nat) (s : ByteArray), L[i]? = some s → w.cell? (a.add i) = some (.string s)
theorem Sx.ext {w w' : World} {v : Value} {L : List ByteArray} (h : Sx w v L) (hE : Ext w w') : Sx w' v L := by
 obtain ⟨x, c, hv, h0, h1⟩ := h;refine ⟨x, c, hv, h0, fun a ha i s hi => ?_⟩;have q := h1 a ha i s hi;exact (hE.keeps.cell (S := fun _ => False) (World.block_lt_of_cell? w _ q) id).trans q
def strL (L : List ByteArray) : List Value := L.map Value.string
theorem Sx.own {w : World} {B : Nat} {e : TypeId} {v : Value} {L : List ByteArray} (h : w.ownsRow B e 1 v L.length (strL L)) : Sx w v L := by
 rcases ownsRow_slice h with ⟨rfl, h0⟩ | ⟨g, cap, rfl⟩
 ·have hn : L = [] := List.eq_nil_of_length_eq_zero h0;subst hn; exact ⟨none, 0, rfl, fun _ => rfl, fun a h => by cases h⟩
 ·refine ⟨some ⟨g, 0, none⟩, cap, rfl, (fun h => by cases h), fun a ha i s hi => ?_⟩;injection ha with ha; subst ha;have hlt : i < L.length := (List.getElem?_eq_some_iff.1 hi).1;rw [add_plain, h.cellAt _ (by omega)];unfold strL;rw [List.getElem?_map, hi]; rfl
set_option maxHeartbeats 4000000 in
theorem same_any (v1 v2 : Value) (L1 L2 : List ByteArray) (w : World) (h1 : Sx w v1 L1) (h2 : Sx w v2 L2) (hn : L1.length ≤ 100000 ∧ L2.length ≤ 100000) :
  Calls Tryz.prog 40 #[v1, v2] w fun e w' => e = .returned (.bool (decide (L1 = L2))) ∧ Ext w w' := by
 obtain ⟨x1, c1, rfl, z1, g1⟩ := h1;obtain ⟨x2, c2, rfl, z2, g2⟩ := h2;have H1 := Lib.hid (And.intro z1 g1);have H2 := Lib.hid (And.intro z2 g2);obtain ⟨n1, hn1⟩ : ∃ n, L1.length = n := ⟨_, rfl⟩;obtain ⟨n2, hn2⟩ : ∃ n, L2.length = n := ⟨_, rfl⟩;have HN := Lib.hid (And.intro hn1 hn2);obtain ⟨b, hb⟩ : ∃ b, decide (L1 = L2) = b := ⟨_, rfl⟩;have HB := Lib.hid hb;rw [hb];rw [hn1, hn2] at hn ⊢;clear z1 g1 z2 g2 hn1 hn2 hb;by_cases hne : n1 = n2
 ·subst hne;have t0 : ((n1 : Int) != (n1 : Int)) = false := by simp
  go_enter Tryz.func40, Tryz.ntmps40
  go_wp2_with fail;go_loopw [5] (fun cc wr => ∃ (i : Nat), i ≤ n1 ∧ cc = .int .i64 (i : Int) ∧ Hid (Ext w wr) ∧ Hid (∀ j, j < i → L1[j]? = L2[j]?)) (fun cc _ => n1 - (intOf cc).toNat)
  case atStart => exact ⟨0, by omega, rfl, Lib.hid (Ext.refl w), Lib.hid (fun j hj => by omega)⟩
  case round =>
   obtain ⟨i, hi, rfl, HX, HJ⟩ := hrel;by_cases hlt : i < n1
   ·as_aux_lemma =>
     have ht : (i : Int) < (n1 : Int) := by omega
     obtain ⟨s1, hs1⟩ : ∃ c, L1[i]? = some c := ⟨_, List.getElem?_eq_getElem (by rw [HN.out.1]; exact hlt)⟩;obtain ⟨s2, hs2⟩ : ∃ c, L2[i]? = some c := ⟨_, List.getElem?_eq_getElem (by rw [HN.out.2]; exact hlt)⟩;obtain ⟨a1, rfl⟩ : ∃ a, x1 = some a := by
      cases x1 with
      | none => rw [H1.out.1 rfl] at hs1; cases hs1
      | some a => exact ⟨a, rfl⟩
     obtain ⟨a2, rfl⟩ : ∃ a, x2 = some a := by
      cases x2 with
      | none => rw [H2.out.1 rfl] at hs2; cases hs2
      | some a => exact ⟨a, rfl⟩
     have q1 := H1.out.2 a1 rfl i s1 hs1;have q2 := H2.out.2 a2 rfl i s2 hs2;have HQ := Lib.hid (And.intro hs1 hs2);have c0 : wr.cell? (a1.add i) = some (.string s1) := (HX.out.keeps.cell (S := fun _ => False) (World.block_lt_of_cell? w _ q1) id).trans q1;have c1' : wr.cell? (a2.add i) = some (.string s2) := (HX.out.keeps.cell (S := fun _ => False) (World.block_lt_of_cell? w _ q2) id).trans q2;have HXD : Hid (Ext w wr.drew) := Lib.hid (Below.drew HX.out);clear q1 q2 hs1 hs2;have wi : ∀ z, z = (i : Int) + 1 → IntKind.i64.wrap z = z := by rintro _ rfl; rw [IntKind.wrap_i64]; omega
     by_cases hk : s1 = s2
     ·have t1 : (s1.toList == s2.toList) = true := by rw [hk]; exact beq_self_eq_true _
      have t2 : (s1.toList != s2.toList) = false := by rw [hk]; simp
      have HK : Hid (∀ j, j < i + 1 → L1[j]? = L2[j]?) := Lib.hid (fun j hj => by
       by_cases e : j = i
       ·subst e; rw [HQ.out.1, HQ.out.2, hk]
       ·exact HJ.out j (by omega))
      clear hk;go_upto_region 6 with fail;go_region;all_goals
       go_wp2_with fail;go_roundw
       case rel => exact ⟨i + 1, by omega, by go_num, HXD, HK⟩
       case measure => simp [intOf]; omega
     ·have t1 : (s1.toList == s2.toList) = false := by
       rw [ByteArray.toList_eq, ByteArray.toList_eq];exact beq_eq_false_iff_ne.2 (fun e => hk (dl_inj e))
      have t2 : (s1.toList != s2.toList) = true := by
       rw [ByteArray.toList_eq, ByteArray.toList_eq];exact bne_iff_ne.2 (fun e => hk (dl_inj e))
      have HBF : Hid (b = false) := Lib.hid (by
       rw [← HB.out];refine decide_eq_false (fun e => hk ?_);have := HQ.out.1;rw [e, HQ.out.2] at this;injection this with this;exact this.symm)
      clear hk;go_upto_region 6 with fail;go_region;all_goals
       go_wp2_with fail;go_ret;exact ⟨by rw [HBF.out]; rfl, HXD.out⟩
   ·obtain rfl : i = n1 := by omega
    have ht : ¬ (i : Int) < (i : Int) := by omega
    go_wp2_with fail;go_ret;exact ⟨by
     have : b = true := by
      rw [← HB.out];refine decide_eq_true (List.ext_getElem? (fun j => ?_));by_cases hj : j < i
      ·exact HJ.out j hj
      ·rw [List.getElem?_eq_none (by rw [HN.out.1]; omega), List.getElem?_eq_none (by rw [HN.out.2]; omega)]
     rw [this]; rfl, HX.out⟩
 ·have t0 : ((n1 : Int) != (n2 : Int)) = true := by rw [bne_iff_ne]; omega
  have HBF : Hid (b = false) := Lib.hid (by
   rw [← HB.out];exact decide_eq_false (fun e => hne (by rw [← HN.out.1, ← HN.out.2, e])))
  go_enter Tryz.func40, Tryz.ntmps40
  go_wp2_with fail;go_ret;exact ⟨by rw [HBF.out]; rfl, Ext.refl _⟩
end Go.Proofs.YtheidjagcafgnaaGreatDoor
