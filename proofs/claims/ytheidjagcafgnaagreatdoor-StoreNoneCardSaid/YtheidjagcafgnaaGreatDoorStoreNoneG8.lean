/-
  Acts on a disk: rows of acts; few; act.
  layercakelaw4.act.
  What was flushed stays: the plain law. No function of the program is named.
  DiskKeeps' walk.
  coded: an error's number, without a place.
  StoreNone's walk.
  The package's errors, out of what a row lists.
  Arguments that are rows of acts, and rows of bools, opened.
  The last step of every law's row, once: a call that returns true and turns nothing that was there meets the row's post.
-/
import Derived.Test.YtheidjagcafgnaaGreatDoorStoreNoneG1
import Derived.Test.YtheidjagcafgnaaGreatDoorStoreNoneG3
import Derived.Deep.LoopGhost
import Derived.Deep.RegionHeld3
import Derived.Test.YtheidjagcafgnaaGreatDoorStoreNoneG2
import Derived.Test.YtheidjagcafgnaaGreatDoorStoreNoneG7
import Derived.LaidHandle
import Derived.LaidSub
import Derived.Stop.LaidTwo
import Derived.Deep.Grids
import Derived.Lib.SmallJoins
import Derived.Test.YtheidjagcafgnaaGreatDoorRows
import Derived.ProofKit
import Derived.ShutString
import Derived.Below
import Derived.OpenShut
set_option linter.unusedSimpArgs false
set_option linter.unusedVariables false
set_option maxRecDepth 100000
namespace Go.Proofs.YtheidjagcafgnaaGreatDoor
open Go.RowKit
structure Ac where
 kind : ByteArray
 n : Int
 s : ByteArray
 kx : Option Addr
 kn : Nat
 kc : Nat
 kb : Nat → Bool
def acV (a : Ac) : Value := .agg #[.string a.kind, .int .i64 a.n, .string a.s, .slice a.kx a.kn a.kc]
/-- a row of bools, wherever it lies -/
def Kp (w : World) (x : Option Addr) (n : Nat) (kb : Nat → Bool) : Prop := (x = none → n = 0) ∧ ∀ a, x = some a → ∀ j, j < n → w.cell? (a.add j) = some (.bool (kb j))
theorem Kp.ext {w w' : World} {x : Option Addr} {n : Nat} {kb : Nat → Bool} (h : Kp w x n kb) (hE : Ext w w') : Kp w' x n kb :=
 ⟨h.1, fun a ha j hj => by have h1 := h.2 a ha j hj; exact (hE.keeps (S := fun _ => False) |>.cell (World.block_lt_of_cell? w _ h1) id).trans h1⟩
structure Ac.Ok (w : World) (a : Ac) : Prop where
 n : -9223372036854775808 ≤ a.n ∧ a.n ≤ 9223372036854775807
 s : a.s.size ≤ 9223372036854775807
 kn : a.kn ≤ 9223372036854775807
 kp : Kp w a.kx a.kn a.kb
def Acs (w : World) (x : Option Addr) (n : Nat) (ac : Nat → Ac) : Prop :=
 (x = none → n = 0) ∧ ∀ a, x = some a → ∀ i, i < n →
  w.cell? (a.add (i * 4)) = some (.string (ac i).kind) ∧ w.cell? ⟨(a.add (i * 4)).block, (a.add (i * 4)).off + 1, none⟩ = some (.int .i64 (ac i).n) ∧
  w.cell? ⟨(a.add (i * 4)).block, (a.add (i * 4)).off + 2, none⟩ = some (.string (ac i).s) ∧ w.cell? ⟨(a.add (i * 4)).block, (a.add (i * 4)).off + 3, none⟩ = some (.slice (ac i).kx (ac i).kn (ac i).kc) ∧ (ac i).Ok w
theorem Acs.ext {w w' : World} {x : Option Addr} {n : Nat} {ac : Nat → Ac} (h : Acs w x n ac) (hE : Ext w w') : Acs w' x n ac := by
 refine ⟨h.1, fun a ha i hi => ?_⟩;obtain ⟨c0, c1, c2, c3, ok⟩ := h.2 a ha i hi;have K := hE.keeps (S := fun _ => False);have hl : (a.add (i * 4)).block < w.heap.size := World.block_lt_of_cell? w _ c0;exact ⟨(K.cell hl id).trans c0, (K.cell (p := ⟨_, _, none⟩) hl id).trans c1, (K.cell (p := ⟨_, _, none⟩) hl id).trans c2, (K.cell (p := ⟨_, _, none⟩) hl id).trans c3, ⟨ok.n, ok.s, ok.kn, ok.kp.ext hE⟩⟩
def fewA (n : Nat) (ac : Nat → Ac) : Prop := n ≤ 60 ∧ ∀ i, i < n → (ac i).s.size ≤ 200 ∧ (ac i).kn ≤ 200
def FewP (n : Nat) (ac : Nat → Ac) (e : Ending) : Prop := ∃ b, e = .returned (.bool b) ∧ (b = true → fewA n ac)
set_option linter.unusedSimpArgs false in
theorem few_any (x : Option Addr) (n c : Nat) (ac : Nat → Ac) (w : World) (h : Acs w x n ac) (hn : n ≤ maxLen) :
  Calls Tryz.prog 20 #[.slice x n c] w fun e w' => FewP n ac e ∧ w' = w := by
 have HA := Lib.hid h;clear h;unfold maxLen at hn;go_enter Tryz.func20, Tryz.ntmps20
 go_wp2_with fail;go_loopw [3] (fun cc wr => ∃ i : Nat, i ≤ n ∧ cc = .int .i64 (i : Int) ∧ Hid (∀ k, k < i → (ac k).s.size ≤ 200 ∧ (ac k).kn ≤ 200) ∧ wr = w) (fun cc _ => n - (intOf cc).toNat)
 case atStart => exact ⟨0, by omega, rfl, Lib.hid (fun k hk => by omega), rfl⟩
 case round =>
  obtain ⟨i, hi, rfl, HI, rfl⟩ := hrel;by_cases hlt : i < n
  ·have ht : (i : Int) < (n : Int) := by omega
   obtain ⟨a, rfl⟩ : ∃ a, x = some a := by
    cases x with
    | none => have := HA.out.1 rfl; omega
    | some a => exact ⟨a, rfl⟩
   obtain ⟨c0, c1, c2, c3, ok⟩ := HA.out.2 a rfl i hlt;have HO := Lib.hid ok;have wi : ∀ z, z = (i : Int) + 1 → IntKind.i64.wrap z = z := by rintro _ rfl; rw [IntKind.wrap_i64]; omega
   clear ok;by_cases h1 : (ac i).s.size ≤ 200
   ·have t1 : ¬ (200 : Int) < ((ac i).s.size : Int) := by omega
    by_cases h2 : (ac i).kn ≤ 200
    ·have t2 : ¬ (200 : Int) < ((ac i).kn : Int) := by omega
     have HN : Hid (∀ k, k < i + 1 → (ac k).s.size ≤ 200 ∧ (ac k).kn ≤ 200) := Lib.hid (fun k hk => by
      rcases Nat.lt_or_ge k i with q | q
      ·exact HI.out k q
      ·obtain rfl : k = i := by omega
       exact ⟨h1, h2⟩)
     go_wp2_with fail;go_roundw
     case rel => exact ⟨i + 1, by omega, by go_num, HN, by simp⟩
     case measure => simp [intOf]; omega
    ·have t2 : (200 : Int) < ((ac i).kn : Int) := by omega
     go_wp2_with fail;go_ret;exact ⟨⟨false, rfl, fun e => by cases e⟩, rfl⟩
   ·have t1 : (200 : Int) < ((ac i).s.size : Int) := by omega
    go_wp2_with fail;go_ret;exact ⟨⟨false, rfl, fun e => by cases e⟩, rfl⟩
  ·obtain rfl : i = n := by omega
   by_cases h6 : i ≤ 60
   ·have t6 : (i : Int) ≤ 60 := by omega
    go_wp2_with fail;go_ret;exact ⟨⟨true, by simp, fun _ => ⟨h6, HI.out⟩⟩, rfl⟩
   ·have t6 : ¬ (i : Int) ≤ 60 := by omega
    go_wp2_with fail;go_ret;exact ⟨⟨false, by simp, fun e => by cases e⟩, rfl⟩
def kWrite : ByteArray := ⟨#[119, 114, 105, 116, 101]⟩
def kFlush : ByteArray := ⟨#[102, 108, 117, 115, 104]⟩
def kFail : ByteArray := ⟨#[102, 97, 105, 108]⟩
def kCrash : ByteArray := ⟨#[99, 114, 97, 115, 104]⟩
/-- what an act does, and the number of its error -/
def doA (n : Nat) (a : Ac) (m : Dk.DM) : Dk.DM × Nat :=
 if a.kind = kWrite then
  if a.n < 0 ∨ (n : Int) ≤ a.n then (m, 2) else if 64 < a.s.size then (m, 3) else if m.left = 0 then (m, 9) else (Dk.wr m a.n.toNat (Dk.pad a.s), 0)
 else if a.kind = kFlush then (if m.left = 0 then (m, 9) else (Dk.fl m, 0))
 else if a.kind = kFail then (if a.n < 0 then (m, 2) else ({ m with left := a.n }, 0))
 else if a.kind = kCrash then (Dk.cr m (kf a.kn a.kb), 0)
 else (m, 0)
/-- an error of a number -/
def erV (E : Nat → Addr) : Nat → Value
 | 0 => .nilIface
 | k + 1 => .iface 188 (.pointer (some (E k)))
end Go.Proofs.YtheidjagcafgnaaGreatDoor
namespace Go.Proofs.YtheidjagcafgnaaGreatDoor
open Go.RowKit
theorem After.up {S : Nat → Prop} {w w' : World} {d n b c : Nat} {m : Dk.DM} (h : After S w w' d n m b) (hc : b ≤ c) : After S w w' d n m c := ⟨h.1.up hc, h.2⟩
theorem After.pre {S : Nat → Prop} {w w1 w' : World} {d n b : Nat} {m : Dk.DM} (hE : Ext w w1) (h : After S w1 w' d n m b) : After S w w' d n m b := by
 obtain ⟨h1, h2⟩ := h;obtain ⟨gk, ck, gn, cn, vw, hx⟩ := h1.ex;have e := hE.size;refine ⟨⟨⟨gk, ck, gn, cn, vw, hx.mono fun k q => ?_⟩, h1.ok, fun k q => ?_, h1.n1⟩, (hE.keeps (S := S)).trans h2 (fun _ _ q => q)⟩
 ·rcases q with q | q
  ·exact .inl q
  ·exact .inr ⟨by omega, q.2⟩
 ·rcases q with q | q
  ·exact h1.lt k (.inl q)
  ·exact q.2
theorem kno {s : ByteArray} {l : List UInt8} (h : s ≠ ⟨l.toArray⟩) : (s.toList == l) = false := by
 rw [ByteArray.toList_eq];refine beq_eq_false_iff_ne.2 (fun e => h ?_);have : s.data = l.toArray := by rw [← e]
 cases s
 simp only at this;rw [this]
theorem kyes (l : List UInt8) : ((⟨l.toArray⟩ : ByteArray).toList == l) = true := by rw [ByteArray.toList_eq]; simp
theorem boolinf : (Tryz.prog.info? 4).map (fun i => (i.zero, i.size, i.bytes)) = some (some (.bool false), 1, 1) := by kernel_rfl
def boolsV (n : Nat) (kb : Nat → Bool) : List Value := (List.range n).map fun i => .bool (kb i)
theorem boolsV_length (n : Nat) (kb : Nat → Bool) : (boolsV n kb).length = n := by simp [boolsV]
theorem boolsV_get {n : Nat} {kb : Nat → Bool} {j : Nat} (hj : j < n) : (boolsV n kb)[j]? = some (.bool (kb j)) := by simp [boolsV, hj]
set_option linter.unusedSimpArgs false in
theorem act_write (d n b : Nat) (m : Dk.DM) (a : Ac) (S : Nat → Prop) (w : World) (E : Nat → Addr) (hE : ErD w E) (h : DS w S d n m b) (hb : b ≤ 4000) (hk : a.kind = kWrite) :
  Calls Tryz.prog 21 #[.pointer (some ⟨d, 0, none⟩), acV a] w fun e w' => e = .returned (erV E (doA n a m).2) ∧ After S w w' d n (doA n a m).1 (b + 1) := by
 obtain ⟨kind, an, s, kx, kn, kc, kb⟩ := a;have HBB := Lib.hid hb;simp only at hk;subst hk;have t_write : (kWrite.toList == [119, 114, 105, 116, 101]) = true := kyes [119, 114, 105, 116, 101];unfold acV;have HD := Lib.hid h;have HE := Lib.hid hE;clear h hE;by_cases h1 : an < 0 ∨ (n : Int) ≤ an
 ·have HR : Hid (doA n ⟨kWrite, an, s, kx, kn, kc, kb⟩ m = (m, 2)) := Lib.hid (by unfold doA; simp only; rw [if_pos trivial, if_pos h1]);go_enter Tryz.func21, Tryz.ntmps21
  go_wp2_with fail;refine calls_world (fun wz => Ext w wz ∧ wz.heap.size = w.heap.size + 1 ∧ Bk wz (w.heap.size) #[.string kWrite, .int .i64 an, .string s, .slice kx kn kc]) ⟨by repeat (first | exact Ext.refl _ | refine Ext.alloc ?_ _), by simp, by repeat (first | exact Bk.at (by simp) | refine Bk.old ?_)⟩ ?_;rintro w1 ⟨hX, hZ, hB0⟩;have D1 := Lib.hid (HD.out.ext hX);have X1 := Lib.hid hX;have B1 := Lib.hid hB0;have Z1 := Lib.hid hZ;clear hX hZ hB0;refine (write_bound d n b m an s S w1 E (HE.out.ext X1.out) D1.out h1).mono ?_;rintro e w2 ⟨rfl, rfl⟩;go_wp2_with fail;go_ret;exact ⟨by rw [HR.out]; rfl, by rw [HR.out]; exact (After.same (D1.out.up (Nat.le_succ b)) (X1.out.keeps (S := S)))⟩
 ·obtain ⟨i, rfl⟩ : ∃ i : Nat, an = i := ⟨an.toNat, by omega⟩;have hi : i < n := by omega
  by_cases h2 : 64 < s.size
  ·have HR : Hid (doA n ⟨kWrite, (i : Int), s, kx, kn, kc, kb⟩ m = (m, 3)) := Lib.hid (by unfold doA; simp only; rw [if_pos trivial, if_neg h1, if_pos h2]);go_enter Tryz.func21, Tryz.ntmps21
   go_wp2_with fail;refine calls_world (fun wz => Ext w wz ∧ wz.heap.size = w.heap.size + 1 ∧ Bk wz (w.heap.size) #[.string kWrite, .int .i64 (i : Int), .string s, .slice kx kn kc]) ⟨by repeat (first | exact Ext.refl _ | refine Ext.alloc ?_ _), by simp, by repeat (first | exact Bk.at (by simp) | refine Bk.old ?_)⟩ ?_;rintro w1 ⟨hX, hZ, hB0⟩;have D1 := Lib.hid (HD.out.ext hX);have X1 := Lib.hid hX;have B1 := Lib.hid hB0;have Z1 := Lib.hid hZ;clear hX hZ hB0;refine (write_shape d n b i m s S w1 E (HE.out.ext X1.out) D1.out hi h2).mono ?_;rintro e w2 ⟨rfl, rfl⟩;go_wp2_with fail;go_ret;exact ⟨by rw [HR.out]; rfl, by rw [HR.out]; exact (After.same (D1.out.up (Nat.le_succ b)) (X1.out.keeps (S := S)))⟩
  ·by_cases h3 : m.left = 0
   ·have HR : Hid (doA n ⟨kWrite, (i : Int), s, kx, kn, kc, kb⟩ m = (m, 9)) := Lib.hid (by unfold doA; simp only; rw [if_pos trivial, if_neg h1, if_neg h2, if_pos h3]);go_enter Tryz.func21, Tryz.ntmps21
    go_wp2_with fail;refine calls_world (fun wz => Ext w wz ∧ wz.heap.size = w.heap.size + 1 ∧ Bk wz (w.heap.size) #[.string kWrite, .int .i64 (i : Int), .string s, .slice kx kn kc]) ⟨by repeat (first | exact Ext.refl _ | refine Ext.alloc ?_ _), by simp, by repeat (first | exact Bk.at (by simp) | refine Bk.old ?_)⟩ ?_;rintro w1 ⟨hX, hZ, hB0⟩;have D1 := Lib.hid (HD.out.ext hX);have X1 := Lib.hid hX;have B1 := Lib.hid hB0;have Z1 := Lib.hid hZ;clear hX hZ hB0;refine (write_power d n b i m s S w1 E (HE.out.ext X1.out) D1.out hi (by omega) h3).mono ?_;rintro e w2 ⟨rfl, rfl⟩;go_wp2_with fail;go_ret;exact ⟨by rw [HR.out]; rfl, by rw [HR.out]; exact (After.same (D1.out.up (Nat.le_succ b)) (X1.out.keeps (S := S)))⟩
   ·have HR : Hid (doA n ⟨kWrite, (i : Int), s, kx, kn, kc, kb⟩ m = (Dk.wr m i (Dk.pad s), 0)) := Lib.hid (by unfold doA; simp only; rw [if_pos trivial, if_neg h1, if_neg h2, if_neg h3, Int.toNat_natCast]);go_enter Tryz.func21, Tryz.ntmps21
    go_wp2_with fail;refine calls_world (fun wz => Ext w wz ∧ wz.heap.size = w.heap.size + 1 ∧ Bk wz (w.heap.size) #[.string kWrite, .int .i64 (i : Int), .string s, .slice kx kn kc]) ⟨by repeat (first | exact Ext.refl _ | refine Ext.alloc ?_ _), by simp, by repeat (first | exact Bk.at (by simp) | refine Bk.old ?_)⟩ ?_;rintro w1 ⟨hX, hZ, hB0⟩;have D1 := Lib.hid (HD.out.ext hX);have X1 := Lib.hid hX;have B1 := Lib.hid hB0;have Z1 := Lib.hid hZ;clear hX hZ hB0;refine (write_ok d n b i m s S w1 D1.out hi (by omega) h3 (by omega)).mono ?_;rintro e w2 ⟨rfl, hA⟩;have HA := Lib.hid hA;clear hA;go_wp2_with fail;go_ret;exact ⟨by rw [HR.out]; rfl, by rw [HR.out]; exact After.pre X1.out HA.out⟩
set_option linter.unusedSimpArgs false in
theorem act_flush (d n b : Nat) (m : Dk.DM) (a : Ac) (S : Nat → Prop) (w : World) (E : Nat → Addr) (hE : ErD w E) (h : DS w S d n m b) (hb : b ≤ 4000) (hk : a.kind = kFlush) :
  Calls Tryz.prog 21 #[.pointer (some ⟨d, 0, none⟩), acV a] w fun e w' => e = .returned (erV E (doA n a m).2) ∧ After S w w' d n (doA n a m).1 (b + 1) := by
 obtain ⟨kind, an, s, kx, kn, kc, kb⟩ := a;have HBB := Lib.hid hb;simp only at hk;subst hk;have t_write : (kFlush.toList == [119, 114, 105, 116, 101]) = false := kno (by decide);have t_flush : (kFlush.toList == [102, 108, 117, 115, 104]) = true := kyes [102, 108, 117, 115, 104];unfold acV;have HD := Lib.hid h;have HE := Lib.hid hE;clear h hE;by_cases h3 : m.left = 0
 ·have HR : Hid (doA n ⟨kFlush, an, s, kx, kn, kc, kb⟩ m = (m, 9)) := Lib.hid (by unfold doA; simp only; rw [if_neg (by decide), if_pos trivial, if_pos h3]);go_enter Tryz.func21, Tryz.ntmps21
  go_wp2_with fail;refine calls_world (fun wz => Ext w wz ∧ wz.heap.size = w.heap.size + 1 ∧ Bk wz (w.heap.size) #[.string kFlush, .int .i64 an, .string s, .slice kx kn kc]) ⟨by repeat (first | exact Ext.refl _ | refine Ext.alloc ?_ _), by simp, by repeat (first | exact Bk.at (by simp) | refine Bk.old ?_)⟩ ?_;rintro w1 ⟨hX, hZ, hB0⟩;have D1 := Lib.hid (HD.out.ext hX);have X1 := Lib.hid hX;have B1 := Lib.hid hB0;have Z1 := Lib.hid hZ;clear hX hZ hB0;refine (flush_power d n b m S w1 E (HE.out.ext X1.out) D1.out h3).mono ?_;rintro e w2 ⟨rfl, rfl⟩;go_wp2_with fail;go_ret;exact ⟨by rw [HR.out]; rfl, by rw [HR.out]; exact (After.same (D1.out.up (Nat.le_succ b)) (X1.out.keeps (S := S)))⟩
 ·have HR : Hid (doA n ⟨kFlush, an, s, kx, kn, kc, kb⟩ m = (Dk.fl m, 0)) := Lib.hid (by unfold doA; simp only; rw [if_neg (by decide), if_pos trivial, if_neg h3]);go_enter Tryz.func21, Tryz.ntmps21
  go_wp2_with fail;refine calls_world (fun wz => Ext w wz ∧ wz.heap.size = w.heap.size + 1 ∧ Bk wz (w.heap.size) #[.string kFlush, .int .i64 an, .string s, .slice kx kn kc]) ⟨by repeat (first | exact Ext.refl _ | refine Ext.alloc ?_ _), by simp, by repeat (first | exact Bk.at (by simp) | refine Bk.old ?_)⟩ ?_;rintro w1 ⟨hX, hZ, hB0⟩;have D1 := Lib.hid (HD.out.ext hX);have X1 := Lib.hid hX;have B1 := Lib.hid hB0;have Z1 := Lib.hid hZ;clear hX hZ hB0;refine (flush_ok d n b m S w1 D1.out h3).mono ?_;rintro e w2 ⟨rfl, hA⟩;have HA := Lib.hid hA;clear hA;go_wp2_with fail;go_ret;exact ⟨by rw [HR.out]; rfl, by rw [HR.out]; exact After.pre X1.out (HA.out.up (Nat.le_succ b))⟩
set_option linter.unusedSimpArgs false in
theorem act_fail (d n b : Nat) (m : Dk.DM) (a : Ac) (S : Nat → Prop) (w : World) (E : Nat → Addr) (hE : ErD w E) (h : DS w S d n m b) (hb : b ≤ 4000) (hk : a.kind = kFail) (hbn : -9223372036854775808 ≤ a.n ∧ a.n ≤ 9223372036854775807) :
  Calls Tryz.prog 21 #[.pointer (some ⟨d, 0, none⟩), acV a] w fun e w' => e = .returned (erV E (doA n a m).2) ∧ After S w w' d n (doA n a m).1 (b + 1) := by
 obtain ⟨kind, an, s, kx, kn, kc, kb⟩ := a;have HBB := Lib.hid hb;simp only at hk;subst hk;have t_write : (kFail.toList == [119, 114, 105, 116, 101]) = false := kno (by decide);have t_flush : (kFail.toList == [102, 108, 117, 115, 104]) = false := kno (by decide);have t_fail : (kFail.toList == [102, 97, 105, 108]) = true := kyes [102, 97, 105, 108];unfold acV;have HD := Lib.hid h;have HE := Lib.hid hE;clear h hE;have hbn_ := Lib.hid hbn;clear hbn;by_cases h1 : an < 0
 ·have HR : Hid (doA n ⟨kFail, an, s, kx, kn, kc, kb⟩ m = (m, 2)) := Lib.hid (by unfold doA; simp only; rw [if_neg (by decide), if_neg (by decide), if_pos trivial, if_pos h1]);go_enter Tryz.func21, Tryz.ntmps21
  go_upto_region 7 with fail;refine wp_world (fun wz => Ext w wz ∧ wz.heap.size = w.heap.size + 1 ∧ Bk wz (w.heap.size) #[.string kFail, .int .i64 an, .string s, .slice kx kn kc]) ⟨by repeat (first | exact Ext.refl _ | refine Ext.alloc ?_ _), by simp, by repeat (first | exact Bk.at (by simp) | refine Bk.old ?_)⟩ ?_;rintro w1 ⟨hX, hZ, hB0⟩;have D1 := Lib.hid (HD.out.ext hX);have X1 := Lib.hid hX;have B1 := Lib.hid hB0;have Z1 := Lib.hid hZ;clear hX hZ hB0;refine wp_region_held_drew (S := fun w' => w'.cell? ⟨w.heap.size, 1, none⟩ = some (.int .i64 an)) (by kernel_rfl) (B1.out.cell 1) (fun hHeld => ?_);refine tkH 0 (v := ?_) rfl hHeld ?_ ?_;rotate_left
  ·intro w hSw;(try dsimp only at hSw);go_split_ands;go_simp;(try with_reducible rfl)
  (try simp only [Act.put, xa, xb, xc, xd, xe, xf]);refine tkH 1 (v := ?_) rfl hHeld ?_ ?_;rotate_left
  ·intro w hSw;(try dsimp only at hSw);go_split_ands;go_simp;(try with_reducible rfl)
  (try simp only [Act.put, xa, xb, xc, xd, xe, xf]);refine tkH 2 (v := ?_) rfl hHeld ?_ ?_;rotate_left
  ·intro w hSw;(try dsimp only at hSw);go_split_ands;go_simp;(try with_reducible rfl)
  (try simp only [Act.put, xa, xb, xc, xd, xe, xf]);refine tkH 3 (v := ?_) rfl hHeld ?_ ?_;rotate_left
  ·intro w hSw;(try dsimp only at hSw);go_split_ands;go_simp;(try with_reducible rfl)
  (try simp only [Act.put, xa, xb, xc, xd, xe, xf]);refine tkH 4 (v := ?_) rfl hHeld ?_ ?_;rotate_left
  ·intro w hSw;(try dsimp only at hSw);go_split_ands;go_simp;(try with_reducible rfl)
  (try simp only [Act.put, xa, xb, xc, xd, xe, xf]);refine wpAnyH_ready (rs := [5]) (by kernel_rfl) (by simp) ?_;refine AllReadyH.cons rfl (fun KK hK => ?_) AllReadyH.nil;clear hHeld;go_simp;refine (fail_bad d an w1.drew E ((HE.out.ext X1.out).ext (show Ext w1 w1.drew from Below.drew (Ext.refl w1))) h1).mono ?_;rintro e w5 ⟨rfl, rfl⟩;have BH := Lib.hid ((B1.out.ext (show Ext w1 w1.drew from Below.drew (Ext.refl w1))).cell 1);go_simp;refine hK.out _ _ BH.out (fun hHeld => ?_);clear hK KK;(try simp only [Act.put, xa, xb, xc, xd, xe, xf]);refine tkH 6 (v := ?_) rfl hHeld ?_ ?_;rotate_left
  ·intro w hSw;(try dsimp only at hSw);go_split_ands;go_simp;(try with_reducible rfl)
  (try simp only [Act.put, xa, xb, xc, xd, xe, xf]);refine wpAnyH_done (by kernel_rfl) ?_ _;clear hHeld;go_wp2_with fail;go_ret;exact ⟨by rw [HR.out]; rfl, by rw [HR.out]; exact (After.same ((D1.out.ext (show Ext w1 w1.drew from Below.drew (Ext.refl w1))).up (Nat.le_succ b)) ((X1.out.trans (show Ext w1 w1.drew from Below.drew (Ext.refl w1))).keeps (S := S)))⟩
 ·have HR : Hid (doA n ⟨kFail, an, s, kx, kn, kc, kb⟩ m = ({ m with left := an }, 0)) := Lib.hid (by unfold doA; simp only; rw [if_neg (by decide), if_neg (by decide), if_pos trivial, if_neg h1]);go_enter Tryz.func21, Tryz.ntmps21
  go_upto_region 7 with fail;refine wp_world (fun wz => Ext w wz ∧ wz.heap.size = w.heap.size + 1 ∧ Bk wz (w.heap.size) #[.string kFail, .int .i64 an, .string s, .slice kx kn kc]) ⟨by repeat (first | exact Ext.refl _ | refine Ext.alloc ?_ _), by simp, by repeat (first | exact Bk.at (by simp) | refine Bk.old ?_)⟩ ?_;rintro w1 ⟨hX, hZ, hB0⟩;have D1 := Lib.hid (HD.out.ext hX);have X1 := Lib.hid hX;have B1 := Lib.hid hB0;have Z1 := Lib.hid hZ;clear hX hZ hB0;refine wp_region_held_drew (S := fun w' => w'.cell? ⟨w.heap.size, 1, none⟩ = some (.int .i64 an)) (by kernel_rfl) (B1.out.cell 1) (fun hHeld => ?_);refine tkH 0 (v := ?_) rfl hHeld ?_ ?_;rotate_left
  ·intro w hSw;(try dsimp only at hSw);go_split_ands;go_simp;(try with_reducible rfl)
  (try simp only [Act.put, xa, xb, xc, xd, xe, xf]);refine tkH 1 (v := ?_) rfl hHeld ?_ ?_;rotate_left
  ·intro w hSw;(try dsimp only at hSw);go_split_ands;go_simp;(try with_reducible rfl)
  (try simp only [Act.put, xa, xb, xc, xd, xe, xf]);refine tkH 2 (v := ?_) rfl hHeld ?_ ?_;rotate_left
  ·intro w hSw;(try dsimp only at hSw);go_split_ands;go_simp;(try with_reducible rfl)
  (try simp only [Act.put, xa, xb, xc, xd, xe, xf]);refine tkH 3 (v := ?_) rfl hHeld ?_ ?_;rotate_left
  ·intro w hSw;(try dsimp only at hSw);go_split_ands;go_simp;(try with_reducible rfl)
  (try simp only [Act.put, xa, xb, xc, xd, xe, xf]);refine tkH 4 (v := ?_) rfl hHeld ?_ ?_;rotate_left
  ·intro w hSw;(try dsimp only at hSw);go_split_ands;go_simp;(try with_reducible rfl)
  (try simp only [Act.put, xa, xb, xc, xd, xe, xf]);refine wpAnyH_ready (rs := [5]) (by kernel_rfl) (by simp) ?_;refine AllReadyH.cons rfl (fun KK hK => ?_) AllReadyH.nil;clear hHeld;go_simp;refine (dfail_any d n b m an S w1.drew (D1.out.ext (show Ext w1 w1.drew from Below.drew (Ext.refl w1))) (by omega) hbn_.out.2).mono ?_;rintro e w5 ⟨rfl, hA⟩;have HA := Lib.hid hA;clear hA;have BH := Lib.hid (((B1.out.ext (show Ext w1 w1.drew from Below.drew (Ext.refl w1))).keeps HA.out.2 (fun q => by have h1 := HD.out.lt _ q; omega)).cell 1);go_simp;refine hK.out _ _ BH.out (fun hHeld => ?_);clear hK KK;(try simp only [Act.put, xa, xb, xc, xd, xe, xf]);refine tkH 6 (v := ?_) rfl hHeld ?_ ?_;rotate_left
  ·intro w hSw;(try dsimp only at hSw);go_split_ands;go_simp;(try with_reducible rfl)
  (try simp only [Act.put, xa, xb, xc, xd, xe, xf]);refine wpAnyH_done (by kernel_rfl) ?_ _;clear hHeld;go_wp2_with fail;go_ret;exact ⟨by rw [HR.out]; rfl, by rw [HR.out]; exact After.pre (X1.out.trans (show Ext w1 w1.drew from Below.drew (Ext.refl w1))) (HA.out.up (Nat.le_succ b))⟩
set_option linter.unusedSimpArgs false in
theorem act_crash (d n b : Nat) (m : Dk.DM) (a : Ac) (S : Nat → Prop) (w : World) (E : Nat → Addr) (hE : ErD w E) (h : DS w S d n m b) (hb : b ≤ 4000) (hk : a.kind = kCrash) (hkn : a.kn ≤ 200) (hkp : Kp w a.kx a.kn a.kb) :
  Calls Tryz.prog 21 #[.pointer (some ⟨d, 0, none⟩), acV a] w fun e w' => e = .returned (erV E (doA n a m).2) ∧ After S w w' d n (doA n a m).1 (b + 1) := by
 obtain ⟨kind, an, s, kx, kn, kc, kb⟩ := a;have HBB := Lib.hid hb;simp only at hk;subst hk;have t_write : (kCrash.toList == [119, 114, 105, 116, 101]) = false := kno (by decide);have t_flush : (kCrash.toList == [102, 108, 117, 115, 104]) = false := kno (by decide);have t_fail : (kCrash.toList == [102, 97, 105, 108]) = false := kno (by decide);have t_crash : (kCrash.toList == [99, 114, 97, 115, 104]) = true := kyes [99, 114, 97, 115, 104];unfold acV;have HD := Lib.hid h;have HE := Lib.hid hE;clear h hE;simp only at hkp hkn;have HK := Lib.hid hkp;clear hkp;have HR : Hid (doA n ⟨kCrash, an, s, kx, kn, kc, kb⟩ m = (Dk.cr m (kf kn kb), 0)) := Lib.hid (by unfold doA; simp only; rw [if_neg (by decide), if_neg (by decide), if_neg (by decide), if_pos trivial]);obtain ⟨i0, hi0, hz0, hz1, hz2⟩ := info_parts boolinf;cases kx with
 | none =>
  obtain rfl : kn = 0 := HK.out.1 rfl;go_enter Tryz.func21, Tryz.ntmps21
  go_upto_region 10 with fail;refine wp_world (fun wz => Ext w wz ∧ wz.heap.size = w.heap.size + 1 ∧ Bk wz (w.heap.size) #[.string kCrash, .int .i64 an, .string s, .slice none 0 kc]) ⟨by repeat (first | exact Ext.refl _ | refine Ext.alloc ?_ _), by simp, by repeat (first | exact Bk.at (by simp) | refine Bk.old ?_)⟩ ?_;rintro w1 ⟨hX, hZ, hB0⟩;have D1 := Lib.hid (HD.out.ext hX);have X1 := Lib.hid hX;have B1 := Lib.hid hB0;have Z1 := Lib.hid hZ;clear hX hZ hB0;have c3 := B1.out.cell 3;go_wp2_with (at_builtin; refine wpList_append_own_none rfl _ _ 49 rfl 0 4 i0 1 Tryz.underlying49 hi0 (.slice none 0 0) 0 [] rfl (World.ownsRow_nil _ _ _ _) rfl ?_);refine (crash_any d n b m S w1 D1.out (by omega) none 0 0 kb ⟨fun _ => rfl, fun a ha => by cases ha⟩ (by omega)).mono ?_;rintro e w3 ⟨rfl, hA⟩;have HA := Lib.hid hA;clear hA;go_wp2_with fail;go_ret;exact ⟨by rw [HR.out]; rfl, by rw [HR.out]; exact After.pre X1.out (HA.out.up (Nat.le_succ b))⟩
 | some ka =>
  go_enter Tryz.func21, Tryz.ntmps21
  go_upto_region 10 with fail;refine wp_world (fun wz => Ext w wz ∧ wz.heap.size = w.heap.size + 1 ∧ Bk wz (w.heap.size) #[.string kCrash, .int .i64 an, .string s, .slice (some ka) kn kc]) ⟨by repeat (first | exact Ext.refl _ | refine Ext.alloc ?_ _), by simp, by repeat (first | exact Bk.at (by simp) | refine Bk.old ?_)⟩ ?_;rintro w1 ⟨hX, hZ, hB0⟩;have D1 := Lib.hid (HD.out.ext hX);have X1 := Lib.hid hX;have B1 := Lib.hid hB0;have Z1 := Lib.hid hZ;clear hX hZ hB0;have c3 := B1.out.cell 3;go_wp2_with (at_builtin; refine wpList_append_own_at _ rfl _ _ 49 rfl w1.heap.size 4 i0 (.bool false) 1 1 Tryz.underlying49 hi0 hz0 hz1 hz2 rfl (by decide) (.slice none 0 0) 0 [] rfl (World.ownsRow_nil _ _ _ _) ka kn kc (boolsV kn kb) rfl ?c0 ?c1 ?c2 ?c3 ?c4 ?c5 ?_)
  case c0 => rw [boolsV_length]; omega
  case c1 =>
   intro j u hj;have hjn : j < kn := by
    have := (List.getElem?_eq_some_iff.1 hj).1;rwa [boolsV_length] at this
   rw [boolsV_get hjn] at hj;injection hj with hj;subst hj;have h1 := HK.out.2 ka rfl j hjn;exact (X1.out.keeps (S := fun _ => False) |>.cell (World.block_lt_of_cell? w _ h1) id).trans h1
  case c2 => intro u hu; obtain ⟨x, _, rfl⟩ := List.mem_map.1 hu; rfl
  case c3 => unfold maxLen; omega
  case c4 => omega
  case c5 => exact Nat.le_refl _
  intro v2 w2 hown hgrow hnil hat;have ho : w2.ownsRow w1.heap.size 4 1 v2 kn (boolsV kn kb) := by simpa using hown
  have hE : Ext w1 w2 := (Below.refl _ w1).grown hgrow (Nat.le_refl _) (by intro k hk; simp [Value.ownBlock] at hk);obtain ⟨vx, vc, rfl, _, hv0⟩ := own_form ho;have HKR : Hid (KR w2 S vx kn kb) := Lib.hid ⟨hv0, fun a ha j hj => by
   subst ha;rcases ho.2 with ⟨hv, _⟩ | ⟨g, cap, cur, hv, hg, _⟩
   ·cases hv
   ·injection hv with hv;injection hv with hv;subst hv;rw [add_plain];exact ⟨by rw [ho.cellAt j (by omega), boolsV_get hj], fun q => by have q1 : g < w.heap.size := HD.out.lt _ q; have := X1.out.size; omega⟩⟩
  have X2 := Lib.hid (X1.out.trans hE);clear ho hown hgrow hnil hat hE c3 hv0;go_wp2_with fail;refine (crash_any d n b m S w2 (HD.out.ext X2.out) (by omega) vx kn vc kb HKR.out (by omega)).mono ?_;rintro e w3 ⟨rfl, hA⟩;have HA := Lib.hid hA;clear hA;go_wp2_with fail;go_ret;exact ⟨by rw [HR.out]; rfl, by rw [HR.out]; exact After.pre X2.out (HA.out.up (Nat.le_succ b))⟩
set_option linter.unusedSimpArgs false in
theorem act_other (d n b : Nat) (m : Dk.DM) (a : Ac) (S : Nat → Prop) (w : World) (E : Nat → Addr) (hE : ErD w E) (h : DS w S d n m b) (hb : b ≤ 4000) (h_write : a.kind ≠ kWrite) (h_flush : a.kind ≠ kFlush) (h_fail : a.kind ≠ kFail) (h_crash : a.kind ≠ kCrash) :
  Calls Tryz.prog 21 #[.pointer (some ⟨d, 0, none⟩), acV a] w fun e w' => e = .returned (erV E (doA n a m).2) ∧ After S w w' d n (doA n a m).1 (b + 1) := by
 obtain ⟨kind, an, s, kx, kn, kc, kb⟩ := a;have HBB := Lib.hid hb;have t_write : (kind.toList == [119, 114, 105, 116, 101]) = false := kno h_write;have t_flush : (kind.toList == [102, 108, 117, 115, 104]) = false := kno h_flush;have t_fail : (kind.toList == [102, 97, 105, 108]) = false := kno h_fail;have t_crash : (kind.toList == [99, 114, 97, 115, 104]) = false := kno h_crash;unfold acV;have HD := Lib.hid h;have HE := Lib.hid hE;clear h hE;have HR : Hid (doA n ⟨kind, an, s, kx, kn, kc, kb⟩ m = (m, 0)) := Lib.hid (by unfold doA; simp only; rw [if_neg h_write, if_neg h_flush, if_neg h_fail, if_neg h_crash]);go_enter Tryz.func21, Tryz.ntmps21
 have E_ := (Ext.refl w).alloc (.cells #[.string kind, .int .i64 an, .string s, .slice kx kn kc] 51);have EE := Lib.hid E_;clear E_;go_wp2_with fail;go_ret;exact ⟨by rw [HR.out]; rfl, by rw [HR.out]; exact (After.same ((HD.out.ext EE.out).up (Nat.le_succ b)) (EE.out.keeps (S := S)))⟩
theorem act_any (d n b : Nat) (m : Dk.DM) (a : Ac) (S : Nat → Prop) (w : World) (E : Nat → Addr) (hE : ErD w E) (h : DS w S d n m b) (hb : b ≤ 4000) (hbn : -9223372036854775808 ≤ a.n ∧ a.n ≤ 9223372036854775807) (hkn : a.kn ≤ 200) (hkp : Kp w a.kx a.kn a.kb) :
  Calls Tryz.prog 21 #[.pointer (some ⟨d, 0, none⟩), acV a] w fun e w' => e = .returned (erV E (doA n a m).2) ∧ After S w w' d n (doA n a m).1 (b + 1) := by
 by_cases h1 : a.kind = kWrite
 ·exact act_write d n b m a S w E hE h hb h1
 by_cases h2 : a.kind = kFlush
 ·exact act_flush d n b m a S w E hE h hb h2
 by_cases h3 : a.kind = kFail
 ·exact act_fail d n b m a S w E hE h hb h3 hbn
 by_cases h4 : a.kind = kCrash
 ·exact act_crash d n b m a S w E hE h hb h4 hkn hkp
 ·exact act_other d n b m a S w E hE h hb h1 h2 h3 h4
end Go.Proofs.YtheidjagcafgnaaGreatDoor
namespace Go.Proofs.YtheidjagcafgnaaGreatDoor
open Go.RowKit
def KI (n : Nat) (was : Nat → ByteArray) (tb : Nat → Bool) (m : Dk.DM) : Prop := ∀ i, i < n → tb i = false → m.kept i = was i ∧ m.now i = was i ∧ ∀ p ∈ m.ws, p.1 ≠ i
def touch (a : Ac) (tb : Nat → Bool) (i : Nat) : Bool := if a.kind = kWrite ∧ a.n = (i : Int) then true else tb i
theorem crk_ne {keep : Nat → Bool} {ws : List (Nat × ByteArray)} {f : Nat → ByteArray} {i : Nat} (h : ∀ p ∈ ws, p.1 ≠ i) : ∀ k, Dk.crk keep ws f k i = f i := by
  intro k;induction k with
  | zero => rfl
  | succ k ih =>
    simp only [Dk.crk];cases hp : ws[k]? with
    | none => exact ih
    | some p =>
      simp only;split
      · unfold Dk.upS;rw [if_neg (fun e => h p (List.mem_of_getElem? hp) e.symm)];exact ih
      · exact ih
theorem KI.cr {n : Nat} {was : Nat → ByteArray} {tb : Nat → Bool} {m : Dk.DM} (h : KI n was tb m) (keep : Nat → Bool) : KI n was tb (Dk.cr m keep) := by
  intro i hi ht;obtain ⟨h1, h2, h3⟩ := h i hi ht;have e : Dk.crk keep m.ws m.kept m.ws.length i = was i := (crk_ne h3 _).trans h1;exact ⟨e, e, fun p hp => by cases hp⟩
theorem KI.act {n : Nat} {was : Nat → ByteArray} {tb : Nat → Bool} {m : Dk.DM} (h : KI n was tb m) (a : Ac) : KI n was (touch a tb) (doA n a m).1 := by
  intro i hi ht;have ht0 : ¬ (a.kind = kWrite ∧ a.n = (i : Int)) ∧ tb i = false := by
    unfold touch at ht;split at ht
    · cases ht
    · exact ⟨by assumption, ht⟩
  obtain ⟨hn, ht⟩ := ht0;obtain ⟨h1, h2, h3⟩ := h i hi ht;unfold doA;split
  · rename_i hk;split
    · exact ⟨h1, h2, h3⟩
    split
    · exact ⟨h1, h2, h3⟩
    split
    · exact ⟨h1, h2, h3⟩
    · have hne : a.n.toNat ≠ i := fun e => hn ⟨hk, by omega⟩;refine ⟨h1, ?_, fun p hp => ?_⟩
      · show Dk.upS m.now a.n.toNat _ i = _;unfold Dk.upS; rw [if_neg (fun e => hne e.symm)]; exact h2
      · have hp' : p ∈ m.ws ++ [(a.n.toNat, Dk.pad a.s)] := hp;simp only [List.mem_append, List.mem_singleton] at hp';rcases hp' with q | rfl
        · exact h3 p q
        · exact hne
  split
  · split
    · exact ⟨h1, h2, h3⟩
    · exact ⟨h2, h2, fun p hp => by cases hp⟩
  split
  · split
    · exact ⟨h1, h2, h3⟩
    · exact ⟨h1, h2, h3⟩
  split
  · exact (h.cr _) i hi ht
  · exact ⟨h1, h2, h3⟩
end Go.Proofs.YtheidjagcafgnaaGreatDoor
namespace Go.Proofs.YtheidjagcafgnaaGreatDoor
open Go.RowKit
/-- the disk of a law: where it lies, and what lay there ahead of it -/
structure LD (w0 w : World) (S : Nat → Prop) (d n : Nat) (m : Dk.DM) (b : Nat) : Prop where
  ds : DS w S d n m b
  ext : Ext w0 w
  ge : ∀ k, S k → w0.heap.size ≤ k
theorem LD.after {w0 w w' : World} {S : Nat → Prop} {d n b c : Nat} {m m' : Dk.DM} (h : LD w0 w S d n m b) (ha : After S w w' d n m' c) : LD w0 w' (grow S w w') d n m' c :=
  ⟨ha.1, Below.trans h.ext (ha.2.below h.ext.size (fun k hk q => by have := h.ge k q; omega)), fun k q => by
    rcases q with q | q
    · exact h.ge k q
    · have := h.ext.size; omega⟩
theorem LD.step {w0 w w' : World} {S : Nat → Prop} {d n b : Nat} {m : Dk.DM} (h : LD w0 w S d n m b) (hE : Ext w w') : LD w0 w' S d n m b := ⟨h.ds.ext hE, h.ext.trans hE, h.ge⟩
/-- a store into a block that is not the disk's -/
theorem LD.far {w0 w : World} {S : Nat → Prop} {d n b g i : Nat} {m : Dk.DM} {u : Value} (h : LD w0 w S d n m b) (hg : ¬ S g) (hw : w0.heap.size ≤ g) : LD w0 (w.setCell ⟨g, i, none⟩ u) S d n m b :=
  ⟨h.ds.keeps (one_keeps w g i u) (fun _ q e => hg (e ▸ q)), Below.setCell h.ext hw _, h.ge⟩
end Go.Proofs.YtheidjagcafgnaaGreatDoor
namespace Go.Proofs.YtheidjagcafgnaaGreatDoor
open Go.RowKit
theorem coded_any (w : World) (E : Nat → Addr) (hE : Errs w E) (v : Value) (c a n : Int) (h : ErrV w E v c a) : Calls Tryz.prog 13 #[v, .int .i64 n] w fun e w' => e = .returned (.bool (decide (c = n ∧ a = -1))) ∧ Ext w w' := by
  by_cases hc : c = n
  · subst hc;go_enter Tryz.func13, Tryz.ntmps13
    go_wp2_with fail;refine (code_any _ E hE _ _ _ h).mono ?_;rintro e w2 ⟨rfl, h2⟩;go_wp2_with fail;go_ret;exact ⟨ret_bool (by rw [Bool.eq_iff_iff]; simp), h2⟩
  · have t1 : (c == n) = false := beq_eq_false_iff_ne.2 hc;go_enter Tryz.func13, Tryz.ntmps13
    go_wp2_with fail;refine (code_any _ E hE _ _ _ h).mono ?_;rintro e w2 ⟨rfl, h2⟩;go_wp2_with fail;go_ret;exact ⟨ret_bool (by rw [Bool.eq_iff_iff]; simp [hc]), h2⟩
end Go.Proofs.YtheidjagcafgnaaGreatDoor
namespace Go.Proofs.YtheidjagcafgnaaGreatDoor
open Go.RowKit
/-- all sectors, and all that waits, have 64 bytes; power without end -/
structure W64 (n : Nat) (m : Dk.DM) : Prop where
 now : ∀ k, k < n → (m.now k).size = 64
 kept : ∀ k, k < n → (m.kept k).size = 64
 ws : ∀ q ∈ m.ws, q.2.size = 64
 left : m.left = -1
theorem W64.new (n : Nat) : W64 n Dk.new := ⟨fun _ _ => zB_size 64, fun _ _ => zB_size 64, (fun q hq => by cases hq), rfl⟩
theorem W64.wr {n : Nat} {m : Dk.DM} (h : W64 n m) (i : Nat) {s : ByteArray} (hs : s.size = 64) : W64 n (Dk.wr m i s) := by
 refine ⟨fun k hk => ?_, h.kept, fun q hq => ?_, ?_⟩
 ·show (if k = i then s else m.now k).size = 64;split
  ·exact hs
  ·exact h.now k hk
 ·have hq : q ∈ m.ws ++ [(i, s)] := hq;rcases List.mem_append.1 hq with hq | hq
  ·exact h.ws q hq
  ·rw [List.mem_singleton.1 hq]; exact hs
 ·show Dk.dec m.left = -1;rw [h.left]; rfl
theorem W64.fl {n : Nat} {m : Dk.DM} (h : W64 n m) : W64 n (Dk.fl m) := ⟨h.now, h.now, (fun q hq => by cases hq), by show Dk.dec m.left = -1; rw [h.left]; rfl⟩
theorem W64.cr {n : Nat} {m : Dk.DM} (h : W64 n m) (keep : Nat → Bool) : W64 n (Dk.cr m keep) :=
 ⟨fun k hk => Sto4.crk_size h.ws (h.kept k hk) _, fun k hk => Sto4.crk_size h.ws (h.kept k hk) _, (fun q hq => by cases hq), rfl⟩
theorem W64.act {n : Nat} {m : Dk.DM} (h : W64 n m) (a : Ac) (ha : a.kind ≠ kFail) : W64 n (doA n a m).1 := by
 unfold doA;by_cases h1 : a.kind = kWrite
 ·rw [if_pos h1];split
  ·exact h
  split
  ·exact h
  split
  ·exact h
  ·rename_i hz _;exact h.wr _ (Sto4.pad_size (by omega))
 rw [if_neg h1];by_cases h2 : a.kind = kFlush
 ·rw [if_pos h2];split
  ·exact h
  ·exact h.fl
 rw [if_neg h2, if_neg ha];by_cases h3 : a.kind = kCrash
 ·rw [if_pos h3]; exact h.cr _
 ·rw [if_neg h3]; exact h
set_option linter.unusedSimpArgs false in
set_option maxHeartbeats 8000000 in
theorem storeNone_any (sectors : Int) (nl cl : Nat) (xl : Option Addr) (l : Nat → Ac) (w : World) (E : Nat → Addr) (hE : Errs w E) (hl : Acs w xl nl l) (hnl : nl ≤ maxLen) :
  Calls Tryz.prog 5 #[.slice xl nl cl, .int .i64 sectors] w fun e w' => e = .returned (.bool true) ∧ Ext w w' := by
 have HE := Lib.hid hE;have HED : Hid (ErD w E) := Lib.hid ⟨hE.var 1 (by decide), hE.var 2 (by decide), hE.var 8 (by decide)⟩;have HL := Lib.hid hl;clear hE hl;go_enter Tryz.func5, Tryz.ntmps5
 go_wp2_with fail;refine (hold_any w E HE.out).mono ?_;rintro e w1 ⟨rfl, hX⟩;have X1 := Lib.hid hX;clear hX;go_wp2_with fail;refine (few_any xl nl cl l w1 (HL.out.ext X1.out) hnl).mono ?_;rintro e w9 ⟨⟨b1, rfl, hb1⟩, hw9⟩;obtain rfl := hw9.symm;cases b1
 ·go_wp2_with fail;go_ret;exact ⟨rfl, X1.out⟩
 have FL := Lib.hid (hb1 rfl);clear hb1;by_cases q1 : sectors < 8
 ·have t1 : decide (sectors < 8) = true := decide_eq_true q1;go_wp2_with fail;go_ret;exact ⟨rfl, X1.out⟩
 have t1 : decide (sectors < 8) = false := decide_eq_false q1;by_cases q2 : 100 < sectors
 ·have t2 : decide (100 < sectors) = true := decide_eq_true q2;go_wp2_with fail;go_ret;exact ⟨rfl, X1.out⟩
 have t2 : decide (100 < sectors) = false := decide_eq_false q2;obtain ⟨N, rfl⟩ : ∃ N : Nat, sectors = N := ⟨sectors.toNat, by omega⟩;have hN : 8 ≤ N ∧ N ≤ 100 := by omega
 clear q1 q2;go_wp2_with fail;refine (new_ok N w1 (by omega)).mono ?_;rintro e w2 ⟨⟨d, rfl, hd⟩, hX⟩;have D2 := Lib.hid (show LD w w2 _ d N Dk.new 0 from ⟨hd, X1.out.trans hX, fun k q => Nat.le_trans X1.out.size q.1⟩);clear hX hd X1 t1 t2 hnl;go_wp2_with fail;refine (open_any d N 0 Dk.new _ w2 E (HE.out.ext D2.out.ext) D2.out.ds (by omega) (fun k _ => zB_size 64)).mono ?_;rintro e w3 hP;rw [Sto4.new_none hN.1] at hP;obtain ⟨hX, rfl⟩ := hP;have D3 := Lib.hid (D2.out.step hX);clear hX D2;go_wp2_with fail;refine (coded_any w3 E (HE.out.ext D3.out.ext) _ _ _ 1 (ErrV.sent 0 (by decide))).mono ?_;rintro e w4 ⟨rfl, hX⟩;have D4 := Lib.hid (D3.out.step hX);clear hX D3;have hl60 : nl ≤ 60 := FL.out.1;go_wp2_with fail;go_loopw [9] (fun cc wr => ∃ (i : Nat) (S : Nat → Prop) (m : Dk.DM), i ≤ nl ∧ cc = .int .i64 (i : Int) ∧ Hid (LD w wr S d N m i) ∧ Hid (W64 N m)) (fun cc _ => nl - (intOf cc).toNat)
 case atStart => exact ⟨0, _, _, by omega, rfl, D4, Lib.hid (W64.new N)⟩
 case round =>
  clear D4;obtain ⟨i, S, m, hi, rfl, D, HW⟩ := hrel;by_cases hlt : i < nl
  ·as_aux_lemma =>
    have ht : (i : Int) < (nl : Int) := by omega
    obtain ⟨a, rfl⟩ : ∃ a, xl = some a := by
     cases xl with
     | none => have := HL.out.1 rfl; omega
     | some a => exact ⟨a, rfl⟩
    obtain ⟨c0, c1, c2, c3, ok⟩ := (HL.out.ext D.out.ext).2 a rfl i hlt;have HO := Lib.hid ok;have wi : ∀ z, z = (i : Int) + 1 → IntKind.i64.wrap z = z := by rintro _ rfl; rw [IntKind.wrap_i64]; omega
    clear ok;by_cases hk : (l i).kind = kFail
    ·have t1 : ((l i).kind.toList == [102, 97, 105, 108]) = true := by rw [hk]; exact kyes _
     have t2 : ((l i).kind.toList != [102, 97, 105, 108]) = false := by unfold bne; rw [t1]; rfl
     clear hk;go_wp2_with fail;go_roundw
     case rel => exact ⟨i + 1, _, _, by omega, by go_num, Lib.hid ⟨D.out.ds.up (by omega), D.out.ext, D.out.ge⟩, HW⟩
     case measure => simp [intOf]; omega
    ·have t1 : ((l i).kind.toList == [102, 97, 105, 108]) = false := kno hk;have t2 : ((l i).kind.toList != [102, 97, 105, 108]) = true := by unfold bne; rw [t1]; rfl
     have HK := Lib.hid hk;clear hk;go_wp2_with fail;refine (act_any d N i m (l i) S wr E (HED.out.ext D.out.ext) D.out.ds (by omega) HO.out.n (FL.out.2 i hlt).2 HO.out.kp).mono ?_;rintro e w5 ⟨rfl, hA⟩;have D3 := Lib.hid (D.out.after hA);have HW2 := Lib.hid (HW.out.act (l i) HK.out);clear hA c0 c1 c2 c3;obtain ⟨v, hv⟩ : ∃ v, erV E (doA N (l i) m).2 = v := ⟨_, rfl⟩;rw [hv];clear hv;go_wp2_with fail;go_roundw
     case rel => exact ⟨i + 1, _, _, by omega, by go_num, D3, HW2⟩
     case measure => simp [intOf]; omega
  ·as_aux_lemma =>
    obtain rfl : i = nl := by omega
    have ht : ¬ (i : Int) < (i : Int) := by omega
    go_wp2_with fail;refine (open_any d N i m S wr E (HE.out.ext D.out.ext) D.out.ds hN.1 HW.out.now).mono ?_;rintro e w4 hP;cases hO : Sto4.openS m.now N with
    | none =>
     rw [hO] at hP;obtain ⟨hX, rfl⟩ := hP;have D4 := Lib.hid (D.out.step hX);clear hX hO D;have HCD := Lib.hid (coded_any w4 E (HE.out.ext D4.out.ext) _ _ _ 1 (ErrV.sent 0 (by decide)));unfold sentV at HCD ⊢;go_wp2_with fail;refine HCD.out.mono ?_;rintro e w5 ⟨rfl, hX⟩;have D5 := Lib.hid (D4.out.step hX);clear hX D4 HCD;go_wp2_with fail;refine (format_any w.heap.size d N i m S w5 E (HE.out.ext D5.out.ext) HE.out.low HE.out.lowT D5.out.ds D5.out.ge D5.out.ext.size HW.out.left (by omega)).mono ?_;rintro e w6 hP;unfold FmtP at hP;rw [if_neg (by omega)] at hP;obtain ⟨s, mb, S', rfl, hS, _, _, h1, h2, hK⟩ := hP;have L6 := Lib.hid (show LS w w6 S' s d mb N 0 (Sto4.fmt m) 0 [] 1 1 false from ⟨hS, LS.keep D5.out.ext hK D5.out.ge⟩);have I6 := Lib.hid (Sto4.fmt_inv HW.out.now hN.1 (by omega));clear hS hK h1 h2 D5;go_wp2_with fail;refine (holds_any none 0 [] w w6 S' s d mb N 0 _ 0 [] 1 1 false E HE.out L6.out ⟨fun _ => rfl, fun a h => by cases h⟩ (by simp) (by simp) (by simp)).mono ?_;rintro e w7 ⟨hH, hX⟩;obtain rfl : e = .returned (.bool true) := by
      rcases hH with ⟨_, h⟩ | ⟨h, _⟩
      ·exact h
      ·exact absurd rfl h
     have L7 := Lib.hid (L6.out.step hX);clear hX hH L6;go_wp2_with fail;refine (crash_any d N 0 _ S' w7 L7.out.st.D (by omega) none 0 0 (fun _ => false) ⟨fun _ => rfl, fun a h => by cases h⟩ (by omega)).mono ?_;rintro e w8 ⟨rfl, hA⟩;have D8 := Lib.hid (LD.after (show LD w w7 S' d N _ 0 from ⟨L7.out.st.D, L7.out.ext, L7.out.st.lo⟩) hA);have HNW := Lib.hid (Sto4.cr_calm I6.out.1 (kf 0 (fun _ => false)));clear hA L7;go_wp2_with fail;refine (open_any d N 0 _ _ w8 E (HE.out.ext D8.out.ext) D8.out.ds hN.1 (fun k hk => by rw [HNW.out]; exact I6.out.2.all k hk)).mono ?_;rintro e w10 hP;rw [HNW.out, I6.out.2.opens] at hP;obtain ⟨hX, s', mb', rfl, hB, hT, h1, h2, h3⟩ := hP;have L10 := Lib.hid (LS.opened D8.out.ext hX D8.out.ds D8.out.ge hB hT h1 h2 h3 (by simp) (by simp) List.Pairwise.nil);clear hX hB hT h1 h2 h3 D8;go_wp2_with fail;refine (holds_any none 0 [] w w10 _ s' d mb' N 0 _ 0 [] 1 1 false E HE.out L10.out ⟨fun _ => rfl, fun a h => by cases h⟩ (by simp) (by simp) (by simp)).mono ?_;rintro e w11 ⟨hH, hX⟩;obtain rfl : e = .returned (.bool true) := by
      rcases hH with ⟨_, h⟩ | ⟨h, _⟩
      ·exact h
      ·exact absurd rfl h
     have X11 := Lib.hid (L10.out.ext.trans hX);clear hX hH L10;go_wp2_with fail;go_ret;exact ⟨rfl, X11.out⟩
    | some r =>
     obtain ⟨sy0, at0, l0⟩ := r;rw [hO] at hP;obtain ⟨hX, s0, mb0, rfl, _⟩ := hP;have D5 := Lib.hid (D.out.step hX);obtain ⟨w5, hw5⟩ : ∃ z, w4 = z := ⟨_, rfl⟩;subst hw5;clear hX hO D;go_wp2_with fail;refine (format_any w.heap.size d N i m S w4 E (HE.out.ext D5.out.ext) HE.out.low HE.out.lowT D5.out.ds D5.out.ge D5.out.ext.size HW.out.left (by omega)).mono ?_;rintro e w6 hP;unfold FmtP at hP;rw [if_neg (by omega)] at hP;obtain ⟨s, mb, S', rfl, hS, _, _, h1, h2, hK⟩ := hP;have L6 := Lib.hid (show LS w w6 S' s d mb N 0 (Sto4.fmt m) 0 [] 1 1 false from ⟨hS, LS.keep D5.out.ext hK D5.out.ge⟩);have I6 := Lib.hid (Sto4.fmt_inv HW.out.now hN.1 (by omega));clear hS hK h1 h2 D5;go_wp2_with fail;refine (holds_any none 0 [] w w6 S' s d mb N 0 _ 0 [] 1 1 false E HE.out L6.out ⟨fun _ => rfl, fun a h => by cases h⟩ (by simp) (by simp) (by simp)).mono ?_;rintro e w7 ⟨hH, hX⟩;obtain rfl : e = .returned (.bool true) := by
      rcases hH with ⟨_, h⟩ | ⟨h, _⟩
      ·exact h
      ·exact absurd rfl h
     have L7 := Lib.hid (L6.out.step hX);clear hX hH L6;go_wp2_with fail;refine (crash_any d N 0 _ S' w7 L7.out.st.D (by omega) none 0 0 (fun _ => false) ⟨fun _ => rfl, fun a h => by cases h⟩ (by omega)).mono ?_;rintro e w8 ⟨rfl, hA⟩;have D8 := Lib.hid (LD.after (show LD w w7 S' d N _ 0 from ⟨L7.out.st.D, L7.out.ext, L7.out.st.lo⟩) hA);have HNW := Lib.hid (Sto4.cr_calm I6.out.1 (kf 0 (fun _ => false)));clear hA L7;go_wp2_with fail;refine (open_any d N 0 _ _ w8 E (HE.out.ext D8.out.ext) D8.out.ds hN.1 (fun k hk => by rw [HNW.out]; exact I6.out.2.all k hk)).mono ?_;rintro e w10 hP;rw [HNW.out, I6.out.2.opens] at hP;obtain ⟨hX, s', mb', rfl, hB, hT, h1, h2, h3⟩ := hP;have L10 := Lib.hid (LS.opened D8.out.ext hX D8.out.ds D8.out.ge hB hT h1 h2 h3 (by simp) (by simp) List.Pairwise.nil);clear hX hB hT h1 h2 h3 D8;go_wp2_with fail;refine (holds_any none 0 [] w w10 _ s' d mb' N 0 _ 0 [] 1 1 false E HE.out L10.out ⟨fun _ => rfl, fun a h => by cases h⟩ (by simp) (by simp) (by simp)).mono ?_;rintro e w11 ⟨hH, hX⟩;obtain rfl : e = .returned (.bool true) := by
      rcases hH with ⟨_, h⟩ | ⟨h, _⟩
      ·exact h
      ·exact absurd rfl h
     have X11 := Lib.hid (L10.out.ext.trans hX);clear hX hH L10;go_wp2_with fail;go_ret;exact ⟨rfl, X11.out⟩
end Go.Proofs.YtheidjagcafgnaaGreatDoor
namespace Go.Proofs.YtheidjagcafgnaaGreatDoor
open Go.RowKit Go.ChangeShapes
theorem rowName : (Tryz.prog.cutTypes.find? (·.1 == "internal/reflectlite.rtype")).map (·.2) = some 153 := by kernel_rfl
theorem oneRow : ((List.range Tryz.prog.types.size).filter fun t => Tryz.prog.rowNamed t [101, 114, 114, 111, 114]) = [25] := by kernel_rfl
theorem etName : Tryz.prog.globalNamed "errors.errorType" = some 9 := by kernel_rfl
theorem errType_of_laid {l : List (String × DataW Unit)} {W : World} (h : laidMetH Tryz.prog l W)
  (hl : l.filter (fun x => x.1 == "errors.errorType") = [("errors.errorType", .iface "internal/reflectlite.rtype" (.agg [.ptr (.lit (.string [101, 114, 114, 111, 114]))]))]) : ErrType W := by
 have h1 := laidMetH.filter (fun x => x.1 == "errors.errorType") h
 rw [hl] at h1;have h' : laidMet Tryz.prog [] W ∧ handlesMet Tryz.prog [("errors.errorType", .iface "internal/reflectlite.rtype" (.agg [.ptr (.lit (.string [101, 114, 114, 111, 114]))]))] W := h1
 obtain ⟨name, u, ty, e1, e2, e3, e4, e5⟩ := h'.2 _ (List.mem_singleton.2 rfl);have en : name = [101, 114, 114, 111, 114] := (Option.some.inj e1).symm;subst en;obtain rfl := Option.some.inj (rowName.symm.trans e2);have hm : ty ∈ (List.range Tryz.prog.types.size).filter fun t => Tryz.prog.rowNamed t [101, 114, 114, 111, 114] := List.mem_filter.2 ⟨List.mem_range.2 e3, e4⟩;rw [oneRow] at hm;obtain rfl := List.mem_singleton.1 hm;have hh : typeHandle Tryz.prog 25 = hdl 25 := by kernel_rfl
 rw [hh] at e5;unfold ErrType;simpa using World.var?_cell etName e5 0
theorem sentinel_row {l : List (String × DataW Unit)} {W : World} {n : String} {g : Nat} {text : List UInt8} {ti : TypeId} {ms : Array (String × TypeId)} (h : laidMetH Tryz.prog l W)
  (hl : l.filter (fun x => x.1 == n) = [(n, .iface "*errors.errorString" (.ptr (.agg [.lit (.string text)])))]) (hg : Tryz.prog.globalNamed n = some g)
  (ht : (Tryz.prog.globals[g]?).map (·.type) = some ti) (hi : Tryz.prog.underlying ti = some (.interface ms)) :
  ∃ (E : Addr), W.cell? ⟨g, 0, none⟩ = some (sentV E) ∧ (∃ s : ByteArray, W.cell? E = some (.string s) ∧ s.data.toList = text) ∧ ∃ c t, W.heap[E.block]? = some (.cells c t (0, 0)) := by
 have h1 := laidMetH.filter (fun x => x.1 == n) h;rw [hl] at h1;have h2 : laidMet Tryz.prog [(n, .iface "*errors.errorString" (.ptr (.agg [.lit (.string text)])))] W := h1
 obtain ⟨ps, ⟨g0, t0, cs0, f0, p0, q0, hg0, ht0, hv0, hd0, _, e0⟩, _, hrows⟩ := h2;obtain rfl := Option.some.inj (hg.symm.trans hg0);obtain rfl := Option.some.inj (ht.symm.trans ht0);subst e0;obtain ⟨l0⟩ := cs0;have ok0 : ∀ u v, l0 = [.iface u v] → Value.okWide Tryz.prog W .any 0 u v := fun u v e => by
  subst e;exact (hrows g 0 (by simp [MemPlace.row])).2 u v (by simpa using World.var?_cell hg0 hv0 0)
 obtain ⟨a0, s0, rfl, hc0, hs0, hz0, rfl⟩ := errorString_of_trod hi sent_row Tryz.underlying188 Tryz.underlying206 rfl rfl Tryz.underlying9 (by kernel_rfl) (by kernel_rfl) hd0 ok0;obtain ⟨c, t, hb⟩ := (hrows a0.block a0.off (by simp [MemPlace.row])).1;exact ⟨a0, by unfold sentV; simpa using World.var?_cell hg0 hv0 0, ⟨s0, hc0, hs0⟩, c, t, hb⟩
def nameE : Nat → String
 | 0 => "layercake/api.ErrText"
 | 1 => "layercake/api.ErrBound"
 | 2 => "layercake/api.ErrShape"
 | 3 => "layercake/api.ErrSum"
 | 4 => "layercake/api.ErrName"
 | 5 => "layercake/api.ErrNone"
 | 6 => "layercake/api.ErrColors"
 | 7 => "layercake/api.ErrFull"
 | _ => "layercake/api.ErrPower"
def textE : Nat → List UInt8
 | 0 => [108, 97, 121, 101, 114, 99, 97, 107, 101, 58, 32, 116, 101, 120, 116]
 | 1 => [108, 97, 121, 101, 114, 99, 97, 107, 101, 58, 32, 98, 111, 117, 110, 100]
 | 2 => [108, 97, 121, 101, 114, 99, 97, 107, 101, 58, 32, 115, 104, 97, 112, 101]
 | 3 => [108, 97, 121, 101, 114, 99, 97, 107, 101, 58, 32, 115, 117, 109]
 | 4 => [108, 97, 121, 101, 114, 99, 97, 107, 101, 58, 32, 110, 97, 109, 101]
 | 5 => [108, 97, 121, 101, 114, 99, 97, 107, 101, 58, 32, 110, 111, 110, 101]
 | 6 => [108, 97, 121, 101, 114, 99, 97, 107, 101, 58, 32, 99, 111, 108, 111, 114, 115]
 | 7 => [108, 97, 121, 101, 114, 99, 97, 107, 101, 58, 32, 102, 117, 108, 108]
 | _ => [108, 97, 121, 101, 114, 99, 97, 107, 101, 58, 32, 112, 111, 119, 101, 114]
def errD (k : Nat) : List (String × DataW Unit) := [(nameE k, .iface "*errors.errorString" (.ptr (.agg [.lit (.string (textE k))])))]
theorem textE_ne : ∀ j, j < 9 → ∀ k, k < 9 → j ≠ k → textE j ≠ textE k := by decide
theorem errs_of_laid {l : List (String × DataW Unit)} {W : World} (h : laidMetH Tryz.prog l W)
  (het : l.filter (fun x => x.1 == "errors.errorType") = [("errors.errorType", .iface "internal/reflectlite.rtype" (.agg [.ptr (.lit (.string [101, 114, 114, 111, 114]))]))])
  (hl0 : l.filter (fun x => x.1 == nameE 0) = errD 0) (hl1 : l.filter (fun x => x.1 == nameE 1) = errD 1) (hl2 : l.filter (fun x => x.1 == nameE 2) = errD 2)
  (hl3 : l.filter (fun x => x.1 == nameE 3) = errD 3) (hl4 : l.filter (fun x => x.1 == nameE 4) = errD 4) (hl5 : l.filter (fun x => x.1 == nameE 5) = errD 5)
  (hl6 : l.filter (fun x => x.1 == nameE 6) = errD 6) (hl7 : l.filter (fun x => x.1 == nameE 7) = errD 7) (hl8 : l.filter (fun x => x.1 == nameE 8) = errD 8) :
  ∃ E, Errs W E ∧ ∀ k, k < 9 → ∃ s : ByteArray, W.cell? (E k) = some (.string s) ∧ s.data.toList = textE k := by
 have key : ∀ k, k < 9 → ∃ (E : Addr), W.cell? ⟨gk k, 0, none⟩ = some (sentV E) ∧ (∃ s : ByteArray, W.cell? E = some (.string s) ∧ s.data.toList = textE k) ∧ ∃ c t, W.heap[E.block]? = some (.cells c t (0, 0)) := by
  intro k hk;match k, hk with
  | 0, _ => exact sentinel_row h hl0 (by kernel_rfl) (by kernel_rfl) Tryz.underlying25
  | 1, _ => exact sentinel_row h hl1 (by kernel_rfl) (by kernel_rfl) Tryz.underlying25
  | 2, _ => exact sentinel_row h hl2 (by kernel_rfl) (by kernel_rfl) Tryz.underlying25
  | 3, _ => exact sentinel_row h hl3 (by kernel_rfl) (by kernel_rfl) Tryz.underlying25
  | 4, _ => exact sentinel_row h hl4 (by kernel_rfl) (by kernel_rfl) Tryz.underlying25
  | 5, _ => exact sentinel_row h hl5 (by kernel_rfl) (by kernel_rfl) Tryz.underlying25
  | 6, _ => exact sentinel_row h hl6 (by kernel_rfl) (by kernel_rfl) Tryz.underlying25
  | 7, _ => exact sentinel_row h hl7 (by kernel_rfl) (by kernel_rfl) Tryz.underlying25
  | 8, _ => exact sentinel_row h hl8 (by kernel_rfl) (by kernel_rfl) Tryz.underlying25
 let E : Nat → Addr := fun k => if hk : k < 9 then (key k hk).choose else ⟨0, 0, none⟩
 have hE : ∀ k (hk : k < 9), E k = (key k hk).choose := fun k hk => by simp [E, hk]
 refine ⟨E, ⟨errType_of_laid h het, fun k hk => ?_, fun k hk => ?_, fun j k hj hk hjk => ?_⟩, fun k hk => ?_⟩
 ·rw [hE k hk]; exact (key k hk).choose_spec.1
 ·rw [hE k hk]; exact (key k hk).choose_spec.2.2
 ·rw [hE j hj, hE k hk];intro e;obtain ⟨s, h1, h2⟩ := (key j hj).choose_spec.2.1;obtain ⟨s', h3, h4⟩ := (key k hk).choose_spec.2.1;rw [e, h3] at h1;injection h1 with h1; injection h1 with h1;subst h1;exact textE_ne j hj k hk hjk (h2.symm.trans h4)
 ·rw [hE k hk]; exact (key k hk).choose_spec.2.1
end Go.Proofs.YtheidjagcafgnaaGreatDoor
namespace Go.Proofs.YtheidjagcafgnaaGreatDoor
open Go.ChangeShapes Go.WideShapes Go.RowKit Go.Deep Go.Joins
theorem ac_string {H : Type} {enc : TypeId × Value → H} {w : World} {base : Nat} {spare : Nat → Bool} {held : Bool} {n : Nat} {v : Value} {y : DataW H × List MemPlace} (h : DataW.trod enc Tryz.prog w base spare held n 9 [v] = some y) : ∃ s : ByteArray, v = .string s ∧ s.size ≤ maxLen := by
 obtain ⟨s, e, _, z⟩ := DataW.trod_string Tryz.underlying9 h;simp only [List.cons.injEq, and_true] at e;exact ⟨s, e, z⟩
theorem ac_int {H : Type} {enc : TypeId × Value → H} {w : World} {base : Nat} {spare : Nat → Bool} {held : Bool} {n : Nat} {v : Value} {y : DataW H × List MemPlace} (h : DataW.trod enc Tryz.prog w base spare held n 3 [v] = some y) : ∃ k : Int, v = .int .i64 k ∧ -9223372036854775808 ≤ k ∧ k ≤ 9223372036854775807 := by
 obtain ⟨k, e, _, wf⟩ := DataW.trod_int Tryz.underlying3 h;simp only [List.cons.injEq, and_true] at e;exact ⟨k, e, bounds_i64 wf⟩
theorem ac_bools {H : Type} {enc : TypeId × Value → H} {w : World} {base : Nat} {held : Bool} {n : Nat} {v : Value} {y : DataW H × List MemPlace} (h : DataW.trod enc Tryz.prog w base (fun _ => true) held n 49 [v] = some y) : ∃ (x : Option Addr) (len cap : Nat) (kb : Nat → Bool), v = .slice x len cap ∧ len ≤ maxLen ∧ Kp w x len kb := by
 rcases open_bools Tryz.underlying49 Tryz.underlying4 (by kernel_rfl) h with ⟨h0, _⟩ | ⟨a, len, cap, B, h0, _, hl, hm, _, hB⟩
 ·simp only [List.cons.injEq, and_true] at h0;exact ⟨none, 0, 0, fun _ => false, h0, Nat.zero_le _, fun _ => rfl, fun a h => by cases h⟩
 ·simp only [List.cons.injEq, and_true] at h0;exact ⟨some a, len, cap, B, h0, by omega, (fun h => by cases h), fun a' ha j hj => by injection ha with ha; subst ha; exact hB j (by omega)⟩
theorem open_acs {H : Type} {enc : TypeId × Value → H} {w : World} {base : Nat} {held : Bool} {v : Value} {d : DataW H} {pl : List MemPlace}
  (h : DataW.Trod enc Tryz.prog w base (fun _ => true) held 47 v d pl) (hv : ∃ x len cap, v = .slice x len cap) :
  ∃ (a : Option Addr) (n cap : Nat) (ac : Nat → Ac), v = .slice a n cap ∧ n ≤ maxLen ∧ Acs w a n ac := by
 obtain ⟨x, len, cap, rfl⟩ := hv;obtain ⟨fuel, hf⟩ := h;rcases open_recs Tryz.underlying47 Tryz.underlying51 (by kernel_rfl) (show Tryz.prog.cellsOf 51 = _ by kernel_rfl) hf with h0 | ⟨a, n, c, h0, hn, hc, hf⟩
 ·simp [Value.cells] at h0;obtain ⟨rfl, rfl, rfl⟩ := h0;exact ⟨none, 0, 0, fun _ => ⟨⟨#[]⟩, 0, ⟨#[]⟩, none, 0, 0, fun _ => false⟩, rfl, Nat.zero_le _, fun _ => rfl, fun a h => by cases h⟩
 ·simp [Value.cells] at h0;obtain ⟨rfl, rfl, rfl⟩ := h0;have key : ∀ i, i < len → ∃ p : Ac, w.cell? (a.add (i * 4)) = some (.string p.kind) ∧ w.cell? ⟨(a.add (i * 4)).block, (a.add (i * 4)).off + 1, none⟩ = some (.int .i64 p.n) ∧
    w.cell? ⟨(a.add (i * 4)).block, (a.add (i * 4)).off + 2, none⟩ = some (.string p.s) ∧ w.cell? ⟨(a.add (i * 4)).block, (a.add (i * 4)).off + 3, none⟩ = some (.slice p.kx p.kn p.kc) ∧ p.Ok w := by
   intro i hi;obtain ⟨v0, y0, n0, c0, t0⟩ := hf i hi 0 _ rfl;obtain ⟨v1, y1, n1, c1, t1⟩ := hf i hi 1 _ rfl;obtain ⟨v2, y2, n2, c2, t2⟩ := hf i hi 2 _ rfl;obtain ⟨v3, y3, n3, c3, t3⟩ := hf i hi 3 _ rfl;obtain ⟨k0, rfl, z0⟩ := ac_string t0;obtain ⟨k1, rfl, b1⟩ := ac_int t1;obtain ⟨k2, rfl, z2⟩ := ac_string t2;obtain ⟨kx, kn, kc, kb, rfl, z3, hk⟩ := ac_bools t3;exact ⟨⟨k0, k1, k2, kx, kn, kc, kb⟩, c0, cell_add (by decide) c1, cell_add (by decide) c2, cell_add (by decide) c3, ⟨b1, by unfold maxLen at z2; simp only; omega, by unfold maxLen at z3; simp only; omega, hk⟩⟩
  haveI : Inhabited Ac := ⟨⟨⟨#[]⟩, 0, ⟨#[]⟩, none, 0, 0, fun _ => false⟩⟩
  obtain ⟨ac, hac⟩ := Go.Deep.choose_lt (α := Ac) key;exact ⟨some a, len, cap, ac, rfl, by omega, (fun h => by cases h), fun a' ha i hi => by injection ha with ha; subst ha; exact hac i hi⟩
end Go.Proofs.YtheidjagcafgnaaGreatDoor
namespace Go.Proofs.YtheidjagcafgnaaGreatDoor
open Go.ChangeShapes Go.WideShapes Go.ChangeAt Go.RowKit
theorem law_readAll {H : Type} {enc : TypeId × Value → H} {P : Program} (hl : laidOutB P = true) {W W' : World} (sp : Nat → Bool) (hB : Below W.heap.size W W') :
  ∀ (ts : List TypeId) (vs : List Value) (ds : List (DataW H)) (ps : List MemPlace),
   (∀ t ∈ ts, P.readableRec t = true ∧ t < P.types.size) → (∀ p ∈ ps, p.block < W.heap.size) → (∀ p ∈ ps, sp p.block = true) →
   DataW.TrodAll enc P W 0 (fun _ => true) true ts vs ds ps → DataW.TrodAll enc P W' 0 sp true ts vs ds ps
 | [], [], [], _, _, _, _, h => h
 | t :: ts, v :: vs, d :: ds, ps, hr, hlt, hsp, h => by
  obtain ⟨p, q, h1, h2, rfl⟩ := h;have ht := hr t (List.mem_cons_self ..);refine ⟨p, q, ?_, ?_, rfl⟩
  ·exact WideElems.Trod_stays hl ht.1 ht.2 h1 (fun x hx => hB.same (hlt x (List.mem_append_left _ hx))) (fun x hx => hsp x (List.mem_append_left _ hx))
  ·exact law_readAll hl sp hB ts vs ds q (fun t' ht' => hr t' (List.mem_cons_of_mem _ ht')) (fun x hx => hlt x (List.mem_append_right _ hx)) (fun x hx => hsp x (List.mem_append_right _ hx)) h2
 | [], [], _ :: _, _, _, _, _, h => h.elim
 | [], _ :: _, _, _, _, _, _, h => h.elim
 | _ :: _, [], _, _, _, _, _, h => h.elim
 | _ :: _, _ :: _, [], _, _, _, _, h => h.elim
theorem law_post {H : Type} {enc : TypeId × Value → H} {P : Program} (hl : laidOutB P = true) {f : Func} {s : ChangeSpec} {apart fresh handsOn : Bool} {W W' : World} {args : Array Value} {ds : List (DataW H)} {before : List MemPlace} {tb : TypeId}
  (hW : DataW.Whole enc P f.params.toList s.vars apart W args.toList ds [] before) (hv : s.vars = [])
  (hfn : s.fn H (ds ++ []) = { results := [.lit (.bool true)], args := ds })
  (hread : f.params.toList.all (fun t => P.readableRec t && decide (t < P.types.size)) = true)
  (hres : f.resultTypes = #[tb]) (hb : P.underlying tb = some .bool) (hB : Below W.heap.size W W') :
  s.post enc P f apart fresh handsOn false W args (.bool true) W' := by
 have hlt : ∀ p ∈ before, p.block < W.heap.size := fun p hp => hW.lt p hp;have hr : ∀ t ∈ f.params.toList, P.readableRec t = true ∧ t < P.types.size := by
  intro t ht;have := List.all_eq_true.1 hread t ht;simpa using this
 have hW0 := hW;obtain ⟨p, q, hA, hV, hpq, hfz, hnd⟩ := hW;rw [hv] at hV;have hq : q = [] := by simpa [DataW.TrodVars] using hV
 subst hq;rw [List.append_nil] at hpq;subst hpq;have hargs : ∀ sp : Nat → Bool, (∀ x ∈ before, sp x.block = true) → DataW.TrodAll enc P W' 0 sp true f.params.toList args.toList ds before :=
  fun sp hsp => law_readAll hl sp hB _ _ _ _ hr hlt hsp hA
 have hold : ∀ x ∈ before, (fun b => decide (b < W.heap.size)) x.block = true := fun x hx => by simpa using hlt x hx
 have hresults : ∀ (b : Nat) (sp : Nat → Bool) (hd : Bool), DataW.TrodAll enc P W' b sp hd f.resultTypes.toList ((Value.bool true).resultList f.resultTypes.size) [.lit (.bool true)] [] := by
  intro b sp hd;rw [hres];exact trodAll_mk1 (shut_bool hb true)
 refine ⟨ds, [], before, [], before, [], hW0, ?_, ?_, ?_, World.keptBut_mono (fun x hx => ⟨hx, ?_⟩) (hB.frame (· ∈ before)), fun _ => ?_⟩
 ·rw [hfn]; exact hresults _ _ _
 ·rw [hfn]; exact hargs _ hold
 ·rw [hfn, hv]; rfl
 ·exact Or.inr (Or.inl hx)
 ·cases ‹false = true›
end Go.Proofs.YtheidjagcafgnaaGreatDoor
