/-
  The document's disk: Do.
  The document's disk: NewDisk.
  layercakelaw4.alike.
  What was flushed stays: the plain law. No function of the program is named.
-/
import Derived.Test.YtheidjagcafgnaaDoorDiskCopiesG3
import Derived.Deep.AppendLies
import Derived.Test.YtheidjagcafgnaaDoorDiskCopiesG2
namespace Go.Proofs.YtheidjagcafgnaaDoor
open Go.RowKit
set_option maxRecDepth 100000
theorem KR.of_kp {w : World} {S : Nat → Prop} {x : Option Addr} {n : Nat} {kb : Nat → Bool} {B : Nat} (h : Kp w x n kb) (hB : ∀ k, S k → B ≤ k) (hx : ∀ a, x = some a → ∀ j, j < n → (a.add j).block < B) : KR w S x n kb :=
  ⟨h.1, fun a ha j hj => ⟨h.2 a ha j hj, fun q => by have h1 := hB _ q; have h2 := hx a ha j hj; omega⟩⟩
set_option linter.unusedSimpArgs false in
theorem do_write (d n b : Nat) (m : Dk.DM) (a : Ac) (S : Nat → Prop) (w : World) (h : KS w S d n m b) (hb : b ≤ 4000) (hk : a.kind = kWrite) :
    Calls Tryd.prog 16 #[.pointer (some ⟨d, 0, none⟩), acV a] w fun e w' => e = .returned (.int .i64 ((doA n a m).2 : Int)) ∧ KAfter S w w' d n (doA n a m).1 (b + 1) := by
  obtain ⟨kind, an, s, kx, kn, kc, kb⟩ := a
  have HBB := Lib.hid hb
  simp only at hk
  subst hk
  have t_write : (kWrite.toList == [119, 114, 105, 116, 101]) = true := kyes [119, 114, 105, 116, 101]
  unfold acV
  have HD := Lib.hid h
  clear h
  by_cases h1 : an < 0 ∨ (n : Int) ≤ an
  · have HR : Hid (doA n ⟨kWrite, an, s, kx, kn, kc, kb⟩ m = (m, 2)) := Lib.hid (by unfold doA; simp only; rw [if_pos trivial, if_pos h1])
    go_enter Tryd.func16, Tryd.ntmps16
    go_wp2_with fail
    refine calls_world (fun wz => Ext w wz ∧ wz.heap.size = w.heap.size + 1 ∧ Bk wz (w.heap.size) #[.string kWrite, .int .i64 an, .string s, .slice kx kn kc]) ⟨by repeat (first | exact Ext.refl _ | refine Ext.alloc ?_ _), by simp, by repeat (first | exact Bk.at (by simp) | refine Bk.old ?_)⟩ ?_
    rintro w1 ⟨hX, hZ, hB0⟩
    have D1 := Lib.hid (HD.out.ext hX)
    have X1 := Lib.hid hX
    have B1 := Lib.hid hB0
    clear hX hZ hB0
    refine (kwrite_bound d n b m an s S w1 D1.out h1).mono ?_
    rintro e w2 ⟨rfl, rfl⟩
    go_wp2_with fail
    go_ret
    exact ⟨by rw [HR.out]; rfl, by rw [HR.out]; exact (KAfter.same (D1.out.up (Nat.le_succ b)) (X1.out.keeps (S := S)))⟩
  · obtain ⟨i, rfl⟩ : ∃ i : Nat, an = i := ⟨an.toNat, by omega⟩
    have hi : i < n := by omega
    by_cases h2 : 64 < s.size
    · have HR : Hid (doA n ⟨kWrite, (i : Int), s, kx, kn, kc, kb⟩ m = (m, 3)) := Lib.hid (by unfold doA; simp only; rw [if_pos trivial, if_neg h1, if_pos h2])
      go_enter Tryd.func16, Tryd.ntmps16
      go_wp2_with fail
      refine calls_world (fun wz => Ext w wz ∧ wz.heap.size = w.heap.size + 1 ∧ Bk wz (w.heap.size) #[.string kWrite, .int .i64 (i : Int), .string s, .slice kx kn kc]) ⟨by repeat (first | exact Ext.refl _ | refine Ext.alloc ?_ _), by simp, by repeat (first | exact Bk.at (by simp) | refine Bk.old ?_)⟩ ?_
      rintro w1 ⟨hX, hZ, hB0⟩
      have D1 := Lib.hid (HD.out.ext hX)
      have X1 := Lib.hid hX
      have B1 := Lib.hid hB0
      clear hX hZ hB0
      refine (kwrite_shape d n b m i s S w1 D1.out hi h2).mono ?_
      rintro e w2 ⟨rfl, rfl⟩
      go_wp2_with fail
      go_ret
      exact ⟨by rw [HR.out]; rfl, by rw [HR.out]; exact (KAfter.same (D1.out.up (Nat.le_succ b)) (X1.out.keeps (S := S)))⟩
    · by_cases h3 : m.left = 0
      · have HR : Hid (doA n ⟨kWrite, (i : Int), s, kx, kn, kc, kb⟩ m = (m, 9)) := Lib.hid (by unfold doA; simp only; rw [if_pos trivial, if_neg h1, if_neg h2, if_pos h3])
        go_enter Tryd.func16, Tryd.ntmps16
        go_wp2_with fail
        refine calls_world (fun wz => Ext w wz ∧ wz.heap.size = w.heap.size + 1 ∧ Bk wz (w.heap.size) #[.string kWrite, .int .i64 (i : Int), .string s, .slice kx kn kc]) ⟨by repeat (first | exact Ext.refl _ | refine Ext.alloc ?_ _), by simp, by repeat (first | exact Bk.at (by simp) | refine Bk.old ?_)⟩ ?_
        rintro w1 ⟨hX, hZ, hB0⟩
        have D1 := Lib.hid (HD.out.ext hX)
        have X1 := Lib.hid hX
        have B1 := Lib.hid hB0
        clear hX hZ hB0
        refine (kwrite_power d n b m i s S w1 D1.out hi (by omega) h3).mono ?_
        rintro e w2 ⟨rfl, rfl⟩
        go_wp2_with fail
        go_ret
        exact ⟨by rw [HR.out]; rfl, by rw [HR.out]; exact (KAfter.same (D1.out.up (Nat.le_succ b)) (X1.out.keeps (S := S)))⟩
      · have HR : Hid (doA n ⟨kWrite, (i : Int), s, kx, kn, kc, kb⟩ m = (Dk.wr m i (Dk.pad s), 0)) := Lib.hid (by unfold doA; simp only; rw [if_pos trivial, if_neg h1, if_neg h2, if_neg h3, Int.toNat_natCast])
        go_enter Tryd.func16, Tryd.ntmps16
        go_wp2_with fail
        refine calls_world (fun wz => Ext w wz ∧ wz.heap.size = w.heap.size + 1 ∧ Bk wz (w.heap.size) #[.string kWrite, .int .i64 (i : Int), .string s, .slice kx kn kc]) ⟨by repeat (first | exact Ext.refl _ | refine Ext.alloc ?_ _), by simp, by repeat (first | exact Bk.at (by simp) | refine Bk.old ?_)⟩ ?_
        rintro w1 ⟨hX, hZ, hB0⟩
        have D1 := Lib.hid (HD.out.ext hX)
        have X1 := Lib.hid hX
        have B1 := Lib.hid hB0
        clear hX hZ hB0
        refine (kwrite_ok d n b i m s S w1 D1.out hi (by omega) h3 (by omega)).mono ?_
        rintro e w2 ⟨rfl, hA⟩
        have HA := Lib.hid hA
        clear hA
        go_wp2_with fail
        go_ret
        exact ⟨by rw [HR.out]; rfl, by rw [HR.out]; exact KAfter.pre X1.out HA.out⟩
set_option linter.unusedSimpArgs false in
theorem do_flush (d n b : Nat) (m : Dk.DM) (a : Ac) (S : Nat → Prop) (w : World) (h : KS w S d n m b) (hb : b ≤ 4000) (hk : a.kind = kFlush) :
    Calls Tryd.prog 16 #[.pointer (some ⟨d, 0, none⟩), acV a] w fun e w' => e = .returned (.int .i64 ((doA n a m).2 : Int)) ∧ KAfter S w w' d n (doA n a m).1 (b + 1) := by
  obtain ⟨kind, an, s, kx, kn, kc, kb⟩ := a
  have HBB := Lib.hid hb
  simp only at hk
  subst hk
  have t_write : (kFlush.toList == [119, 114, 105, 116, 101]) = false := kno (by decide)
  have t_flush : (kFlush.toList == [102, 108, 117, 115, 104]) = true := kyes [102, 108, 117, 115, 104]
  unfold acV
  have HD := Lib.hid h
  clear h
  by_cases h3 : m.left = 0
  · have HR : Hid (doA n ⟨kFlush, an, s, kx, kn, kc, kb⟩ m = (m, 9)) := Lib.hid (by unfold doA; simp only; rw [if_neg (by decide), if_pos trivial, if_pos h3])
    go_enter Tryd.func16, Tryd.ntmps16
    go_wp2_with fail
    refine calls_world (fun wz => Ext w wz ∧ wz.heap.size = w.heap.size + 1 ∧ Bk wz (w.heap.size) #[.string kFlush, .int .i64 an, .string s, .slice kx kn kc]) ⟨by repeat (first | exact Ext.refl _ | refine Ext.alloc ?_ _), by simp, by repeat (first | exact Bk.at (by simp) | refine Bk.old ?_)⟩ ?_
    rintro w1 ⟨hX, hZ, hB0⟩
    have D1 := Lib.hid (HD.out.ext hX)
    have X1 := Lib.hid hX
    have B1 := Lib.hid hB0
    clear hX hZ hB0
    refine (kflush_power d n b m S w1 D1.out h3).mono ?_
    rintro e w2 ⟨rfl, rfl⟩
    go_wp2_with fail
    go_ret
    exact ⟨by rw [HR.out]; rfl, by rw [HR.out]; exact (KAfter.same (D1.out.up (Nat.le_succ b)) (X1.out.keeps (S := S)))⟩
  · have HR : Hid (doA n ⟨kFlush, an, s, kx, kn, kc, kb⟩ m = (Dk.fl m, 0)) := Lib.hid (by unfold doA; simp only; rw [if_neg (by decide), if_pos trivial, if_neg h3])
    go_enter Tryd.func16, Tryd.ntmps16
    go_wp2_with fail
    refine calls_world (fun wz => Ext w wz ∧ wz.heap.size = w.heap.size + 1 ∧ Bk wz (w.heap.size) #[.string kFlush, .int .i64 an, .string s, .slice kx kn kc]) ⟨by repeat (first | exact Ext.refl _ | refine Ext.alloc ?_ _), by simp, by repeat (first | exact Bk.at (by simp) | refine Bk.old ?_)⟩ ?_
    rintro w1 ⟨hX, hZ, hB0⟩
    have D1 := Lib.hid (HD.out.ext hX)
    have X1 := Lib.hid hX
    have B1 := Lib.hid hB0
    clear hX hZ hB0
    refine (kflush_ok d n b m S w1 D1.out h3).mono ?_
    rintro e w2 ⟨rfl, hA⟩
    have HA := Lib.hid hA
    clear hA
    go_wp2_with fail
    go_ret
    exact ⟨by rw [HR.out]; rfl, by rw [HR.out]; exact KAfter.pre X1.out (HA.out.up (Nat.le_succ b))⟩
set_option linter.unusedSimpArgs false in
theorem do_fail (d n b : Nat) (m : Dk.DM) (a : Ac) (S : Nat → Prop) (w : World) (h : KS w S d n m b) (hb : b ≤ 4000) (hk : a.kind = kFail) (hbn : -9223372036854775808 ≤ a.n ∧ a.n ≤ 9223372036854775807) :
    Calls Tryd.prog 16 #[.pointer (some ⟨d, 0, none⟩), acV a] w fun e w' => e = .returned (.int .i64 ((doA n a m).2 : Int)) ∧ KAfter S w w' d n (doA n a m).1 (b + 1) := by
  obtain ⟨kind, an, s, kx, kn, kc, kb⟩ := a
  have HBB := Lib.hid hb
  simp only at hk
  subst hk
  have t_write : (kFail.toList == [119, 114, 105, 116, 101]) = false := kno (by decide)
  have t_flush : (kFail.toList == [102, 108, 117, 115, 104]) = false := kno (by decide)
  have t_fail : (kFail.toList == [102, 97, 105, 108]) = true := kyes [102, 97, 105, 108]
  unfold acV
  have HD := Lib.hid h
  clear h
  have hbn_ := Lib.hid hbn
  clear hbn
  by_cases h1 : an < 0
  · have HR : Hid (doA n ⟨kFail, an, s, kx, kn, kc, kb⟩ m = (m, 2)) := Lib.hid (by unfold doA; simp only; rw [if_neg (by decide), if_neg (by decide), if_pos trivial, if_pos h1])
    go_enter Tryd.func16, Tryd.ntmps16
    have E_ := (Ext.refl w).alloc (.cells #[.string kFail, .int .i64 an, .string s, .slice kx kn kc] 33)
    have EE := Lib.hid E_
    clear E_
    go_wp2_with fail
    go_ret
    exact ⟨by rw [HR.out]; rfl, by rw [HR.out]; exact (KAfter.same ((HD.out.ext EE.out).up (Nat.le_succ b)) (EE.out.keeps (S := S)))⟩
  · have HR : Hid (doA n ⟨kFail, an, s, kx, kn, kc, kb⟩ m = ({ m with left := an }, 0)) := Lib.hid (by unfold doA; simp only; rw [if_neg (by decide), if_neg (by decide), if_pos trivial, if_neg h1])
    go_enter Tryd.func16, Tryd.ntmps16
    go_upto_region 9 with fail
    refine wp_world (fun wz => Ext w wz ∧ wz.heap.size = w.heap.size + 1 ∧ Bk wz (w.heap.size) #[.string kFail, .int .i64 an, .string s, .slice kx kn kc]) ⟨by repeat (first | exact Ext.refl _ | refine Ext.alloc ?_ _), by simp, by repeat (first | exact Bk.at (by simp) | refine Bk.old ?_)⟩ ?_
    rintro w1 ⟨hX, hZ, hB0⟩
    have D1 := Lib.hid (HD.out.ext hX)
    have X1 := Lib.hid hX
    have B1 := Lib.hid hB0
    clear hX hZ hB0
    obtain ⟨gk, ck, gn, cn, vw, hx⟩ := D1.out.ex
    have c3 := hx.bk.cell 3
    have f3 := hx.bk.frozen 3
    have b1 := B1.out.cell 1
    have X3 := Lib.hid (hx.box 3 (.int .i64 an))
    have HSD := Lib.hid hx.sd
    clear hx
    go_wp2_with fail
    go_ret
    exact ⟨by rw [HR.out]; rfl, by rw [HR.out]; exact KAfter.pre X1.out (KAfter.same ⟨⟨gk, ck, gn, cn, vw, X3.out⟩, (D1.out.ok.fail (by omega) hbn_.out.2).up (Nat.le_succ b), fun k hs => by rw [World.size_setCell]; exact D1.out.lt k hs, D1.out.n1⟩ ((Keeps.refl S w1).setCell (.inl HSD.out) _))⟩
set_option linter.unusedSimpArgs false in
theorem do_crash (d n b : Nat) (m : Dk.DM) (a : Ac) (S : Nat → Prop) (w : World) (h : KS w S d n m b) (hb : b ≤ 4000) (hk : a.kind = kCrash) (hkr : KR w S a.kx a.kn a.kb) :
    Calls Tryd.prog 16 #[.pointer (some ⟨d, 0, none⟩), acV a] w fun e w' => e = .returned (.int .i64 ((doA n a m).2 : Int)) ∧ KAfter S w w' d n (doA n a m).1 (b + 1) := by
  obtain ⟨kind, an, s, kx, kn, kc, kb⟩ := a
  have HBB := Lib.hid hb
  simp only at hk
  subst hk
  have t_write : (kCrash.toList == [119, 114, 105, 116, 101]) = false := kno (by decide)
  have t_flush : (kCrash.toList == [102, 108, 117, 115, 104]) = false := kno (by decide)
  have t_fail : (kCrash.toList == [102, 97, 105, 108]) = false := kno (by decide)
  have t_crash : (kCrash.toList == [99, 114, 97, 115, 104]) = true := kyes [99, 114, 97, 115, 104]
  unfold acV
  have HD := Lib.hid h
  clear h
  simp only at hkr
  have HK := Lib.hid hkr
  clear hkr
  have HR : Hid (doA n ⟨kCrash, an, s, kx, kn, kc, kb⟩ m = (Dk.cr m (kf kn kb), 0)) := Lib.hid (by unfold doA; simp only; rw [if_neg (by decide), if_neg (by decide), if_neg (by decide), if_pos trivial])
  go_enter Tryd.func16, Tryd.ntmps16
  go_wp2_with fail
  refine calls_world (fun wz => Ext w wz ∧ wz.heap.size = w.heap.size + 1 ∧ Bk wz (w.heap.size) #[.string kCrash, .int .i64 an, .string s, .slice kx kn kc]) ⟨by repeat (first | exact Ext.refl _ | refine Ext.alloc ?_ _), by simp, by repeat (first | exact Bk.at (by simp) | refine Bk.old ?_)⟩ ?_
  rintro w1 ⟨hX, hZ, hB0⟩
  have D1 := Lib.hid (HD.out.ext hX)
  have X1 := Lib.hid hX
  have B1 := Lib.hid hB0
  clear hX hZ hB0
  refine (kcrash_any d n b m S w1 D1.out (by omega) kx kn kc kb (HK.out.keeps (X1.out.keeps (S := S)))).mono ?_
  rintro e w2 ⟨rfl, hA⟩
  have HA := Lib.hid hA
  clear hA
  go_wp2_with fail
  go_ret
  exact ⟨by rw [HR.out]; rfl, by rw [HR.out]; exact KAfter.pre X1.out (HA.out.up (Nat.le_succ b))⟩
set_option linter.unusedSimpArgs false in
theorem do_other (d n b : Nat) (m : Dk.DM) (a : Ac) (S : Nat → Prop) (w : World) (h : KS w S d n m b) (hb : b ≤ 4000) (h_write : a.kind ≠ kWrite) (h_flush : a.kind ≠ kFlush) (h_fail : a.kind ≠ kFail) (h_crash : a.kind ≠ kCrash) :
    Calls Tryd.prog 16 #[.pointer (some ⟨d, 0, none⟩), acV a] w fun e w' => e = .returned (.int .i64 ((doA n a m).2 : Int)) ∧ KAfter S w w' d n (doA n a m).1 (b + 1) := by
  obtain ⟨kind, an, s, kx, kn, kc, kb⟩ := a
  have HBB := Lib.hid hb
  have t_write : (kind.toList == [119, 114, 105, 116, 101]) = false := kno h_write
  have t_flush : (kind.toList == [102, 108, 117, 115, 104]) = false := kno h_flush
  have t_fail : (kind.toList == [102, 97, 105, 108]) = false := kno h_fail
  have t_crash : (kind.toList == [99, 114, 97, 115, 104]) = false := kno h_crash
  unfold acV
  have HD := Lib.hid h
  clear h
  have HR : Hid (doA n ⟨kind, an, s, kx, kn, kc, kb⟩ m = (m, 0)) := Lib.hid (by unfold doA; simp only; rw [if_neg h_write, if_neg h_flush, if_neg h_fail, if_neg h_crash])
  go_enter Tryd.func16, Tryd.ntmps16
  have E_ := (Ext.refl w).alloc (.cells #[.string kind, .int .i64 an, .string s, .slice kx kn kc] 33)
  have EE := Lib.hid E_
  clear E_
  go_wp2_with fail
  go_ret
  exact ⟨by rw [HR.out]; rfl, by rw [HR.out]; exact (KAfter.same ((HD.out.ext EE.out).up (Nat.le_succ b)) (EE.out.keeps (S := S)))⟩
theorem do_any (d n b : Nat) (m : Dk.DM) (a : Ac) (S : Nat → Prop) (w : World) (h : KS w S d n m b) (hb : b ≤ 4000) (hbn : -9223372036854775808 ≤ a.n ∧ a.n ≤ 9223372036854775807) (hkr : KR w S a.kx a.kn a.kb) :
    Calls Tryd.prog 16 #[.pointer (some ⟨d, 0, none⟩), acV a] w fun e w' => e = .returned (.int .i64 ((doA n a m).2 : Int)) ∧ KAfter S w w' d n (doA n a m).1 (b + 1) := by
  by_cases h1 : a.kind = kWrite
  · exact do_write d n b m a S w h hb h1
  by_cases h2 : a.kind = kFlush
  · exact do_flush d n b m a S w h hb h2
  by_cases h3 : a.kind = kFail
  · exact do_fail d n b m a S w h hb h3 hbn
  by_cases h4 : a.kind = kCrash
  · exact do_crash d n b m a S w h hb h4 hkr
  · exact do_other d n b m a S w h hb h1 h2 h3 h4
end Go.Proofs.YtheidjagcafgnaaDoor
namespace Go.Proofs.YtheidjagcafgnaaDoor
open Go.RowKit
set_option maxRecDepth 100000
def zrow (n : Nat) : List Value := strsV n (fun _ => zB 64)
theorem zrow_push (n : Nat) : zrow (n + 1) = zrow n ++ [.string (zB 64)] := by unfold zrow strsV; rw [List.range_succ, List.map_append]; rfl
structure KN (w0 w : World) (d i j : Nat) (v0 v1 : Value) : Prop where
  ext : Ext w0 w
  ge : w0.heap.size ≤ d
  bk : Bk w d #[v0, v1, .slice none 0 0, .int .i64 (-1)]
  r0 : w.ownsRow w0.heap.size 9 1 v0 i (zrow i)
  r1 : w.ownsRow w0.heap.size 9 1 v1 j (zrow j)
  n0 : v0.ownBlock ≠ some d
  n1 : v1.ownBlock ≠ some d
  n01 : ∀ b, v0.ownBlock = some b → v1.ownBlock ≠ some b
theorem KN.step {w0 w w' : World} {d i j : Nat} {v0 v1 : Value} (h : KN w0 w d i j v0 v1) (hE : Ext w w') : KN w0 w' d i j v0 v1 :=
  ⟨h.ext.trans hE, h.ge, h.bk.ext hE, ownsRow_kept h.r0 (S := fun _ => False) hE.keeps (fun _ _ => id), ownsRow_kept h.r1 (S := fun _ => False) hE.keeps (fun _ _ => id), h.n0, h.n1, h.n01⟩
theorem own_ext {w w' : World} {B : Nat} {e : TypeId} {size n : Nat} {v : Value} {xs : List Value} (h : w.ownsRow B e size v n xs) (hE : Ext w w') : w'.ownsRow B e size v n xs := ownsRow_kept h (S := fun _ => False) hE.keeps (fun _ _ => id)
theorem KN.grow0 {w0 w w' : World} {d i j : Nat} {v0 v1 v' : Value} {o : Obj} (h : KN w0 w d i j v0 v1) (hg : (w.alloc o).grownBy w' v0.ownBlock) (hr : w'.ownsRow w0.heap.size 9 1 v' (i + 1) (zrow (i + 1))) (hat : v'.ownBlock = v0.ownBlock ∨ v'.ownBlock = some (w.alloc o).heap.size) :
    KN w0 (w'.setCell ⟨d, 0, none⟩ v') d (i + 1) j v' v1 ∧ Bk w' d #[v0, v1, .slice none 0 0, .int .i64 (-1)] := by
  have h1 := h.step (Ext.alloc (Ext.refl w) o)
  have K := Keeps.grown hg
  have hd : d < (w.alloc o).heap.size := h1.bk.lt
  have hbk := h1.bk.keeps K (fun e => h.n0 e)
  have K2 := one_keeps w' d 0 v'
  have hne : v'.ownBlock ≠ some d := by rcases hat with e | e; (rw [e]; exact h.n0); (rw [e]; intro q; injection q with q; omega)
  have hr1 := ownsRow_kept h1.r1 K (fun b hb e => h.n01 b e hb)
  refine ⟨⟨Below.setCell (Below.trans h1.ext (K.below h1.ext.size (fun k hk e => by have := (h.r0.lt k e).1; omega))) h.ge _, h.ge, hbk.set_ 0 v', ownsRow_kept hr K2 (fun b hb e => hne (e ▸ hb)), ownsRow_kept hr1 K2 (fun b hb e => h.n1 (e ▸ hb)), hne, h.n1, fun b hb q => ?_⟩, hbk⟩
  rcases hat with e | e
  · rw [e] at hb; exact h.n01 b hb q
  · rw [e] at hb
    injection hb with hb
    have := (h1.r1.lt b q).2
    omega
theorem KN.grow1 {w0 w w' : World} {d i j : Nat} {v0 v1 v' : Value} {o : Obj} (h : KN w0 w d i j v0 v1) (hg : (w.alloc o).grownBy w' v1.ownBlock) (hr : w'.ownsRow w0.heap.size 9 1 v' (j + 1) (zrow (j + 1))) (hat : v'.ownBlock = v1.ownBlock ∨ v'.ownBlock = some (w.alloc o).heap.size) :
    KN w0 (w'.setCell ⟨d, 1, none⟩ v') d i (j + 1) v0 v' ∧ Bk w' d #[v0, v1, .slice none 0 0, .int .i64 (-1)] := by
  have h1 := h.step (Ext.alloc (Ext.refl w) o)
  have K := Keeps.grown hg
  have hd : d < (w.alloc o).heap.size := h1.bk.lt
  have hbk := h1.bk.keeps K (fun e => h.n1 e)
  have K2 := one_keeps w' d 1 v'
  have hne : v'.ownBlock ≠ some d := by rcases hat with e | e; (rw [e]; exact h.n1); (rw [e]; intro q; injection q with q; omega)
  have hr0 := ownsRow_kept h1.r0 K (fun b hb e => h.n01 b hb e)
  refine ⟨⟨Below.setCell (Below.trans h1.ext (K.below h1.ext.size (fun k hk e => by have := (h.r1.lt k e).1; omega))) h.ge _, h.ge, hbk.set_ 1 v', ownsRow_kept hr0 K2 (fun b hb e => h.n0 (e ▸ hb)), ownsRow_kept hr K2 (fun b hb e => hne (e ▸ hb)), h.n0, hne, fun b hb q => ?_⟩, hbk⟩
  rcases hat with e | e
  · rw [e] at q; exact h.n01 b hb q
  · rw [e] at q
    injection q with q
    have := (h1.r0.lt b hb).2
    omega
theorem own_lit {w : World} {base : Nat} {e : TypeId} {size : Nat} {v : Value} {n : Nat} {xs : List Value} (h : w.ownsRow base e size v n xs) : ∃ x c, v = .slice x n c := by
  rcases ownsRow_slice h with ⟨rfl, rfl⟩ | ⟨g, cap, rfl⟩
  · exact ⟨none, 0, rfl⟩
  · exact ⟨_, cap, rfl⟩
set_option linter.unusedSimpArgs false in
set_option maxHeartbeats 4000000 in
theorem knew_any (n : Nat) (w : World) (hn : 1 ≤ n ∧ n ≤ 4000) :
    Calls Tryd.prog 15 #[.int .i64 (n : Int)] w fun e w' => (∃ d, e = .returned (.pointer (some ⟨d, 0, none⟩)) ∧ KS w' (fun k => w.heap.size ≤ k ∧ k < w'.heap.size) d n Dk.new 0) ∧ Ext w w' := by
  obtain ⟨i0, hi0, hz0, hz1, hz2⟩ := info_parts strinf
  go_enter Tryd.func15, Tryd.ntmps15
  go_wp2_with fail
  have H0 := Lib.hid (show KN w (w.alloc (.cells #[.slice none 0 0, .slice none 0 0, .slice none 0 0, .int .i64 (-1)] 48)) w.heap.size 0 0 (.slice none 0 0) (.slice none 0 0) from ⟨Ext.alloc (Ext.refl w) _, Nat.le_refl _, Bk.at rfl, World.ownsRow_nil _ _ _ _, World.ownsRow_nil _ _ _ _, (by simp [Value.ownBlock]), (by simp [Value.ownBlock]), (fun b hb => by simp [Value.ownBlock] at hb)⟩)
  refine wp_world (fun wz => Hid (KN w wz w.heap.size 0 0 (.slice none 0 0) (.slice none 0 0))) H0 ?_
  obtain ⟨d, hd⟩ : ∃ d, w.heap.size = d := ⟨_, rfl⟩
  rw [hd]
  have HDD := Lib.hid hd
  clear H0 hd
  rintro w1 H0
  go_loopw [4] (fun cc wr => ∃ (i : Nat) (v0 v1 : Value), i ≤ n ∧ cc = .int .i64 (i : Int) ∧ Hid (KN w wr d i i v0 v1)) (fun cc _ => n - (intOf cc).toNat)
  case atStart => exact ⟨0, _, _, by omega, rfl, H0⟩
  case round =>
    clear H0
    obtain ⟨i, v0, v1, hi, rfl, H⟩ := hrel
    by_cases hlt : i < n
    · go_upto_region 5 with fail
      go_cut [] (fun wx => ∃ (v0 v1 : Value), Hid (KN w wx d (i + 1) i v0 v1))
      case first =>
        obtain ⟨x0, c0, rfl⟩ := own_lit H.out.r0
        have X_0 := Lib.hid (Ext.refl wr)
        refine wp_region_held_drew (S := fun w' => True) (by kernel_rfl) trivial (fun hHeld => ?_)
        clear hHeld
        refine anyH_world (fun wz => Ext wr wz) (show Ext wr wr.drew from Below.drew (Ext.refl wr)) ?_
        rintro z01 h
        have X_1 := Lib.hid (X_0.out.trans h)
        clear h X_0
        have hHeld : True := trivial
        refine wpAnyH_take (i := 0) (v := ?_) rfl (by kernel_rfl) (by kernel_rfl) (by kernel_rfl) (fun _ _ _ h => h) (Or.inl ⟨by kernel_rfl, ?_⟩) hHeld ?_
        rotate_left
        · intro w hSw
          (try dsimp only at hSw)
          go_split_ands
          go_simp
          (try with_reducible rfl)
        try simp only [Act.put, List.getElem_toArray, List.getElem_cons_succ, List.getElem_cons_zero, List.setIfInBounds_toArray, List.set_cons_zero, List.set_cons_succ]
        refine wpAnyH_take (i := 1) (v := ?_) rfl (by kernel_rfl) (by kernel_rfl) (by kernel_rfl) (fun _ _ _ h => h) (Or.inl ⟨by kernel_rfl, ?_⟩) hHeld ?_
        rotate_left
        · intro w hSw
          (try dsimp only at hSw)
          go_split_ands
          go_simp
          (try with_reducible rfl)
        try simp only [Act.put, List.getElem_toArray, List.getElem_cons_succ, List.getElem_cons_zero, List.setIfInBounds_toArray, List.set_cons_zero, List.set_cons_succ]
        refine wpAnyH_take (i := 2) (v := ?_) rfl (by kernel_rfl) (by kernel_rfl) (by kernel_rfl) (fun _ _ _ h => h) (Or.inl ⟨by kernel_rfl, ?_⟩) hHeld ?_
        rotate_left
        · intro w hSw
          (try dsimp only at hSw)
          go_split_ands
          go_simp
          (try with_reducible rfl)
        try simp only [Act.put, List.getElem_toArray, List.getElem_cons_succ, List.getElem_cons_zero, List.setIfInBounds_toArray, List.set_cons_zero, List.set_cons_succ]
        refine wpAnyH_take (i := 3) (v := ?_) rfl (by kernel_rfl) (by kernel_rfl) (by kernel_rfl) (fun _ _ _ h => h) (Or.inl ⟨by kernel_rfl, ?_⟩) hHeld ?_
        rotate_left
        · intro w hSw
          (try dsimp only at hSw)
          go_split_ands
          go_simp
          (try with_reducible rfl)
        try simp only [Act.put, List.getElem_toArray, List.getElem_cons_succ, List.getElem_cons_zero, List.setIfInBounds_toArray, List.set_cons_zero, List.set_cons_succ]
        refine wpAnyH_ready (rs := [4, 5]) (by kernel_rfl) (by simp) ?_
        refine AllReadyH.cons rfl (fun KK hK => ?_) (AllReadyH.cons rfl (fun KK hK => ?_) AllReadyH.nil)
        · clear hHeld
          have k0 := (H.out.step X_1.out).bk.cell 0
          go_simp
          refine hK.out _ _ trivial (fun hHeld => ?_)
          clear hK KK k0
          try simp only [Act.put, List.getElem_toArray, List.getElem_cons_succ, List.getElem_cons_zero, List.setIfInBounds_toArray, List.set_cons_zero, List.set_cons_succ]
          refine wpAnyH_ready (rs := [5]) (by kernel_rfl) (by simp) ?_
          refine AllReadyH.cons rfl (fun KK hK => ?_) AllReadyH.nil
          clear hHeld
          go_simp
          refine (zeros_any 64 (by omega) _).mono ?_
          rintro e z02 ⟨rfl, h⟩
          have X_2 := Lib.hid (X_1.out.trans h)
          clear h X_1
          go_simp
          refine hK.out _ _ trivial (fun hHeld => ?_)
          clear hK KK
          try simp only [Act.put, List.getElem_toArray, List.getElem_cons_succ, List.getElem_cons_zero, List.setIfInBounds_toArray, List.set_cons_zero, List.set_cons_succ]
          refine wpAnyH_ready (rs := [6]) (by kernel_rfl) (by simp) ?_
          refine AllReadyH.cons rfl (fun KK hK => ?_) AllReadyH.nil
          clear hHeld
          go_simp
          refine hK.out _ _ trivial (fun hHeld => ?_)
          clear hK KK hHeld
          try simp only [Act.put, List.getElem_toArray, List.getElem_cons_succ, List.getElem_cons_zero, List.setIfInBounds_toArray, List.set_cons_zero, List.set_cons_succ]
          have hHeld : True := trivial
          refine anyH_world (fun wz => wz = z02.alloc (.cells #[.string (zB 64)] 9)) rfl ?_
          rintro z03 hz
          have hx := Ext.alloc (Ext.refl z02) (.cells #[.string (zB 64)] 9)
          rw [← hz] at hx
          have XL := Lib.hid X_2.out
          have HZ := Lib.hid hz
          have X_3 := Lib.hid (X_2.out.trans hx)
          clear hx hz X_2
          refine wpAnyH_ready (rs := [7]) (by kernel_rfl) (by simp) ?_
          refine AllReadyH.cons rfl (fun KK hK => ?_) AllReadyH.nil
          clear hHeld
          have hz := HZ.out
          subst hz
          have HLn := Lib.hid (H.out.step XL.out)
          refine step_append_lies _ (by rfl) _ _ _ (by rfl) w.heap.size 9 i0 (.string ⟨#[]⟩) 1 16 Tryd.underlying35 hi0 hz0 hz1 hz2 rfl (by decide) (.slice x0 i c0) i (zrow i) (by rfl) (own_ext HLn.out.r0 (Ext.alloc (Ext.refl z02) (.cells #[.string (zB 64)] 9))) ⟨z02.heap.size, 0, none⟩ 1 1 [.string (zB 64)] (by rfl) (by rfl) (by
              intro q u hq
              rw [add_plain]
              exact (Bk.at (w := z02) rfl).cell q |>.trans (by simpa using hq)) (by intro u hu; simp at hu; subst hu; rfl) (by decide) (by unfold maxLen; omega) (by omega) (by have := HLn.out.ext.size; rw [World.size_alloc]; omega) _ rfl ?_
          intro g2 cap2 w2 hown hgrow hat hlg
          rw [← zrow_push] at hown
          have HG := Lib.hid (HLn.out.grow0 hgrow hown (by rcases hat with e | e; exact .inl e.symm; exact .inr (by rw [e]; rfl)))
          clear hown hgrow hat hlg
          refine hK.out _ _ trivial (fun hHeld => ?_)
          clear hK KK
          try simp only [Act.put, List.getElem_toArray, List.getElem_cons_succ, List.getElem_cons_zero, List.setIfInBounds_toArray, List.set_cons_zero, List.set_cons_succ]
          refine wpAnyH_take (i := 8) (v := ?_) rfl (by kernel_rfl) (by kernel_rfl) (by kernel_rfl) (fun _ _ _ h => h) (Or.inl ⟨by kernel_rfl, ?_⟩) hHeld ?_
          rotate_left
          · intro w hSw
            (try dsimp only at hSw)
            go_split_ands
            go_simp
            (try with_reducible rfl)
          try simp only [Act.put, List.getElem_toArray, List.getElem_cons_succ, List.getElem_cons_zero, List.setIfInBounds_toArray, List.set_cons_zero, List.set_cons_succ]
          refine wpAnyH_take (i := 9) (v := ?_) rfl (by kernel_rfl) (by kernel_rfl) (by kernel_rfl) (fun _ _ _ h => h) (Or.inl ⟨by kernel_rfl, ?_⟩) hHeld ?_
          rotate_left
          · intro w hSw
            (try dsimp only at hSw)
            go_split_ands
            go_simp
            (try with_reducible rfl)
          try simp only [Act.put, List.getElem_toArray, List.getElem_cons_succ, List.getElem_cons_zero, List.setIfInBounds_toArray, List.set_cons_zero, List.set_cons_succ]
          refine wpAnyH_ready (rs := [10]) (by kernel_rfl) (by simp) ?_
          refine AllReadyH.cons rfl (fun KK hK => ?_) AllReadyH.nil
          clear hHeld
          have q0 := HG.out.2.cell 0
          have f0 := HG.out.2.frozen 0
          go_simp
          refine hK.out _ _ trivial (fun hHeld => ?_)
          clear hK KK q0 f0
          try simp only [Act.put, List.getElem_toArray, List.getElem_cons_succ, List.getElem_cons_zero, List.setIfInBounds_toArray, List.set_cons_zero, List.set_cons_succ]
          refine wpAnyH_done (by kernel_rfl) ?_ _
          clear hHeld
          (try go_wp2_with fail)
          go_meet
          exact ⟨_, _, Lib.hid HG.out.1⟩
        · clear hHeld
          go_simp
          refine (zeros_any 64 (by omega) _).mono ?_
          rintro e z02 ⟨rfl, h⟩
          have X_2 := Lib.hid (X_1.out.trans h)
          clear h X_1
          go_simp
          refine hK.out _ _ trivial (fun hHeld => ?_)
          clear hK KK
          try simp only [Act.put, List.getElem_toArray, List.getElem_cons_succ, List.getElem_cons_zero, List.setIfInBounds_toArray, List.set_cons_zero, List.set_cons_succ]
          refine wpAnyH_ready (rs := [4, 6]) (by kernel_rfl) (by simp) ?_
          refine AllReadyH.cons rfl (fun KK hK => ?_) (AllReadyH.cons rfl (fun KK hK => ?_) AllReadyH.nil)
          · clear hHeld
            have k0 := (H.out.step X_2.out).bk.cell 0
            go_simp
            refine hK.out _ _ trivial (fun hHeld => ?_)
            clear hK KK k0
            try simp only [Act.put, List.getElem_toArray, List.getElem_cons_succ, List.getElem_cons_zero, List.setIfInBounds_toArray, List.set_cons_zero, List.set_cons_succ]
            refine wpAnyH_ready (rs := [6]) (by kernel_rfl) (by simp) ?_
            refine AllReadyH.cons rfl (fun KK hK => ?_) AllReadyH.nil
            clear hHeld
            go_simp
            refine hK.out _ _ trivial (fun hHeld => ?_)
            clear hK KK hHeld
            try simp only [Act.put, List.getElem_toArray, List.getElem_cons_succ, List.getElem_cons_zero, List.setIfInBounds_toArray, List.set_cons_zero, List.set_cons_succ]
            have hHeld : True := trivial
            refine anyH_world (fun wz => wz = z02.alloc (.cells #[.string (zB 64)] 9)) rfl ?_
            rintro z03 hz
            have hx := Ext.alloc (Ext.refl z02) (.cells #[.string (zB 64)] 9)
            rw [← hz] at hx
            have XL := Lib.hid X_2.out
            have HZ := Lib.hid hz
            have X_3 := Lib.hid (X_2.out.trans hx)
            clear hx hz X_2
            refine wpAnyH_ready (rs := [7]) (by kernel_rfl) (by simp) ?_
            refine AllReadyH.cons rfl (fun KK hK => ?_) AllReadyH.nil
            clear hHeld
            have hz := HZ.out
            subst hz
            have HLn := Lib.hid (H.out.step XL.out)
            refine step_append_lies _ (by rfl) _ _ _ (by rfl) w.heap.size 9 i0 (.string ⟨#[]⟩) 1 16 Tryd.underlying35 hi0 hz0 hz1 hz2 rfl (by decide) (.slice x0 i c0) i (zrow i) (by rfl) (own_ext HLn.out.r0 (Ext.alloc (Ext.refl z02) (.cells #[.string (zB 64)] 9))) ⟨z02.heap.size, 0, none⟩ 1 1 [.string (zB 64)] (by rfl) (by rfl) (by
                intro q u hq
                rw [add_plain]
                exact (Bk.at (w := z02) rfl).cell q |>.trans (by simpa using hq)) (by intro u hu; simp at hu; subst hu; rfl) (by decide) (by unfold maxLen; omega) (by omega) (by have := HLn.out.ext.size; rw [World.size_alloc]; omega) _ rfl ?_
            intro g2 cap2 w2 hown hgrow hat hlg
            rw [← zrow_push] at hown
            have HG := Lib.hid (HLn.out.grow0 hgrow hown (by rcases hat with e | e; exact .inl e.symm; exact .inr (by rw [e]; rfl)))
            clear hown hgrow hat hlg
            refine hK.out _ _ trivial (fun hHeld => ?_)
            clear hK KK
            try simp only [Act.put, List.getElem_toArray, List.getElem_cons_succ, List.getElem_cons_zero, List.setIfInBounds_toArray, List.set_cons_zero, List.set_cons_succ]
            refine wpAnyH_take (i := 8) (v := ?_) rfl (by kernel_rfl) (by kernel_rfl) (by kernel_rfl) (fun _ _ _ h => h) (Or.inl ⟨by kernel_rfl, ?_⟩) hHeld ?_
            rotate_left
            · intro w hSw
              (try dsimp only at hSw)
              go_split_ands
              go_simp
              (try with_reducible rfl)
            try simp only [Act.put, List.getElem_toArray, List.getElem_cons_succ, List.getElem_cons_zero, List.setIfInBounds_toArray, List.set_cons_zero, List.set_cons_succ]
            refine wpAnyH_take (i := 9) (v := ?_) rfl (by kernel_rfl) (by kernel_rfl) (by kernel_rfl) (fun _ _ _ h => h) (Or.inl ⟨by kernel_rfl, ?_⟩) hHeld ?_
            rotate_left
            · intro w hSw
              (try dsimp only at hSw)
              go_split_ands
              go_simp
              (try with_reducible rfl)
            try simp only [Act.put, List.getElem_toArray, List.getElem_cons_succ, List.getElem_cons_zero, List.setIfInBounds_toArray, List.set_cons_zero, List.set_cons_succ]
            refine wpAnyH_ready (rs := [10]) (by kernel_rfl) (by simp) ?_
            refine AllReadyH.cons rfl (fun KK hK => ?_) AllReadyH.nil
            clear hHeld
            have q0 := HG.out.2.cell 0
            have f0 := HG.out.2.frozen 0
            go_simp
            refine hK.out _ _ trivial (fun hHeld => ?_)
            clear hK KK q0 f0
            try simp only [Act.put, List.getElem_toArray, List.getElem_cons_succ, List.getElem_cons_zero, List.setIfInBounds_toArray, List.set_cons_zero, List.set_cons_succ]
            refine wpAnyH_done (by kernel_rfl) ?_ _
            clear hHeld
            (try go_wp2_with fail)
            go_meet
            exact ⟨_, _, Lib.hid HG.out.1⟩
          · clear hHeld
            go_simp
            refine hK.out _ _ trivial (fun hHeld => ?_)
            clear hK KK hHeld
            try simp only [Act.put, List.getElem_toArray, List.getElem_cons_succ, List.getElem_cons_zero, List.setIfInBounds_toArray, List.set_cons_zero, List.set_cons_succ]
            have hHeld : True := trivial
            refine anyH_world (fun wz => wz = z02.alloc (.cells #[.string (zB 64)] 9)) rfl ?_
            rintro z03 hz
            have hx := Ext.alloc (Ext.refl z02) (.cells #[.string (zB 64)] 9)
            rw [← hz] at hx
            have XL := Lib.hid X_2.out
            have HZ := Lib.hid hz
            have X_3 := Lib.hid (X_2.out.trans hx)
            clear hx hz X_2
            refine wpAnyH_ready (rs := [4]) (by kernel_rfl) (by simp) ?_
            refine AllReadyH.cons rfl (fun KK hK => ?_) AllReadyH.nil
            clear hHeld
            have k0 := (H.out.step X_3.out).bk.cell 0
            go_simp
            refine hK.out _ _ trivial (fun hHeld => ?_)
            clear hK KK k0
            try simp only [Act.put, List.getElem_toArray, List.getElem_cons_succ, List.getElem_cons_zero, List.setIfInBounds_toArray, List.set_cons_zero, List.set_cons_succ]
            refine wpAnyH_ready (rs := [7]) (by kernel_rfl) (by simp) ?_
            refine AllReadyH.cons rfl (fun KK hK => ?_) AllReadyH.nil
            clear hHeld
            have hz := HZ.out
            subst hz
            have HLn := Lib.hid (H.out.step XL.out)
            refine step_append_lies _ (by rfl) _ _ _ (by rfl) w.heap.size 9 i0 (.string ⟨#[]⟩) 1 16 Tryd.underlying35 hi0 hz0 hz1 hz2 rfl (by decide) (.slice x0 i c0) i (zrow i) (by rfl) (own_ext HLn.out.r0 (Ext.alloc (Ext.refl z02) (.cells #[.string (zB 64)] 9))) ⟨z02.heap.size, 0, none⟩ 1 1 [.string (zB 64)] (by rfl) (by rfl) (by
                intro q u hq
                rw [add_plain]
                exact (Bk.at (w := z02) rfl).cell q |>.trans (by simpa using hq)) (by intro u hu; simp at hu; subst hu; rfl) (by decide) (by unfold maxLen; omega) (by omega) (by have := HLn.out.ext.size; rw [World.size_alloc]; omega) _ rfl ?_
            intro g2 cap2 w2 hown hgrow hat hlg
            rw [← zrow_push] at hown
            have HG := Lib.hid (HLn.out.grow0 hgrow hown (by rcases hat with e | e; exact .inl e.symm; exact .inr (by rw [e]; rfl)))
            clear hown hgrow hat hlg
            refine hK.out _ _ trivial (fun hHeld => ?_)
            clear hK KK
            try simp only [Act.put, List.getElem_toArray, List.getElem_cons_succ, List.getElem_cons_zero, List.setIfInBounds_toArray, List.set_cons_zero, List.set_cons_succ]
            refine wpAnyH_take (i := 8) (v := ?_) rfl (by kernel_rfl) (by kernel_rfl) (by kernel_rfl) (fun _ _ _ h => h) (Or.inl ⟨by kernel_rfl, ?_⟩) hHeld ?_
            rotate_left
            · intro w hSw
              (try dsimp only at hSw)
              go_split_ands
              go_simp
              (try with_reducible rfl)
            try simp only [Act.put, List.getElem_toArray, List.getElem_cons_succ, List.getElem_cons_zero, List.setIfInBounds_toArray, List.set_cons_zero, List.set_cons_succ]
            refine wpAnyH_take (i := 9) (v := ?_) rfl (by kernel_rfl) (by kernel_rfl) (by kernel_rfl) (fun _ _ _ h => h) (Or.inl ⟨by kernel_rfl, ?_⟩) hHeld ?_
            rotate_left
            · intro w hSw
              (try dsimp only at hSw)
              go_split_ands
              go_simp
              (try with_reducible rfl)
            try simp only [Act.put, List.getElem_toArray, List.getElem_cons_succ, List.getElem_cons_zero, List.setIfInBounds_toArray, List.set_cons_zero, List.set_cons_succ]
            refine wpAnyH_ready (rs := [10]) (by kernel_rfl) (by simp) ?_
            refine AllReadyH.cons rfl (fun KK hK => ?_) AllReadyH.nil
            clear hHeld
            have q0 := HG.out.2.cell 0
            have f0 := HG.out.2.frozen 0
            go_simp
            refine hK.out _ _ trivial (fun hHeld => ?_)
            clear hK KK q0 f0
            try simp only [Act.put, List.getElem_toArray, List.getElem_cons_succ, List.getElem_cons_zero, List.setIfInBounds_toArray, List.set_cons_zero, List.set_cons_succ]
            refine wpAnyH_done (by kernel_rfl) ?_ _
            clear hHeld
            (try go_wp2_with fail)
            go_meet
            exact ⟨_, _, Lib.hid HG.out.1⟩
      case rest =>
        clear H
        obtain ⟨v0, v1, H2⟩ := hcut
        go_upto_region 6 with fail
        obtain ⟨x1, c1, rfl⟩ := own_lit H2.out.r1
        have X_0 := Lib.hid (Ext.refl wc)
        refine wp_region_held_drew (S := fun w' => True) (by kernel_rfl) trivial (fun hHeld => ?_)
        clear hHeld
        refine anyH_world (fun wz => Ext wc wz) (show Ext wc wc.drew from Below.drew (Ext.refl wc)) ?_
        rintro z11 h
        have X_1 := Lib.hid (X_0.out.trans h)
        clear h X_0
        have hHeld : True := trivial
        refine wpAnyH_take (i := 0) (v := ?_) rfl (by kernel_rfl) (by kernel_rfl) (by kernel_rfl) (fun _ _ _ h => h) (Or.inl ⟨by kernel_rfl, ?_⟩) hHeld ?_
        rotate_left
        · intro w hSw
          (try dsimp only at hSw)
          go_split_ands
          go_simp
          (try with_reducible rfl)
        try simp only [Act.put, List.getElem_toArray, List.getElem_cons_succ, List.getElem_cons_zero, List.setIfInBounds_toArray, List.set_cons_zero, List.set_cons_succ]
        refine wpAnyH_take (i := 1) (v := ?_) rfl (by kernel_rfl) (by kernel_rfl) (by kernel_rfl) (fun _ _ _ h => h) (Or.inl ⟨by kernel_rfl, ?_⟩) hHeld ?_
        rotate_left
        · intro w hSw
          (try dsimp only at hSw)
          go_split_ands
          go_simp
          (try with_reducible rfl)
        try simp only [Act.put, List.getElem_toArray, List.getElem_cons_succ, List.getElem_cons_zero, List.setIfInBounds_toArray, List.set_cons_zero, List.set_cons_succ]
        refine wpAnyH_take (i := 2) (v := ?_) rfl (by kernel_rfl) (by kernel_rfl) (by kernel_rfl) (fun _ _ _ h => h) (Or.inl ⟨by kernel_rfl, ?_⟩) hHeld ?_
        rotate_left
        · intro w hSw
          (try dsimp only at hSw)
          go_split_ands
          go_simp
          (try with_reducible rfl)
        try simp only [Act.put, List.getElem_toArray, List.getElem_cons_succ, List.getElem_cons_zero, List.setIfInBounds_toArray, List.set_cons_zero, List.set_cons_succ]
        refine wpAnyH_take (i := 3) (v := ?_) rfl (by kernel_rfl) (by kernel_rfl) (by kernel_rfl) (fun _ _ _ h => h) (Or.inl ⟨by kernel_rfl, ?_⟩) hHeld ?_
        rotate_left
        · intro w hSw
          (try dsimp only at hSw)
          go_split_ands
          go_simp
          (try with_reducible rfl)
        try simp only [Act.put, List.getElem_toArray, List.getElem_cons_succ, List.getElem_cons_zero, List.setIfInBounds_toArray, List.set_cons_zero, List.set_cons_succ]
        refine wpAnyH_ready (rs := [4, 5]) (by kernel_rfl) (by simp) ?_
        refine AllReadyH.cons rfl (fun KK hK => ?_) (AllReadyH.cons rfl (fun KK hK => ?_) AllReadyH.nil)
        · clear hHeld
          have k0 := (H2.out.step X_1.out).bk.cell 1
          go_simp
          refine hK.out _ _ trivial (fun hHeld => ?_)
          clear hK KK k0
          try simp only [Act.put, List.getElem_toArray, List.getElem_cons_succ, List.getElem_cons_zero, List.setIfInBounds_toArray, List.set_cons_zero, List.set_cons_succ]
          refine wpAnyH_ready (rs := [5]) (by kernel_rfl) (by simp) ?_
          refine AllReadyH.cons rfl (fun KK hK => ?_) AllReadyH.nil
          clear hHeld
          go_simp
          refine (zeros_any 64 (by omega) _).mono ?_
          rintro e z12 ⟨rfl, h⟩
          have X_2 := Lib.hid (X_1.out.trans h)
          clear h X_1
          go_simp
          refine hK.out _ _ trivial (fun hHeld => ?_)
          clear hK KK
          try simp only [Act.put, List.getElem_toArray, List.getElem_cons_succ, List.getElem_cons_zero, List.setIfInBounds_toArray, List.set_cons_zero, List.set_cons_succ]
          refine wpAnyH_ready (rs := [6]) (by kernel_rfl) (by simp) ?_
          refine AllReadyH.cons rfl (fun KK hK => ?_) AllReadyH.nil
          clear hHeld
          go_simp
          refine hK.out _ _ trivial (fun hHeld => ?_)
          clear hK KK hHeld
          try simp only [Act.put, List.getElem_toArray, List.getElem_cons_succ, List.getElem_cons_zero, List.setIfInBounds_toArray, List.set_cons_zero, List.set_cons_succ]
          have hHeld : True := trivial
          refine anyH_world (fun wz => wz = z12.alloc (.cells #[.string (zB 64)] 9)) rfl ?_
          rintro z13 hz
          have hx := Ext.alloc (Ext.refl z12) (.cells #[.string (zB 64)] 9)
          rw [← hz] at hx
          have XL := Lib.hid X_2.out
          have HZ := Lib.hid hz
          have X_3 := Lib.hid (X_2.out.trans hx)
          clear hx hz X_2
          refine wpAnyH_ready (rs := [7]) (by kernel_rfl) (by simp) ?_
          refine AllReadyH.cons rfl (fun KK hK => ?_) AllReadyH.nil
          clear hHeld
          have hz := HZ.out
          subst hz
          have HLn := Lib.hid (H2.out.step XL.out)
          refine step_append_lies _ (by rfl) _ _ _ (by rfl) w.heap.size 9 i0 (.string ⟨#[]⟩) 1 16 Tryd.underlying35 hi0 hz0 hz1 hz2 rfl (by decide) (.slice x1 i c1) i (zrow i) (by rfl) (own_ext HLn.out.r1 (Ext.alloc (Ext.refl z12) (.cells #[.string (zB 64)] 9))) ⟨z12.heap.size, 0, none⟩ 1 1 [.string (zB 64)] (by rfl) (by rfl) (by
              intro q u hq
              rw [add_plain]
              exact (Bk.at (w := z12) rfl).cell q |>.trans (by simpa using hq)) (by intro u hu; simp at hu; subst hu; rfl) (by decide) (by unfold maxLen; omega) (by omega) (by have := HLn.out.ext.size; rw [World.size_alloc]; omega) _ rfl ?_
          intro g2 cap2 w2 hown hgrow hat hlg
          rw [← zrow_push] at hown
          have HG := Lib.hid (HLn.out.grow1 hgrow hown (by rcases hat with e | e; exact .inl e.symm; exact .inr (by rw [e]; rfl)))
          clear hown hgrow hat hlg
          refine hK.out _ _ trivial (fun hHeld => ?_)
          clear hK KK
          try simp only [Act.put, List.getElem_toArray, List.getElem_cons_succ, List.getElem_cons_zero, List.setIfInBounds_toArray, List.set_cons_zero, List.set_cons_succ]
          refine wpAnyH_take (i := 8) (v := ?_) rfl (by kernel_rfl) (by kernel_rfl) (by kernel_rfl) (fun _ _ _ h => h) (Or.inl ⟨by kernel_rfl, ?_⟩) hHeld ?_
          rotate_left
          · intro w hSw
            (try dsimp only at hSw)
            go_split_ands
            go_simp
            (try with_reducible rfl)
          try simp only [Act.put, List.getElem_toArray, List.getElem_cons_succ, List.getElem_cons_zero, List.setIfInBounds_toArray, List.set_cons_zero, List.set_cons_succ]
          refine wpAnyH_take (i := 9) (v := ?_) rfl (by kernel_rfl) (by kernel_rfl) (by kernel_rfl) (fun _ _ _ h => h) (Or.inl ⟨by kernel_rfl, ?_⟩) hHeld ?_
          rotate_left
          · intro w hSw
            (try dsimp only at hSw)
            go_split_ands
            go_simp
            (try with_reducible rfl)
          try simp only [Act.put, List.getElem_toArray, List.getElem_cons_succ, List.getElem_cons_zero, List.setIfInBounds_toArray, List.set_cons_zero, List.set_cons_succ]
          refine wpAnyH_ready (rs := [10]) (by kernel_rfl) (by simp) ?_
          refine AllReadyH.cons rfl (fun KK hK => ?_) AllReadyH.nil
          clear hHeld
          have q0 := HG.out.2.cell 1
          have f0 := HG.out.2.frozen 1
          go_simp
          refine hK.out _ _ trivial (fun hHeld => ?_)
          clear hK KK q0 f0
          try simp only [Act.put, List.getElem_toArray, List.getElem_cons_succ, List.getElem_cons_zero, List.setIfInBounds_toArray, List.set_cons_zero, List.set_cons_succ]
          refine wpAnyH_done (by kernel_rfl) ?_ _
          clear hHeld
          have wi : ∀ z, z = (i : Int) + 1 → IntKind.i64.wrap z = z := by rintro _ rfl; rw [IntKind.wrap_i64]; omega
          go_wp2_with fail
          go_roundw
          case rel => exact ⟨i + 1, _, _, by omega, by go_num, Lib.hid HG.out.1⟩
          case measure => simp [intOf]; omega
        · clear hHeld
          go_simp
          refine (zeros_any 64 (by omega) _).mono ?_
          rintro e z12 ⟨rfl, h⟩
          have X_2 := Lib.hid (X_1.out.trans h)
          clear h X_1
          go_simp
          refine hK.out _ _ trivial (fun hHeld => ?_)
          clear hK KK
          try simp only [Act.put, List.getElem_toArray, List.getElem_cons_succ, List.getElem_cons_zero, List.setIfInBounds_toArray, List.set_cons_zero, List.set_cons_succ]
          refine wpAnyH_ready (rs := [4, 6]) (by kernel_rfl) (by simp) ?_
          refine AllReadyH.cons rfl (fun KK hK => ?_) (AllReadyH.cons rfl (fun KK hK => ?_) AllReadyH.nil)
          · clear hHeld
            have k0 := (H2.out.step X_2.out).bk.cell 1
            go_simp
            refine hK.out _ _ trivial (fun hHeld => ?_)
            clear hK KK k0
            try simp only [Act.put, List.getElem_toArray, List.getElem_cons_succ, List.getElem_cons_zero, List.setIfInBounds_toArray, List.set_cons_zero, List.set_cons_succ]
            refine wpAnyH_ready (rs := [6]) (by kernel_rfl) (by simp) ?_
            refine AllReadyH.cons rfl (fun KK hK => ?_) AllReadyH.nil
            clear hHeld
            go_simp
            refine hK.out _ _ trivial (fun hHeld => ?_)
            clear hK KK hHeld
            try simp only [Act.put, List.getElem_toArray, List.getElem_cons_succ, List.getElem_cons_zero, List.setIfInBounds_toArray, List.set_cons_zero, List.set_cons_succ]
            have hHeld : True := trivial
            refine anyH_world (fun wz => wz = z12.alloc (.cells #[.string (zB 64)] 9)) rfl ?_
            rintro z13 hz
            have hx := Ext.alloc (Ext.refl z12) (.cells #[.string (zB 64)] 9)
            rw [← hz] at hx
            have XL := Lib.hid X_2.out
            have HZ := Lib.hid hz
            have X_3 := Lib.hid (X_2.out.trans hx)
            clear hx hz X_2
            refine wpAnyH_ready (rs := [7]) (by kernel_rfl) (by simp) ?_
            refine AllReadyH.cons rfl (fun KK hK => ?_) AllReadyH.nil
            clear hHeld
            have hz := HZ.out
            subst hz
            have HLn := Lib.hid (H2.out.step XL.out)
            refine step_append_lies _ (by rfl) _ _ _ (by rfl) w.heap.size 9 i0 (.string ⟨#[]⟩) 1 16 Tryd.underlying35 hi0 hz0 hz1 hz2 rfl (by decide) (.slice x1 i c1) i (zrow i) (by rfl) (own_ext HLn.out.r1 (Ext.alloc (Ext.refl z12) (.cells #[.string (zB 64)] 9))) ⟨z12.heap.size, 0, none⟩ 1 1 [.string (zB 64)] (by rfl) (by rfl) (by
                intro q u hq
                rw [add_plain]
                exact (Bk.at (w := z12) rfl).cell q |>.trans (by simpa using hq)) (by intro u hu; simp at hu; subst hu; rfl) (by decide) (by unfold maxLen; omega) (by omega) (by have := HLn.out.ext.size; rw [World.size_alloc]; omega) _ rfl ?_
            intro g2 cap2 w2 hown hgrow hat hlg
            rw [← zrow_push] at hown
            have HG := Lib.hid (HLn.out.grow1 hgrow hown (by rcases hat with e | e; exact .inl e.symm; exact .inr (by rw [e]; rfl)))
            clear hown hgrow hat hlg
            refine hK.out _ _ trivial (fun hHeld => ?_)
            clear hK KK
            try simp only [Act.put, List.getElem_toArray, List.getElem_cons_succ, List.getElem_cons_zero, List.setIfInBounds_toArray, List.set_cons_zero, List.set_cons_succ]
            refine wpAnyH_take (i := 8) (v := ?_) rfl (by kernel_rfl) (by kernel_rfl) (by kernel_rfl) (fun _ _ _ h => h) (Or.inl ⟨by kernel_rfl, ?_⟩) hHeld ?_
            rotate_left
            · intro w hSw
              (try dsimp only at hSw)
              go_split_ands
              go_simp
              (try with_reducible rfl)
            try simp only [Act.put, List.getElem_toArray, List.getElem_cons_succ, List.getElem_cons_zero, List.setIfInBounds_toArray, List.set_cons_zero, List.set_cons_succ]
            refine wpAnyH_take (i := 9) (v := ?_) rfl (by kernel_rfl) (by kernel_rfl) (by kernel_rfl) (fun _ _ _ h => h) (Or.inl ⟨by kernel_rfl, ?_⟩) hHeld ?_
            rotate_left
            · intro w hSw
              (try dsimp only at hSw)
              go_split_ands
              go_simp
              (try with_reducible rfl)
            try simp only [Act.put, List.getElem_toArray, List.getElem_cons_succ, List.getElem_cons_zero, List.setIfInBounds_toArray, List.set_cons_zero, List.set_cons_succ]
            refine wpAnyH_ready (rs := [10]) (by kernel_rfl) (by simp) ?_
            refine AllReadyH.cons rfl (fun KK hK => ?_) AllReadyH.nil
            clear hHeld
            have q0 := HG.out.2.cell 1
            have f0 := HG.out.2.frozen 1
            go_simp
            refine hK.out _ _ trivial (fun hHeld => ?_)
            clear hK KK q0 f0
            try simp only [Act.put, List.getElem_toArray, List.getElem_cons_succ, List.getElem_cons_zero, List.setIfInBounds_toArray, List.set_cons_zero, List.set_cons_succ]
            refine wpAnyH_done (by kernel_rfl) ?_ _
            clear hHeld
            have wi : ∀ z, z = (i : Int) + 1 → IntKind.i64.wrap z = z := by rintro _ rfl; rw [IntKind.wrap_i64]; omega
            go_wp2_with fail
            go_roundw
            case rel => exact ⟨i + 1, _, _, by omega, by go_num, Lib.hid HG.out.1⟩
            case measure => simp [intOf]; omega
          · clear hHeld
            go_simp
            refine hK.out _ _ trivial (fun hHeld => ?_)
            clear hK KK hHeld
            try simp only [Act.put, List.getElem_toArray, List.getElem_cons_succ, List.getElem_cons_zero, List.setIfInBounds_toArray, List.set_cons_zero, List.set_cons_succ]
            have hHeld : True := trivial
            refine anyH_world (fun wz => wz = z12.alloc (.cells #[.string (zB 64)] 9)) rfl ?_
            rintro z13 hz
            have hx := Ext.alloc (Ext.refl z12) (.cells #[.string (zB 64)] 9)
            rw [← hz] at hx
            have XL := Lib.hid X_2.out
            have HZ := Lib.hid hz
            have X_3 := Lib.hid (X_2.out.trans hx)
            clear hx hz X_2
            refine wpAnyH_ready (rs := [4]) (by kernel_rfl) (by simp) ?_
            refine AllReadyH.cons rfl (fun KK hK => ?_) AllReadyH.nil
            clear hHeld
            have k0 := (H2.out.step X_3.out).bk.cell 1
            go_simp
            refine hK.out _ _ trivial (fun hHeld => ?_)
            clear hK KK k0
            try simp only [Act.put, List.getElem_toArray, List.getElem_cons_succ, List.getElem_cons_zero, List.setIfInBounds_toArray, List.set_cons_zero, List.set_cons_succ]
            refine wpAnyH_ready (rs := [7]) (by kernel_rfl) (by simp) ?_
            refine AllReadyH.cons rfl (fun KK hK => ?_) AllReadyH.nil
            clear hHeld
            have hz := HZ.out
            subst hz
            have HLn := Lib.hid (H2.out.step XL.out)
            refine step_append_lies _ (by rfl) _ _ _ (by rfl) w.heap.size 9 i0 (.string ⟨#[]⟩) 1 16 Tryd.underlying35 hi0 hz0 hz1 hz2 rfl (by decide) (.slice x1 i c1) i (zrow i) (by rfl) (own_ext HLn.out.r1 (Ext.alloc (Ext.refl z12) (.cells #[.string (zB 64)] 9))) ⟨z12.heap.size, 0, none⟩ 1 1 [.string (zB 64)] (by rfl) (by rfl) (by
                intro q u hq
                rw [add_plain]
                exact (Bk.at (w := z12) rfl).cell q |>.trans (by simpa using hq)) (by intro u hu; simp at hu; subst hu; rfl) (by decide) (by unfold maxLen; omega) (by omega) (by have := HLn.out.ext.size; rw [World.size_alloc]; omega) _ rfl ?_
            intro g2 cap2 w2 hown hgrow hat hlg
            rw [← zrow_push] at hown
            have HG := Lib.hid (HLn.out.grow1 hgrow hown (by rcases hat with e | e; exact .inl e.symm; exact .inr (by rw [e]; rfl)))
            clear hown hgrow hat hlg
            refine hK.out _ _ trivial (fun hHeld => ?_)
            clear hK KK
            try simp only [Act.put, List.getElem_toArray, List.getElem_cons_succ, List.getElem_cons_zero, List.setIfInBounds_toArray, List.set_cons_zero, List.set_cons_succ]
            refine wpAnyH_take (i := 8) (v := ?_) rfl (by kernel_rfl) (by kernel_rfl) (by kernel_rfl) (fun _ _ _ h => h) (Or.inl ⟨by kernel_rfl, ?_⟩) hHeld ?_
            rotate_left
            · intro w hSw
              (try dsimp only at hSw)
              go_split_ands
              go_simp
              (try with_reducible rfl)
            try simp only [Act.put, List.getElem_toArray, List.getElem_cons_succ, List.getElem_cons_zero, List.setIfInBounds_toArray, List.set_cons_zero, List.set_cons_succ]
            refine wpAnyH_take (i := 9) (v := ?_) rfl (by kernel_rfl) (by kernel_rfl) (by kernel_rfl) (fun _ _ _ h => h) (Or.inl ⟨by kernel_rfl, ?_⟩) hHeld ?_
            rotate_left
            · intro w hSw
              (try dsimp only at hSw)
              go_split_ands
              go_simp
              (try with_reducible rfl)
            try simp only [Act.put, List.getElem_toArray, List.getElem_cons_succ, List.getElem_cons_zero, List.setIfInBounds_toArray, List.set_cons_zero, List.set_cons_succ]
            refine wpAnyH_ready (rs := [10]) (by kernel_rfl) (by simp) ?_
            refine AllReadyH.cons rfl (fun KK hK => ?_) AllReadyH.nil
            clear hHeld
            have q0 := HG.out.2.cell 1
            have f0 := HG.out.2.frozen 1
            go_simp
            refine hK.out _ _ trivial (fun hHeld => ?_)
            clear hK KK q0 f0
            try simp only [Act.put, List.getElem_toArray, List.getElem_cons_succ, List.getElem_cons_zero, List.setIfInBounds_toArray, List.set_cons_zero, List.set_cons_succ]
            refine wpAnyH_done (by kernel_rfl) ?_ _
            clear hHeld
            have wi : ∀ z, z = (i : Int) + 1 → IntKind.i64.wrap z = z := by rintro _ rfl; rw [IntKind.wrap_i64]; omega
            go_wp2_with fail
            go_roundw
            case rel => exact ⟨i + 1, _, _, by omega, by go_num, Lib.hid HG.out.1⟩
            case measure => simp [intOf]; omega
    · obtain rfl : i = n := by omega
      go_wp2_with fail
      go_ret
      obtain ⟨g0, c0, rfl, _, l0⟩ := ownsRow_some H.out.r0 (by omega)
      obtain ⟨g1, c1, rfl, _, l1⟩ := ownsRow_some H.out.r1 (by omega)
      have a0 := (H.out.r0.lt g0 rfl).1
      have a1 := (H.out.r1.lt g1 rfl).1
      have a2 := H.out.ge
      have a3 := H.out.bk.lt
      have n0 : g0 ≠ d := fun e => H.out.n0 (by rw [e]; rfl)
      have n1 : g1 ≠ d := fun e => H.out.n1 (by rw [e]; rfl)
      have n2 : g0 ≠ g1 := fun e => H.out.n01 g0 rfl (by rw [e]; rfl)
      exact ⟨⟨d, rfl, ⟨g0, c0, g1, c1, .slice none 0 0, ⟨H.out.bk, Sr.of_own H.out.r0, Sr.of_own H.out.r1, World.ownsRow_nil _ _ _ _, ⟨a2, a3⟩, ⟨a0, l0⟩, ⟨a1, l1⟩, (fun b hb => by cases hb), n0.symm, n1.symm, n2, l0, l1⟩⟩, Dk.Ok.new i, fun k q => q.2, hn⟩, H.out.ext⟩
end Go.Proofs.YtheidjagcafgnaaDoor
namespace Go.Proofs.YtheidjagcafgnaaDoor
open Go.RowKit
set_option maxRecDepth 100000
set_option linter.unusedSimpArgs false in
set_option maxHeartbeats 4000000 in
theorem alike_any (d d2 n b b2 : Nat) (m : Dk.DM) (S S2 : Nat → Prop) (w : World) (E : Nat → Addr) (hE : ErD w E) (h : DS w S d n m b) (h2 : KS w S2 d2 n m b2) :
    Calls Tryd.prog 17 #[.pointer (some ⟨d, 0, none⟩), .pointer (some ⟨d2, 0, none⟩)] w fun e w' => e = .returned (.bool true) ∧ Ext w w' := by
  obtain ⟨gk, ck, gn, cn, vw, hx⟩ := h2.ex
  obtain ⟨vx, vc, rfl, _, _⟩ := own_form hx.wt
  have HE := Lib.hid hE
  have HD := Lib.hid h
  have HX := Lib.hid hx
  have hn := h.n1
  obtain ⟨ln, hln⟩ : ∃ ln, m.ws.length = ln := ⟨_, rfl⟩
  have DR : Ext w w.drew := Below.drew (Ext.refl w)
  have HS := Lib.hid (sectors_any d n b m S w.drew (h.ext DR))
  have hwt := waiting_any d n b m S w.drew (h.ext DR)
  rw [hln] at hwt
  have HW := Lib.hid hwt
  have k1 := hx.bk.cell 1
  have k2 := hx.bk.cell 2
  rw [hln] at k2
  have e1 : ((n : Int) == (n : Int)) = true := beq_self_eq_true _
  have e2 : ((ln : Int) == (ln : Int)) = true := beq_self_eq_true _
  clear hx h h2 hE hwt hln
  go_enter Tryd.func17, Tryd.ntmps17
  go_upto_region 1 with fail
  refine wp_region_still_tail 17 (by kernel_rfl) (by kernel_rfl) ?_
  simp only [List.take_succ_cons, List.take_zero, List.drop_succ_cons, List.drop_zero]
  repeat still_step
  still_call (HS.out)
  repeat still_step
  still_call (HW.out)
  repeat still_step
  refine wpStill_nil ?_
  change wpList _ _ _ _ _ w.drew
  clear k1 k2 e1 e2 HS HW
  go_wp2_with fail
  go_loopw [5] (fun cc wr => ∃ i : Nat, i ≤ n ∧ cc = .int .i64 (i : Int) ∧ Hid (Ext w wr)) (fun cc _ => n - (intOf cc).toNat)
  case atStart => exact ⟨0, by omega, rfl, Lib.hid DR⟩
  case round =>
    clear DR
    obtain ⟨i, hi, rfl, X⟩ := hrel
    have k1 := (HX.out.ext X.out).bk.cell 1
    by_cases hlt : i < n
    · have ht : (i : Int) < (n : Int) := by omega
      have wi : ∀ z, z = (i : Int) + 1 → IntKind.i64.wrap z = z := by rintro _ rfl; rw [IntKind.wrap_i64]; omega
      go_wp2_with fail
      clear k1
      refine (read_any d n b m (i : Int) S wr E (HE.out.ext X.out) (HD.out.ext X.out)).mono ?_
      rintro e w5 ⟨h, hX⟩
      obtain rfl : e = .returned (.tuple #[.string (m.now i), .nilIface]) := by
        rcases h with ⟨h, _⟩ | ⟨k, h1, h2, rfl⟩
        · exfalso; omega
        · obtain rfl : i = k := by omega
          rfl
      have X5 := Lib.hid (X.out.trans hX)
      clear h hX
      have k1 := (HX.out.ext X5.out).bk.cell 1
      obtain ⟨s0, _⟩ := (HX.out.ext X5.out).ns i hlt
      obtain ⟨x, hx⟩ : ∃ x, m.now i = x := ⟨_, rfl⟩
      simp only [hx] at s0
      rw [hx]
      have e1 : (x.toList == x.toList) = true := beq_self_eq_true _
      clear hx
      go_wp2_with fail
      go_roundw
      case rel => exact ⟨i + 1, by omega, by go_num, X5⟩
      case measure => simp [intOf]; omega
    · obtain rfl : i = n := by omega
      go_wp2_with fail
      go_ret
      exact ⟨rfl, X.out⟩
end Go.Proofs.YtheidjagcafgnaaDoor
namespace Go.Proofs.YtheidjagcafgnaaDoor
open Go.RowKit
set_option maxRecDepth 100000
def KI (n : Nat) (was : Nat → ByteArray) (tb : Nat → Bool) (m : Dk.DM) : Prop := ∀ i, i < n → tb i = false → m.kept i = was i ∧ m.now i = was i ∧ ∀ p ∈ m.ws, p.1 ≠ i
def touch (a : Ac) (tb : Nat → Bool) (i : Nat) : Bool := if a.kind = kWrite ∧ a.n = (i : Int) then true else tb i
theorem crk_ne {keep : Nat → Bool} {ws : List (Nat × ByteArray)} {f : Nat → ByteArray} {i : Nat} (h : ∀ p ∈ ws, p.1 ≠ i) : ∀ k, Dk.crk keep ws f k i = f i := by
  intro k
  induction k with
  | zero => rfl
  | succ k ih =>
    simp only [Dk.crk]
    cases hp : ws[k]? with
    | none => exact ih
    | some p =>
      simp only
      split
      · unfold Dk.upS
        rw [if_neg (fun e => h p (List.mem_of_getElem? hp) e.symm)]
        exact ih
      · exact ih
theorem KI.start {n : Nat} {m : Dk.DM} : KI n m.now (fun _ => false) (Dk.fl m) := fun i _ _ => ⟨rfl, rfl, fun p hp => by cases hp⟩
theorem KI.cr {n : Nat} {was : Nat → ByteArray} {tb : Nat → Bool} {m : Dk.DM} (h : KI n was tb m) (keep : Nat → Bool) : KI n was tb (Dk.cr m keep) := by
  intro i hi ht
  obtain ⟨h1, h2, h3⟩ := h i hi ht
  have e : Dk.crk keep m.ws m.kept m.ws.length i = was i := (crk_ne h3 _).trans h1
  exact ⟨e, e, fun p hp => by cases hp⟩
theorem KI.act {n : Nat} {was : Nat → ByteArray} {tb : Nat → Bool} {m : Dk.DM} (h : KI n was tb m) (a : Ac) : KI n was (touch a tb) (doA n a m).1 := by
  intro i hi ht
  have ht0 : ¬ (a.kind = kWrite ∧ a.n = (i : Int)) ∧ tb i = false := by
    unfold touch at ht
    split at ht
    · cases ht
    · exact ⟨by assumption, ht⟩
  obtain ⟨hn, ht⟩ := ht0
  obtain ⟨h1, h2, h3⟩ := h i hi ht
  unfold doA
  split
  · rename_i hk
    split
    · exact ⟨h1, h2, h3⟩
    split
    · exact ⟨h1, h2, h3⟩
    split
    · exact ⟨h1, h2, h3⟩
    · have hne : a.n.toNat ≠ i := fun e => hn ⟨hk, by omega⟩
      refine ⟨h1, ?_, fun p hp => ?_⟩
      · show Dk.upS m.now a.n.toNat _ i = _
        unfold Dk.upS; rw [if_neg (fun e => hne e.symm)]; exact h2
      · have hp' : p ∈ m.ws ++ [(a.n.toNat, Dk.pad a.s)] := hp
        simp only [List.mem_append, List.mem_singleton] at hp'
        rcases hp' with q | rfl
        · exact h3 p q
        · exact hne
  split
  · split
    · exact ⟨h1, h2, h3⟩
    · exact ⟨h2, h2, fun p hp => by cases hp⟩
  split
  · split
    · exact ⟨h1, h2, h3⟩
    · exact ⟨h1, h2, h3⟩
  split
  · exact (h.cr _) i hi ht
  · exact ⟨h1, h2, h3⟩
end Go.Proofs.YtheidjagcafgnaaDoor
