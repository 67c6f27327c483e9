/-
  layercakelaw4.act.
  What was flushed stays: the plain law. No function of the program is named.
  DiskKeeps' walk.
  Arguments and package variables, opened to cells: slices of records, sentinels of errors.
  Arguments that are rows of acts, and rows of bools, opened.
-/
import Derived.Test.YtheidjagcafgnaaDoorDiskKeepsG2
import Derived.Deep.RegionHeld3
import Derived.Test.YtheidjagcafgnaaDoorDiskKeepsG1
import Derived.Deep.Fields
import Derived.Stop.LaidErr
import Derived.LaidSub
import Derived.ProofKit
import Derived.OpenShut
import Derived.Deep.Grids
import Derived.Lib.SmallJoins
namespace Go.Proofs.YtheidjagcafgnaaDoor
open Go.RowKit
set_option maxRecDepth 100000
theorem After.up {S : Nat → Prop} {w w' : World} {d n b c : Nat} {m : Dk.DM} (h : After S w w' d n m b) (hc : b ≤ c) : After S w w' d n m c := ⟨h.1.up hc, h.2⟩
theorem After.pre {S : Nat → Prop} {w w1 w' : World} {d n b : Nat} {m : Dk.DM} (hE : Ext w w1) (h : After S w1 w' d n m b) : After S w w' d n m b := by
  obtain ⟨h1, h2⟩ := h
  obtain ⟨gk, ck, gn, cn, vw, hx⟩ := h1.ex
  have e := hE.size
  refine ⟨⟨⟨gk, ck, gn, cn, vw, hx.mono fun k q => ?_⟩, h1.ok, fun k q => ?_, h1.n1⟩, (hE.keeps (S := S)).trans h2 (fun _ _ q => q)⟩
  · rcases q with q | q
    · exact .inl q
    · exact .inr ⟨by omega, q.2⟩
  · rcases q with q | q
    · exact h1.lt k (.inl q)
    · exact q.2
theorem kno {s : ByteArray} {l : List UInt8} (h : s ≠ ⟨l.toArray⟩) : (s.toList == l) = false := by
  rw [ByteArray.toList_eq]
  refine beq_eq_false_iff_ne.2 (fun e => h ?_)
  have : s.data = l.toArray := by rw [← e]
  cases s
  simp only at this
  rw [this]
theorem kyes (l : List UInt8) : ((⟨l.toArray⟩ : ByteArray).toList == l) = true := by rw [ByteArray.toList_eq]; simp
theorem boolinf : (Tryd.prog.info? 4).map (fun i => (i.zero, i.size, i.bytes)) = some (some (.bool false), 1, 1) := by kernel_rfl
def boolsV (n : Nat) (kb : Nat → Bool) : List Value := (List.range n).map fun i => .bool (kb i)
theorem boolsV_length (n : Nat) (kb : Nat → Bool) : (boolsV n kb).length = n := by simp [boolsV]
theorem boolsV_get {n : Nat} {kb : Nat → Bool} {j : Nat} (hj : j < n) : (boolsV n kb)[j]? = some (.bool (kb j)) := by simp [boolsV, hj]
set_option linter.unusedSimpArgs false in
theorem act_write (d n b : Nat) (m : Dk.DM) (a : Ac) (S : Nat → Prop) (w : World) (E : Nat → Addr) (hE : ErD w E) (h : DS w S d n m b) (hb : b ≤ 4000) (hk : a.kind = kWrite) :
    Calls Tryd.prog 9 #[.pointer (some ⟨d, 0, none⟩), acV a] w fun e w' => e = .returned (erV E (doA n a m).2) ∧ After S w w' d n (doA n a m).1 (b + 1) := by
  obtain ⟨kind, an, s, kx, kn, kc, kb⟩ := a
  have HBB := Lib.hid hb
  simp only at hk
  subst hk
  have t_write : (kWrite.toList == [119, 114, 105, 116, 101]) = true := kyes [119, 114, 105, 116, 101]
  unfold acV
  have HD := Lib.hid h
  have HE := Lib.hid hE
  clear h hE
  by_cases h1 : an < 0 ∨ (n : Int) ≤ an
  · have HR : Hid (doA n ⟨kWrite, an, s, kx, kn, kc, kb⟩ m = (m, 2)) := Lib.hid (by unfold doA; simp only; rw [if_pos trivial, if_pos h1])
    go_enter Tryd.func9, Tryd.ntmps9
    go_wp2_with fail
    refine calls_world (fun wz => Ext w wz ∧ wz.heap.size = w.heap.size + 1 ∧ Bk wz (w.heap.size) #[.string kWrite, .int .i64 an, .string s, .slice kx kn kc]) ⟨by repeat (first | exact Ext.refl _ | refine Ext.alloc ?_ _), by simp, by repeat (first | exact Bk.at (by simp) | refine Bk.old ?_)⟩ ?_
    rintro w1 ⟨hX, hZ, hB0⟩
    have D1 := Lib.hid (HD.out.ext hX)
    have X1 := Lib.hid hX
    have B1 := Lib.hid hB0
    have Z1 := Lib.hid hZ
    clear hX hZ hB0
    refine (write_bound d n b m an s S w1 E (HE.out.ext X1.out) D1.out h1).mono ?_
    rintro e w2 ⟨rfl, rfl⟩
    go_wp2_with fail
    go_ret
    exact ⟨by rw [HR.out]; rfl, by rw [HR.out]; exact (After.same (D1.out.up (Nat.le_succ b)) (X1.out.keeps (S := S)))⟩
  · obtain ⟨i, rfl⟩ : ∃ i : Nat, an = i := ⟨an.toNat, by omega⟩
    have hi : i < n := by omega
    by_cases h2 : 64 < s.size
    · have HR : Hid (doA n ⟨kWrite, (i : Int), s, kx, kn, kc, kb⟩ m = (m, 3)) := Lib.hid (by unfold doA; simp only; rw [if_pos trivial, if_neg h1, if_pos h2])
      go_enter Tryd.func9, Tryd.ntmps9
      go_wp2_with fail
      refine calls_world (fun wz => Ext w wz ∧ wz.heap.size = w.heap.size + 1 ∧ Bk wz (w.heap.size) #[.string kWrite, .int .i64 (i : Int), .string s, .slice kx kn kc]) ⟨by repeat (first | exact Ext.refl _ | refine Ext.alloc ?_ _), by simp, by repeat (first | exact Bk.at (by simp) | refine Bk.old ?_)⟩ ?_
      rintro w1 ⟨hX, hZ, hB0⟩
      have D1 := Lib.hid (HD.out.ext hX)
      have X1 := Lib.hid hX
      have B1 := Lib.hid hB0
      have Z1 := Lib.hid hZ
      clear hX hZ hB0
      refine (write_shape d n b i m s S w1 E (HE.out.ext X1.out) D1.out hi h2).mono ?_
      rintro e w2 ⟨rfl, rfl⟩
      go_wp2_with fail
      go_ret
      exact ⟨by rw [HR.out]; rfl, by rw [HR.out]; exact (After.same (D1.out.up (Nat.le_succ b)) (X1.out.keeps (S := S)))⟩
    · by_cases h3 : m.left = 0
      · have HR : Hid (doA n ⟨kWrite, (i : Int), s, kx, kn, kc, kb⟩ m = (m, 9)) := Lib.hid (by unfold doA; simp only; rw [if_pos trivial, if_neg h1, if_neg h2, if_pos h3])
        go_enter Tryd.func9, Tryd.ntmps9
        go_wp2_with fail
        refine calls_world (fun wz => Ext w wz ∧ wz.heap.size = w.heap.size + 1 ∧ Bk wz (w.heap.size) #[.string kWrite, .int .i64 (i : Int), .string s, .slice kx kn kc]) ⟨by repeat (first | exact Ext.refl _ | refine Ext.alloc ?_ _), by simp, by repeat (first | exact Bk.at (by simp) | refine Bk.old ?_)⟩ ?_
        rintro w1 ⟨hX, hZ, hB0⟩
        have D1 := Lib.hid (HD.out.ext hX)
        have X1 := Lib.hid hX
        have B1 := Lib.hid hB0
        have Z1 := Lib.hid hZ
        clear hX hZ hB0
        refine (write_power d n b i m s S w1 E (HE.out.ext X1.out) D1.out hi (by omega) h3).mono ?_
        rintro e w2 ⟨rfl, rfl⟩
        go_wp2_with fail
        go_ret
        exact ⟨by rw [HR.out]; rfl, by rw [HR.out]; exact (After.same (D1.out.up (Nat.le_succ b)) (X1.out.keeps (S := S)))⟩
      · have HR : Hid (doA n ⟨kWrite, (i : Int), s, kx, kn, kc, kb⟩ m = (Dk.wr m i (Dk.pad s), 0)) := Lib.hid (by unfold doA; simp only; rw [if_pos trivial, if_neg h1, if_neg h2, if_neg h3, Int.toNat_natCast])
        go_enter Tryd.func9, Tryd.ntmps9
        go_wp2_with fail
        refine calls_world (fun wz => Ext w wz ∧ wz.heap.size = w.heap.size + 1 ∧ Bk wz (w.heap.size) #[.string kWrite, .int .i64 (i : Int), .string s, .slice kx kn kc]) ⟨by repeat (first | exact Ext.refl _ | refine Ext.alloc ?_ _), by simp, by repeat (first | exact Bk.at (by simp) | refine Bk.old ?_)⟩ ?_
        rintro w1 ⟨hX, hZ, hB0⟩
        have D1 := Lib.hid (HD.out.ext hX)
        have X1 := Lib.hid hX
        have B1 := Lib.hid hB0
        have Z1 := Lib.hid hZ
        clear hX hZ hB0
        refine (write_ok d n b i m s S w1 D1.out hi (by omega) h3 (by omega)).mono ?_
        rintro e w2 ⟨rfl, hA⟩
        have HA := Lib.hid hA
        clear hA
        go_wp2_with fail
        go_ret
        exact ⟨by rw [HR.out]; rfl, by rw [HR.out]; exact After.pre X1.out HA.out⟩
set_option linter.unusedSimpArgs false in
theorem act_flush (d n b : Nat) (m : Dk.DM) (a : Ac) (S : Nat → Prop) (w : World) (E : Nat → Addr) (hE : ErD w E) (h : DS w S d n m b) (hb : b ≤ 4000) (hk : a.kind = kFlush) :
    Calls Tryd.prog 9 #[.pointer (some ⟨d, 0, none⟩), acV a] w fun e w' => e = .returned (erV E (doA n a m).2) ∧ After S w w' d n (doA n a m).1 (b + 1) := by
  obtain ⟨kind, an, s, kx, kn, kc, kb⟩ := a
  have HBB := Lib.hid hb
  simp only at hk
  subst hk
  have t_write : (kFlush.toList == [119, 114, 105, 116, 101]) = false := kno (by decide)
  have t_flush : (kFlush.toList == [102, 108, 117, 115, 104]) = true := kyes [102, 108, 117, 115, 104]
  unfold acV
  have HD := Lib.hid h
  have HE := Lib.hid hE
  clear h hE
  by_cases h3 : m.left = 0
  · have HR : Hid (doA n ⟨kFlush, an, s, kx, kn, kc, kb⟩ m = (m, 9)) := Lib.hid (by unfold doA; simp only; rw [if_neg (by decide), if_pos trivial, if_pos h3])
    go_enter Tryd.func9, Tryd.ntmps9
    go_wp2_with fail
    refine calls_world (fun wz => Ext w wz ∧ wz.heap.size = w.heap.size + 1 ∧ Bk wz (w.heap.size) #[.string kFlush, .int .i64 an, .string s, .slice kx kn kc]) ⟨by repeat (first | exact Ext.refl _ | refine Ext.alloc ?_ _), by simp, by repeat (first | exact Bk.at (by simp) | refine Bk.old ?_)⟩ ?_
    rintro w1 ⟨hX, hZ, hB0⟩
    have D1 := Lib.hid (HD.out.ext hX)
    have X1 := Lib.hid hX
    have B1 := Lib.hid hB0
    have Z1 := Lib.hid hZ
    clear hX hZ hB0
    refine (flush_power d n b m S w1 E (HE.out.ext X1.out) D1.out h3).mono ?_
    rintro e w2 ⟨rfl, rfl⟩
    go_wp2_with fail
    go_ret
    exact ⟨by rw [HR.out]; rfl, by rw [HR.out]; exact (After.same (D1.out.up (Nat.le_succ b)) (X1.out.keeps (S := S)))⟩
  · have HR : Hid (doA n ⟨kFlush, an, s, kx, kn, kc, kb⟩ m = (Dk.fl m, 0)) := Lib.hid (by unfold doA; simp only; rw [if_neg (by decide), if_pos trivial, if_neg h3])
    go_enter Tryd.func9, Tryd.ntmps9
    go_wp2_with fail
    refine calls_world (fun wz => Ext w wz ∧ wz.heap.size = w.heap.size + 1 ∧ Bk wz (w.heap.size) #[.string kFlush, .int .i64 an, .string s, .slice kx kn kc]) ⟨by repeat (first | exact Ext.refl _ | refine Ext.alloc ?_ _), by simp, by repeat (first | exact Bk.at (by simp) | refine Bk.old ?_)⟩ ?_
    rintro w1 ⟨hX, hZ, hB0⟩
    have D1 := Lib.hid (HD.out.ext hX)
    have X1 := Lib.hid hX
    have B1 := Lib.hid hB0
    have Z1 := Lib.hid hZ
    clear hX hZ hB0
    refine (flush_ok d n b m S w1 D1.out h3).mono ?_
    rintro e w2 ⟨rfl, hA⟩
    have HA := Lib.hid hA
    clear hA
    go_wp2_with fail
    go_ret
    exact ⟨by rw [HR.out]; rfl, by rw [HR.out]; exact After.pre X1.out (HA.out.up (Nat.le_succ b))⟩
set_option linter.unusedSimpArgs false in
theorem act_fail (d n b : Nat) (m : Dk.DM) (a : Ac) (S : Nat → Prop) (w : World) (E : Nat → Addr) (hE : ErD w E) (h : DS w S d n m b) (hb : b ≤ 4000) (hk : a.kind = kFail) (hbn : -9223372036854775808 ≤ a.n ∧ a.n ≤ 9223372036854775807) :
    Calls Tryd.prog 9 #[.pointer (some ⟨d, 0, none⟩), acV a] w fun e w' => e = .returned (erV E (doA n a m).2) ∧ After S w w' d n (doA n a m).1 (b + 1) := by
  obtain ⟨kind, an, s, kx, kn, kc, kb⟩ := a
  have HBB := Lib.hid hb
  simp only at hk
  subst hk
  have t_write : (kFail.toList == [119, 114, 105, 116, 101]) = false := kno (by decide)
  have t_flush : (kFail.toList == [102, 108, 117, 115, 104]) = false := kno (by decide)
  have t_fail : (kFail.toList == [102, 97, 105, 108]) = true := kyes [102, 97, 105, 108]
  unfold acV
  have HD := Lib.hid h
  have HE := Lib.hid hE
  clear h hE
  have hbn_ := Lib.hid hbn
  clear hbn
  by_cases h1 : an < 0
  · have HR : Hid (doA n ⟨kFail, an, s, kx, kn, kc, kb⟩ m = (m, 2)) := Lib.hid (by unfold doA; simp only; rw [if_neg (by decide), if_neg (by decide), if_pos trivial, if_pos h1])
    go_enter Tryd.func9, Tryd.ntmps9
    go_upto_region 7 with fail
    refine wp_world (fun wz => Ext w wz ∧ wz.heap.size = w.heap.size + 1 ∧ Bk wz (w.heap.size) #[.string kFail, .int .i64 an, .string s, .slice kx kn kc]) ⟨by repeat (first | exact Ext.refl _ | refine Ext.alloc ?_ _), by simp, by repeat (first | exact Bk.at (by simp) | refine Bk.old ?_)⟩ ?_
    rintro w1 ⟨hX, hZ, hB0⟩
    have D1 := Lib.hid (HD.out.ext hX)
    have X1 := Lib.hid hX
    have B1 := Lib.hid hB0
    have Z1 := Lib.hid hZ
    clear hX hZ hB0
    refine wp_region_held_drew (S := fun w' => w'.cell? ⟨w.heap.size, 1, none⟩ = some (.int .i64 an)) (by kernel_rfl) (B1.out.cell 1) (fun hHeld => ?_)
    refine wpAnyH_take (i := 0) (v := ?_) rfl (by kernel_rfl) (by kernel_rfl) (by kernel_rfl) (fun _ _ _ h => h) (Or.inl ⟨by kernel_rfl, ?_⟩) hHeld ?_
    rotate_left
    · intro w hSw
      (try dsimp only at hSw)
      go_split_ands
      go_simp
      (try with_reducible rfl)
    try simp only [Act.put, List.getElem_toArray, List.getElem_cons_succ, List.getElem_cons_zero, List.setIfInBounds_toArray, List.set_cons_zero, List.set_cons_succ]
    refine wpAnyH_take (i := 1) (v := ?_) rfl (by kernel_rfl) (by kernel_rfl) (by kernel_rfl) (fun _ _ _ h => h) (Or.inl ⟨by kernel_rfl, ?_⟩) hHeld ?_
    rotate_left
    · intro w hSw
      (try dsimp only at hSw)
      go_split_ands
      go_simp
      (try with_reducible rfl)
    try simp only [Act.put, List.getElem_toArray, List.getElem_cons_succ, List.getElem_cons_zero, List.setIfInBounds_toArray, List.set_cons_zero, List.set_cons_succ]
    refine wpAnyH_take (i := 2) (v := ?_) rfl (by kernel_rfl) (by kernel_rfl) (by kernel_rfl) (fun _ _ _ h => h) (Or.inl ⟨by kernel_rfl, ?_⟩) hHeld ?_
    rotate_left
    · intro w hSw
      (try dsimp only at hSw)
      go_split_ands
      go_simp
      (try with_reducible rfl)
    try simp only [Act.put, List.getElem_toArray, List.getElem_cons_succ, List.getElem_cons_zero, List.setIfInBounds_toArray, List.set_cons_zero, List.set_cons_succ]
    refine wpAnyH_take (i := 3) (v := ?_) rfl (by kernel_rfl) (by kernel_rfl) (by kernel_rfl) (fun _ _ _ h => h) (Or.inl ⟨by kernel_rfl, ?_⟩) hHeld ?_
    rotate_left
    · intro w hSw
      (try dsimp only at hSw)
      go_split_ands
      go_simp
      (try with_reducible rfl)
    try simp only [Act.put, List.getElem_toArray, List.getElem_cons_succ, List.getElem_cons_zero, List.setIfInBounds_toArray, List.set_cons_zero, List.set_cons_succ]
    refine wpAnyH_take (i := 4) (v := ?_) rfl (by kernel_rfl) (by kernel_rfl) (by kernel_rfl) (fun _ _ _ h => h) (Or.inl ⟨by kernel_rfl, ?_⟩) hHeld ?_
    rotate_left
    · intro w hSw
      (try dsimp only at hSw)
      go_split_ands
      go_simp
      (try with_reducible rfl)
    try simp only [Act.put, List.getElem_toArray, List.getElem_cons_succ, List.getElem_cons_zero, List.setIfInBounds_toArray, List.set_cons_zero, List.set_cons_succ]
    refine wpAnyH_ready (rs := [5]) (by kernel_rfl) (by simp) ?_
    refine AllReadyH.cons rfl (fun KK hK => ?_) AllReadyH.nil
    clear hHeld
    go_simp
    refine (fail_bad d an w1.drew E ((HE.out.ext X1.out).ext (show Ext w1 w1.drew from Below.drew (Ext.refl w1))) h1).mono ?_
    rintro e w5 ⟨rfl, rfl⟩
    have BH := Lib.hid ((B1.out.ext (show Ext w1 w1.drew from Below.drew (Ext.refl w1))).cell 1)
    go_simp
    refine hK.out _ _ BH.out (fun hHeld => ?_)
    clear hK KK
    try simp only [Act.put, List.getElem_toArray, List.getElem_cons_succ, List.getElem_cons_zero, List.setIfInBounds_toArray, List.set_cons_zero, List.set_cons_succ]
    refine wpAnyH_take (i := 6) (v := ?_) rfl (by kernel_rfl) (by kernel_rfl) (by kernel_rfl) (fun _ _ _ h => h) (Or.inl ⟨by kernel_rfl, ?_⟩) hHeld ?_
    rotate_left
    · intro w hSw
      (try dsimp only at hSw)
      go_split_ands
      go_simp
      (try with_reducible rfl)
    try simp only [Act.put, List.getElem_toArray, List.getElem_cons_succ, List.getElem_cons_zero, List.setIfInBounds_toArray, List.set_cons_zero, List.set_cons_succ]
    refine wpAnyH_done (by kernel_rfl) ?_ _
    clear hHeld
    go_wp2_with fail
    go_ret
    exact ⟨by rw [HR.out]; rfl, by rw [HR.out]; exact (After.same ((D1.out.ext (show Ext w1 w1.drew from Below.drew (Ext.refl w1))).up (Nat.le_succ b)) ((X1.out.trans (show Ext w1 w1.drew from Below.drew (Ext.refl w1))).keeps (S := S)))⟩
  · have HR : Hid (doA n ⟨kFail, an, s, kx, kn, kc, kb⟩ m = ({ m with left := an }, 0)) := Lib.hid (by unfold doA; simp only; rw [if_neg (by decide), if_neg (by decide), if_pos trivial, if_neg h1])
    go_enter Tryd.func9, Tryd.ntmps9
    go_upto_region 7 with fail
    refine wp_world (fun wz => Ext w wz ∧ wz.heap.size = w.heap.size + 1 ∧ Bk wz (w.heap.size) #[.string kFail, .int .i64 an, .string s, .slice kx kn kc]) ⟨by repeat (first | exact Ext.refl _ | refine Ext.alloc ?_ _), by simp, by repeat (first | exact Bk.at (by simp) | refine Bk.old ?_)⟩ ?_
    rintro w1 ⟨hX, hZ, hB0⟩
    have D1 := Lib.hid (HD.out.ext hX)
    have X1 := Lib.hid hX
    have B1 := Lib.hid hB0
    have Z1 := Lib.hid hZ
    clear hX hZ hB0
    refine wp_region_held_drew (S := fun w' => w'.cell? ⟨w.heap.size, 1, none⟩ = some (.int .i64 an)) (by kernel_rfl) (B1.out.cell 1) (fun hHeld => ?_)
    refine wpAnyH_take (i := 0) (v := ?_) rfl (by kernel_rfl) (by kernel_rfl) (by kernel_rfl) (fun _ _ _ h => h) (Or.inl ⟨by kernel_rfl, ?_⟩) hHeld ?_
    rotate_left
    · intro w hSw
      (try dsimp only at hSw)
      go_split_ands
      go_simp
      (try with_reducible rfl)
    try simp only [Act.put, List.getElem_toArray, List.getElem_cons_succ, List.getElem_cons_zero, List.setIfInBounds_toArray, List.set_cons_zero, List.set_cons_succ]
    refine wpAnyH_take (i := 1) (v := ?_) rfl (by kernel_rfl) (by kernel_rfl) (by kernel_rfl) (fun _ _ _ h => h) (Or.inl ⟨by kernel_rfl, ?_⟩) hHeld ?_
    rotate_left
    · intro w hSw
      (try dsimp only at hSw)
      go_split_ands
      go_simp
      (try with_reducible rfl)
    try simp only [Act.put, List.getElem_toArray, List.getElem_cons_succ, List.getElem_cons_zero, List.setIfInBounds_toArray, List.set_cons_zero, List.set_cons_succ]
    refine wpAnyH_take (i := 2) (v := ?_) rfl (by kernel_rfl) (by kernel_rfl) (by kernel_rfl) (fun _ _ _ h => h) (Or.inl ⟨by kernel_rfl, ?_⟩) hHeld ?_
    rotate_left
    · intro w hSw
      (try dsimp only at hSw)
      go_split_ands
      go_simp
      (try with_reducible rfl)
    try simp only [Act.put, List.getElem_toArray, List.getElem_cons_succ, List.getElem_cons_zero, List.setIfInBounds_toArray, List.set_cons_zero, List.set_cons_succ]
    refine wpAnyH_take (i := 3) (v := ?_) rfl (by kernel_rfl) (by kernel_rfl) (by kernel_rfl) (fun _ _ _ h => h) (Or.inl ⟨by kernel_rfl, ?_⟩) hHeld ?_
    rotate_left
    · intro w hSw
      (try dsimp only at hSw)
      go_split_ands
      go_simp
      (try with_reducible rfl)
    try simp only [Act.put, List.getElem_toArray, List.getElem_cons_succ, List.getElem_cons_zero, List.setIfInBounds_toArray, List.set_cons_zero, List.set_cons_succ]
    refine wpAnyH_take (i := 4) (v := ?_) rfl (by kernel_rfl) (by kernel_rfl) (by kernel_rfl) (fun _ _ _ h => h) (Or.inl ⟨by kernel_rfl, ?_⟩) hHeld ?_
    rotate_left
    · intro w hSw
      (try dsimp only at hSw)
      go_split_ands
      go_simp
      (try with_reducible rfl)
    try simp only [Act.put, List.getElem_toArray, List.getElem_cons_succ, List.getElem_cons_zero, List.setIfInBounds_toArray, List.set_cons_zero, List.set_cons_succ]
    refine wpAnyH_ready (rs := [5]) (by kernel_rfl) (by simp) ?_
    refine AllReadyH.cons rfl (fun KK hK => ?_) AllReadyH.nil
    clear hHeld
    go_simp
    refine (dfail_any d n b m an S w1.drew (D1.out.ext (show Ext w1 w1.drew from Below.drew (Ext.refl w1))) (by omega) hbn_.out.2).mono ?_
    rintro e w5 ⟨rfl, hA⟩
    have HA := Lib.hid hA
    clear hA
    have BH := Lib.hid (((B1.out.ext (show Ext w1 w1.drew from Below.drew (Ext.refl w1))).keeps HA.out.2 (fun q => by have h1 := HD.out.lt _ q; omega)).cell 1)
    go_simp
    refine hK.out _ _ BH.out (fun hHeld => ?_)
    clear hK KK
    try simp only [Act.put, List.getElem_toArray, List.getElem_cons_succ, List.getElem_cons_zero, List.setIfInBounds_toArray, List.set_cons_zero, List.set_cons_succ]
    refine wpAnyH_take (i := 6) (v := ?_) rfl (by kernel_rfl) (by kernel_rfl) (by kernel_rfl) (fun _ _ _ h => h) (Or.inl ⟨by kernel_rfl, ?_⟩) hHeld ?_
    rotate_left
    · intro w hSw
      (try dsimp only at hSw)
      go_split_ands
      go_simp
      (try with_reducible rfl)
    try simp only [Act.put, List.getElem_toArray, List.getElem_cons_succ, List.getElem_cons_zero, List.setIfInBounds_toArray, List.set_cons_zero, List.set_cons_succ]
    refine wpAnyH_done (by kernel_rfl) ?_ _
    clear hHeld
    go_wp2_with fail
    go_ret
    exact ⟨by rw [HR.out]; rfl, by rw [HR.out]; exact After.pre (X1.out.trans (show Ext w1 w1.drew from Below.drew (Ext.refl w1))) (HA.out.up (Nat.le_succ b))⟩
set_option linter.unusedSimpArgs false in
theorem act_crash (d n b : Nat) (m : Dk.DM) (a : Ac) (S : Nat → Prop) (w : World) (E : Nat → Addr) (hE : ErD w E) (h : DS w S d n m b) (hb : b ≤ 4000) (hk : a.kind = kCrash) (hkn : a.kn ≤ 200) (hkp : Kp w a.kx a.kn a.kb) :
    Calls Tryd.prog 9 #[.pointer (some ⟨d, 0, none⟩), acV a] w fun e w' => e = .returned (erV E (doA n a m).2) ∧ After S w w' d n (doA n a m).1 (b + 1) := by
  obtain ⟨kind, an, s, kx, kn, kc, kb⟩ := a
  have HBB := Lib.hid hb
  simp only at hk
  subst hk
  have t_write : (kCrash.toList == [119, 114, 105, 116, 101]) = false := kno (by decide)
  have t_flush : (kCrash.toList == [102, 108, 117, 115, 104]) = false := kno (by decide)
  have t_fail : (kCrash.toList == [102, 97, 105, 108]) = false := kno (by decide)
  have t_crash : (kCrash.toList == [99, 114, 97, 115, 104]) = true := kyes [99, 114, 97, 115, 104]
  unfold acV
  have HD := Lib.hid h
  have HE := Lib.hid hE
  clear h hE
  simp only at hkp hkn
  have HK := Lib.hid hkp
  clear hkp
  have HR : Hid (doA n ⟨kCrash, an, s, kx, kn, kc, kb⟩ m = (Dk.cr m (kf kn kb), 0)) := Lib.hid (by unfold doA; simp only; rw [if_neg (by decide), if_neg (by decide), if_neg (by decide), if_pos trivial])
  obtain ⟨i0, hi0, hz0, hz1, hz2⟩ := info_parts boolinf
  cases kx with
  | none =>
    obtain rfl : kn = 0 := HK.out.1 rfl
    go_enter Tryd.func9, Tryd.ntmps9
    go_upto_region 10 with fail
    refine wp_world (fun wz => Ext w wz ∧ wz.heap.size = w.heap.size + 1 ∧ Bk wz (w.heap.size) #[.string kCrash, .int .i64 an, .string s, .slice none 0 kc]) ⟨by repeat (first | exact Ext.refl _ | refine Ext.alloc ?_ _), by simp, by repeat (first | exact Bk.at (by simp) | refine Bk.old ?_)⟩ ?_
    rintro w1 ⟨hX, hZ, hB0⟩
    have D1 := Lib.hid (HD.out.ext hX)
    have X1 := Lib.hid hX
    have B1 := Lib.hid hB0
    have Z1 := Lib.hid hZ
    clear hX hZ hB0
    have c3 := B1.out.cell 3
    go_wp2_with (at_builtin; refine wpList_append_own_none rfl _ _ 23 rfl 0 4 i0 1 Tryd.underlying23 hi0 (.slice none 0 0) 0 [] rfl (World.ownsRow_nil _ _ _ _) rfl ?_)
    refine (crash_any d n b m S w1 D1.out (by omega) none 0 0 kb ⟨fun _ => rfl, fun a ha => by cases ha⟩ (by omega)).mono ?_
    rintro e w3 ⟨rfl, hA⟩
    have HA := Lib.hid hA
    clear hA
    go_wp2_with fail
    go_ret
    exact ⟨by rw [HR.out]; rfl, by rw [HR.out]; exact After.pre X1.out (HA.out.up (Nat.le_succ b))⟩
  | some ka =>
    go_enter Tryd.func9, Tryd.ntmps9
    go_upto_region 10 with fail
    refine wp_world (fun wz => Ext w wz ∧ wz.heap.size = w.heap.size + 1 ∧ Bk wz (w.heap.size) #[.string kCrash, .int .i64 an, .string s, .slice (some ka) kn kc]) ⟨by repeat (first | exact Ext.refl _ | refine Ext.alloc ?_ _), by simp, by repeat (first | exact Bk.at (by simp) | refine Bk.old ?_)⟩ ?_
    rintro w1 ⟨hX, hZ, hB0⟩
    have D1 := Lib.hid (HD.out.ext hX)
    have X1 := Lib.hid hX
    have B1 := Lib.hid hB0
    have Z1 := Lib.hid hZ
    clear hX hZ hB0
    have c3 := B1.out.cell 3
    go_wp2_with (at_builtin; refine wpList_append_own_at _ rfl _ _ 23 rfl w1.heap.size 4 i0 (.bool false) 1 1 Tryd.underlying23 hi0 hz0 hz1 hz2 rfl (by decide) (.slice none 0 0) 0 [] rfl (World.ownsRow_nil _ _ _ _) ka kn kc (boolsV kn kb) rfl ?c0 ?c1 ?c2 ?c3 ?c4 ?c5 ?_)
    case c0 => rw [boolsV_length]; omega
    case c1 =>
      intro j u hj
      have hjn : j < kn := by
        have := (List.getElem?_eq_some_iff.1 hj).1
        rwa [boolsV_length] at this
      rw [boolsV_get hjn] at hj
      injection hj with hj
      subst hj
      have h1 := HK.out.2 ka rfl j hjn
      exact (X1.out.keeps (S := fun _ => False) |>.cell (World.block_lt_of_cell? w _ h1) id).trans h1
    case c2 => intro u hu; obtain ⟨x, _, rfl⟩ := List.mem_map.1 hu; rfl
    case c3 => unfold maxLen; omega
    case c4 => omega
    case c5 => exact Nat.le_refl _
    intro v2 w2 hown hgrow hnil hat
    have ho : w2.ownsRow w1.heap.size 4 1 v2 kn (boolsV kn kb) := by simpa using hown
    have hE : Ext w1 w2 := (Below.refl _ w1).grown hgrow (Nat.le_refl _) (by intro k hk; simp [Value.ownBlock] at hk)
    obtain ⟨vx, vc, rfl, _, hv0⟩ := own_form ho
    have HKR : Hid (KR w2 S vx kn kb) := Lib.hid ⟨hv0, fun a ha j hj => by
      subst ha
      rcases ho.2 with ⟨hv, _⟩ | ⟨g, cap, cur, hv, hg, _⟩
      · cases hv
      · injection hv with hv
        injection hv with hv
        subst hv
        rw [add_plain]
        exact ⟨by rw [ho.cellAt j (by omega), boolsV_get hj], fun q => by have q1 : g < w.heap.size := HD.out.lt _ q; have := X1.out.size; omega⟩⟩
    have X2 := Lib.hid (X1.out.trans hE)
    clear ho hown hgrow hnil hat hE c3 hv0
    go_wp2_with fail
    refine (crash_any d n b m S w2 (HD.out.ext X2.out) (by omega) vx kn vc kb HKR.out (by omega)).mono ?_
    rintro e w3 ⟨rfl, hA⟩
    have HA := Lib.hid hA
    clear hA
    go_wp2_with fail
    go_ret
    exact ⟨by rw [HR.out]; rfl, by rw [HR.out]; exact After.pre X2.out (HA.out.up (Nat.le_succ b))⟩
set_option linter.unusedSimpArgs false in
theorem act_other (d n b : Nat) (m : Dk.DM) (a : Ac) (S : Nat → Prop) (w : World) (E : Nat → Addr) (hE : ErD w E) (h : DS w S d n m b) (hb : b ≤ 4000) (h_write : a.kind ≠ kWrite) (h_flush : a.kind ≠ kFlush) (h_fail : a.kind ≠ kFail) (h_crash : a.kind ≠ kCrash) :
    Calls Tryd.prog 9 #[.pointer (some ⟨d, 0, none⟩), acV a] w fun e w' => e = .returned (erV E (doA n a m).2) ∧ After S w w' d n (doA n a m).1 (b + 1) := by
  obtain ⟨kind, an, s, kx, kn, kc, kb⟩ := a
  have HBB := Lib.hid hb
  have t_write : (kind.toList == [119, 114, 105, 116, 101]) = false := kno h_write
  have t_flush : (kind.toList == [102, 108, 117, 115, 104]) = false := kno h_flush
  have t_fail : (kind.toList == [102, 97, 105, 108]) = false := kno h_fail
  have t_crash : (kind.toList == [99, 114, 97, 115, 104]) = false := kno h_crash
  unfold acV
  have HD := Lib.hid h
  have HE := Lib.hid hE
  clear h hE
  have HR : Hid (doA n ⟨kind, an, s, kx, kn, kc, kb⟩ m = (m, 0)) := Lib.hid (by unfold doA; simp only; rw [if_neg h_write, if_neg h_flush, if_neg h_fail, if_neg h_crash])
  go_enter Tryd.func9, Tryd.ntmps9
  have E_ := (Ext.refl w).alloc (.cells #[.string kind, .int .i64 an, .string s, .slice kx kn kc] 33)
  have EE := Lib.hid E_
  clear E_
  go_wp2_with fail
  go_ret
  exact ⟨by rw [HR.out]; rfl, by rw [HR.out]; exact (After.same ((HD.out.ext EE.out).up (Nat.le_succ b)) (EE.out.keeps (S := S)))⟩
theorem act_any (d n b : Nat) (m : Dk.DM) (a : Ac) (S : Nat → Prop) (w : World) (E : Nat → Addr) (hE : ErD w E) (h : DS w S d n m b) (hb : b ≤ 4000) (hbn : -9223372036854775808 ≤ a.n ∧ a.n ≤ 9223372036854775807) (hkn : a.kn ≤ 200) (hkp : Kp w a.kx a.kn a.kb) :
    Calls Tryd.prog 9 #[.pointer (some ⟨d, 0, none⟩), acV a] w fun e w' => e = .returned (erV E (doA n a m).2) ∧ After S w w' d n (doA n a m).1 (b + 1) := by
  by_cases h1 : a.kind = kWrite
  · exact act_write d n b m a S w E hE h hb h1
  by_cases h2 : a.kind = kFlush
  · exact act_flush d n b m a S w E hE h hb h2
  by_cases h3 : a.kind = kFail
  · exact act_fail d n b m a S w E hE h hb h3 hbn
  by_cases h4 : a.kind = kCrash
  · exact act_crash d n b m a S w E hE h hb h4 hkn hkp
  · exact act_other d n b m a S w E hE h hb h1 h2 h3 h4
end Go.Proofs.YtheidjagcafgnaaDoor
namespace Go.Proofs.YtheidjagcafgnaaDoor
open Go.RowKit
set_option maxRecDepth 100000
def KI (n : Nat) (was : Nat → ByteArray) (tb : Nat → Bool) (m : Dk.DM) : Prop := ∀ i, i < n → tb i = false → m.kept i = was i ∧ m.now i = was i ∧ ∀ p ∈ m.ws, p.1 ≠ i
def touch (a : Ac) (tb : Nat → Bool) (i : Nat) : Bool := if a.kind = kWrite ∧ a.n = (i : Int) then true else tb i
theorem crk_ne {keep : Nat → Bool} {ws : List (Nat × ByteArray)} {f : Nat → ByteArray} {i : Nat} (h : ∀ p ∈ ws, p.1 ≠ i) : ∀ k, Dk.crk keep ws f k i = f i := by
  intro k
  induction k with
  | zero => rfl
  | succ k ih =>
    simp only [Dk.crk]
    cases hp : ws[k]? with
    | none => exact ih
    | some p =>
      simp only
      split
      · unfold Dk.upS
        rw [if_neg (fun e => h p (List.mem_of_getElem? hp) e.symm)]
        exact ih
      · exact ih
theorem KI.start {n : Nat} {m : Dk.DM} : KI n m.now (fun _ => false) (Dk.fl m) := fun i _ _ => ⟨rfl, rfl, fun p hp => by cases hp⟩
theorem KI.cr {n : Nat} {was : Nat → ByteArray} {tb : Nat → Bool} {m : Dk.DM} (h : KI n was tb m) (keep : Nat → Bool) : KI n was tb (Dk.cr m keep) := by
  intro i hi ht
  obtain ⟨h1, h2, h3⟩ := h i hi ht
  have e : Dk.crk keep m.ws m.kept m.ws.length i = was i := (crk_ne h3 _).trans h1
  exact ⟨e, e, fun p hp => by cases hp⟩
theorem KI.act {n : Nat} {was : Nat → ByteArray} {tb : Nat → Bool} {m : Dk.DM} (h : KI n was tb m) (a : Ac) : KI n was (touch a tb) (doA n a m).1 := by
  intro i hi ht
  have ht0 : ¬ (a.kind = kWrite ∧ a.n = (i : Int)) ∧ tb i = false := by
    unfold touch at ht
    split at ht
    · cases ht
    · exact ⟨by assumption, ht⟩
  obtain ⟨hn, ht⟩ := ht0
  obtain ⟨h1, h2, h3⟩ := h i hi ht
  unfold doA
  split
  · rename_i hk
    split
    · exact ⟨h1, h2, h3⟩
    split
    · exact ⟨h1, h2, h3⟩
    split
    · exact ⟨h1, h2, h3⟩
    · have hne : a.n.toNat ≠ i := fun e => hn ⟨hk, by omega⟩
      refine ⟨h1, ?_, fun p hp => ?_⟩
      · show Dk.upS m.now a.n.toNat _ i = _
        unfold Dk.upS; rw [if_neg (fun e => hne e.symm)]; exact h2
      · have hp' : p ∈ m.ws ++ [(a.n.toNat, Dk.pad a.s)] := hp
        simp only [List.mem_append, List.mem_singleton] at hp'
        rcases hp' with q | rfl
        · exact h3 p q
        · exact hne
  split
  · split
    · exact ⟨h1, h2, h3⟩
    · exact ⟨h2, h2, fun p hp => by cases hp⟩
  split
  · split
    · exact ⟨h1, h2, h3⟩
    · exact ⟨h1, h2, h3⟩
  split
  · exact (h.cr _) i hi ht
  · exact ⟨h1, h2, h3⟩
end Go.Proofs.YtheidjagcafgnaaDoor
namespace Go.Proofs.YtheidjagcafgnaaDoor
open Go.RowKit
set_option maxRecDepth 100000
/-- the disk of a law: where it lies, and what lay there ahead of it -/
structure LD (w0 w : World) (S : Nat → Prop) (d n : Nat) (m : Dk.DM) (b : Nat) : Prop where
  ds : DS w S d n m b
  ext : Ext w0 w
  ge : ∀ k, S k → w0.heap.size ≤ k
theorem LD.after {w0 w w' : World} {S : Nat → Prop} {d n b c : Nat} {m m' : Dk.DM} (h : LD w0 w S d n m b) (ha : After S w w' d n m' c) : LD w0 w' (grow S w w') d n m' c :=
  ⟨ha.1, Below.trans h.ext (ha.2.below h.ext.size (fun k hk q => by have := h.ge k q; omega)), fun k q => by
    rcases q with q | q
    · exact h.ge k q
    · have := h.ext.size; omega⟩
theorem LD.step {w0 w w' : World} {S : Nat → Prop} {d n b : Nat} {m : Dk.DM} (h : LD w0 w S d n m b) (hE : Ext w w') : LD w0 w' S d n m b := ⟨h.ds.ext hE, h.ext.trans hE, h.ge⟩
/-- a store into a block that is not the disk's -/
theorem LD.far {w0 w : World} {S : Nat → Prop} {d n b g i : Nat} {m : Dk.DM} {u : Value} (h : LD w0 w S d n m b) (hg : ¬ S g) (hw : w0.heap.size ≤ g) : LD w0 (w.setCell ⟨g, i, none⟩ u) S d n m b :=
  ⟨h.ds.keeps (one_keeps w g i u) (fun _ q e => hg (e ▸ q)), Below.setCell h.ext hw _, h.ge⟩
theorem touch_no {N : Nat} {a : Ac} {tb : Nat → Bool} (h : ¬ (a.kind = kWrite ∧ 0 ≤ a.n ∧ a.n < (N : Int))) : ∀ k, k < N → Value.bool (touch a tb k) = .bool (tb k) := by
  intro k hk
  unfold touch
  rw [if_neg (fun e => h ⟨e.1, by have := e.2; omega, by have := e.2; omega⟩)]
theorem touch_yes {a : Ac} {tb : Nat → Bool} {p : Nat} (h : a.kind = kWrite) (hp : a.n = (p : Int)) (k : Nat) : Value.bool (touch a tb k) = if k = p then .bool true else .bool (tb k) := by
  unfold touch
  by_cases e : k = p
  · subst e; rw [if_pos ⟨h, hp⟩, if_pos rfl]
  · rw [if_neg (fun q => e (by have := q.2; omega)), if_neg e]
theorem grow_no {S : Nat → Prop} {w w' : World} {g : Nat} (h : ¬ S g) (hl : g < w.heap.size) : ¬ grow S w w' g := fun q => by
  rcases q with q | q
  · exact h q
  · omega
theorem Cv.lt0 {w : World} {B n : Nat} {f : Nat → Value} (h : Cv w B n f) (hn : 1 ≤ n) : B < w.heap.size := World.block_lt_of_cell? w _ (h 0 hn).1
theorem erV_form (E : Nat → Addr) (c : Nat) : erV E c = .nilIface ∨ ∃ k, erV E c = .iface 128 (.pointer (some (E k))) := by
  cases c with
  | zero => exact .inl rfl
  | succ k => exact .inr ⟨k, rfl⟩
set_option linter.unusedSimpArgs false in
set_option maxHeartbeats 8000000 in
theorem keeps_any (n : Int) (nl cl nm cm kn kc : Nat) (xl xm kx : Option Addr) (l mo : Nat → Ac) (kb : Nat → Bool) (w : World) (E : Nat → Addr) (hE : ErD w E) (hl : Acs w xl nl l) (hm : Acs w xm nm mo) (hk : Kp w kx kn kb) (hnl : nl ≤ maxLen) (hnm : nm ≤ maxLen) (hkm : kn ≤ maxLen) :
    Calls Tryd.prog 3 #[.int .i64 n, .slice xl nl cl, .slice xm nm cm, .slice kx kn kc] w fun e w' => e = .returned (.bool true) ∧ Ext w w' := by
  have HE := Lib.hid hE
  have HL := Lib.hid hl
  have HM := Lib.hid hm
  have HK := Lib.hid hk
  clear hE hl hm hk
  unfold maxLen at hkm
  go_enter Tryd.func3, Tryd.ntmps3
  go_wp2_with fail
  refine (fresh_any w E HE.out).mono ?_
  rintro e w1 ⟨rfl, hX⟩
  have X1 := Lib.hid hX
  clear hX
  go_wp2_with fail
  refine (few_any xl nl cl l w1 (HL.out.ext X1.out) hnl).mono ?_
  rintro e w9 ⟨⟨b1, rfl, hb1⟩, rfl⟩
  cases b1
  · go_wp2_with fail
    go_ret
    exact ⟨rfl, X1.out⟩
  have FL := Lib.hid (hb1 rfl)
  clear hb1
  go_wp2_with fail
  refine (few_any xm nm cm mo w9 (HM.out.ext X1.out) hnm).mono ?_
  rintro e w8 ⟨⟨b2, rfl, hb2⟩, rfl⟩
  cases b2
  · go_wp2_with fail
    go_ret
    exact ⟨rfl, X1.out⟩
  have FM := Lib.hid (hb2 rfl)
  clear hb2
  by_cases q1 : n < 1
  · have t1 : decide (n < 1) = true := decide_eq_true q1
    go_wp2_with fail
    go_ret
    exact ⟨rfl, X1.out⟩
  have t1 : decide (n < 1) = false := decide_eq_false q1
  by_cases q2 : 50 < n
  · have t2 : decide (50 < n) = true := decide_eq_true q2
    go_wp2_with fail
    go_ret
    exact ⟨rfl, X1.out⟩
  have t2 : decide (50 < n) = false := decide_eq_false q2
  by_cases q3 : 100 < kn
  · have t3 : (100 : Int) < (kn : Int) := by omega
    go_wp2_with fail
    go_ret
    exact ⟨rfl, X1.out⟩
  have t3 : ¬ (100 : Int) < (kn : Int) := by omega
  obtain ⟨N, rfl⟩ : ∃ N : Nat, n = N := ⟨n.toNat, by omega⟩
  have hN1 : 1 ≤ N ∧ N ≤ 50 := by omega
  have hk100 : kn ≤ 100 := by omega
  clear q1 q2 q3
  go_wp2_with fail
  refine (new_ok N w8 (by omega)).mono ?_
  rintro e w2 ⟨⟨d, rfl, hd⟩, hE⟩
  have D2 := Lib.hid (show LD w w2 _ d N Dk.new 0 from ⟨hd, X1.out.trans hE, fun k q => Nat.le_trans X1.out.size q.1⟩)
  clear hd hE t1 t2 t3 hnl hnm hkm
  go_wp2_with fail
  have hl60 : nl ≤ 60 := FL.out.1
  have hm60 : nm ≤ 60 := FM.out.1
  go_loopw [12] (fun cc wr => ∃ (i : Nat) (S : Nat → Prop) (m : Dk.DM), i ≤ nl ∧ cc = .int .i64 (i : Int) ∧ Hid (LD w wr S d N m i)) (fun cc _ => nl - (intOf cc).toNat)
  case atStart => exact ⟨0, _, _, by omega, rfl, D2⟩
  case round =>
    clear D2
    obtain ⟨i, S, m, hi, rfl, D⟩ := hrel
    by_cases hlt : i < nl
    · have ht : (i : Int) < (nl : Int) := by omega
      obtain ⟨a, rfl⟩ : ∃ a, xl = some a := by
        cases xl with
        | none => have := HL.out.1 rfl; omega
        | some a => exact ⟨a, rfl⟩
      obtain ⟨c0, c1, c2, c3, ok⟩ := (HL.out.ext D.out.ext).2 a rfl i hlt
      have HO := Lib.hid ok
      have wi : ∀ z, z = (i : Int) + 1 → IntKind.i64.wrap z = z := by rintro _ rfl; rw [IntKind.wrap_i64]; omega
      clear ok
      go_wp2_with fail
      refine (act_any d N i m (l i) S wr E (HE.out.ext D.out.ext) D.out.ds (by omega) HO.out.n (FL.out.2 i hlt).2 HO.out.kp).mono ?_
      rintro e w3 ⟨rfl, hA⟩
      have D3 := Lib.hid (D.out.after hA)
      clear hA c0 c1 c2 c3
      obtain ⟨v, hv⟩ : ∃ v, erV E (doA N (l i) m).2 = v := ⟨_, rfl⟩
      rw [hv]
      clear hv
      go_wp2_with fail
      go_roundw
      case rel => exact ⟨i + 1, _, _, by omega, by go_num, D3⟩
      case measure => simp [intOf]; omega
    · obtain rfl : i = nl := by omega
      by_cases h0 : m.left = 0
      · go_wp2_with fail
        refine (flush_power d N i m S wr E (HE.out.ext D.out.ext) D.out.ds h0).mono ?_
        rintro e w3 ⟨rfl, rfl⟩
        go_wp2_with fail
        go_ret
        exact ⟨rfl, D.out.ext⟩
      go_wp2_with fail
      refine (flush_ok d N i m S wr D.out.ds h0).mono ?_
      rintro e w3 ⟨rfl, hA⟩
      have D3 := Lib.hid ((D.out.after hA))
      clear hA D h0
      obtain ⟨S3, hS3⟩ : ∃ S3, grow S wr w3 = S3 := ⟨_, rfl⟩
      rw [hS3] at D3
      clear hS3
      have hmk1 := run_make_row' (P := Tryd.prog) 35 9 (.string ⟨#[]⟩) 16 Tryd.underlying35 strinf rfl .i64 .i64 N (by omega) (by omega)
      have hmk2 := run_make_row' (P := Tryd.prog) 23 4 (.bool false) 1 Tryd.underlying23 boolinf rfl .i64 .i64 N (by omega) (by omega)
      go_upto_region 15 with fail
      clear hmk1 hmk2
      have E1 := (Ext.refl w3).alloc (.cells (madeCells #[.string ⟨#[]⟩] N) 9)
      have E2 := (Ext.refl (w3.alloc (.cells (madeCells #[.string ⟨#[]⟩] N) 9))).alloc (.cells (madeCells #[.bool false] N) 4)
      have D4 := Lib.hid (D3.out.step (E1.trans E2))
      have R4 := Lib.hid (show Sr _ w3.heap.size N (fun k => if k < 0 then m.now k else ⟨#[]⟩) from (Cv.made w3 N (.string ⟨#[]⟩) 9).ext E2)
      have T4 := Lib.hid (Cv.made (w3.alloc (.cells (madeCells #[.string ⟨#[]⟩] N) 9)) N (.bool false) 4)
      rw [World.size_alloc] at T4
      have N4 := Lib.hid (show (¬ S3 w3.heap.size ∧ ¬ S3 (w3.heap.size + 1)) ∧ w.heap.size ≤ w3.heap.size from ⟨⟨fun q => by have := D3.out.ds.lt _ q; omega, fun q => by have := D3.out.ds.lt _ q; omega⟩, D3.out.ext.size⟩)
      refine wp_world (fun wz => Hid (LD w wz S3 d N (Dk.fl m) i) ∧ Hid (Sr wz w3.heap.size N (fun k => if k < 0 then m.now k else ⟨#[]⟩)) ∧ Hid (Cv wz (w3.heap.size + 1) N (fun _ => .bool false))) ⟨D4, R4, T4⟩ ?_
      obtain ⟨gw, hgw⟩ : ∃ g, w3.heap.size = g := ⟨_, rfl⟩
      rw [hgw] at N4 ⊢
      obtain ⟨gt, hgt⟩ : ∃ g, gw + 1 = g := ⟨_, rfl⟩
      rw [hgt] at N4 ⊢
      have hne : gw ≠ gt := by omega
      have hwgt : w.heap.size ≤ gt := by have := N4.out.2; omega
      have HNE := Lib.hid (And.intro hne hwgt)
      clear D4 R4 T4 D3 E1 E2 hgw hgt hne hwgt
      rintro w4 ⟨D4, R4, T4⟩
      go_wp2_with fail
      go_loopw [15] (fun cc wr => ∃ j : Nat, j ≤ N ∧ cc = .int .i64 (j : Int) ∧ Hid (LD w wr S3 d N (Dk.fl m) i) ∧ Hid (Sr wr gw N (fun k => if k < j then m.now k else ⟨#[]⟩)) ∧ Hid (Cv wr gt N (fun _ => .bool false))) (fun cc _ => N - (intOf cc).toNat)
      case atStart => exact ⟨0, by omega, rfl, D4, R4, T4⟩
      case round =>
        clear D4 R4 T4
        obtain ⟨j, hj, rfl, D4, R4, T4⟩ := hrel
        by_cases hjt : j < N
        · have ht : (j : Int) < (N : Int) := by omega
          have wi : ∀ z, z = (j : Int) + 1 → IntKind.i64.wrap z = z := by rintro _ rfl; rw [IntKind.wrap_i64]; omega
          go_wp2_with fail
          refine (read_any d N i _ (j : Int) S3 wr E (HE.out.ext D4.out.ext) D4.out.ds).mono ?_
          rintro e w5 ⟨h, hE⟩
          obtain rfl : e = .returned (.tuple #[.string (m.now j), .nilIface]) := by
            rcases h with ⟨h, _⟩ | ⟨k, h1, h2, rfl⟩
            · exfalso; omega
            · obtain rfl : j = k := by omega
              rfl
          have D5 := Lib.hid (D4.out.step hE)
          have R5 := Lib.hid (Cv.ext R4.out hE)
          have T5 := Lib.hid (T4.out.ext hE)
          clear h hE D4 R4 T4
          obtain ⟨c0, f0⟩ := R5.out j hjt
          have D6 := Lib.hid (D5.out.far (i := j) (u := .string (m.now j)) N4.out.1.1 N4.out.2)
          have R6 := Lib.hid (show Sr (w5.setCell ⟨gw, j, none⟩ (.string (m.now j))) gw N (fun k => if k < j + 1 then m.now k else ⟨#[]⟩) from Cv.put R5.out j (.string (m.now j)) _ hjt (fun k _ => by
            dsimp only
            by_cases e : k = j
            · subst e; rw [if_pos rfl, if_pos (by omega)]
            · rw [if_neg e]
              by_cases q : k < j
              · rw [if_pos q, if_pos (by omega)]
              · rw [if_neg q, if_neg (by omega)]))
          have T6 := Lib.hid (T5.out.keeps (one_keeps w5 gw j (.string (m.now j))) (fun e => HNE.out.1 e.symm))
          have b0 : (if j < j then m.now j else (⟨#[]⟩ : ByteArray)) = ⟨#[]⟩ := if_neg (by omega)
          simp only [b0] at c0
          clear D5 R5 T5 b0
          go_wp2_with fail
          go_roundw
          case rel => exact ⟨j + 1, by omega, by go_num, D6, R6, T6⟩
          case measure => simp [intOf]; omega
        · obtain rfl : j = N := by omega
          have K4 : Hid (KI j m.now (fun _ => false) (Dk.fl m)) := Lib.hid KI.start
          have R5 : Hid (Sr wr gw j m.now) := Lib.hid (Cv.congr R4.out (fun k hk => by dsimp only; rw [if_pos hk]))
          have N5 := Lib.hid N4.out.1
          clear R4 N4
          go_wp2_with fail
          go_loopw [16] (fun cc wr => ∃ (p : Nat) (S : Nat → Prop) (m2 : Dk.DM) (tb : Nat → Bool), p ≤ nm ∧ cc = .int .i64 (p : Int) ∧ Hid (LD w wr S d j m2 (i + p)) ∧ Hid (Sr wr gw j m.now) ∧ Hid (Cv wr gt j (fun k => .bool (tb k))) ∧ Hid (KI j m.now tb m2) ∧ Hid (¬ S gw ∧ ¬ S gt)) (fun cc _ => nm - (intOf cc).toNat)
          case atStart => exact ⟨0, _, _, _, by omega, rfl, D4, R5, T4, K4, N5⟩
          case round =>
            clear D4 R5 T4 K4 N5
            obtain ⟨p, S2, m2, tb, hp, rfl, D2, R2, T2, K2, N2⟩ := hrel
            by_cases hpt : p < nm
            · have ht : (p : Int) < (nm : Int) := by omega
              obtain ⟨a, rfl⟩ : ∃ a, xm = some a := by
                cases xm with
                | none => have := HM.out.1 rfl; omega
                | some a => exact ⟨a, rfl⟩
              obtain ⟨c0, c1, c2, c3, ok⟩ := (HM.out.ext D2.out.ext).2 a rfl p hpt
              have HO := Lib.hid ok
              have wi : ∀ z, z = (p : Int) + 1 → IntKind.i64.wrap z = z := by rintro _ rfl; rw [IntKind.wrap_i64]; omega
              have K7 := Lib.hid (K2.out.act (mo p))
              clear ok
              by_cases hkw : (mo p).kind = kWrite
              · have t5 : ((mo p).kind.toList == [119, 114, 105, 116, 101]) = true := by rw [hkw]; exact kyes _
                have HKW := Lib.hid hkw
                clear hkw
                by_cases h5 : 0 ≤ (mo p).n
                · by_cases h6 : (mo p).n < (j : Int)
                  · obtain ⟨q, hq⟩ : ∃ q : Nat, (mo p).n = q := ⟨(mo p).n.toNat, by omega⟩
                    have hqj : q < j := by omega
                    have hqI : ((q : Nat) : Int) < (j : Int) := by omega
                    have HQ := Lib.hid hq
                    rw [hq] at c1
                    clear h5 h6 hq
                    obtain ⟨s0, f0⟩ := T2.out q hqj
                    have c0' := c0
                    have D6 := Lib.hid (D2.out.far (i := q) (u := .bool true) N2.out.2 HNE.out.2)
                    have R6 := Lib.hid (R2.out.keeps (one_keeps wr gt q (.bool true)) HNE.out.1)
                    have T6 : Hid (Cv (wr.setCell ⟨gt, q, none⟩ (.bool true)) gt j (fun k => .bool (touch (mo p) tb k))) := Lib.hid (Cv.put T2.out q (.bool true) _ hqj (fun k _ => touch_yes HKW.out HQ.out k))
                    go_upto_region 26 with fail
                    clear c0 c1 c2 c3 s0 f0 c0' t5 D2 R2 T2
                    refine wp_world (fun wz => Hid (LD w wz S2 d j m2 (i + p)) ∧ Hid (Sr wz gw j m.now) ∧ Hid (Cv wz gt j (fun k => .bool (touch (mo p) tb k)))) ⟨D6, R6, T6⟩ ?_
                    clear D6 R6 T6
                    rintro w6 ⟨D2, R2, TT⟩
                    obtain ⟨c0, c1, c2, c3, ok6⟩ := (HM.out.ext D2.out.ext).2 a rfl p hpt
                    have HO := Lib.hid ok6
                    clear ok6
                    go_wp2_with fail
                    refine (act_any d j (i + p) m2 (mo p) S2 w6 E (HE.out.ext D2.out.ext) D2.out.ds (by omega) HO.out.n (FM.out.2 p hpt).2 HO.out.kp).mono ?_
                    rintro e w7 ⟨rfl, hA⟩
                    have D7 := Lib.hid (D2.out.after hA)
                    have R7 := Lib.hid (R2.out.keeps hA.2 N2.out.1)
                    have T7 := Lib.hid (TT.out.keeps hA.2 N2.out.2)
                    have N7 := Lib.hid (And.intro (grow_no (w' := w7) N2.out.1 (Cv.lt0 R2.out hN1.1)) (grow_no (w' := w7) N2.out.2 (Cv.lt0 TT.out hN1.1)))
                    clear hA
                    obtain ⟨v, hv⟩ : ∃ v, erV E (doA j (mo p) m2).2 = v := ⟨_, rfl⟩
                    rw [hv]
                    clear hv
                    go_wp2_with fail
                    go_roundw
                    case rel => exact ⟨p + 1, _, _, _, by omega, by go_num, D7, R7, T7, K7, N7⟩
                    case measure => simp [intOf]; omega
                  · have TT : Hid (Cv wr gt j (fun k => .bool (touch (mo p) tb k))) := Lib.hid (Cv.congr T2.out (touch_no (fun e => h6 e.2.2)))
                    clear T2
                    go_wp2_with fail
                    refine (act_any d j (i + p) m2 (mo p) S2 wr E (HE.out.ext D2.out.ext) D2.out.ds (by omega) HO.out.n (FM.out.2 p hpt).2 HO.out.kp).mono ?_
                    rintro e w7 ⟨rfl, hA⟩
                    have D7 := Lib.hid (D2.out.after hA)
                    have R7 := Lib.hid (R2.out.keeps hA.2 N2.out.1)
                    have T7 := Lib.hid (TT.out.keeps hA.2 N2.out.2)
                    have N7 := Lib.hid (And.intro (grow_no (w' := w7) N2.out.1 (Cv.lt0 R2.out hN1.1)) (grow_no (w' := w7) N2.out.2 (Cv.lt0 TT.out hN1.1)))
                    clear hA
                    obtain ⟨v, hv⟩ : ∃ v, erV E (doA j (mo p) m2).2 = v := ⟨_, rfl⟩
                    rw [hv]
                    clear hv
                    go_wp2_with fail
                    go_roundw
                    case rel => exact ⟨p + 1, _, _, _, by omega, by go_num, D7, R7, T7, K7, N7⟩
                    case measure => simp [intOf]; omega
                · have TT : Hid (Cv wr gt j (fun k => .bool (touch (mo p) tb k))) := Lib.hid (Cv.congr T2.out (touch_no (fun e => h5 e.2.1)))
                  clear T2
                  go_wp2_with fail
                  refine (act_any d j (i + p) m2 (mo p) S2 wr E (HE.out.ext D2.out.ext) D2.out.ds (by omega) HO.out.n (FM.out.2 p hpt).2 HO.out.kp).mono ?_
                  rintro e w7 ⟨rfl, hA⟩
                  have D7 := Lib.hid (D2.out.after hA)
                  have R7 := Lib.hid (R2.out.keeps hA.2 N2.out.1)
                  have T7 := Lib.hid (TT.out.keeps hA.2 N2.out.2)
                  have N7 := Lib.hid (And.intro (grow_no (w' := w7) N2.out.1 (Cv.lt0 R2.out hN1.1)) (grow_no (w' := w7) N2.out.2 (Cv.lt0 TT.out hN1.1)))
                  clear hA
                  obtain ⟨v, hv⟩ : ∃ v, erV E (doA j (mo p) m2).2 = v := ⟨_, rfl⟩
                  rw [hv]
                  clear hv
                  go_wp2_with fail
                  go_roundw
                  case rel => exact ⟨p + 1, _, _, _, by omega, by go_num, D7, R7, T7, K7, N7⟩
                  case measure => simp [intOf]; omega
              · have t5 : ((mo p).kind.toList == [119, 114, 105, 116, 101]) = false := kno hkw
                have TT : Hid (Cv wr gt j (fun k => .bool (touch (mo p) tb k))) := Lib.hid (Cv.congr T2.out (touch_no (fun e => hkw e.1)))
                clear T2 hkw
                go_wp2_with fail
                refine (act_any d j (i + p) m2 (mo p) S2 wr E (HE.out.ext D2.out.ext) D2.out.ds (by omega) HO.out.n (FM.out.2 p hpt).2 HO.out.kp).mono ?_
                rintro e w7 ⟨rfl, hA⟩
                have D7 := Lib.hid (D2.out.after hA)
                have R7 := Lib.hid (R2.out.keeps hA.2 N2.out.1)
                have T7 := Lib.hid (TT.out.keeps hA.2 N2.out.2)
                have N7 := Lib.hid (And.intro (grow_no (w' := w7) N2.out.1 (Cv.lt0 R2.out hN1.1)) (grow_no (w' := w7) N2.out.2 (Cv.lt0 TT.out hN1.1)))
                clear hA
                obtain ⟨v, hv⟩ : ∃ v, erV E (doA j (mo p) m2).2 = v := ⟨_, rfl⟩
                rw [hv]
                clear hv
                go_wp2_with fail
                go_roundw
                case rel => exact ⟨p + 1, _, _, _, by omega, by go_num, D7, R7, T7, K7, N7⟩
                case measure => simp [intOf]; omega
            · obtain rfl : p = nm := by omega
              have hb4 : i + p ≤ 4000 := by omega
              go_upto_region 28 with fail
              go_cut [] (fun wx => ∃ (S : Nat → Prop) (m3 : Dk.DM), Hid (LD w wx S d j m3 (i + p)) ∧ Hid (Sr wx gw j m.now) ∧ Hid (Cv wx gt j (fun k => .bool (tb k))) ∧ Hid (KI j m.now tb m3) ∧ Hid (m3.ws = []))
              case first =>
                obtain ⟨i0, hi0, hz0, hz1, hz2⟩ := info_parts boolinf
                cases kx with
                | none =>
                  obtain rfl : kn = 0 := HK.out.1 rfl
                  go_wp2_with (at_builtin; refine wpList_append_own_none rfl _ _ 23 rfl 0 4 i0 1 Tryd.underlying23 hi0 (.slice none 0 0) 0 [] rfl (World.ownsRow_nil _ _ _ _) rfl ?_)
                  refine (crash_any d j (i + p) m2 S2 wr D2.out.ds (by omega) none 0 0 kb ⟨fun _ => rfl, fun a ha => by cases ha⟩ (by omega)).mono ?_
                  rintro e w3 ⟨rfl, hA⟩
                  have D7 := Lib.hid (D2.out.after hA)
                  have R7 := Lib.hid (R2.out.keeps hA.2 N2.out.1)
                  have T7 := Lib.hid (T2.out.keeps hA.2 N2.out.2)
                  have K7 := Lib.hid (K2.out.cr (kf 0 kb))
                  clear hA
                  go_wp2_with fail
                  go_meet
                  exact ⟨_, _, D7, R7, T7, K7, Lib.hid rfl⟩
                | some ka =>
                  go_wp2_with (at_builtin; refine wpList_append_own_at _ rfl _ _ 23 rfl wr.heap.size 4 i0 (.bool false) 1 1 Tryd.underlying23 hi0 hz0 hz1 hz2 rfl (by decide) (.slice none 0 0) 0 [] rfl (World.ownsRow_nil _ _ _ _) ka kn kc (boolsV kn kb) rfl ?c0 ?c1 ?c2 ?c3 ?c4 ?c5 ?_)
                  case c0 => rw [boolsV_length]; omega
                  case c1 =>
                    intro q u hq
                    have hqn : q < kn := by
                      have := (List.getElem?_eq_some_iff.1 hq).1
                      rwa [boolsV_length] at this
                    rw [boolsV_get hqn] at hq
                    injection hq with hq
                    subst hq
                    have h1 := HK.out.2 ka rfl q hqn
                    exact (D2.out.ext.keeps (S := fun _ => False) |>.cell (World.block_lt_of_cell? w _ h1) id).trans h1
                  case c2 => intro u hu; obtain ⟨x, _, rfl⟩ := List.mem_map.1 hu; rfl
                  case c3 => unfold maxLen; omega
                  case c4 => omega
                  case c5 => exact Nat.le_refl _
                  intro v2 w2 hown hgrow hnil hat
                  have ho : w2.ownsRow wr.heap.size 4 1 v2 kn (boolsV kn kb) := by simpa using hown
                  have hE : Ext wr w2 := (Below.refl _ wr).grown hgrow (Nat.le_refl _) (by intro k hk; simp [Value.ownBlock] at hk)
                  obtain ⟨vx, vc, rfl, _, hv0⟩ := own_form ho
                  have HKR : Hid (KR w2 S2 vx kn kb) := Lib.hid ⟨hv0, fun a ha q hq => by
                    subst ha
                    rcases ho.2 with ⟨hv, _⟩ | ⟨g, cap, cur, hv, hg, _⟩
                    · cases hv
                    · injection hv with hv
                      injection hv with hv
                      subst hv
                      rw [add_plain]
                      exact ⟨by rw [ho.cellAt q (by omega), boolsV_get hq], fun z => by have q1 : g < wr.heap.size := D2.out.ds.lt _ z; omega⟩⟩
                  have D3 := Lib.hid (D2.out.step hE)
                  have R3 := Lib.hid (Cv.ext R2.out hE)
                  have T3 := Lib.hid (T2.out.ext hE)
                  clear ho hown hgrow hnil hat hE hv0 D2 R2 T2
                  go_wp2_with fail
                  refine (crash_any d j (i + p) m2 S2 w2 D3.out.ds (by omega) vx kn vc kb HKR.out (by omega)).mono ?_
                  rintro e w3 ⟨rfl, hA⟩
                  have D7 := Lib.hid (D3.out.after hA)
                  have R7 := Lib.hid (Cv.keeps R3.out hA.2 N2.out.1)
                  have T7 := Lib.hid (T3.out.keeps hA.2 N2.out.2)
                  have K7 := Lib.hid (K2.out.cr (kf kn kb))
                  clear hA
                  go_wp2_with fail
                  go_meet
                  exact ⟨_, _, D7, R7, T7, K7, Lib.hid rfl⟩
              case rest =>
                clear D2 R2 T2 K2 N2
                obtain ⟨S3', m3, D2, R2, T2, K2, W2⟩ := hcut
                go_wp2_with fail
                go_loopw [18] (fun cc wr => ∃ q : Nat, q ≤ j ∧ cc = .int .i64 (q : Int) ∧ Hid (LD w wr S3' d j m3 (i + p)) ∧ Hid (Sr wr gw j m.now) ∧ Hid (Cv wr gt j (fun k => .bool (tb k)))) (fun cc _ => j - (intOf cc).toNat)
                case atStart => exact ⟨0, by omega, rfl, D2, R2, T2⟩
                case round =>
                  clear D2 R2 T2
                  obtain ⟨q, hq, rfl, D2, R2, T2⟩ := hrel
                  by_cases hqt : q < j
                  · have ht : (q : Int) < (j : Int) := by omega
                    have wi : ∀ z, z = (q : Int) + 1 → IntKind.i64.wrap z = z := by rintro _ rfl; rw [IntKind.wrap_i64]; omega
                    go_wp2_with fail
                    refine (read_any d j (i + p) m3 (q : Int) S3' wr E (HE.out.ext D2.out.ext) D2.out.ds).mono ?_
                    rintro e w5 ⟨h, hE⟩
                    obtain rfl : e = .returned (.tuple #[.string (m3.now q), .nilIface]) := by
                      rcases h with ⟨h, _⟩ | ⟨k, h1, h2, rfl⟩
                      · exfalso; omega
                      · obtain rfl : q = k := by omega
                        rfl
                    have D5 := Lib.hid (D2.out.step hE)
                    have R5 := Lib.hid (Cv.ext R2.out hE)
                    have T5 := Lib.hid (T2.out.ext hE)
                    clear h hE D2 R2 T2
                    obtain ⟨t0, _⟩ := T5.out q hqt
                    obtain ⟨r0, _⟩ := R5.out q hqt
                    cases htb : tb q
                    · have e1 : m3.now q = m.now q := (K2.out q hqt htb).2.1
                      rw [e1]
                      obtain ⟨X, hX⟩ : ∃ X, m.now q = X := ⟨_, rfl⟩
                      have e2 : (X.toList == X.toList) = true := beq_self_eq_true _
                      simp only [htb] at t0
                      simp only [hX] at r0
                      rw [hX]
                      clear hX e1 htb
                      go_wp2_with fail
                      go_roundw
                      case rel => exact ⟨q + 1, by omega, by go_num, D5, R5, T5⟩
                      case measure => simp [intOf]; omega
                    · simp only [htb] at t0
                      clear htb
                      go_wp2_with fail
                      go_roundw
                      case rel => exact ⟨q + 1, by omega, by go_num, D5, R5, T5⟩
                      case measure => simp [intOf]; omega
                  · obtain rfl : q = j := by omega
                    go_wp2_with fail
                    refine (waiting_any d q (i + p) m3 S3' wr D2.out.ds).mono ?_
                    rintro e w5 ⟨rfl, rfl⟩
                    rw [show (m3.ws.length : Int) = 0 by rw [W2.out]; rfl]
                    go_wp2_with fail
                    go_ret
                    exact ⟨rfl, D2.out.ext⟩
end Go.Proofs.YtheidjagcafgnaaDoor
namespace Go.Proofs.YtheidjagcafgnaaDoor
open Go.ChangeShapes Go.WideShapes Go.RowKit Go.Deep
/-- a slice of records of one-cell fields: every field's cell and how it reads -/
theorem open_recs {H : Type} {enc : TypeId × Value → H} {P : Program} {w : World} {base : Nat} {spare : Nat → Bool} {held : Bool} {t e : TypeId} {fs : Array Field} {fuel : Nat} {cs : List Value} {x : DataW H × List MemPlace}
    (ht : P.underlying t = some (.slice e)) (he : P.underlying e = some (.struct fs)) (hone : oneCellFields P fs = true) (hC : P.cellsOf e = fs.size) (h : DataW.trod enc P w base spare held fuel t cs = some x) :
    cs = [.slice none 0 0] ∨ ∃ (a : Addr) (len cap : Nat), cs = [.slice (some a) len cap] ∧ len ≤ cap ∧ cap ≤ maxLen ∧
      ∀ i, i < len → ∀ (j : Nat) (f : Field), fs[j]? = some f → ∃ (v : Value) (y : DataW H × List MemPlace) (n : Nat), w.cell? ((a.add (i * fs.size)).add j) = some v ∧ DataW.trod enc P w base spare held n f.type [v] = some y := by
  rcases open_slice ht h with ⟨h0, _⟩ | ⟨a, len, cap, m, n, D, Pl, hcs, _, hl, hm, hmm, _, hi⟩
  · exact .inl h0
  · refine .inr ⟨a, len, cap, hcs, hl, hm, fun i hlt j f hj => ?_⟩
    have him : i < m := by rw [hmm]; split <;> omega
    obtain ⟨cs', hc, hr⟩ := hi i him
    obtain ⟨xs, k, _, _, _, hxl, hx⟩ := DataW.trod_struct he hr
    obtain ⟨_, hcl, hat⟩ := World.cells?_some hc
    rw [hC] at hcl hat
    have hjs : j < fs.size := (Array.getElem?_eq_some_iff.1 hj).1
    obtain ⟨o1, o2⟩ := hone_of hone j f hj
    have hxj := hx j f hj
    rw [o1, o2, List.drop_eq_getElem_cons (by omega)] at hxj
    have e1 : xs[j]? = some (xs[j]'(by omega)) := List.getElem?_eq_getElem (by omega)
    have e2 : w.cell? ((a.add (i * fs.size)).add j) = some (cs'[j]'(by omega)) := by
      rw [hat j hjs]; exact List.getElem?_eq_getElem (by omega)
    exact ⟨_, _, k, e2, hxj.trans e1⟩
theorem cell_add {w : World} {q : Addr} {v : Value} {k : Nat} (hk : k ≠ 0) (h : w.cell? (q.add k) = some v) : w.cell? ⟨q.block, q.off + k, none⟩ = some v := by
  unfold Addr.add at h; rw [if_neg hk] at h; exact h
/-- a sentinel of the list: its variable holds an error's pointer -/
theorem sent_star : Tryd.prog.typeName? 3 128 = some "*errors.errorString" := by kernel_rfl
theorem sent_row (u : TypeId) (h : Tryd.prog.typeName? 3 u = some "*errors.errorString") : u = 128 :=
  typeName_ptr_named (nm := "errors.errorString") (by kernel_rfl) (by kernel_rfl) (by decide) u h
theorem sentinel {l : List (String × DataW Unit)} {W : World} {n : String} {g : Nat} {text : List UInt8} {ti : TypeId} {ms : Array (String × TypeId)} (h : laidMetH Tryd.prog l W)
    (hl : l.filter (fun x => x.1 == n) = [(n, .iface "*errors.errorString" (.ptr (.agg [.lit (.string text)])))]) (hg : Tryd.prog.globalNamed n = some g)
    (ht : (Tryd.prog.globals[g]?).map (·.type) = some ti) (hi : Tryd.prog.underlying ti = some (.interface ms)) :
    ∃ (E : Addr) (s : ByteArray), W.cell? ⟨g, 0, none⟩ = some (.iface 128 (.pointer (some E))) ∧ W.cell? E = some (.string s) ∧ s.data.toList = text ∧ s.size ≤ maxLen := by
  have h1 := laidMetH.filter (fun x => x.1 == n) h
  rw [hl] at h1
  have h2 : laidMet Tryd.prog [(n, .iface "*errors.errorString" (.ptr (.agg [.lit (.string text)])))] W := h1
  obtain ⟨E, s, hv, hc, hs, hz⟩ := laid_sentinel h2 hg ht hi sent_row Tryd.underlying128 Tryd.underlying146 rfl rfl Tryd.underlying9 (by kernel_rfl) (by kernel_rfl)
  exact ⟨E, s, by simpa using World.var?_cell hg hv 0, hc, hs, hz⟩
end Go.Proofs.YtheidjagcafgnaaDoor
namespace Go.Proofs.YtheidjagcafgnaaDoor
open Go.ChangeShapes Go.WideShapes Go.RowKit Go.Deep Go.Joins
set_option maxRecDepth 100000
theorem ac_string {H : Type} {enc : TypeId × Value → H} {w : World} {base : Nat} {spare : Nat → Bool} {held : Bool} {n : Nat} {v : Value} {y : DataW H × List MemPlace} (h : DataW.trod enc Tryd.prog w base spare held n 9 [v] = some y) : ∃ s : ByteArray, v = .string s ∧ s.size ≤ maxLen := by
  obtain ⟨s, e, _, z⟩ := DataW.trod_string Tryd.underlying9 h
  simp only [List.cons.injEq, and_true] at e
  exact ⟨s, e, z⟩
theorem ac_int {H : Type} {enc : TypeId × Value → H} {w : World} {base : Nat} {spare : Nat → Bool} {held : Bool} {n : Nat} {v : Value} {y : DataW H × List MemPlace} (h : DataW.trod enc Tryd.prog w base spare held n 3 [v] = some y) : ∃ k : Int, v = .int .i64 k ∧ -9223372036854775808 ≤ k ∧ k ≤ 9223372036854775807 := by
  obtain ⟨k, e, _, wf⟩ := DataW.trod_int Tryd.underlying3 h
  simp only [List.cons.injEq, and_true] at e
  exact ⟨k, e, bounds_i64 wf⟩
theorem ac_bools {H : Type} {enc : TypeId × Value → H} {w : World} {base : Nat} {held : Bool} {n : Nat} {v : Value} {y : DataW H × List MemPlace} (h : DataW.trod enc Tryd.prog w base (fun _ => true) held n 23 [v] = some y) : ∃ (x : Option Addr) (len cap : Nat) (kb : Nat → Bool), v = .slice x len cap ∧ len ≤ maxLen ∧ Kp w x len kb := by
  rcases open_bools Tryd.underlying23 Tryd.underlying4 (by kernel_rfl) h with ⟨h0, _⟩ | ⟨a, len, cap, B, h0, _, hl, hm, _, hB⟩
  · simp only [List.cons.injEq, and_true] at h0
    exact ⟨none, 0, 0, fun _ => false, h0, Nat.zero_le _, fun _ => rfl, fun a h => by cases h⟩
  · simp only [List.cons.injEq, and_true] at h0
    exact ⟨some a, len, cap, B, h0, by omega, (fun h => by cases h), fun a' ha j hj => by injection ha with ha; subst ha; exact hB j (by omega)⟩
theorem open_kp {H : Type} {enc : TypeId × Value → H} {w : World} {base : Nat} {held : Bool} {v : Value} {d : DataW H} {pl : List MemPlace}
    (h : DataW.Trod enc Tryd.prog w base (fun _ => true) held 23 v d pl) (hv : ∃ x len cap, v = .slice x len cap) : ∃ (x : Option Addr) (len cap : Nat) (kb : Nat → Bool), v = .slice x len cap ∧ len ≤ maxLen ∧ Kp w x len kb := by
  obtain ⟨x, len, cap, rfl⟩ := hv
  obtain ⟨fuel, hf⟩ := h
  exact ac_bools hf
theorem open_acs {H : Type} {enc : TypeId × Value → H} {w : World} {base : Nat} {held : Bool} {v : Value} {d : DataW H} {pl : List MemPlace}
    (h : DataW.Trod enc Tryd.prog w base (fun _ => true) held 22 v d pl) (hv : ∃ x len cap, v = .slice x len cap) :
    ∃ (a : Option Addr) (n cap : Nat) (ac : Nat → Ac), v = .slice a n cap ∧ n ≤ maxLen ∧ Acs w a n ac := by
  obtain ⟨x, len, cap, rfl⟩ := hv
  obtain ⟨fuel, hf⟩ := h
  rcases open_recs Tryd.underlying22 Tryd.underlying33 (by kernel_rfl) (show Tryd.prog.cellsOf 33 = _ by kernel_rfl) hf with h0 | ⟨a, n, c, h0, hn, hc, hf⟩
  · simp [Value.cells] at h0
    obtain ⟨rfl, rfl, rfl⟩ := h0
    exact ⟨none, 0, 0, fun _ => ⟨⟨#[]⟩, 0, ⟨#[]⟩, none, 0, 0, fun _ => false⟩, rfl, Nat.zero_le _, fun _ => rfl, fun a h => by cases h⟩
  · simp [Value.cells] at h0
    obtain ⟨rfl, rfl, rfl⟩ := h0
    have key : ∀ i, i < len → ∃ p : Ac, w.cell? (a.add (i * 4)) = some (.string p.kind) ∧ w.cell? ⟨(a.add (i * 4)).block, (a.add (i * 4)).off + 1, none⟩ = some (.int .i64 p.n) ∧
        w.cell? ⟨(a.add (i * 4)).block, (a.add (i * 4)).off + 2, none⟩ = some (.string p.s) ∧ w.cell? ⟨(a.add (i * 4)).block, (a.add (i * 4)).off + 3, none⟩ = some (.slice p.kx p.kn p.kc) ∧ p.Ok w := by
      intro i hi
      obtain ⟨v0, y0, n0, c0, t0⟩ := hf i hi 0 _ rfl
      obtain ⟨v1, y1, n1, c1, t1⟩ := hf i hi 1 _ rfl
      obtain ⟨v2, y2, n2, c2, t2⟩ := hf i hi 2 _ rfl
      obtain ⟨v3, y3, n3, c3, t3⟩ := hf i hi 3 _ rfl
      obtain ⟨k0, rfl, z0⟩ := ac_string t0
      obtain ⟨k1, rfl, b1⟩ := ac_int t1
      obtain ⟨k2, rfl, z2⟩ := ac_string t2
      obtain ⟨kx, kn, kc, kb, rfl, z3, hk⟩ := ac_bools t3
      exact ⟨⟨k0, k1, k2, kx, kn, kc, kb⟩, c0, cell_add (by decide) c1, cell_add (by decide) c2, cell_add (by decide) c3, ⟨b1, by unfold maxLen at z2; simp only; omega, by unfold maxLen at z3; simp only; omega, hk⟩⟩
    haveI : Inhabited Ac := ⟨⟨⟨#[]⟩, 0, ⟨#[]⟩, none, 0, 0, fun _ => false⟩⟩
    obtain ⟨ac, hac⟩ := Go.Deep.choose_lt (α := Ac) key
    exact ⟨some a, len, cap, ac, rfl, by omega, (fun h => by cases h), fun a' ha i hi => by injection ha with ha; subst ha; exact hac i hi⟩
/-- three errors, out of what a row lists -/
theorem erD_of_laid {l : List (String × DataW Unit)} {W : World} {x1 x2 x8 : List UInt8} (h : laidMetH Tryd.prog l W)
    (f1 : l.filter (fun x => x.1 == "layercake/api.ErrBound") = [("layercake/api.ErrBound", .iface "*errors.errorString" (.ptr (.agg [.lit (.string x1)])))])
    (f2 : l.filter (fun x => x.1 == "layercake/api.ErrShape") = [("layercake/api.ErrShape", .iface "*errors.errorString" (.ptr (.agg [.lit (.string x2)])))])
    (f8 : l.filter (fun x => x.1 == "layercake/api.ErrPower") = [("layercake/api.ErrPower", .iface "*errors.errorString" (.ptr (.agg [.lit (.string x8)])))]) : ∃ E : Nat → Addr, ErD W E := by
  obtain ⟨E1, s1, v1, _⟩ := sentinel (g := 0) h f1 (by kernel_rfl) (by kernel_rfl) Tryd.underlying28
  obtain ⟨E2, s2, v2, _⟩ := sentinel (g := 2) h f2 (by kernel_rfl) (by kernel_rfl) Tryd.underlying28
  obtain ⟨E8, s8, v8, _⟩ := sentinel (g := 1) h f8 (by kernel_rfl) (by kernel_rfl) Tryd.underlying28
  exact ⟨fun k => if k = 1 then E1 else if k = 2 then E2 else E8, ⟨by simpa using v1, by simpa using v2, by simpa using v8⟩⟩
end Go.Proofs.YtheidjagcafgnaaDoor
