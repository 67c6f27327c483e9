/-
  layercakelaw4.act.
  The document's disk: power, Write, Flush.
  The document's disk: Flush, Crash.
-/
import Derived.Test.YtheidjagcafgnaaDoorDiskCopiesG2
import Derived.Deep.RegionHeld3
import Derived.StillTailTactics
namespace Go.Proofs.YtheidjagcafgnaaDoor
open Go.RowKit
set_option maxRecDepth 100000
theorem After.up {S : Nat → Prop} {w w' : World} {d n b c : Nat} {m : Dk.DM} (h : After S w w' d n m b) (hc : b ≤ c) : After S w w' d n m c := ⟨h.1.up hc, h.2⟩
theorem After.pre {S : Nat → Prop} {w w1 w' : World} {d n b : Nat} {m : Dk.DM} (hE : Ext w w1) (h : After S w1 w' d n m b) : After S w w' d n m b := by
  obtain ⟨h1, h2⟩ := h
  obtain ⟨gk, ck, gn, cn, vw, hx⟩ := h1.ex
  have e := hE.size
  refine ⟨⟨⟨gk, ck, gn, cn, vw, hx.mono fun k q => ?_⟩, h1.ok, fun k q => ?_, h1.n1⟩, (hE.keeps (S := S)).trans h2 (fun _ _ q => q)⟩
  · rcases q with q | q
    · exact .inl q
    · exact .inr ⟨by omega, q.2⟩
  · rcases q with q | q
    · exact h1.lt k (.inl q)
    · exact q.2
theorem kno {s : ByteArray} {l : List UInt8} (h : s ≠ ⟨l.toArray⟩) : (s.toList == l) = false := by
  rw [ByteArray.toList_eq]
  refine beq_eq_false_iff_ne.2 (fun e => h ?_)
  have : s.data = l.toArray := by rw [← e]
  cases s
  simp only at this
  rw [this]
theorem kyes (l : List UInt8) : ((⟨l.toArray⟩ : ByteArray).toList == l) = true := by rw [ByteArray.toList_eq]; simp
theorem boolinf : (Tryd.prog.info? 4).map (fun i => (i.zero, i.size, i.bytes)) = some (some (.bool false), 1, 1) := by kernel_rfl
def boolsV (n : Nat) (kb : Nat → Bool) : List Value := (List.range n).map fun i => .bool (kb i)
theorem boolsV_length (n : Nat) (kb : Nat → Bool) : (boolsV n kb).length = n := by simp [boolsV]
theorem boolsV_get {n : Nat} {kb : Nat → Bool} {j : Nat} (hj : j < n) : (boolsV n kb)[j]? = some (.bool (kb j)) := by simp [boolsV, hj]
set_option linter.unusedSimpArgs false in
theorem act_write (d n b : Nat) (m : Dk.DM) (a : Ac) (S : Nat → Prop) (w : World) (E : Nat → Addr) (hE : ErD w E) (h : DS w S d n m b) (hb : b ≤ 4000) (hk : a.kind = kWrite) :
    Calls Tryd.prog 9 #[.pointer (some ⟨d, 0, none⟩), acV a] w fun e w' => e = .returned (erV E (doA n a m).2) ∧ After S w w' d n (doA n a m).1 (b + 1) := by
  obtain ⟨kind, an, s, kx, kn, kc, kb⟩ := a
  have HBB := Lib.hid hb
  simp only at hk
  subst hk
  have t_write : (kWrite.toList == [119, 114, 105, 116, 101]) = true := kyes [119, 114, 105, 116, 101]
  unfold acV
  have HD := Lib.hid h
  have HE := Lib.hid hE
  clear h hE
  by_cases h1 : an < 0 ∨ (n : Int) ≤ an
  · have HR : Hid (doA n ⟨kWrite, an, s, kx, kn, kc, kb⟩ m = (m, 2)) := Lib.hid (by unfold doA; simp only; rw [if_pos trivial, if_pos h1])
    go_enter Tryd.func9, Tryd.ntmps9
    go_wp2_with fail
    refine calls_world (fun wz => Ext w wz ∧ wz.heap.size = w.heap.size + 1 ∧ Bk wz (w.heap.size) #[.string kWrite, .int .i64 an, .string s, .slice kx kn kc]) ⟨by repeat (first | exact Ext.refl _ | refine Ext.alloc ?_ _), by simp, by repeat (first | exact Bk.at (by simp) | refine Bk.old ?_)⟩ ?_
    rintro w1 ⟨hX, hZ, hB0⟩
    have D1 := Lib.hid (HD.out.ext hX)
    have X1 := Lib.hid hX
    have B1 := Lib.hid hB0
    have Z1 := Lib.hid hZ
    clear hX hZ hB0
    refine (write_bound d n b m an s S w1 E (HE.out.ext X1.out) D1.out h1).mono ?_
    rintro e w2 ⟨rfl, rfl⟩
    go_wp2_with fail
    go_ret
    exact ⟨by rw [HR.out]; rfl, by rw [HR.out]; exact (After.same (D1.out.up (Nat.le_succ b)) (X1.out.keeps (S := S)))⟩
  · obtain ⟨i, rfl⟩ : ∃ i : Nat, an = i := ⟨an.toNat, by omega⟩
    have hi : i < n := by omega
    by_cases h2 : 64 < s.size
    · have HR : Hid (doA n ⟨kWrite, (i : Int), s, kx, kn, kc, kb⟩ m = (m, 3)) := Lib.hid (by unfold doA; simp only; rw [if_pos trivial, if_neg h1, if_pos h2])
      go_enter Tryd.func9, Tryd.ntmps9
      go_wp2_with fail
      refine calls_world (fun wz => Ext w wz ∧ wz.heap.size = w.heap.size + 1 ∧ Bk wz (w.heap.size) #[.string kWrite, .int .i64 (i : Int), .string s, .slice kx kn kc]) ⟨by repeat (first | exact Ext.refl _ | refine Ext.alloc ?_ _), by simp, by repeat (first | exact Bk.at (by simp) | refine Bk.old ?_)⟩ ?_
      rintro w1 ⟨hX, hZ, hB0⟩
      have D1 := Lib.hid (HD.out.ext hX)
      have X1 := Lib.hid hX
      have B1 := Lib.hid hB0
      have Z1 := Lib.hid hZ
      clear hX hZ hB0
      refine (write_shape d n b i m s S w1 E (HE.out.ext X1.out) D1.out hi h2).mono ?_
      rintro e w2 ⟨rfl, rfl⟩
      go_wp2_with fail
      go_ret
      exact ⟨by rw [HR.out]; rfl, by rw [HR.out]; exact (After.same (D1.out.up (Nat.le_succ b)) (X1.out.keeps (S := S)))⟩
    · by_cases h3 : m.left = 0
      · have HR : Hid (doA n ⟨kWrite, (i : Int), s, kx, kn, kc, kb⟩ m = (m, 9)) := Lib.hid (by unfold doA; simp only; rw [if_pos trivial, if_neg h1, if_neg h2, if_pos h3])
        go_enter Tryd.func9, Tryd.ntmps9
        go_wp2_with fail
        refine calls_world (fun wz => Ext w wz ∧ wz.heap.size = w.heap.size + 1 ∧ Bk wz (w.heap.size) #[.string kWrite, .int .i64 (i : Int), .string s, .slice kx kn kc]) ⟨by repeat (first | exact Ext.refl _ | refine Ext.alloc ?_ _), by simp, by repeat (first | exact Bk.at (by simp) | refine Bk.old ?_)⟩ ?_
        rintro w1 ⟨hX, hZ, hB0⟩
        have D1 := Lib.hid (HD.out.ext hX)
        have X1 := Lib.hid hX
        have B1 := Lib.hid hB0
        have Z1 := Lib.hid hZ
        clear hX hZ hB0
        refine (write_power d n b i m s S w1 E (HE.out.ext X1.out) D1.out hi (by omega) h3).mono ?_
        rintro e w2 ⟨rfl, rfl⟩
        go_wp2_with fail
        go_ret
        exact ⟨by rw [HR.out]; rfl, by rw [HR.out]; exact (After.same (D1.out.up (Nat.le_succ b)) (X1.out.keeps (S := S)))⟩
      · have HR : Hid (doA n ⟨kWrite, (i : Int), s, kx, kn, kc, kb⟩ m = (Dk.wr m i (Dk.pad s), 0)) := Lib.hid (by unfold doA; simp only; rw [if_pos trivial, if_neg h1, if_neg h2, if_neg h3, Int.toNat_natCast])
        go_enter Tryd.func9, Tryd.ntmps9
        go_wp2_with fail
        refine calls_world (fun wz => Ext w wz ∧ wz.heap.size = w.heap.size + 1 ∧ Bk wz (w.heap.size) #[.string kWrite, .int .i64 (i : Int), .string s, .slice kx kn kc]) ⟨by repeat (first | exact Ext.refl _ | refine Ext.alloc ?_ _), by simp, by repeat (first | exact Bk.at (by simp) | refine Bk.old ?_)⟩ ?_
        rintro w1 ⟨hX, hZ, hB0⟩
        have D1 := Lib.hid (HD.out.ext hX)
        have X1 := Lib.hid hX
        have B1 := Lib.hid hB0
        have Z1 := Lib.hid hZ
        clear hX hZ hB0
        refine (write_ok d n b i m s S w1 D1.out hi (by omega) h3 (by omega)).mono ?_
        rintro e w2 ⟨rfl, hA⟩
        have HA := Lib.hid hA
        clear hA
        go_wp2_with fail
        go_ret
        exact ⟨by rw [HR.out]; rfl, by rw [HR.out]; exact After.pre X1.out HA.out⟩
set_option linter.unusedSimpArgs false in
theorem act_flush (d n b : Nat) (m : Dk.DM) (a : Ac) (S : Nat → Prop) (w : World) (E : Nat → Addr) (hE : ErD w E) (h : DS w S d n m b) (hb : b ≤ 4000) (hk : a.kind = kFlush) :
    Calls Tryd.prog 9 #[.pointer (some ⟨d, 0, none⟩), acV a] w fun e w' => e = .returned (erV E (doA n a m).2) ∧ After S w w' d n (doA n a m).1 (b + 1) := by
  obtain ⟨kind, an, s, kx, kn, kc, kb⟩ := a
  have HBB := Lib.hid hb
  simp only at hk
  subst hk
  have t_write : (kFlush.toList == [119, 114, 105, 116, 101]) = false := kno (by decide)
  have t_flush : (kFlush.toList == [102, 108, 117, 115, 104]) = true := kyes [102, 108, 117, 115, 104]
  unfold acV
  have HD := Lib.hid h
  have HE := Lib.hid hE
  clear h hE
  by_cases h3 : m.left = 0
  · have HR : Hid (doA n ⟨kFlush, an, s, kx, kn, kc, kb⟩ m = (m, 9)) := Lib.hid (by unfold doA; simp only; rw [if_neg (by decide), if_pos trivial, if_pos h3])
    go_enter Tryd.func9, Tryd.ntmps9
    go_wp2_with fail
    refine calls_world (fun wz => Ext w wz ∧ wz.heap.size = w.heap.size + 1 ∧ Bk wz (w.heap.size) #[.string kFlush, .int .i64 an, .string s, .slice kx kn kc]) ⟨by repeat (first | exact Ext.refl _ | refine Ext.alloc ?_ _), by simp, by repeat (first | exact Bk.at (by simp) | refine Bk.old ?_)⟩ ?_
    rintro w1 ⟨hX, hZ, hB0⟩
    have D1 := Lib.hid (HD.out.ext hX)
    have X1 := Lib.hid hX
    have B1 := Lib.hid hB0
    have Z1 := Lib.hid hZ
    clear hX hZ hB0
    refine (flush_power d n b m S w1 E (HE.out.ext X1.out) D1.out h3).mono ?_
    rintro e w2 ⟨rfl, rfl⟩
    go_wp2_with fail
    go_ret
    exact ⟨by rw [HR.out]; rfl, by rw [HR.out]; exact (After.same (D1.out.up (Nat.le_succ b)) (X1.out.keeps (S := S)))⟩
  · have HR : Hid (doA n ⟨kFlush, an, s, kx, kn, kc, kb⟩ m = (Dk.fl m, 0)) := Lib.hid (by unfold doA; simp only; rw [if_neg (by decide), if_pos trivial, if_neg h3])
    go_enter Tryd.func9, Tryd.ntmps9
    go_wp2_with fail
    refine calls_world (fun wz => Ext w wz ∧ wz.heap.size = w.heap.size + 1 ∧ Bk wz (w.heap.size) #[.string kFlush, .int .i64 an, .string s, .slice kx kn kc]) ⟨by repeat (first | exact Ext.refl _ | refine Ext.alloc ?_ _), by simp, by repeat (first | exact Bk.at (by simp) | refine Bk.old ?_)⟩ ?_
    rintro w1 ⟨hX, hZ, hB0⟩
    have D1 := Lib.hid (HD.out.ext hX)
    have X1 := Lib.hid hX
    have B1 := Lib.hid hB0
    have Z1 := Lib.hid hZ
    clear hX hZ hB0
    refine (flush_ok d n b m S w1 D1.out h3).mono ?_
    rintro e w2 ⟨rfl, hA⟩
    have HA := Lib.hid hA
    clear hA
    go_wp2_with fail
    go_ret
    exact ⟨by rw [HR.out]; rfl, by rw [HR.out]; exact After.pre X1.out (HA.out.up (Nat.le_succ b))⟩
set_option linter.unusedSimpArgs false in
theorem act_fail (d n b : Nat) (m : Dk.DM) (a : Ac) (S : Nat → Prop) (w : World) (E : Nat → Addr) (hE : ErD w E) (h : DS w S d n m b) (hb : b ≤ 4000) (hk : a.kind = kFail) (hbn : -9223372036854775808 ≤ a.n ∧ a.n ≤ 9223372036854775807) :
    Calls Tryd.prog 9 #[.pointer (some ⟨d, 0, none⟩), acV a] w fun e w' => e = .returned (erV E (doA n a m).2) ∧ After S w w' d n (doA n a m).1 (b + 1) := by
  obtain ⟨kind, an, s, kx, kn, kc, kb⟩ := a
  have HBB := Lib.hid hb
  simp only at hk
  subst hk
  have t_write : (kFail.toList == [119, 114, 105, 116, 101]) = false := kno (by decide)
  have t_flush : (kFail.toList == [102, 108, 117, 115, 104]) = false := kno (by decide)
  have t_fail : (kFail.toList == [102, 97, 105, 108]) = true := kyes [102, 97, 105, 108]
  unfold acV
  have HD := Lib.hid h
  have HE := Lib.hid hE
  clear h hE
  have hbn_ := Lib.hid hbn
  clear hbn
  by_cases h1 : an < 0
  · have HR : Hid (doA n ⟨kFail, an, s, kx, kn, kc, kb⟩ m = (m, 2)) := Lib.hid (by unfold doA; simp only; rw [if_neg (by decide), if_neg (by decide), if_pos trivial, if_pos h1])
    go_enter Tryd.func9, Tryd.ntmps9
    go_upto_region 7 with fail
    refine wp_world (fun wz => Ext w wz ∧ wz.heap.size = w.heap.size + 1 ∧ Bk wz (w.heap.size) #[.string kFail, .int .i64 an, .string s, .slice kx kn kc]) ⟨by repeat (first | exact Ext.refl _ | refine Ext.alloc ?_ _), by simp, by repeat (first | exact Bk.at (by simp) | refine Bk.old ?_)⟩ ?_
    rintro w1 ⟨hX, hZ, hB0⟩
    have D1 := Lib.hid (HD.out.ext hX)
    have X1 := Lib.hid hX
    have B1 := Lib.hid hB0
    have Z1 := Lib.hid hZ
    clear hX hZ hB0
    refine wp_region_held_drew (S := fun w' => w'.cell? ⟨w.heap.size, 1, none⟩ = some (.int .i64 an)) (by kernel_rfl) (B1.out.cell 1) (fun hHeld => ?_)
    refine wpAnyH_take (i := 0) (v := ?_) rfl (by kernel_rfl) (by kernel_rfl) (by kernel_rfl) (fun _ _ _ h => h) (Or.inl ⟨by kernel_rfl, ?_⟩) hHeld ?_
    rotate_left
    · intro w hSw
      (try dsimp only at hSw)
      go_split_ands
      go_simp
      (try with_reducible rfl)
    try simp only [Act.put, List.getElem_toArray, List.getElem_cons_succ, List.getElem_cons_zero, List.setIfInBounds_toArray, List.set_cons_zero, List.set_cons_succ]
    refine wpAnyH_take (i := 1) (v := ?_) rfl (by kernel_rfl) (by kernel_rfl) (by kernel_rfl) (fun _ _ _ h => h) (Or.inl ⟨by kernel_rfl, ?_⟩) hHeld ?_
    rotate_left
    · intro w hSw
      (try dsimp only at hSw)
      go_split_ands
      go_simp
      (try with_reducible rfl)
    try simp only [Act.put, List.getElem_toArray, List.getElem_cons_succ, List.getElem_cons_zero, List.setIfInBounds_toArray, List.set_cons_zero, List.set_cons_succ]
    refine wpAnyH_take (i := 2) (v := ?_) rfl (by kernel_rfl) (by kernel_rfl) (by kernel_rfl) (fun _ _ _ h => h) (Or.inl ⟨by kernel_rfl, ?_⟩) hHeld ?_
    rotate_left
    · intro w hSw
      (try dsimp only at hSw)
      go_split_ands
      go_simp
      (try with_reducible rfl)
    try simp only [Act.put, List.getElem_toArray, List.getElem_cons_succ, List.getElem_cons_zero, List.setIfInBounds_toArray, List.set_cons_zero, List.set_cons_succ]
    refine wpAnyH_take (i := 3) (v := ?_) rfl (by kernel_rfl) (by kernel_rfl) (by kernel_rfl) (fun _ _ _ h => h) (Or.inl ⟨by kernel_rfl, ?_⟩) hHeld ?_
    rotate_left
    · intro w hSw
      (try dsimp only at hSw)
      go_split_ands
      go_simp
      (try with_reducible rfl)
    try simp only [Act.put, List.getElem_toArray, List.getElem_cons_succ, List.getElem_cons_zero, List.setIfInBounds_toArray, List.set_cons_zero, List.set_cons_succ]
    refine wpAnyH_take (i := 4) (v := ?_) rfl (by kernel_rfl) (by kernel_rfl) (by kernel_rfl) (fun _ _ _ h => h) (Or.inl ⟨by kernel_rfl, ?_⟩) hHeld ?_
    rotate_left
    · intro w hSw
      (try dsimp only at hSw)
      go_split_ands
      go_simp
      (try with_reducible rfl)
    try simp only [Act.put, List.getElem_toArray, List.getElem_cons_succ, List.getElem_cons_zero, List.setIfInBounds_toArray, List.set_cons_zero, List.set_cons_succ]
    refine wpAnyH_ready (rs := [5]) (by kernel_rfl) (by simp) ?_
    refine AllReadyH.cons rfl (fun KK hK => ?_) AllReadyH.nil
    clear hHeld
    go_simp
    refine (fail_bad d an w1.drew E ((HE.out.ext X1.out).ext (show Ext w1 w1.drew from Below.drew (Ext.refl w1))) h1).mono ?_
    rintro e w5 ⟨rfl, rfl⟩
    have BH := Lib.hid ((B1.out.ext (show Ext w1 w1.drew from Below.drew (Ext.refl w1))).cell 1)
    go_simp
    refine hK.out _ _ BH.out (fun hHeld => ?_)
    clear hK KK
    try simp only [Act.put, List.getElem_toArray, List.getElem_cons_succ, List.getElem_cons_zero, List.setIfInBounds_toArray, List.set_cons_zero, List.set_cons_succ]
    refine wpAnyH_take (i := 6) (v := ?_) rfl (by kernel_rfl) (by kernel_rfl) (by kernel_rfl) (fun _ _ _ h => h) (Or.inl ⟨by kernel_rfl, ?_⟩) hHeld ?_
    rotate_left
    · intro w hSw
      (try dsimp only at hSw)
      go_split_ands
      go_simp
      (try with_reducible rfl)
    try simp only [Act.put, List.getElem_toArray, List.getElem_cons_succ, List.getElem_cons_zero, List.setIfInBounds_toArray, List.set_cons_zero, List.set_cons_succ]
    refine wpAnyH_done (by kernel_rfl) ?_ _
    clear hHeld
    go_wp2_with fail
    go_ret
    exact ⟨by rw [HR.out]; rfl, by rw [HR.out]; exact (After.same ((D1.out.ext (show Ext w1 w1.drew from Below.drew (Ext.refl w1))).up (Nat.le_succ b)) ((X1.out.trans (show Ext w1 w1.drew from Below.drew (Ext.refl w1))).keeps (S := S)))⟩
  · have HR : Hid (doA n ⟨kFail, an, s, kx, kn, kc, kb⟩ m = ({ m with left := an }, 0)) := Lib.hid (by unfold doA; simp only; rw [if_neg (by decide), if_neg (by decide), if_pos trivial, if_neg h1])
    go_enter Tryd.func9, Tryd.ntmps9
    go_upto_region 7 with fail
    refine wp_world (fun wz => Ext w wz ∧ wz.heap.size = w.heap.size + 1 ∧ Bk wz (w.heap.size) #[.string kFail, .int .i64 an, .string s, .slice kx kn kc]) ⟨by repeat (first | exact Ext.refl _ | refine Ext.alloc ?_ _), by simp, by repeat (first | exact Bk.at (by simp) | refine Bk.old ?_)⟩ ?_
    rintro w1 ⟨hX, hZ, hB0⟩
    have D1 := Lib.hid (HD.out.ext hX)
    have X1 := Lib.hid hX
    have B1 := Lib.hid hB0
    have Z1 := Lib.hid hZ
    clear hX hZ hB0
    refine wp_region_held_drew (S := fun w' => w'.cell? ⟨w.heap.size, 1, none⟩ = some (.int .i64 an)) (by kernel_rfl) (B1.out.cell 1) (fun hHeld => ?_)
    refine wpAnyH_take (i := 0) (v := ?_) rfl (by kernel_rfl) (by kernel_rfl) (by kernel_rfl) (fun _ _ _ h => h) (Or.inl ⟨by kernel_rfl, ?_⟩) hHeld ?_
    rotate_left
    · intro w hSw
      (try dsimp only at hSw)
      go_split_ands
      go_simp
      (try with_reducible rfl)
    try simp only [Act.put, List.getElem_toArray, List.getElem_cons_succ, List.getElem_cons_zero, List.setIfInBounds_toArray, List.set_cons_zero, List.set_cons_succ]
    refine wpAnyH_take (i := 1) (v := ?_) rfl (by kernel_rfl) (by kernel_rfl) (by kernel_rfl) (fun _ _ _ h => h) (Or.inl ⟨by kernel_rfl, ?_⟩) hHeld ?_
    rotate_left
    · intro w hSw
      (try dsimp only at hSw)
      go_split_ands
      go_simp
      (try with_reducible rfl)
    try simp only [Act.put, List.getElem_toArray, List.getElem_cons_succ, List.getElem_cons_zero, List.setIfInBounds_toArray, List.set_cons_zero, List.set_cons_succ]
    refine wpAnyH_take (i := 2) (v := ?_) rfl (by kernel_rfl) (by kernel_rfl) (by kernel_rfl) (fun _ _ _ h => h) (Or.inl ⟨by kernel_rfl, ?_⟩) hHeld ?_
    rotate_left
    · intro w hSw
      (try dsimp only at hSw)
      go_split_ands
      go_simp
      (try with_reducible rfl)
    try simp only [Act.put, List.getElem_toArray, List.getElem_cons_succ, List.getElem_cons_zero, List.setIfInBounds_toArray, List.set_cons_zero, List.set_cons_succ]
    refine wpAnyH_take (i := 3) (v := ?_) rfl (by kernel_rfl) (by kernel_rfl) (by kernel_rfl) (fun _ _ _ h => h) (Or.inl ⟨by kernel_rfl, ?_⟩) hHeld ?_
    rotate_left
    · intro w hSw
      (try dsimp only at hSw)
      go_split_ands
      go_simp
      (try with_reducible rfl)
    try simp only [Act.put, List.getElem_toArray, List.getElem_cons_succ, List.getElem_cons_zero, List.setIfInBounds_toArray, List.set_cons_zero, List.set_cons_succ]
    refine wpAnyH_take (i := 4) (v := ?_) rfl (by kernel_rfl) (by kernel_rfl) (by kernel_rfl) (fun _ _ _ h => h) (Or.inl ⟨by kernel_rfl, ?_⟩) hHeld ?_
    rotate_left
    · intro w hSw
      (try dsimp only at hSw)
      go_split_ands
      go_simp
      (try with_reducible rfl)
    try simp only [Act.put, List.getElem_toArray, List.getElem_cons_succ, List.getElem_cons_zero, List.setIfInBounds_toArray, List.set_cons_zero, List.set_cons_succ]
    refine wpAnyH_ready (rs := [5]) (by kernel_rfl) (by simp) ?_
    refine AllReadyH.cons rfl (fun KK hK => ?_) AllReadyH.nil
    clear hHeld
    go_simp
    refine (dfail_any d n b m an S w1.drew (D1.out.ext (show Ext w1 w1.drew from Below.drew (Ext.refl w1))) (by omega) hbn_.out.2).mono ?_
    rintro e w5 ⟨rfl, hA⟩
    have HA := Lib.hid hA
    clear hA
    have BH := Lib.hid (((B1.out.ext (show Ext w1 w1.drew from Below.drew (Ext.refl w1))).keeps HA.out.2 (fun q => by have h1 := HD.out.lt _ q; omega)).cell 1)
    go_simp
    refine hK.out _ _ BH.out (fun hHeld => ?_)
    clear hK KK
    try simp only [Act.put, List.getElem_toArray, List.getElem_cons_succ, List.getElem_cons_zero, List.setIfInBounds_toArray, List.set_cons_zero, List.set_cons_succ]
    refine wpAnyH_take (i := 6) (v := ?_) rfl (by kernel_rfl) (by kernel_rfl) (by kernel_rfl) (fun _ _ _ h => h) (Or.inl ⟨by kernel_rfl, ?_⟩) hHeld ?_
    rotate_left
    · intro w hSw
      (try dsimp only at hSw)
      go_split_ands
      go_simp
      (try with_reducible rfl)
    try simp only [Act.put, List.getElem_toArray, List.getElem_cons_succ, List.getElem_cons_zero, List.setIfInBounds_toArray, List.set_cons_zero, List.set_cons_succ]
    refine wpAnyH_done (by kernel_rfl) ?_ _
    clear hHeld
    go_wp2_with fail
    go_ret
    exact ⟨by rw [HR.out]; rfl, by rw [HR.out]; exact After.pre (X1.out.trans (show Ext w1 w1.drew from Below.drew (Ext.refl w1))) (HA.out.up (Nat.le_succ b))⟩
set_option linter.unusedSimpArgs false in
theorem act_crash (d n b : Nat) (m : Dk.DM) (a : Ac) (S : Nat → Prop) (w : World) (E : Nat → Addr) (hE : ErD w E) (h : DS w S d n m b) (hb : b ≤ 4000) (hk : a.kind = kCrash) (hkn : a.kn ≤ 200) (hkp : Kp w a.kx a.kn a.kb) :
    Calls Tryd.prog 9 #[.pointer (some ⟨d, 0, none⟩), acV a] w fun e w' => e = .returned (erV E (doA n a m).2) ∧ After S w w' d n (doA n a m).1 (b + 1) := by
  obtain ⟨kind, an, s, kx, kn, kc, kb⟩ := a
  have HBB := Lib.hid hb
  simp only at hk
  subst hk
  have t_write : (kCrash.toList == [119, 114, 105, 116, 101]) = false := kno (by decide)
  have t_flush : (kCrash.toList == [102, 108, 117, 115, 104]) = false := kno (by decide)
  have t_fail : (kCrash.toList == [102, 97, 105, 108]) = false := kno (by decide)
  have t_crash : (kCrash.toList == [99, 114, 97, 115, 104]) = true := kyes [99, 114, 97, 115, 104]
  unfold acV
  have HD := Lib.hid h
  have HE := Lib.hid hE
  clear h hE
  simp only at hkp hkn
  have HK := Lib.hid hkp
  clear hkp
  have HR : Hid (doA n ⟨kCrash, an, s, kx, kn, kc, kb⟩ m = (Dk.cr m (kf kn kb), 0)) := Lib.hid (by unfold doA; simp only; rw [if_neg (by decide), if_neg (by decide), if_neg (by decide), if_pos trivial])
  obtain ⟨i0, hi0, hz0, hz1, hz2⟩ := info_parts boolinf
  cases kx with
  | none =>
    obtain rfl : kn = 0 := HK.out.1 rfl
    go_enter Tryd.func9, Tryd.ntmps9
    go_upto_region 10 with fail
    refine wp_world (fun wz => Ext w wz ∧ wz.heap.size = w.heap.size + 1 ∧ Bk wz (w.heap.size) #[.string kCrash, .int .i64 an, .string s, .slice none 0 kc]) ⟨by repeat (first | exact Ext.refl _ | refine Ext.alloc ?_ _), by simp, by repeat (first | exact Bk.at (by simp) | refine Bk.old ?_)⟩ ?_
    rintro w1 ⟨hX, hZ, hB0⟩
    have D1 := Lib.hid (HD.out.ext hX)
    have X1 := Lib.hid hX
    have B1 := Lib.hid hB0
    have Z1 := Lib.hid hZ
    clear hX hZ hB0
    have c3 := B1.out.cell 3
    go_wp2_with (at_builtin; refine wpList_append_own_none rfl _ _ 23 rfl 0 4 i0 1 Tryd.underlying23 hi0 (.slice none 0 0) 0 [] rfl (World.ownsRow_nil _ _ _ _) rfl ?_)
    refine (crash_any d n b m S w1 D1.out (by omega) none 0 0 kb ⟨fun _ => rfl, fun a ha => by cases ha⟩ (by omega)).mono ?_
    rintro e w3 ⟨rfl, hA⟩
    have HA := Lib.hid hA
    clear hA
    go_wp2_with fail
    go_ret
    exact ⟨by rw [HR.out]; rfl, by rw [HR.out]; exact After.pre X1.out (HA.out.up (Nat.le_succ b))⟩
  | some ka =>
    go_enter Tryd.func9, Tryd.ntmps9
    go_upto_region 10 with fail
    refine wp_world (fun wz => Ext w wz ∧ wz.heap.size = w.heap.size + 1 ∧ Bk wz (w.heap.size) #[.string kCrash, .int .i64 an, .string s, .slice (some ka) kn kc]) ⟨by repeat (first | exact Ext.refl _ | refine Ext.alloc ?_ _), by simp, by repeat (first | exact Bk.at (by simp) | refine Bk.old ?_)⟩ ?_
    rintro w1 ⟨hX, hZ, hB0⟩
    have D1 := Lib.hid (HD.out.ext hX)
    have X1 := Lib.hid hX
    have B1 := Lib.hid hB0
    have Z1 := Lib.hid hZ
    clear hX hZ hB0
    have c3 := B1.out.cell 3
    go_wp2_with (at_builtin; refine wpList_append_own_at _ rfl _ _ 23 rfl w1.heap.size 4 i0 (.bool false) 1 1 Tryd.underlying23 hi0 hz0 hz1 hz2 rfl (by decide) (.slice none 0 0) 0 [] rfl (World.ownsRow_nil _ _ _ _) ka kn kc (boolsV kn kb) rfl ?c0 ?c1 ?c2 ?c3 ?c4 ?c5 ?_)
    case c0 => rw [boolsV_length]; omega
    case c1 =>
      intro j u hj
      have hjn : j < kn := by
        have := (List.getElem?_eq_some_iff.1 hj).1
        rwa [boolsV_length] at this
      rw [boolsV_get hjn] at hj
      injection hj with hj
      subst hj
      have h1 := HK.out.2 ka rfl j hjn
      exact (X1.out.keeps (S := fun _ => False) |>.cell (World.block_lt_of_cell? w _ h1) id).trans h1
    case c2 => intro u hu; obtain ⟨x, _, rfl⟩ := List.mem_map.1 hu; rfl
    case c3 => unfold maxLen; omega
    case c4 => omega
    case c5 => exact Nat.le_refl _
    intro v2 w2 hown hgrow hnil hat
    have ho : w2.ownsRow w1.heap.size 4 1 v2 kn (boolsV kn kb) := by simpa using hown
    have hE : Ext w1 w2 := (Below.refl _ w1).grown hgrow (Nat.le_refl _) (by intro k hk; simp [Value.ownBlock] at hk)
    obtain ⟨vx, vc, rfl, _, hv0⟩ := own_form ho
    have HKR : Hid (KR w2 S vx kn kb) := Lib.hid ⟨hv0, fun a ha j hj => by
      subst ha
      rcases ho.2 with ⟨hv, _⟩ | ⟨g, cap, cur, hv, hg, _⟩
      · cases hv
      · injection hv with hv
        injection hv with hv
        subst hv
        rw [add_plain]
        exact ⟨by rw [ho.cellAt j (by omega), boolsV_get hj], fun q => by have q1 : g < w.heap.size := HD.out.lt _ q; have := X1.out.size; omega⟩⟩
    have X2 := Lib.hid (X1.out.trans hE)
    clear ho hown hgrow hnil hat hE c3 hv0
    go_wp2_with fail
    refine (crash_any d n b m S w2 (HD.out.ext X2.out) (by omega) vx kn vc kb HKR.out (by omega)).mono ?_
    rintro e w3 ⟨rfl, hA⟩
    have HA := Lib.hid hA
    clear hA
    go_wp2_with fail
    go_ret
    exact ⟨by rw [HR.out]; rfl, by rw [HR.out]; exact After.pre X2.out (HA.out.up (Nat.le_succ b))⟩
set_option linter.unusedSimpArgs false in
theorem act_other (d n b : Nat) (m : Dk.DM) (a : Ac) (S : Nat → Prop) (w : World) (E : Nat → Addr) (hE : ErD w E) (h : DS w S d n m b) (hb : b ≤ 4000) (h_write : a.kind ≠ kWrite) (h_flush : a.kind ≠ kFlush) (h_fail : a.kind ≠ kFail) (h_crash : a.kind ≠ kCrash) :
    Calls Tryd.prog 9 #[.pointer (some ⟨d, 0, none⟩), acV a] w fun e w' => e = .returned (erV E (doA n a m).2) ∧ After S w w' d n (doA n a m).1 (b + 1) := by
  obtain ⟨kind, an, s, kx, kn, kc, kb⟩ := a
  have HBB := Lib.hid hb
  have t_write : (kind.toList == [119, 114, 105, 116, 101]) = false := kno h_write
  have t_flush : (kind.toList == [102, 108, 117, 115, 104]) = false := kno h_flush
  have t_fail : (kind.toList == [102, 97, 105, 108]) = false := kno h_fail
  have t_crash : (kind.toList == [99, 114, 97, 115, 104]) = false := kno h_crash
  unfold acV
  have HD := Lib.hid h
  have HE := Lib.hid hE
  clear h hE
  have HR : Hid (doA n ⟨kind, an, s, kx, kn, kc, kb⟩ m = (m, 0)) := Lib.hid (by unfold doA; simp only; rw [if_neg h_write, if_neg h_flush, if_neg h_fail, if_neg h_crash])
  go_enter Tryd.func9, Tryd.ntmps9
  have E_ := (Ext.refl w).alloc (.cells #[.string kind, .int .i64 an, .string s, .slice kx kn kc] 33)
  have EE := Lib.hid E_
  clear E_
  go_wp2_with fail
  go_ret
  exact ⟨by rw [HR.out]; rfl, by rw [HR.out]; exact (After.same ((HD.out.ext EE.out).up (Nat.le_succ b)) (EE.out.keeps (S := S)))⟩
theorem act_any (d n b : Nat) (m : Dk.DM) (a : Ac) (S : Nat → Prop) (w : World) (E : Nat → Addr) (hE : ErD w E) (h : DS w S d n m b) (hb : b ≤ 4000) (hbn : -9223372036854775808 ≤ a.n ∧ a.n ≤ 9223372036854775807) (hkn : a.kn ≤ 200) (hkp : Kp w a.kx a.kn a.kb) :
    Calls Tryd.prog 9 #[.pointer (some ⟨d, 0, none⟩), acV a] w fun e w' => e = .returned (erV E (doA n a m).2) ∧ After S w w' d n (doA n a m).1 (b + 1) := by
  by_cases h1 : a.kind = kWrite
  · exact act_write d n b m a S w E hE h hb h1
  by_cases h2 : a.kind = kFlush
  · exact act_flush d n b m a S w E hE h hb h2
  by_cases h3 : a.kind = kFail
  · exact act_fail d n b m a S w E hE h hb h3 hbn
  by_cases h4 : a.kind = kCrash
  · exact act_crash d n b m a S w E hE h hb h4 hkn hkp
  · exact act_other d n b m a S w E hE h hb h1 h2 h3 h4
end Go.Proofs.YtheidjagcafgnaaDoor
namespace Go.Proofs.YtheidjagcafgnaaDoor
open Go.RowKit
set_option maxRecDepth 100000
theorem kwinf : (Tryd.prog.info? 71).map (fun i => (i.zero, i.size, i.bytes)) = some (some (.agg #[.int .i64 0, .string ⟨#[]⟩]), 2, 24) := by kernel_rfl
structure KS (w : World) (S : Nat → Prop) (d n : Nat) (m : Dk.DM) (b : Nat) : Prop where
  ex : ∃ gk ck gn cn vw, DX w S d n 71 #[.slice (some ⟨gk, 0, none⟩) n ck, .slice (some ⟨gn, 0, none⟩) n cn, vw, .int .i64 m.left] gk gn vw m.kept m.now m.ws
  ok : Dk.Ok n m b
  lt : ∀ k, S k → k < w.heap.size
  n1 : 1 ≤ n ∧ n ≤ 4000
theorem KS.keeps {w w' : World} {S F : Nat → Prop} {d n b : Nat} {m : Dk.DM} (h : KS w S d n m b) (hk : Keeps F w w') (hF : ∀ k, S k → ¬ F k) : KS w' S d n m b := by
  obtain ⟨gk, ck, gn, cn, vw, hx⟩ := h.ex
  exact ⟨⟨gk, ck, gn, cn, vw, hx.keeps hk hF⟩, h.ok, fun k hs => Nat.lt_of_lt_of_le (h.lt k hs) hk.size, h.n1⟩
theorem KS.ext {w w' : World} {S : Nat → Prop} {d n b : Nat} {m : Dk.DM} (h : KS w S d n m b) (hE : Ext w w') : KS w' S d n m b := h.keeps (F := fun _ => False) hE.keeps (fun _ _ => id)
theorem KS.up {w : World} {S : Nat → Prop} {d n b c : Nat} {m : Dk.DM} (h : KS w S d n m b) (hc : b ≤ c) : KS w S d n m c := ⟨h.ex, h.ok.up hc, h.lt, h.n1⟩
def KAfter (S : Nat → Prop) (w w' : World) (d n : Nat) (m : Dk.DM) (b : Nat) : Prop := KS w' (grow S w w') d n m b ∧ Keeps S w w'
theorem KAfter.same {S : Nat → Prop} {w w' : World} {d n b : Nat} {m : Dk.DM} (h : KS w' S d n m b) (hk : Keeps S w w') : KAfter S w w' d n m b := by
  obtain ⟨gk, ck, gn, cn, vw, hx⟩ := h.ex
  exact ⟨⟨⟨gk, ck, gn, cn, vw, hx.mono fun _ => .inl⟩, h.ok, fun k hs => by rcases hs with q | q; exact h.lt k q; exact q.2, h.n1⟩, hk⟩
theorem KAfter.up {S : Nat → Prop} {w w' : World} {d n b c : Nat} {m : Dk.DM} (h : KAfter S w w' d n m b) (hc : b ≤ c) : KAfter S w w' d n m c := ⟨h.1.up hc, h.2⟩
theorem KAfter.pre {S : Nat → Prop} {w w1 w' : World} {d n b : Nat} {m : Dk.DM} (hE : Ext w w1) (h : KAfter S w1 w' d n m b) : KAfter S w w' d n m b := by
  obtain ⟨h1, h2⟩ := h
  obtain ⟨gk, ck, gn, cn, vw, hx⟩ := h1.ex
  have e := hE.size
  refine ⟨⟨⟨gk, ck, gn, cn, vw, hx.mono fun k q => ?_⟩, h1.ok, fun k q => ?_, h1.n1⟩, (hE.keeps (S := S)).trans h2 (fun _ _ q => q)⟩
  · rcases q with q | q
    · exact .inl q
    · exact .inr ⟨by omega, q.2⟩
  · rcases q with q | q
    · exact h1.lt k (.inl q)
    · exact q.2
theorem zeros_any (c : Nat) (hc : c ≤ 64) (w : World) : Calls Tryd.prog 28 #[.int .i64 (c : Int)] w fun e w' => e = .returned (.string (zB c)) ∧ Ext w w' := by
  have hmk := run_make_row' (P := Tryd.prog) 52 5 (.int .u8 0) 1 Tryd.underlying52 u8info rfl .i64 .i64 c (by omega) (by omega)
  have hcv : (convert 52 9 (.slice (some ⟨w.heap.size, 0, none⟩) c c)).run Tryd.prog (w.alloc (.cells (madeCells #[.int .u8 0] c) 5)) = .ok (.string (zB c)) (w.alloc (.cells (madeCells #[.int .u8 0] c) 5)) := by
    have h := run_convert_bytes_back (P := Tryd.prog) (w.alloc (.cells (madeCells #[.int .u8 0] c) 5)) 52 9 5 ⟨w.heap.size, 0, none⟩ c (List.replicate c 0) Tryd.underlying52 Tryd.underlying5 Tryd.underlying9 (fun j hj => by
      rw [List.length_replicate] at hj
      rw [add_plain, (Cv.made w c (.int .u8 0) 5 j hj).1, List.getElem_replicate]; rfl)
    rw [List.length_replicate] at h
    exact h
  go_enter Tryd.func28, Tryd.ntmps28
  go_wp2_with fail
  go_ret
  exact ⟨rfl, (Ext.refl w).alloc _⟩
theorem kpow_no (d : Nat) (w : World) (c0 : w.cell? ⟨d, 3, none⟩ = some (.int .i64 0)) :
    Calls Tryd.prog 40 #[.pointer (some ⟨d, 0, none⟩)] w fun e w' => e = .returned (.bool false) ∧ w' = w := by
  go_enter Tryd.func40, Tryd.ntmps40
  go_wp2_with fail
  go_ret
  exact ⟨rfl, rfl⟩
theorem kpow_neg (d : Nat) (l : Int) (w : World) (c0 : w.cell? ⟨d, 3, none⟩ = some (.int .i64 l)) (hl : l < 0) :
    Calls Tryd.prog 40 #[.pointer (some ⟨d, 0, none⟩)] w fun e w' => e = .returned (.bool true) ∧ w' = w := by
  have t0 : (l == 0) = false := beq_eq_false_iff_ne.2 (by omega)
  have t1 : decide (0 < l) = false := decide_eq_false (by omega)
  clear hl
  go_enter Tryd.func40, Tryd.ntmps40
  go_wp2_with fail
  go_ret
  exact ⟨rfl, rfl⟩
theorem kpow_pos (d : Nat) (l : Int) (w : World) (c0 : w.cell? ⟨d, 3, none⟩ = some (.int .i64 l)) (f0 : w.frozen? ⟨d, 3, none⟩ = false) (hl : 0 < l ∧ l ≤ 9223372036854775807) :
    Calls Tryd.prog 40 #[.pointer (some ⟨d, 0, none⟩)] w fun e w' => e = .returned (.bool true) ∧ w' = w.setCell ⟨d, 3, none⟩ (.int .i64 (l - 1)) := by
  have t0 : (l == 0) = false := beq_eq_false_iff_ne.2 (by omega)
  have t1 : decide (0 < l) = true := decide_eq_true (by omega)
  have wl : ∀ z, z = l - 1 → IntKind.i64.wrap z = z := by rintro _ rfl; rw [IntKind.wrap_i64]; omega
  clear hl
  go_enter Tryd.func40, Tryd.ntmps40
  go_wp2_with fail
  go_ret
  exact ⟨rfl, rfl⟩
theorem kpow_dx {w : World} {S : Nat → Prop} {d n gk gn : Nat} {tw : TypeId} {l : Int} {vk vn vw : Value} {kept now : Nat → ByteArray} {ws : List (Nat × ByteArray)} (h : DX w S d n tw #[vk, vn, vw, .int .i64 l] gk gn vw kept now ws) (hl : l ≠ 0) (hb : -1 ≤ l ∧ l ≤ 9223372036854775807) :
    Calls Tryd.prog 40 #[.pointer (some ⟨d, 0, none⟩)] w fun e w' => e = .returned (.bool true) ∧ DX w' S d n tw #[vk, vn, vw, .int .i64 (Dk.dec l)] gk gn vw kept now ws ∧ Keeps S w w' ∧ w'.heap.size = w.heap.size := by
  have c0 := h.bk.cell 3
  have f0 := h.bk.frozen 3
  rcases Int.lt_or_gt_of_ne hl with q | q
  · refine (kpow_neg d l w c0 q).mono ?_
    rintro e w' ⟨rfl, rfl⟩
    exact ⟨rfl, by rw [show Dk.dec l = l from if_neg (by omega)]; exact h, Keeps.refl _ _, rfl⟩
  · refine (kpow_pos d l w c0 f0 ⟨q, hb.2⟩).mono ?_
    rintro e w' ⟨rfl, rfl⟩
    exact ⟨rfl, by rw [show Dk.dec l = l - 1 from if_pos q]; exact h.box 3 _, (Keeps.refl S w).setCell (.inl h.sd) _, by simp⟩
theorem kwrite_bound (d n b : Nat) (m : Dk.DM) (i : Int) (s : ByteArray) (S : Nat → Prop) (w : World) (h : KS w S d n m b) (hi : i < 0 ∨ (n : Int) ≤ i) :
    Calls Tryd.prog 29 #[.pointer (some ⟨d, 0, none⟩), .int .i64 i, .string s] w fun e w' => e = .returned (.int .i64 2) ∧ w' = w := by
  obtain ⟨gk, ck, gn, cn, vw, hx⟩ := h.ex
  have c2 := hx.bk.cell 1
  clear hx h
  by_cases h0 : i < 0
  · have t0 : decide (i < 0) = true := decide_eq_true h0
    go_enter Tryd.func29, Tryd.ntmps29
    go_wp2_with fail
    go_ret
    exact ⟨rfl, rfl⟩
  · have t1 : (n : Int) ≤ i := by omega
    clear hi
    go_enter Tryd.func29, Tryd.ntmps29
    go_wp2_with fail
    go_ret
    exact ⟨rfl, rfl⟩
theorem kwrite_shape (d n b : Nat) (m : Dk.DM) (i : Nat) (s : ByteArray) (S : Nat → Prop) (w : World) (h : KS w S d n m b) (hi : i < n) (hs : 64 < s.size) :
    Calls Tryd.prog 29 #[.pointer (some ⟨d, 0, none⟩), .int .i64 (i : Int), .string s] w fun e w' => e = .returned (.int .i64 3) ∧ w' = w := by
  obtain ⟨gk, ck, gn, cn, vw, hx⟩ := h.ex
  have c2 := hx.bk.cell 1
  clear hx h
  have t1 : ¬ (n : Int) ≤ (i : Int) := by omega
  have t2 : (64 : Int) < (s.size : Int) := by omega
  go_enter Tryd.func29, Tryd.ntmps29
  go_wp2_with fail
  go_ret
  exact ⟨rfl, rfl⟩
theorem kwrite_power (d n b : Nat) (m : Dk.DM) (i : Nat) (s : ByteArray) (S : Nat → Prop) (w : World) (h : KS w S d n m b) (hi : i < n) (hs : s.size ≤ 64) (h0 : m.left = 0) :
    Calls Tryd.prog 29 #[.pointer (some ⟨d, 0, none⟩), .int .i64 (i : Int), .string s] w fun e w' => e = .returned (.int .i64 9) ∧ w' = w := by
  obtain ⟨gk, ck, gn, cn, vw, hx⟩ := h.ex
  have c2 := hx.bk.cell 1
  have c0 := hx.bk.cell 3
  rw [h0] at c0
  have HC := Lib.hid (kpow_no d w c0)
  clear hx h h0 c0
  have t1 : ¬ (n : Int) ≤ (i : Int) := by omega
  have t2 : ¬ (64 : Int) < (s.size : Int) := by omega
  go_enter Tryd.func29, Tryd.ntmps29
  go_wp2_with fail
  refine HC.out.mono ?_
  rintro e w9 ⟨rfl, rfl⟩
  go_wp2_with fail
  go_ret
  exact ⟨rfl, rfl⟩
set_option linter.unusedSimpArgs false in
set_option maxHeartbeats 4000000 in
theorem kwrite_ok (d n b i : Nat) (m : Dk.DM) (s : ByteArray) (S : Nat → Prop) (w : World) (h : KS w S d n m b) (hi : i < n) (hs : s.size ≤ 64) (h0 : m.left ≠ 0) (hb : b ≤ 5000) :
    Calls Tryd.prog 29 #[.pointer (some ⟨d, 0, none⟩), .int .i64 (i : Int), .string s] w fun e w' => e = .returned (.int .i64 0) ∧ KAfter S w w' d n (Dk.wr m i (Dk.pad s)) (b + 1) := by
  obtain ⟨gk, ck, gn, cn, vw, hx⟩ := h.ex
  have HD := Lib.hid h
  have HS := Lib.hid (kpow_dx hx h0 h.ok.left)
  have c2 := hx.bk.cell 1
  have hn := h.n1
  clear hx h h0
  have t1 : ¬ (n : Int) ≤ (i : Int) := by omega
  have t2 : ¬ (64 : Int) < (s.size : Int) := by omega
  obtain ⟨z, hz⟩ : ∃ z, 64 - s.size = z := ⟨_, rfl⟩
  have d1 : (64 : Int) - (s.size : Int) = (z : Int) := by omega
  have hz64 : z ≤ 64 := by omega
  have wz_ : ∀ q, q = (z : Int) → IntKind.i64.wrap q = q := by rintro _ rfl; rw [IntKind.wrap_i64]; omega
  have HZ := Lib.hid hz
  clear hz
  obtain ⟨i0, hi0, hz0, hz1, hz2⟩ := info_parts kwinf
  go_enter Tryd.func29, Tryd.ntmps29
  go_wp2_with fail
  refine HS.out.mono ?_
  rintro e w1 ⟨rfl, hx1, hk1, hs1⟩
  have X1 := Lib.hid hx1
  have K1 := Lib.hid (And.intro hk1 hs1)
  clear hx1 hk1 hs1 HS c2
  go_wp2_with fail
  refine (zeros_any z hz64 w1).mono ?_
  rintro e w2 ⟨rfl, hx2⟩
  have X2 := Lib.hid (X1.out.ext hx2)
  have K2 := Lib.hid (And.intro (K1.out.1.trans (hx2.keeps (S := S)) (fun _ _ q => q)) (show w.heap.size ≤ w2.heap.size by rw [← K1.out.2]; exact hx2.size))
  clear hx2 X1 K1
  obtain ⟨zz, hzz⟩ : ∃ q, zB z = q := ⟨_, rfl⟩
  have hzs : zz.size = z := by rw [← hzz]; exact zB_size z
  have hsum : ¬ 9223372036854775807 < s.size + zz.size := by omega
  have HP : Hid (s ++ zz = Dk.pad s) := Lib.hid (by unfold Dk.pad; rw [HZ.out, hzz])
  rw [hzz]
  clear hzs hzz
  go_upto_region 9 with fail
  rw [HP.out]
  clear wz_ d1 hsum t1 t2
  have c2 := X2.out.bk.cell 1
  obtain ⟨c3, f3⟩ := X2.out.ns i hi
  have X3 := Lib.hid (X2.out.putN i (Dk.pad s) hi)
  have K3 := Lib.hid (And.intro (K2.out.1.setCell (p := ⟨gn, i, none⟩) (.inl X2.out.sn) (.string (Dk.pad s))) (show w.heap.size ≤ (w2.setCell ⟨gn, i, none⟩ (.string (Dk.pad s))).heap.size by rw [World.size_setCell]; exact K2.out.2))
  go_upto_region 10 with fail
  clear c2 c3 f3 X2 K2
  refine wp_world (fun wz => Hid (DX wz S d n 71 #[.slice (some ⟨gk, 0, none⟩) n ck, .slice (some ⟨gn, 0, none⟩) n cn, vw, .int .i64 (Dk.dec m.left)] gk gn vw m.kept (Dk.upS m.now i (Dk.pad s)) m.ws) ∧ Hid (Keeps S w wz ∧ w.heap.size ≤ wz.heap.size)) ⟨X3, K3⟩ ?_
  clear X3 K3
  rintro w3 ⟨X3, K3⟩
  have c3 := X3.out.bk.cell 2
  have hwl := HD.out.ok.len
  have HRow := Lib.hid X3.out.wt
  obtain ⟨ln, hln⟩ : ∃ ln, m.ws.length = ln := ⟨_, rfl⟩
  rw [hln] at HRow hwl
  have HLN := Lib.hid hln
  have hS3 : ∀ k, S k → k < w3.heap.size := fun k hk => Nat.lt_of_lt_of_le (HD.out.lt k hk) K3.out.2
  have HS3 := Lib.hid hS3
  clear hln hS3
  go_wp2_with (at_builtin; refine wpList_append_own_at _ rfl _ _ 46 rfl 0 71 i0 _ 2 24 Tryd.underlying46 hi0 hz0 hz1 hz2 rfl (by decide) _ _ _ rfl (HRow.out.alloc _) ⟨w3.heap.size, 0, none⟩ 1 1 [.int .i64 (i : Int), .string (Dk.pad s)] rfl rfl ?c1 ?c2 ?c3 ?c4 ?c5 ?_)
  case c1 =>
    intro j u hu
    rw [add_plain]
    exact (Bk.at (w := w3) rfl).cell j |>.trans (by simpa using hu)
  case c2 => intro u hu; simp at hu; rcases hu with hu | hu <;> (subst hu; rfl)
  case c3 => unfold maxLen; omega
  case c4 => omega
  case c5 => omega
  intro v5 w5 hown hgrow _ hat
  have P5 := X3.out.push (p := (i, Dk.pad s)) HS3.out hgrow (by rw [wtV_append, List.length_append, HLN.out]; exact hown) (by simpa using hat)
  have X5 := Lib.hid P5.1
  have K5 := Lib.hid (K3.out.1.trans P5.2 (fun _ _ q => q))
  have Z5 := Lib.hid (show w3.heap.size ≤ w5.heap.size from P5.2.size)
  obtain ⟨ao, n', cap, rfl⟩ : ∃ ao n' cap, v5 = .slice ao n' cap := by
    rcases ownsRow_slice hown with ⟨hv, _⟩ | ⟨g, cap, hv⟩
    · exact ⟨_, _, _, hv⟩
    · exact ⟨_, _, _, hv⟩
  clear hown hgrow hat P5 c3 HRow
  have c5 := X5.out.bk.cell 2
  have f5 := X5.out.bk.frozen 2
  have X6 := Lib.hid (X5.out.box 2 (.slice ao n' cap))
  have K6 := Lib.hid (K5.out.setCell (p := ⟨d, 2, none⟩) (.inl X3.out.sd) (.slice ao n' cap))
  go_wp2_with fail
  go_ret
  refine ⟨rfl, ⟨⟨gk, ck, gn, cn, _, X6.out.mono fun k q => ?_⟩, HD.out.ok.wr hi, fun k q => ?_, hn⟩, K6.out⟩
  · rcases q with q | q
    · exact .inl q
    · have := K3.out.2
      exact .inr ⟨by omega, by rw [World.size_setCell]; exact q.2⟩
  · rcases q with q | q
    · have h1 := HS3.out k q
      have h2 := Z5.out
      rw [World.size_setCell]
      omega
    · exact q.2
end Go.Proofs.YtheidjagcafgnaaDoor
namespace Go.Proofs.YtheidjagcafgnaaDoor
open Go.RowKit
set_option maxRecDepth 100000
/-- a row of strings that was put behind nil -/
theorem app_strs {w w2 : World} {v2 : Value} {n : Nat} {f : Nat → ByteArray} (ho : w2.ownsRow w.heap.size 9 1 v2 n (strsV n f)) (hg : w.grownBy w2 none) (h0 : 0 < n) :
    ∃ g c, v2 = .slice (some ⟨g, 0, none⟩) n c ∧ Sr w2 g n f ∧ w.heap.size ≤ g ∧ g < w2.heap.size ∧ Ext w w2 := by
  obtain ⟨g, c, rfl, _, hlt⟩ := ownsRow_some ho h0
  exact ⟨g, c, rfl, Sr.of_own ho, (ho.lt g rfl).1, hlt, (Below.refl _ w).grown hg (Nat.le_refl _) (by intro k hk; cases hk)⟩
theorem strs_news {w : World} {g n : Nat} {f : Nat → ByteArray} (hx : Sr w g n f) (j : Nat) (u : Value) (hj : (strsV n f)[j]? = some u) : w.cell? ((⟨g, 0, none⟩ : Addr).add j) = some u := by
  have hjn : j < n := by
    have := (List.getElem?_eq_some_iff.1 hj).1
    rwa [strsV_length] at this
  rw [strsV_get hjn] at hj
  injection hj with hj
  subst hj
  rw [add_plain]
  exact (hx j hjn).1
theorem strs_one (n : Nat) (f : Nat → ByteArray) : ∀ u ∈ strsV n f, u.oneCell' = true := by
  intro u hu; obtain ⟨x, _, rfl⟩ := List.mem_map.1 hu; rfl
theorem DX.kcloneK {w w2 : World} {S : Nat → Prop} {d n gk gn g c : Nat} {tw : TypeId} {vk vn vw vl : Value} {kept now f : Nat → ByteArray} {ws : List (Nat × ByteArray)}
    (h : DX w S d n tw #[vk, vn, vw, vl] gk gn vw kept now ws) (hS : ∀ k, S k → k < w.heap.size) (hE : Ext w w2) (hg : Sr w2 g n f) (h1 : w.heap.size ≤ g) (h2 : g < w2.heap.size) :
    DX (w2.setCell ⟨d, 0, none⟩ (.slice (some ⟨g, 0, none⟩) n c)) (grow S w w2) d n tw #[.slice (some ⟨g, 0, none⟩) n c, vn, vw, vl] g gn vw f now ws ∧ Keeps S w (w2.setCell ⟨d, 0, none⟩ (.slice (some ⟨g, 0, none⟩) n c)) := by
  have hx := ((h.ext hE).mono (S' := grow S w w2) fun _ => .inl).newK hg (.inr ⟨h1, h2⟩) (fun e => by have := hS _ h.sd; omega) (fun e => by have := hS _ h.sn; omega) (fun b hb e => by have := hS _ (h.sw b hb).1; omega) h2
  exact ⟨hx.box 0 _, (hE.keeps (S := S)).setCell (.inl h.sd) _⟩
theorem DX.kcloneN {w w2 : World} {S : Nat → Prop} {d n gk gn g c : Nat} {tw : TypeId} {vk vn vw vl : Value} {kept now f : Nat → ByteArray} {ws : List (Nat × ByteArray)}
    (h : DX w S d n tw #[vk, vn, vw, vl] gk gn vw kept now ws) (hS : ∀ k, S k → k < w.heap.size) (hE : Ext w w2) (hg : Sr w2 g n f) (h1 : w.heap.size ≤ g) (h2 : g < w2.heap.size) :
    DX (w2.setCell ⟨d, 1, none⟩ (.slice (some ⟨g, 0, none⟩) n c)) (grow S w w2) d n tw #[vk, .slice (some ⟨g, 0, none⟩) n c, vw, vl] gk g vw kept f ws ∧ Keeps S w (w2.setCell ⟨d, 1, none⟩ (.slice (some ⟨g, 0, none⟩) n c)) := by
  have hx := ((h.ext hE).mono (S' := grow S w w2) fun _ => .inl).newN hg (.inr ⟨h1, h2⟩) (fun e => by have := hS _ h.sd; omega) (fun e => by have := hS _ h.sk; omega) (fun b hb e => by have := hS _ (h.sw b hb).1; omega) h2
  exact ⟨hx.box 1 _, (hE.keeps (S := S)).setCell (.inl h.sd) _⟩
theorem kflush_power (d n b : Nat) (m : Dk.DM) (S : Nat → Prop) (w : World) (h : KS w S d n m b) (h0 : m.left = 0) :
    Calls Tryd.prog 30 #[.pointer (some ⟨d, 0, none⟩)] w fun e w' => e = .returned (.int .i64 9) ∧ w' = w := by
  obtain ⟨gk, ck, gn, cn, vw, hx⟩ := h.ex
  have c0 := hx.bk.cell 3
  rw [h0] at c0
  have HC := Lib.hid (kpow_no d w c0)
  clear hx h h0 c0
  go_enter Tryd.func30, Tryd.ntmps30
  go_wp2_with fail
  refine HC.out.mono ?_
  rintro e w9 ⟨rfl, rfl⟩
  go_wp2_with fail
  go_ret
  exact ⟨rfl, rfl⟩
set_option maxHeartbeats 2000000 in
theorem kflush_ok (d n b : Nat) (m : Dk.DM) (S : Nat → Prop) (w : World) (h : KS w S d n m b) (h0 : m.left ≠ 0) :
    Calls Tryd.prog 30 #[.pointer (some ⟨d, 0, none⟩)] w fun e w' => e = .returned (.int .i64 0) ∧ KAfter S w w' d n (Dk.fl m) b := by
  obtain ⟨gk, ck, gn, cn, vw, hx⟩ := h.ex
  obtain ⟨i0, hi, hz0, hz1, hz2⟩ := info_parts strinf
  have HD := Lib.hid h
  have HS := Lib.hid (kpow_dx hx h0 h.ok.left)
  have hn := h.n1
  clear hx h h0
  go_enter Tryd.func30, Tryd.ntmps30
  go_wp2_with fail
  refine HS.out.mono ?_
  rintro e w1 ⟨rfl, hx1, hk1, hs1⟩
  have X1 := Lib.hid hx1
  have K1 := Lib.hid (And.intro hk1 hs1)
  clear hx1 hk1 hs1 HS
  have c1 := X1.out.bk.cell 1
  go_wp2_with (at_builtin; refine wpList_append_own_at _ rfl _ _ 35 rfl w1.heap.size 9 i0 (.string ⟨#[]⟩) 1 16 Tryd.underlying35 hi hz0 hz1 hz2 rfl (by decide) (.slice none 0 0) 0 [] rfl (World.ownsRow_nil _ _ _ _) ⟨gn, 0, none⟩ n cn (strsV n m.now) rfl ?qc1 ?qc2 ?qc3 ?qc4 ?qc5 ?qc6 ?_)
  case qc1 => rw [strsV_length]; omega
  case qc2 => exact strs_news X1.out.ns
  case qc3 => exact strs_one n m.now
  case qc4 => unfold maxLen; omega
  case qc5 => omega
  case qc6 => exact Nat.le_refl _
  intro v2 w2 hown hgrow hnil hat
  obtain ⟨g', c', rfl, hg, hg1, hg2, hE⟩ := app_strs (w := w1) (w2 := w2) (v2 := v2) (n := n) (f := m.now) (by simpa using hown) hgrow (by omega)
  have P := X1.out.kcloneK (c := c') (fun k hk => by rw [K1.out.2]; exact HD.out.lt k hk) hE hg hg1 hg2
  have hle : w1.heap.size ≤ w2.heap.size := hE.size
  have K3 := Lib.hid (And.intro (K1.out.1.trans P.2 (fun _ _ q => q)) (And.intro hle (X1.out.ext hE).bk))
  have X4 := Lib.hid ((P.1.box 2 (.slice none 0 0)).noW)
  clear P hE hg hg1 hg2 c1 hle hown hgrow hnil hat
  have f0 := K3.out.2.2.frozen 0
  have c0 := K3.out.2.2.cell 0
  have c2 := K3.out.2.2.cell 2
  have f2 := K3.out.2.2.frozen 2
  go_wp2_with fail
  go_ret
  refine ⟨rfl, ⟨⟨g', c', gn, cn, .slice none 0 0, X4.out.mono fun k q => ?_⟩, HD.out.ok.fl, fun k q => ?_, hn⟩, K3.out.1.setCell (p := ⟨d, 2, none⟩) (.inl X1.out.sd) _⟩
  · rcases q with q | q
    · exact .inl q
    · have := K1.out.2
      exact .inr ⟨by omega, by simp; omega⟩
  · have h2 := K3.out.2.1
    have h3 := K1.out.2
    simp only [World.size_setCell] at q ⊢
    rcases q with q | q
    · have h1 := HD.out.lt k q
      omega
    · simp only [World.size_setCell] at q
      exact q.2
set_option linter.unusedSimpArgs false in
set_option maxHeartbeats 4000000 in
theorem kcrash_any (d n b : Nat) (m : Dk.DM) (S : Nat → Prop) (w : World) (h : KS w S d n m b) (hb : b ≤ 5000) (kx : Option Addr) (kn kc : Nat) (kb : Nat → Bool) (hk : KR w S kx kn kb) :
    Calls Tryd.prog 19 #[.pointer (some ⟨d, 0, none⟩), .slice kx kn kc] w fun e w' => e = .returned (.tuple #[]) ∧ KAfter S w w' d n (Dk.cr m (kf kn kb)) b := by
  obtain ⟨gk, ck, gn, cn, vw, hx⟩ := h.ex
  obtain ⟨i0, hi0, hz0, hz1, hz2⟩ := info_parts strinf
  obtain ⟨vx, vc, rfl, hvx, hv0⟩ := own_form hx.wt
  have HD := Lib.hid h
  have HK := Lib.hid hk
  have hn := h.n1
  have hwl := h.ok.len
  obtain ⟨ln, hln⟩ : ∃ ln, m.ws.length = ln := ⟨_, rfl⟩
  have HL := Lib.hid hln
  rw [hln] at hx hv0 hwl
  have X0 := Lib.hid hx
  have HV := Lib.hid (And.intro hvx hv0)
  clear hx h hk hvx hv0 hln
  go_enter Tryd.func19, Tryd.ntmps19
  go_wp2_with fail
  go_loopw [4] (fun cc wr => ∃ i : Nat, i ≤ ln ∧ cc = .int .i64 (i : Int) ∧ Hid (DX wr S d n 71 #[.slice (some ⟨gk, 0, none⟩) n ck, .slice (some ⟨gn, 0, none⟩) n cn, .slice vx ln vc, .int .i64 m.left] gk gn (.slice vx ln vc) (Dk.crk (kf kn kb) m.ws m.kept i) m.now m.ws) ∧ Hid (Keeps S w wr)) (fun cc _ => ln - (intOf cc).toNat)
  case atStart => exact ⟨0, by omega, rfl, X0, Lib.hid (Keeps.refl S w)⟩
  case round =>
    clear X0
    obtain ⟨i, hi, rfl, X, K⟩ := hrel
    have c2 := X.out.bk.cell 2
    by_cases hlt : i < ln
    · obtain ⟨⟨pi, ps⟩, hp⟩ : ∃ p, m.ws[i]? = some p := ⟨m.ws[i]'(by rw [HL.out]; exact hlt), List.getElem?_eq_getElem _⟩
      have hpi : pi < n := HD.out.ok.ws (pi, ps) (List.mem_of_getElem? hp)
      have HP := Lib.hid hp
      obtain ⟨ga, rfl⟩ : ∃ ga, vx = some ga := by
        cases vx with
        | none => have := HV.out.2 rfl; omega
        | some ga => exact ⟨ga, rfl⟩
      obtain ⟨gw, rfl⟩ := HV.out.1 ga rfl
      have hrow := X.out.wt
      rw [HL.out] at hrow
      obtain ⟨q0, q1⟩ := wtV_get0 m.ws i (pi, ps) hp
      have p0 := (hrow.cellAt (i * 2) (by omega)).trans q0
      have p1 := (hrow.cellAt (i * 2 + 1) (by omega)).trans q1
      clear q0 q1 hrow hp
      have ht : (i : Int) < (ln : Int) := by omega
      have KX := Lib.hid (HK.out.keeps K.out)
      have wi : ∀ z, z = (i : Int) + 1 → IntKind.i64.wrap z = z := by rintro _ rfl; rw [IntKind.wrap_i64]; omega
      by_cases hik : i < kn
      · obtain ⟨ka, rfl⟩ : ∃ ka, kx = some ka := by
          cases kx with
          | none => have := KX.out.1 rfl; omega
          | some ka => exact ⟨ka, rfl⟩
        obtain ⟨k1, _⟩ := KX.out.2 ka rfl i hik
        have hik' : (i : Int) < (kn : Int) := by omega
        cases hkb : kb i
        · rw [hkb] at k1
          have HF : Hid (kf kn kb i = false) := Lib.hid (by unfold kf; rw [hkb]; simp)
          clear hkb
          go_wp2_with fail
          go_roundw
          case rel =>
            refine ⟨i + 1, by omega, by go_num, Lib.hid ?_, K⟩
            have := X.out
            simpa only [Dk.crk, HP.out, HF.out, if_false, Bool.false_eq_true] using this
          case measure => simp [intOf]; omega
        · rw [hkb] at k1
          have HF : Hid (kf kn kb i = true) := Lib.hid (by unfold kf; rw [hkb]; simp [hik])
          clear hkb
          have c0 := X.out.bk.cell 0
          obtain ⟨s0, f0⟩ := X.out.ks pi hpi
          have X3 := Lib.hid (X.out.putK pi ps hpi)
          have K3 := Lib.hid (K.out.setCell (p := ⟨gk, pi, none⟩) (.inl X.out.sk) (.string ps))
          go_upto_region 4 with fail
          clear wi
          refine wp_region_still_tail 21 (by kernel_rfl) (by kernel_rfl) ?_
          simp only [List.take_succ_cons, List.take_zero, List.drop_succ_cons, List.drop_zero]
          repeat still_step
          refine wpStill_nil ?_
          change wpList _ _ _ _ _ wr.drew
          have wi : ∀ z, z = (i : Int) + 1 → IntKind.i64.wrap z = z := by rintro _ rfl; rw [IntKind.wrap_i64]; omega
          go_wp2_with fail
          go_roundw
          case rel =>
            refine ⟨i + 1, by omega, by go_num, Lib.hid ?_, Lib.hid (K3.out.drew)⟩
            have := X3.out.ext (show Ext _ (wr.setCell ⟨gk, pi, none⟩ (.string ps)).drew from Below.drew (Ext.refl _))
            simpa only [Dk.crk, HP.out, HF.out, if_true] using this
          case measure => simp [intOf]; omega
      · have hik' : ¬ (i : Int) < (kn : Int) := by omega
        have HF : Hid (kf kn kb i = false) := Lib.hid (by unfold kf; rw [decide_eq_false hik]; rfl)
        go_wp2_with fail
        go_roundw
        case rel =>
          refine ⟨i + 1, by omega, by go_num, Lib.hid ?_, K⟩
          have := X.out
          simpa only [Dk.crk, HP.out, HF.out, if_false, Bool.false_eq_true] using this
        case measure => simp [intOf]; omega
    · obtain rfl : i = ln := by omega
      have c0 := X.out.bk.cell 0
      have hS : ∀ k, S k → k < wr.heap.size := fun k hk => Nat.lt_of_lt_of_le (HD.out.lt k hk) K.out.size
      have HS := Lib.hid hS
      clear hS
      obtain ⟨f, hf⟩ : ∃ f, Dk.crk (kf kn kb) m.ws m.kept i = f := ⟨_, rfl⟩
      rw [hf] at X
      have HF := Lib.hid hf
      clear hf
      go_wp2_with (at_builtin; refine wpList_append_own_at _ rfl _ _ 35 rfl wr.heap.size 9 i0 (.string ⟨#[]⟩) 1 16 Tryd.underlying35 hi0 hz0 hz1 hz2 rfl (by decide) (.slice none 0 0) 0 [] rfl (World.ownsRow_nil _ _ _ _) ⟨gk, 0, none⟩ n ck (strsV n f) rfl ?qc1 ?qc2 ?qc3 ?qc4 ?qc5 ?qc6 ?_)
      case qc1 => rw [strsV_length]; omega
      case qc2 => exact strs_news X.out.ks
      case qc3 => exact strs_one n f
      case qc4 => unfold maxLen; omega
      case qc5 => omega
      case qc6 => exact Nat.le_refl _
      intro v2 w2 hown hgrow hnil hat
      obtain ⟨g', c', rfl, hg, hg1, hg2, hE⟩ := app_strs (w := wr) (w2 := w2) (v2 := v2) (n := n) (f := f) (by simpa using hown) hgrow (by omega)
      have P := X.out.kcloneN (c := c') HS.out hE hg hg1 hg2
      have hle : wr.heap.size ≤ w2.heap.size := hE.size
      have K3 := Lib.hid (And.intro (K.out.trans P.2 (fun _ _ q => q)) (And.intro hle (X.out.ext hE).bk))
      have X4 := Lib.hid (((P.1.box 2 (.slice none 0 0)).noW).box 3 (.int .i64 (-1)))
      clear P hE hg hg1 hg2 hle c0 c2 hown hgrow hnil hat
      have f1 := K3.out.2.2.frozen 1
      have c1 := K3.out.2.2.cell 1
      have f2 := K3.out.2.2.frozen 2
      have c2 := K3.out.2.2.cell 2
      have c3 := K3.out.2.2.cell 3
      have f3 := K3.out.2.2.frozen 3
      go_wp2_with fail
      go_end0
      refine ⟨rfl, ⟨⟨gk, ck, g', c', .slice none 0 0, ?_⟩, HD.out.ok.cr _, fun k q => ?_, hn⟩, (K3.out.1.setCell (p := ⟨d, 2, none⟩) (.inl X.out.sd) _).setCell (p := ⟨d, 3, none⟩) (.inl X.out.sd) _⟩
      · have hm := X4.out.mono (S' := grow S w (((w2.setCell ⟨d, 1, none⟩ (.slice (some ⟨g', 0, none⟩) n c')).setCell ⟨d, 2, none⟩ (.slice none 0 0)).setCell ⟨d, 3, none⟩ (.int .i64 (-1)))) (fun k q => by
          rcases q with q | q
          · exact .inl q
          · have := K.out.size
            exact .inr ⟨by omega, by simp; omega⟩)
        unfold Dk.cr
        rw [HL.out, HF.out]
        exact hm
      · have h2 := K3.out.2.1
        have h3 := K.out.size
        rcases q with q | q
        · have h1 := HD.out.lt k q
          simp only [World.size_setCell]
          omega
        · exact q.2
end Go.Proofs.YtheidjagcafgnaaDoor
