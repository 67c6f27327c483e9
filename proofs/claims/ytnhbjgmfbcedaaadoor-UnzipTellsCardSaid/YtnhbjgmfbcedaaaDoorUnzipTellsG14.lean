/-
  the document's reader: a stored block.
-/
import Derived.Test.YtnhbjgmfbcedaaaDoorUnzipTellsG13
import Derived.Test.YtnhbjgmfbcedaaaDoorUnzipTellsG5
namespace Go.Proofs.YtnhbjgmfbcedaaaDoor
open Go.RowKit
set_option linter.unusedSimpArgs false
set_option maxRecDepth 100000
def SPost (w : World) (Q : Nat) (T : ByteArray) (x : Nat → Value) (vo : Value) (r : Except Nat (Nat × List UInt8)) (e : Ending) (w' : World) : Prop :=
  e = .returned (.tuple #[]) ∧ match r with
  | .ok (a, out) => ∃ x' vo', QGo w w' Q T a 0 x' vo vo' out ∧ ∀ i, i ≠ 2 → x' i = x i
  | .error c => ∃ a x' vo' out, QGo w w' Q T a (c + 1) x' vo vo' out ∧ ∀ i, i ≠ 2 → x' i = x i
theorem spost_ok {w w' : World} {Q a : Nat} {T : ByteArray} {x x' : Nat → Value} {vo vo' : Value} {out : List UInt8} {r : Except Nat (Nat × List UInt8)} (hr : .ok (a, out) = r) (h : QGo w w' Q T a 0 x' vo vo' out) (hx : ∀ i, i ≠ 2 → x' i = x i) : SPost w Q T x vo r (.returned (.tuple #[])) w' := by
  subst hr; exact ⟨rfl, x', vo', h, hx⟩
theorem spost_error {w w' : World} {Q a c e : Nat} {T : ByteArray} {x x' : Nat → Value} {vo vo' : Value} {out : List UInt8} {r : Except Nat (Nat × List UInt8)} (hr : .error c = r) (he : e = c + 1) (h : QGo w w' Q T a e x' vo vo' out) (hx : ∀ i, i ≠ 2 → x' i = x i) : SPost w Q T x vo r (.returned (.tuple #[])) w' := by
  subst hr he; exact ⟨rfl, a, x', vo', out, h, hx⟩
theorem get_byte (L : List UInt8) (j : Nat) (h : j < L.length) : Inf.get L 8 (8 * j) = .ok (L[j].toNat, 8 * j + 8) := by
  unfold Inf.get
  rw [if_pos (by omega), num_byte L j h, show (256 : Nat) ^ j = 2 ^ (8 * j) by rw [Nat.pow_mul]]
theorem take_one (L : List UInt8) (q i : Nat) (h : q + i < L.length) : (L.drop q).take (i + 1) = (L.drop q).take i ++ [L[q + i]] := by
  rw [List.take_add_one, List.getElem?_drop, List.getElem?_eq_getElem h]; rfl
set_option linter.unusedSimpArgs false in
set_option maxHeartbeats 8000000 in
theorem qstored_any (Q a most : Nat) (L : List UInt8) (x : Nat → Value) (vo : Value) (out : List UInt8) (w : World) (hG : QGo w w Q (bs (Bts.allB L)) a 0 x vo vo out) (hx3 : x 3 = .int .i64 (most : Int)) (ha : a ≤ 8 * L.length) (hL : L.length ≤ 300000) (hmost : most ≤ 300000) (hout : out.length ≤ most) :
    Calls Tryd.prog 44 #[.pointer (some ⟨Q, 0, none⟩)] w fun r w' => SPost w Q (bs (Bts.allB L)) x vo (Inf.stored L most a out) r w' := by
  have H_0 := Lib.hid hG
  obtain ⟨rr, hr⟩ : ∃ rr, Inf.stored L most a out = rr := ⟨_, rfl⟩
  rw [hr]
  unfold Inf.stored at hr
  have hsz : (bs (Bts.allB L)).size = 8 * L.length := by rw [bs_size, Bts.allB_length]
  have hx3v := hx3
  obtain ⟨a1, ha1⟩ : ∃ x, (a + 7) / 8 * 8 = x := ⟨_, rfl⟩
  rw [ha1] at hr
  have HR := Lib.hid hr
  have h1 : a1 ≤ 8 * L.length := by omega
  have h18 : a1 % 8 = 0 := by omega
  obtain ⟨i0, hi0, hz0, hz1, hz2⟩ := info_parts u8inf
  clear hG hr
  go_enter Tryd.func44, Tryd.ntmps44
  go_wp2_with fail
  refine (ralgn_any Q a 0 (bs (Bts.allB L)) x _ H_0.out.bk (by omega)).mono ?_
  rintro r w_1 ⟨rfl, hB, hK⟩
  rw [ha1] at hB
  have H_1 := Lib.hid (H_0.out.quiet hK hB)
  clear H_0
  clear hK hB
  go_wp2_with fail
  cases hg1 : Inf.get L 16 a1 with
  | error c =>
    obtain rfl := (Inf.get_error hg1).1
    have HQ : Hid (.error 0 = rr) := Lib.hid (by have h := HR.out; simp only [hg1] at h; exact h)
    refine (qget_any Q a1 0 16 L x _ H_1.out.bk (by omega) (by omega) hL).mono ?_
    rintro r w_2 ⟨hK, hP⟩
    rw [if_pos rfl, hg1] at hP
    obtain ⟨rfl, hB⟩ := hP
    have H_2 := Lib.hid (H_1.out.quiet hK hB)
    clear H_1
    clear hK hB
    go_wp2_with fail
    refine (qget_any Q a1 (0 + 1) 16 L x _ H_2.out.bk (by omega) (by omega) hL).mono ?_
    rintro r w_3 ⟨hK, hP⟩
    rw [if_neg (by omega)] at hP
    obtain ⟨rfl, hB⟩ := hP
    have H_3 := Lib.hid (H_2.out.quiet hK hB)
    clear H_2
    clear hK hB
    go_wp2_with fail
    refine (rok_any Q a1 (0 + 1) (bs (Bts.allB L)) x _ H_3.out.bk).mono ?_
    rintro r w9 ⟨rfl, h9⟩
    have h9s := h9.symm
    clear h9
    subst h9s
    rw [show decide ((0 + 1) = 0) = false from decide_eq_false (by omega)]
    go_wp2_with fail
    refine wp_regionQ (by kernel_rfl) (by kernel_rfl) ?_
    have hdk : decide ((0 + 1) = 0) = false := decide_eq_false (by omega)
    refine wpQ_yes (by kernel_rfl) (fun K hK => ?_)
    go_simp
    refine hK _ ?_
    clear hK K
    refine wpQ_yes (by kernel_rfl) (fun K hK => ?_)
    go_simp
    refine ⟨_, (rok_any Q a1 (0 + 1) (bs (Bts.allB L)) x _ H_3.out.bk.drew), hK _ ?_⟩
    clear hK K
    refine wpQ_yes (by kernel_rfl) (fun K hK => ?_)
    go_simp
    refine hK _ ?_
    clear hK K
    refine wpQ_no (by kernel_rfl) ?_
    try simp only [Act.put, List.getElem_toArray, List.getElem_cons_succ, List.getElem_cons_zero, List.setIfInBounds_toArray, List.set_cons_zero, List.set_cons_succ]
    refine wpQ_no (by kernel_rfl) ?_
    try simp only [Act.put, List.getElem_toArray, List.getElem_cons_succ, List.getElem_cons_zero, List.setIfInBounds_toArray, List.set_cons_zero, List.set_cons_succ]
    refine wpQ_no (by kernel_rfl) ?_
    try simp only [Act.put, List.getElem_toArray, List.getElem_cons_succ, List.getElem_cons_zero, List.setIfInBounds_toArray, List.set_cons_zero, List.set_cons_succ]
    refine wpQ_no (by kernel_rfl) ?_
    try simp only [Act.put, List.getElem_toArray, List.getElem_cons_succ, List.getElem_cons_zero, List.setIfInBounds_toArray, List.set_cons_zero, List.set_cons_succ]
    refine wpQ_no (by kernel_rfl) ?_
    try simp only [Act.put, List.getElem_toArray, List.getElem_cons_succ, List.getElem_cons_zero, List.setIfInBounds_toArray, List.set_cons_zero, List.set_cons_succ]
    refine wpQ_no (by kernel_rfl) ?_
    try simp only [Act.put, List.getElem_toArray, List.getElem_cons_succ, List.getElem_cons_zero, List.setIfInBounds_toArray, List.set_cons_zero, List.set_cons_succ]
    refine wpQ_no (by kernel_rfl) ?_
    try simp only [Act.put, List.getElem_toArray, List.getElem_cons_succ, List.getElem_cons_zero, List.setIfInBounds_toArray, List.set_cons_zero, List.set_cons_succ]
    refine wpQ_no (by kernel_rfl) ?_
    try simp only [Act.put, List.getElem_toArray, List.getElem_cons_succ, List.getElem_cons_zero, List.setIfInBounds_toArray, List.set_cons_zero, List.set_cons_succ]
    refine wpQ_no (by kernel_rfl) ?_
    try simp only [Act.put, List.getElem_toArray, List.getElem_cons_succ, List.getElem_cons_zero, List.setIfInBounds_toArray, List.set_cons_zero, List.set_cons_succ]
    refine wpQ_no (by kernel_rfl) ?_
    try simp only [Act.put, List.getElem_toArray, List.getElem_cons_succ, List.getElem_cons_zero, List.setIfInBounds_toArray, List.set_cons_zero, List.set_cons_succ]
    refine wpQ_no (by kernel_rfl) ?_
    try simp only [Act.put, List.getElem_toArray, List.getElem_cons_succ, List.getElem_cons_zero, List.setIfInBounds_toArray, List.set_cons_zero, List.set_cons_succ]
    refine wpQ_no (by kernel_rfl) ?_
    try simp only [Act.put, List.getElem_toArray, List.getElem_cons_succ, List.getElem_cons_zero, List.setIfInBounds_toArray, List.set_cons_zero, List.set_cons_succ]
    refine wpQ_no (by kernel_rfl) ?_
    try simp only [Act.put, List.getElem_toArray, List.getElem_cons_succ, List.getElem_cons_zero, List.setIfInBounds_toArray, List.set_cons_zero, List.set_cons_succ]
    refine wpQ_yes (by kernel_rfl) (fun K hK => ?_)
    go_simp
    refine hK _ ?_
    clear hK K
    refine wpQ_nil ?_
    clear hdk
    have H_4 := Lib.hid (H_3.out.ext (show Ext w_3 w_3.drew from Below.drew (Ext.refl _)))
    clear H_3
    go_wp2_with fail
    refine wp_world (fun wz => Ext w_3.drew wz) (Ext.refl _) ?_
    rintro w_4 hX
    have H_5 := Lib.hid (H_4.out.ext hX)
    clear H_4
    clear hX
    refine wp_regionQ (by kernel_rfl) (by kernel_rfl) ?_
    have hdk : decide ((0 + 1) = 0) = false := decide_eq_false (by omega)
    refine wpQ_yes (by kernel_rfl) (fun K hK => ?_)
    go_simp
    refine hK _ ?_
    clear hK K
    refine wpQ_yes (by kernel_rfl) (fun K hK => ?_)
    go_simp
    refine ⟨_, (rok_any Q a1 (0 + 1) (bs (Bts.allB L)) x _ H_5.out.bk.drew), hK _ ?_⟩
    clear hK K
    refine wpQ_yes (by kernel_rfl) (fun K hK => ?_)
    go_simp
    refine hK _ ?_
    clear hK K
    refine wpQ_no (by kernel_rfl) ?_
    try simp only [Act.put, List.getElem_toArray, List.getElem_cons_succ, List.getElem_cons_zero, List.setIfInBounds_toArray, List.set_cons_zero, List.set_cons_succ]
    refine wpQ_no (by kernel_rfl) ?_
    try simp only [Act.put, List.getElem_toArray, List.getElem_cons_succ, List.getElem_cons_zero, List.setIfInBounds_toArray, List.set_cons_zero, List.set_cons_succ]
    refine wpQ_no (by kernel_rfl) ?_
    try simp only [Act.put, List.getElem_toArray, List.getElem_cons_succ, List.getElem_cons_zero, List.setIfInBounds_toArray, List.set_cons_zero, List.set_cons_succ]
    refine wpQ_no (by kernel_rfl) ?_
    try simp only [Act.put, List.getElem_toArray, List.getElem_cons_succ, List.getElem_cons_zero, List.setIfInBounds_toArray, List.set_cons_zero, List.set_cons_succ]
    refine wpQ_no (by kernel_rfl) ?_
    try simp only [Act.put, List.getElem_toArray, List.getElem_cons_succ, List.getElem_cons_zero, List.setIfInBounds_toArray, List.set_cons_zero, List.set_cons_succ]
    refine wpQ_no (by kernel_rfl) ?_
    try simp only [Act.put, List.getElem_toArray, List.getElem_cons_succ, List.getElem_cons_zero, List.setIfInBounds_toArray, List.set_cons_zero, List.set_cons_succ]
    refine wpQ_no (by kernel_rfl) ?_
    try simp only [Act.put, List.getElem_toArray, List.getElem_cons_succ, List.getElem_cons_zero, List.setIfInBounds_toArray, List.set_cons_zero, List.set_cons_succ]
    refine wpQ_no (by kernel_rfl) ?_
    try simp only [Act.put, List.getElem_toArray, List.getElem_cons_succ, List.getElem_cons_zero, List.setIfInBounds_toArray, List.set_cons_zero, List.set_cons_succ]
    refine wpQ_no (by kernel_rfl) ?_
    try simp only [Act.put, List.getElem_toArray, List.getElem_cons_succ, List.getElem_cons_zero, List.setIfInBounds_toArray, List.set_cons_zero, List.set_cons_succ]
    refine wpQ_no (by kernel_rfl) ?_
    try simp only [Act.put, List.getElem_toArray, List.getElem_cons_succ, List.getElem_cons_zero, List.setIfInBounds_toArray, List.set_cons_zero, List.set_cons_succ]
    refine wpQ_no (by kernel_rfl) ?_
    try simp only [Act.put, List.getElem_toArray, List.getElem_cons_succ, List.getElem_cons_zero, List.setIfInBounds_toArray, List.set_cons_zero, List.set_cons_succ]
    refine wpQ_no (by kernel_rfl) ?_
    try simp only [Act.put, List.getElem_toArray, List.getElem_cons_succ, List.getElem_cons_zero, List.setIfInBounds_toArray, List.set_cons_zero, List.set_cons_succ]
    refine wpQ_yes (by kernel_rfl) (fun K hK => ?_)
    go_simp
    refine hK _ ?_
    clear hK K
    refine wpQ_nil ?_
    clear hdk
    have H_6 := Lib.hid (H_5.out.ext (show Ext w_4 w_4.drew from Below.drew (Ext.refl _)))
    clear H_5
    go_wp2_with fail
    go_loopw [4] (fun z wr => z = .int .i64 0 ∧ Hid (QGo w wr Q (bs (Bts.allB L)) a1 (0 + 1) x vo vo out)) (fun _ _ => 0)
    case atStart => exact ⟨rfl, H_6⟩
    case round =>
      clear H_6
      obtain ⟨rfl, H_6⟩ := hrel
      go_wp2_with fail
      go_end0
      exact spost_error HQ.out rfl H_6.out (fun i _ => rfl)
  | ok q =>
    obtain ⟨n, a2⟩ := q
    have HR1 := HR.out
    simp only [hg1] at HR1
    clear HR
    have HR := Lib.hid HR1
    clear HR1
    obtain ⟨q1, q2, q3, q4⟩ := Inf.get_ok hg1
    clear q4
    have hq65 : n < 65536 := q3
    have hq2 : a2 ≤ 8 * L.length := by omega
    have hq8 : a2 % 8 = 0 := by omega
    clear q3 q1 q2
    refine (qget_any Q a1 0 16 L x _ H_1.out.bk (by omega) (by omega) hL).mono ?_
    rintro r w_5 ⟨hK, hP⟩
    rw [if_pos rfl, hg1] at hP
    obtain ⟨rfl, hB⟩ := hP
    have H_2 := Lib.hid (H_1.out.quiet hK hB)
    clear H_1
    clear hK hB
    clear hg1
    go_wp2_with fail
    cases hg2 : Inf.get L 16 a2 with
    | error c =>
      obtain rfl := (Inf.get_error hg2).1
      have HQ : Hid (.error 0 = rr) := Lib.hid (by have h := HR.out; simp only [hg2] at h; exact h)
      refine (qget_any Q a2 0 16 L x _ H_2.out.bk (by omega) (by omega) hL).mono ?_
      rintro r w_6 ⟨hK, hP⟩
      rw [if_pos rfl, hg2] at hP
      obtain ⟨rfl, hB⟩ := hP
      have H_3 := Lib.hid (H_2.out.quiet hK hB)
      clear H_2
      clear hK hB
      go_wp2_with fail
      refine (rok_any Q a2 (0 + 1) (bs (Bts.allB L)) x _ H_3.out.bk).mono ?_
      rintro r w9 ⟨rfl, h9⟩
      have h9s := h9.symm
      clear h9
      subst h9s
      rw [show decide ((0 + 1) = 0) = false from decide_eq_false (by omega)]
      go_wp2_with fail
      refine wp_regionQ (by kernel_rfl) (by kernel_rfl) ?_
      have hdk : decide ((0 + 1) = 0) = false := decide_eq_false (by omega)
      refine wpQ_yes (by kernel_rfl) (fun K hK => ?_)
      go_simp
      refine hK _ ?_
      clear hK K
      refine wpQ_yes (by kernel_rfl) (fun K hK => ?_)
      go_simp
      refine ⟨_, (rok_any Q a2 (0 + 1) (bs (Bts.allB L)) x _ H_3.out.bk.drew), hK _ ?_⟩
      clear hK K
      refine wpQ_yes (by kernel_rfl) (fun K hK => ?_)
      go_simp
      refine hK _ ?_
      clear hK K
      refine wpQ_no (by kernel_rfl) ?_
      try simp only [Act.put, List.getElem_toArray, List.getElem_cons_succ, List.getElem_cons_zero, List.setIfInBounds_toArray, List.set_cons_zero, List.set_cons_succ]
      refine wpQ_no (by kernel_rfl) ?_
      try simp only [Act.put, List.getElem_toArray, List.getElem_cons_succ, List.getElem_cons_zero, List.setIfInBounds_toArray, List.set_cons_zero, List.set_cons_succ]
      refine wpQ_no (by kernel_rfl) ?_
      try simp only [Act.put, List.getElem_toArray, List.getElem_cons_succ, List.getElem_cons_zero, List.setIfInBounds_toArray, List.set_cons_zero, List.set_cons_succ]
      refine wpQ_no (by kernel_rfl) ?_
      try simp only [Act.put, List.getElem_toArray, List.getElem_cons_succ, List.getElem_cons_zero, List.setIfInBounds_toArray, List.set_cons_zero, List.set_cons_succ]
      refine wpQ_no (by kernel_rfl) ?_
      try simp only [Act.put, List.getElem_toArray, List.getElem_cons_succ, List.getElem_cons_zero, List.setIfInBounds_toArray, List.set_cons_zero, List.set_cons_succ]
      refine wpQ_no (by kernel_rfl) ?_
      try simp only [Act.put, List.getElem_toArray, List.getElem_cons_succ, List.getElem_cons_zero, List.setIfInBounds_toArray, List.set_cons_zero, List.set_cons_succ]
      refine wpQ_no (by kernel_rfl) ?_
      try simp only [Act.put, List.getElem_toArray, List.getElem_cons_succ, List.getElem_cons_zero, List.setIfInBounds_toArray, List.set_cons_zero, List.set_cons_succ]
      refine wpQ_no (by kernel_rfl) ?_
      try simp only [Act.put, List.getElem_toArray, List.getElem_cons_succ, List.getElem_cons_zero, List.setIfInBounds_toArray, List.set_cons_zero, List.set_cons_succ]
      refine wpQ_no (by kernel_rfl) ?_
      try simp only [Act.put, List.getElem_toArray, List.getElem_cons_succ, List.getElem_cons_zero, List.setIfInBounds_toArray, List.set_cons_zero, List.set_cons_succ]
      refine wpQ_no (by kernel_rfl) ?_
      try simp only [Act.put, List.getElem_toArray, List.getElem_cons_succ, List.getElem_cons_zero, List.setIfInBounds_toArray, List.set_cons_zero, List.set_cons_succ]
      refine wpQ_no (by kernel_rfl) ?_
      try simp only [Act.put, List.getElem_toArray, List.getElem_cons_succ, List.getElem_cons_zero, List.setIfInBounds_toArray, List.set_cons_zero, List.set_cons_succ]
      refine wpQ_no (by kernel_rfl) ?_
      try simp only [Act.put, List.getElem_toArray, List.getElem_cons_succ, List.getElem_cons_zero, List.setIfInBounds_toArray, List.set_cons_zero, List.set_cons_succ]
      refine wpQ_no (by kernel_rfl) ?_
      try simp only [Act.put, List.getElem_toArray, List.getElem_cons_succ, List.getElem_cons_zero, List.setIfInBounds_toArray, List.set_cons_zero, List.set_cons_succ]
      refine wpQ_yes (by kernel_rfl) (fun K hK => ?_)
      go_simp
      refine hK _ ?_
      clear hK K
      refine wpQ_nil ?_
      clear hdk
      have H_4 := Lib.hid (H_3.out.ext (show Ext w_6 w_6.drew from Below.drew (Ext.refl _)))
      clear H_3
      go_wp2_with fail
      refine wp_world (fun wz => Ext w_6.drew wz) (Ext.refl _) ?_
      rintro w_7 hX
      have H_5 := Lib.hid (H_4.out.ext hX)
      clear H_4
      clear hX
      refine wp_regionQ (by kernel_rfl) (by kernel_rfl) ?_
      have hdk : decide ((0 + 1) = 0) = false := decide_eq_false (by omega)
      refine wpQ_yes (by kernel_rfl) (fun K hK => ?_)
      go_simp
      refine hK _ ?_
      clear hK K
      refine wpQ_yes (by kernel_rfl) (fun K hK => ?_)
      go_simp
      refine ⟨_, (rok_any Q a2 (0 + 1) (bs (Bts.allB L)) x _ H_5.out.bk.drew), hK _ ?_⟩
      clear hK K
      refine wpQ_yes (by kernel_rfl) (fun K hK => ?_)
      go_simp
      refine hK _ ?_
      clear hK K
      refine wpQ_no (by kernel_rfl) ?_
      try simp only [Act.put, List.getElem_toArray, List.getElem_cons_succ, List.getElem_cons_zero, List.setIfInBounds_toArray, List.set_cons_zero, List.set_cons_succ]
      refine wpQ_no (by kernel_rfl) ?_
      try simp only [Act.put, List.getElem_toArray, List.getElem_cons_succ, List.getElem_cons_zero, List.setIfInBounds_toArray, List.set_cons_zero, List.set_cons_succ]
      refine wpQ_no (by kernel_rfl) ?_
      try simp only [Act.put, List.getElem_toArray, List.getElem_cons_succ, List.getElem_cons_zero, List.setIfInBounds_toArray, List.set_cons_zero, List.set_cons_succ]
      refine wpQ_no (by kernel_rfl) ?_
      try simp only [Act.put, List.getElem_toArray, List.getElem_cons_succ, List.getElem_cons_zero, List.setIfInBounds_toArray, List.set_cons_zero, List.set_cons_succ]
      refine wpQ_no (by kernel_rfl) ?_
      try simp only [Act.put, List.getElem_toArray, List.getElem_cons_succ, List.getElem_cons_zero, List.setIfInBounds_toArray, List.set_cons_zero, List.set_cons_succ]
      refine wpQ_no (by kernel_rfl) ?_
      try simp only [Act.put, List.getElem_toArray, List.getElem_cons_succ, List.getElem_cons_zero, List.setIfInBounds_toArray, List.set_cons_zero, List.set_cons_succ]
      refine wpQ_no (by kernel_rfl) ?_
      try simp only [Act.put, List.getElem_toArray, List.getElem_cons_succ, List.getElem_cons_zero, List.setIfInBounds_toArray, List.set_cons_zero, List.set_cons_succ]
      refine wpQ_no (by kernel_rfl) ?_
      try simp only [Act.put, List.getElem_toArray, List.getElem_cons_succ, List.getElem_cons_zero, List.setIfInBounds_toArray, List.set_cons_zero, List.set_cons_succ]
      refine wpQ_no (by kernel_rfl) ?_
      try simp only [Act.put, List.getElem_toArray, List.getElem_cons_succ, List.getElem_cons_zero, List.setIfInBounds_toArray, List.set_cons_zero, List.set_cons_succ]
      refine wpQ_no (by kernel_rfl) ?_
      try simp only [Act.put, List.getElem_toArray, List.getElem_cons_succ, List.getElem_cons_zero, List.setIfInBounds_toArray, List.set_cons_zero, List.set_cons_succ]
      refine wpQ_no (by kernel_rfl) ?_
      try simp only [Act.put, List.getElem_toArray, List.getElem_cons_succ, List.getElem_cons_zero, List.setIfInBounds_toArray, List.set_cons_zero, List.set_cons_succ]
      refine wpQ_no (by kernel_rfl) ?_
      try simp only [Act.put, List.getElem_toArray, List.getElem_cons_succ, List.getElem_cons_zero, List.setIfInBounds_toArray, List.set_cons_zero, List.set_cons_succ]
      refine wpQ_yes (by kernel_rfl) (fun K hK => ?_)
      go_simp
      refine hK _ ?_
      clear hK K
      refine wpQ_nil ?_
      clear hdk
      have H_6 := Lib.hid (H_5.out.ext (show Ext w_7 w_7.drew from Below.drew (Ext.refl _)))
      clear H_5
      go_wp2_with fail
      go_loopw [4] (fun z wr => z = .int .i64 0 ∧ Hid (QGo w wr Q (bs (Bts.allB L)) a2 (0 + 1) x vo vo out)) (fun _ _ => 0)
      case atStart => exact ⟨rfl, H_6⟩
      case round =>
        clear H_6
        obtain ⟨rfl, H_6⟩ := hrel
        by_cases hn0 : 0 < n
        · have t8 : decide ((0 : Int) < (n : Int)) = true := decide_eq_true (by omega)
          go_wp2_with fail
          refine (rok_any Q a2 (0 + 1) (bs (Bts.allB L)) x _ H_6.out.bk).mono ?_
          rintro r w9 ⟨rfl, h9⟩
          have h9s := h9.symm
          clear h9
          subst h9s
          rw [show decide ((0 + 1) = 0) = false from decide_eq_false (by omega)]
          go_wp2_with fail
          go_end0
          exact spost_error HQ.out rfl H_6.out (fun i _ => rfl)
        · have t8 : decide ((0 : Int) < (n : Int)) = false := decide_eq_false (by omega)
          go_wp2_with fail
          go_end0
          exact spost_error HQ.out rfl H_6.out (fun i _ => rfl)
    | ok q =>
      obtain ⟨m, a3⟩ := q
      have HR1 := HR.out
      simp only [hg2] at HR1
      clear HR
      have HR := Lib.hid HR1
      clear HR1
      obtain ⟨p1, p2, p3, p4⟩ := Inf.get_ok hg2
      clear p4
      have hp65 : m < 65536 := p3
      have hp2 : a3 ≤ 8 * L.length := by omega
      have hp8 : a3 % 8 = 0 := by omega
      clear p3 p1 p2
      refine (qget_any Q a2 0 16 L x _ H_2.out.bk (by omega) (by omega) hL).mono ?_
      rintro r w_8 ⟨hK, hP⟩
      rw [if_pos rfl, hg2] at hP
      obtain ⟨rfl, hB⟩ := hP
      have H_3 := Lib.hid (H_2.out.quiet hK hB)
      clear H_2
      clear hK hB
      clear hg2
      go_wp2_with fail
      refine (rok_any Q a3 0 (bs (Bts.allB L)) x _ H_3.out.bk).mono ?_
      rintro r w9 ⟨rfl, h9⟩
      have h9s := h9.symm
      clear h9
      subst h9s
      rw [show decide (0 = 0) = true from rfl]
      have wnm : ∀ z, z = (n : Int) + (m : Int) → IntKind.i64.wrap z = z := by rintro _ rfl; rw [IntKind.wrap_i64]; omega
      by_cases hx : n + m = 65535
      · have t1 : ((n : Int) + (m : Int) != 65535) = false := by rw [bne_eq_false_iff_eq]; omega
        have HR1 := HR.out
        rw [if_neg (fun q => q hx)] at HR1
        clear HR
        have HR := Lib.hid HR1
        clear HR1
        go_wp2_with fail
        clear t1 wnm
        have c0 := H_3.out.bk.cell 0
        have c1 := H_3.out.bk.cell 1
        simp only [qc] at c0 c1
        obtain ⟨A, hA⟩ : ∃ A, a3 + 8 * n = A := ⟨_, rfl⟩
        have hAI : (a3 : Int) + 8 * (n : Int) = (A : Int) := by omega
        have wA : ∀ z, z = (A : Int) → IntKind.i64.wrap z = z := by rintro _ rfl; rw [IntKind.wrap_i64]; omega
        have w8 : ∀ z, z = 8 * (n : Int) → IntKind.i64.wrap z = z := by rintro _ rfl; rw [IntKind.wrap_i64]; omega
        obtain ⟨Z, hZ⟩ : ∃ Z, 8 * L.length = Z := ⟨_, rfl⟩
        rw [hZ] at hsz
        by_cases hov : Z < A
        · have t2 : decide ((Z : Int) < (A : Int)) = true := decide_eq_true (by omega)
          have n2 : Z < A := hov
          have HQ : Hid (.error 0 = rr) := Lib.hid (by have h := HR.out; rw [if_pos (by omega)] at h; exact h)
          refine wp_regionQ (by kernel_rfl) (by kernel_rfl) ?_
          have hdk : decide (0 = 0) = true := rfl
          refine wpQ_yes (by kernel_rfl) (fun K hK => ?_)
          go_simp
          refine hK _ ?_
          clear hK K
          refine wpQ_yes (by kernel_rfl) (fun K hK => ?_)
          go_simp
          refine ⟨_, (rok_any Q a3 0 (bs (Bts.allB L)) x _ H_3.out.bk.drew), hK _ ?_⟩
          clear hK K
          refine wpQ_yes (by kernel_rfl) (fun K hK => ?_)
          go_simp
          refine hK _ ?_
          clear hK K
          refine wpQ_yes (by kernel_rfl) (fun K hK => ?_)
          go_simp
          refine hK _ ?_
          clear hK K
          refine wpQ_yes (by kernel_rfl) (fun K hK => ?_)
          go_simp
          refine hK _ ?_
          clear hK K
          refine wpQ_yes (by kernel_rfl) (fun K hK => ?_)
          go_simp
          refine hK _ ?_
          clear hK K
          refine wpQ_yes (by kernel_rfl) (fun K hK => ?_)
          go_simp
          refine hK _ ?_
          clear hK K
          refine wpQ_yes (by kernel_rfl) (fun K hK => ?_)
          go_simp
          refine hK _ ?_
          clear hK K
          refine wpQ_yes (by kernel_rfl) (fun K hK => ?_)
          go_simp
          refine hK _ ?_
          clear hK K
          refine wpQ_yes (by kernel_rfl) (fun K hK => ?_)
          go_simp
          refine hK _ ?_
          clear hK K
          refine wpQ_yes (by kernel_rfl) (fun K hK => ?_)
          go_simp
          refine hK _ ?_
          clear hK K
          refine wpQ_yes (by kernel_rfl) (fun K hK => ?_)
          go_simp
          refine hK _ ?_
          clear hK K
          refine wpQ_yes (by kernel_rfl) (fun K hK => ?_)
          go_simp
          refine hK _ ?_
          clear hK K
          refine wpQ_yes (by kernel_rfl) (fun K hK => ?_)
          go_simp
          refine hK _ ?_
          clear hK K
          refine wpQ_yes (by kernel_rfl) (fun K hK => ?_)
          go_simp
          refine hK _ ?_
          clear hK K
          refine wpQ_yes (by kernel_rfl) (fun K hK => ?_)
          go_simp
          refine hK _ ?_
          clear hK K
          refine wpQ_yes (by kernel_rfl) (fun K hK => ?_)
          go_simp
          refine hK _ ?_
          clear hK K
          refine wpQ_nil ?_
          clear hdk
          have H_4 := Lib.hid (H_3.out.ext (show Ext w_8 w_8.drew from Below.drew (Ext.refl _)))
          clear H_3
          go_wp2_with fail
          refine (rfail_any Q a3 0 1 (bs (Bts.allB L)) x _ H_4.out.bk).mono ?_
          rintro r w_9 ⟨rfl, hB, hK⟩
          rw [show fl 0 1 = 1 from rfl] at hB
          have H_5 := Lib.hid (H_4.out.quiet hK hB)
          clear H_4
          clear hK hB
          clear t2 n2 c0 c1 hsz
          go_wp2_with fail
          refine wp_world (fun wz => Ext w_9 wz) (Ext.refl _) ?_
          rintro w_10 hX
          have H_6 := Lib.hid (H_5.out.ext hX)
          clear H_5
          clear hX
          refine wp_regionQ (by kernel_rfl) (by kernel_rfl) ?_
          have hdk : decide (1 = 0) = false := decide_eq_false (by omega)
          refine wpQ_yes (by kernel_rfl) (fun K hK => ?_)
          go_simp
          refine hK _ ?_
          clear hK K
          refine wpQ_yes (by kernel_rfl) (fun K hK => ?_)
          go_simp
          refine ⟨_, (rok_any Q a3 1 (bs (Bts.allB L)) x _ H_6.out.bk.drew), hK _ ?_⟩
          clear hK K
          refine wpQ_yes (by kernel_rfl) (fun K hK => ?_)
          go_simp
          refine hK _ ?_
          clear hK K
          refine wpQ_no (by kernel_rfl) ?_
          try simp only [Act.put, List.getElem_toArray, List.getElem_cons_succ, List.getElem_cons_zero, List.setIfInBounds_toArray, List.set_cons_zero, List.set_cons_succ]
          refine wpQ_no (by kernel_rfl) ?_
          try simp only [Act.put, List.getElem_toArray, List.getElem_cons_succ, List.getElem_cons_zero, List.setIfInBounds_toArray, List.set_cons_zero, List.set_cons_succ]
          refine wpQ_no (by kernel_rfl) ?_
          try simp only [Act.put, List.getElem_toArray, List.getElem_cons_succ, List.getElem_cons_zero, List.setIfInBounds_toArray, List.set_cons_zero, List.set_cons_succ]
          refine wpQ_no (by kernel_rfl) ?_
          try simp only [Act.put, List.getElem_toArray, List.getElem_cons_succ, List.getElem_cons_zero, List.setIfInBounds_toArray, List.set_cons_zero, List.set_cons_succ]
          refine wpQ_no (by kernel_rfl) ?_
          try simp only [Act.put, List.getElem_toArray, List.getElem_cons_succ, List.getElem_cons_zero, List.setIfInBounds_toArray, List.set_cons_zero, List.set_cons_succ]
          refine wpQ_no (by kernel_rfl) ?_
          try simp only [Act.put, List.getElem_toArray, List.getElem_cons_succ, List.getElem_cons_zero, List.setIfInBounds_toArray, List.set_cons_zero, List.set_cons_succ]
          refine wpQ_no (by kernel_rfl) ?_
          try simp only [Act.put, List.getElem_toArray, List.getElem_cons_succ, List.getElem_cons_zero, List.setIfInBounds_toArray, List.set_cons_zero, List.set_cons_succ]
          refine wpQ_no (by kernel_rfl) ?_
          try simp only [Act.put, List.getElem_toArray, List.getElem_cons_succ, List.getElem_cons_zero, List.setIfInBounds_toArray, List.set_cons_zero, List.set_cons_succ]
          refine wpQ_no (by kernel_rfl) ?_
          try simp only [Act.put, List.getElem_toArray, List.getElem_cons_succ, List.getElem_cons_zero, List.setIfInBounds_toArray, List.set_cons_zero, List.set_cons_succ]
          refine wpQ_no (by kernel_rfl) ?_
          try simp only [Act.put, List.getElem_toArray, List.getElem_cons_succ, List.getElem_cons_zero, List.setIfInBounds_toArray, List.set_cons_zero, List.set_cons_succ]
          refine wpQ_no (by kernel_rfl) ?_
          try simp only [Act.put, List.getElem_toArray, List.getElem_cons_succ, List.getElem_cons_zero, List.setIfInBounds_toArray, List.set_cons_zero, List.set_cons_succ]
          refine wpQ_no (by kernel_rfl) ?_
          try simp only [Act.put, List.getElem_toArray, List.getElem_cons_succ, List.getElem_cons_zero, List.setIfInBounds_toArray, List.set_cons_zero, List.set_cons_succ]
          refine wpQ_yes (by kernel_rfl) (fun K hK => ?_)
          go_simp
          refine hK _ ?_
          clear hK K
          refine wpQ_nil ?_
          clear hdk
          have H_7 := Lib.hid (H_6.out.ext (show Ext w_10 w_10.drew from Below.drew (Ext.refl _)))
          clear H_6
          go_wp2_with fail
          go_loopw [4] (fun z wr => z = .int .i64 0 ∧ Hid (QGo w wr Q (bs (Bts.allB L)) a3 1 x vo vo out)) (fun _ _ => 0)
          case atStart => exact ⟨rfl, H_7⟩
          case round =>
            clear H_7
            obtain ⟨rfl, H_7⟩ := hrel
            by_cases hn0 : 0 < n
            · have t8 : decide ((0 : Int) < (n : Int)) = true := decide_eq_true (by omega)
              go_wp2_with fail
              refine (rok_any Q a3 1 (bs (Bts.allB L)) x _ H_7.out.bk).mono ?_
              rintro r w9 ⟨rfl, h9⟩
              have h9s := h9.symm
              clear h9
              subst h9s
              rw [show decide (1 = 0) = false from decide_eq_false (by omega)]
              go_wp2_with fail
              go_end0
              exact spost_error HQ.out rfl H_7.out (fun i _ => rfl)
            · have t8 : decide ((0 : Int) < (n : Int)) = false := decide_eq_false (by omega)
              go_wp2_with fail
              go_end0
              exact spost_error HQ.out rfl H_7.out (fun i _ => rfl)
        · have t2 : decide ((Z : Int) < (A : Int)) = false := decide_eq_false (by omega)
          have n2 : ¬ Z < A := hov
          have HR1 := HR.out
          rw [if_neg (by omega)] at HR1
          clear HR
          have HR := Lib.hid HR1
          clear HR1
          refine wp_regionQ (by kernel_rfl) (by kernel_rfl) ?_
          have hdk : decide (0 = 0) = true := rfl
          refine wpQ_yes (by kernel_rfl) (fun K hK => ?_)
          go_simp
          refine hK _ ?_
          clear hK K
          refine wpQ_yes (by kernel_rfl) (fun K hK => ?_)
          go_simp
          refine ⟨_, (rok_any Q a3 0 (bs (Bts.allB L)) x _ H_3.out.bk.drew), hK _ ?_⟩
          clear hK K
          refine wpQ_yes (by kernel_rfl) (fun K hK => ?_)
          go_simp
          refine hK _ ?_
          clear hK K
          refine wpQ_yes (by kernel_rfl) (fun K hK => ?_)
          go_simp
          refine hK _ ?_
          clear hK K
          refine wpQ_yes (by kernel_rfl) (fun K hK => ?_)
          go_simp
          refine hK _ ?_
          clear hK K
          refine wpQ_yes (by kernel_rfl) (fun K hK => ?_)
          go_simp
          refine hK _ ?_
          clear hK K
          refine wpQ_yes (by kernel_rfl) (fun K hK => ?_)
          go_simp
          refine hK _ ?_
          clear hK K
          refine wpQ_yes (by kernel_rfl) (fun K hK => ?_)
          go_simp
          refine hK _ ?_
          clear hK K
          refine wpQ_yes (by kernel_rfl) (fun K hK => ?_)
          go_simp
          refine hK _ ?_
          clear hK K
          refine wpQ_yes (by kernel_rfl) (fun K hK => ?_)
          go_simp
          refine hK _ ?_
          clear hK K
          refine wpQ_yes (by kernel_rfl) (fun K hK => ?_)
          go_simp
          refine hK _ ?_
          clear hK K
          refine wpQ_yes (by kernel_rfl) (fun K hK => ?_)
          go_simp
          refine hK _ ?_
          clear hK K
          refine wpQ_yes (by kernel_rfl) (fun K hK => ?_)
          go_simp
          refine hK _ ?_
          clear hK K
          refine wpQ_yes (by kernel_rfl) (fun K hK => ?_)
          go_simp
          refine hK _ ?_
          clear hK K
          refine wpQ_yes (by kernel_rfl) (fun K hK => ?_)
          go_simp
          refine hK _ ?_
          clear hK K
          refine wpQ_yes (by kernel_rfl) (fun K hK => ?_)
          go_simp
          refine hK _ ?_
          clear hK K
          refine wpQ_yes (by kernel_rfl) (fun K hK => ?_)
          go_simp
          refine hK _ ?_
          clear hK K
          refine wpQ_nil ?_
          clear hdk
          have H_4 := Lib.hid (H_3.out.ext (show Ext w_8 w_8.drew from Below.drew (Ext.refl _)))
          clear H_3
          go_wp2_with fail
          clear t2 n2 c0 c1
          refine wp_world (fun wz => Ext w_8.drew wz) (Ext.refl _) ?_
          rintro w_11 hX
          have H_5 := Lib.hid (H_4.out.ext hX)
          clear H_4
          clear hX
          obtain ⟨Lo, hLo⟩ : ∃ Lo, out.length = Lo := ⟨_, rfl⟩
          have HL := Lib.hid hLo
          have hro := H_5.out.row
          rw [hLo] at hro hout
          obtain ⟨xo, co, hvo⟩ := lit_row hro
          have hx2v := (H_5.out.x2).trans hvo
          clear hLo hro
          have c2 := H_5.out.bk.cell 2
          have c3 := H_5.out.bk.cell 3
          simp only [qc] at c2 c3
          rw [hx2v] at c2
          rw [hx3v] at c3
          have wl : ∀ z, z = (Lo : Int) + (n : Int) → IntKind.i64.wrap z = z := by rintro _ rfl; rw [IntKind.wrap_i64]; omega
          by_cases hmo : most < Lo + n
          · have t3 : decide ((most : Int) < (Lo : Int) + (n : Int)) = true := decide_eq_true (by omega)
            have HQ : Hid (.error 1 = rr) := Lib.hid (by have h := HR.out; rw [HL.out, if_pos hmo] at h; exact h)
            refine wp_regionQ (by kernel_rfl) (by kernel_rfl) ?_
            have hdk : decide (0 = 0) = true := rfl
            refine wpQ_yes (by kernel_rfl) (fun K hK => ?_)
            go_simp
            refine hK _ ?_
            clear hK K
            refine wpQ_yes (by kernel_rfl) (fun K hK => ?_)
            go_simp
            refine ⟨_, (rok_any Q a3 0 (bs (Bts.allB L)) x _ H_5.out.bk.drew), hK _ ?_⟩
            clear hK K
            refine wpQ_yes (by kernel_rfl) (fun K hK => ?_)
            go_simp
            refine hK _ ?_
            clear hK K
            refine wpQ_yes (by kernel_rfl) (fun K hK => ?_)
            go_simp
            refine hK _ ?_
            clear hK K
            refine wpQ_yes (by kernel_rfl) (fun K hK => ?_)
            go_simp
            refine hK _ ?_
            clear hK K
            refine wpQ_yes (by kernel_rfl) (fun K hK => ?_)
            go_simp
            refine hK _ ?_
            clear hK K
            refine wpQ_yes (by kernel_rfl) (fun K hK => ?_)
            go_simp
            refine hK _ ?_
            clear hK K
            refine wpQ_yes (by kernel_rfl) (fun K hK => ?_)
            go_simp
            refine hK _ ?_
            clear hK K
            refine wpQ_yes (by kernel_rfl) (fun K hK => ?_)
            go_simp
            refine hK _ ?_
            clear hK K
            refine wpQ_yes (by kernel_rfl) (fun K hK => ?_)
            go_simp
            refine hK _ ?_
            clear hK K
            refine wpQ_yes (by kernel_rfl) (fun K hK => ?_)
            go_simp
            refine hK _ ?_
            clear hK K
            refine wpQ_yes (by kernel_rfl) (fun K hK => ?_)
            go_simp
            refine hK _ ?_
            clear hK K
            refine wpQ_yes (by kernel_rfl) (fun K hK => ?_)
            go_simp
            refine hK _ ?_
            clear hK K
            refine wpQ_yes (by kernel_rfl) (fun K hK => ?_)
            go_simp
            refine hK _ ?_
            clear hK K
            refine wpQ_yes (by kernel_rfl) (fun K hK => ?_)
            go_simp
            refine hK _ ?_
            clear hK K
            refine wpQ_yes (by kernel_rfl) (fun K hK => ?_)
            go_simp
            refine hK _ ?_
            clear hK K
            refine wpQ_nil ?_
            clear hdk
            have H_6 := Lib.hid (H_5.out.ext (show Ext w_11 w_11.drew from Below.drew (Ext.refl _)))
            clear H_5
            go_wp2_with fail
            refine (rfail_any Q a3 0 2 (bs (Bts.allB L)) x _ H_6.out.bk).mono ?_
            rintro r w_12 ⟨rfl, hB, hK⟩
            rw [show fl 0 2 = 2 from rfl] at hB
            have H_7 := Lib.hid (H_6.out.quiet hK hB)
            clear H_6
            clear hK hB
            clear t3 wl c2 c3
            go_wp2_with fail
            go_loopw [4] (fun z wr => z = .int .i64 0 ∧ Hid (QGo w wr Q (bs (Bts.allB L)) a3 2 x vo vo out)) (fun _ _ => 0)
            case atStart => exact ⟨rfl, H_7⟩
            case round =>
              clear H_7
              obtain ⟨rfl, H_7⟩ := hrel
              by_cases hn0 : 0 < n
              · have t8 : decide ((0 : Int) < (n : Int)) = true := decide_eq_true (by omega)
                go_wp2_with fail
                refine (rok_any Q a3 2 (bs (Bts.allB L)) x _ H_7.out.bk).mono ?_
                rintro r w9 ⟨rfl, h9⟩
                have h9s := h9.symm
                clear h9
                subst h9s
                rw [show decide (2 = 0) = false from decide_eq_false (by omega)]
                go_wp2_with fail
                go_end0
                exact spost_error HQ.out rfl H_7.out (fun i _ => rfl)
              · have t8 : decide ((0 : Int) < (n : Int)) = false := decide_eq_false (by omega)
                go_wp2_with fail
                go_end0
                exact spost_error HQ.out rfl H_7.out (fun i _ => rfl)
          · have t3 : decide ((most : Int) < (Lo : Int) + (n : Int)) = false := decide_eq_false (by omega)
            have HQ : Hid (.ok (A, out ++ (L.drop (a3 / 8)).take n) = rr) := Lib.hid (by have h := HR.out; rw [HL.out, if_neg hmo, hA] at h; exact h)
            refine wp_regionQ (by kernel_rfl) (by kernel_rfl) ?_
            have hdk : decide (0 = 0) = true := rfl
            refine wpQ_yes (by kernel_rfl) (fun K hK => ?_)
            go_simp
            refine hK _ ?_
            clear hK K
            refine wpQ_yes (by kernel_rfl) (fun K hK => ?_)
            go_simp
            refine ⟨_, (rok_any Q a3 0 (bs (Bts.allB L)) x _ H_5.out.bk.drew), hK _ ?_⟩
            clear hK K
            refine wpQ_yes (by kernel_rfl) (fun K hK => ?_)
            go_simp
            refine hK _ ?_
            clear hK K
            refine wpQ_yes (by kernel_rfl) (fun K hK => ?_)
            go_simp
            refine hK _ ?_
            clear hK K
            refine wpQ_yes (by kernel_rfl) (fun K hK => ?_)
            go_simp
            refine hK _ ?_
            clear hK K
            refine wpQ_yes (by kernel_rfl) (fun K hK => ?_)
            go_simp
            refine hK _ ?_
            clear hK K
            refine wpQ_yes (by kernel_rfl) (fun K hK => ?_)
            go_simp
            refine hK _ ?_
            clear hK K
            refine wpQ_yes (by kernel_rfl) (fun K hK => ?_)
            go_simp
            refine hK _ ?_
            clear hK K
            refine wpQ_yes (by kernel_rfl) (fun K hK => ?_)
            go_simp
            refine hK _ ?_
            clear hK K
            refine wpQ_yes (by kernel_rfl) (fun K hK => ?_)
            go_simp
            refine hK _ ?_
            clear hK K
            refine wpQ_yes (by kernel_rfl) (fun K hK => ?_)
            go_simp
            refine hK _ ?_
            clear hK K
            refine wpQ_yes (by kernel_rfl) (fun K hK => ?_)
            go_simp
            refine hK _ ?_
            clear hK K
            refine wpQ_yes (by kernel_rfl) (fun K hK => ?_)
            go_simp
            refine hK _ ?_
            clear hK K
            refine wpQ_yes (by kernel_rfl) (fun K hK => ?_)
            go_simp
            refine hK _ ?_
            clear hK K
            refine wpQ_yes (by kernel_rfl) (fun K hK => ?_)
            go_simp
            refine hK _ ?_
            clear hK K
            refine wpQ_yes (by kernel_rfl) (fun K hK => ?_)
            go_simp
            refine hK _ ?_
            clear hK K
            refine wpQ_nil ?_
            clear hdk
            have H_6 := Lib.hid (H_5.out.ext (show Ext w_11 w_11.drew from Below.drew (Ext.refl _)))
            clear H_5
            go_wp2_with fail
            clear t3 wl c2 c3 HR
            obtain ⟨q, hq⟩ : ∃ q, a3 / 8 = q := ⟨_, rfl⟩
            have hq8 : a3 = 8 * q := by omega
            rw [hq] at HQ
            have hqn : q + n ≤ L.length := by omega
            have hqA : 8 * q + 8 * n = A := by omega
            have HQ8 := Lib.hid hq8
            have HQA := Lib.hid hqA
            clear hq8 hqA hA hAI hq
            have HLo : Hid (Lo + n ≤ 300000) := Lib.hid (by omega)
            go_loopw [4] (fun z wr => ∃ (i : Nat) (x2 : Nat → Value) (v2 : Value), i ≤ n ∧ z = .int .i64 i ∧ Hid (QGo w wr Q (bs (Bts.allB L)) (8 * q + 8 * i) 0 x2 vo v2 (out ++ (L.drop q).take i)) ∧ Hid (∀ j, j ≠ 2 → x2 j = x j)) (fun z _ => n - (intOf z).toNat)
            case atStart => exact ⟨0, x, vo, by omega, rfl, Lib.hid (by rw [List.take_zero, List.append_nil, Nat.mul_zero, Nat.add_zero, ← HQ8.out]; exact H_6.out), Lib.hid (fun _ _ => rfl)⟩
            case round =>
              clear H_6
              obtain ⟨i, x2, v2, hi, rfl, H_0, HXX⟩ := hrel
              by_cases hin : i < n
              · have t8 : decide ((i : Int) < (n : Int)) = true := decide_eq_true (by omega)
                have hqi : q + i < L.length := by omega
                have hgb := get_byte L (q + i) hqi
                rw [Nat.mul_add] at hgb
                obtain ⟨y, hy⟩ : ∃ y, L[q + i] = y := ⟨_, rfl⟩
                rw [hy] at hgb
                have HY : Hid ((L.drop q).take (i + 1) = (L.drop q).take i ++ [y]) := Lib.hid (by rw [take_one L q i hqi, hy])
                have hyb := UInt8.toNat_lt y
                have HGB := Lib.hid hgb
                clear hgb hy
                go_wp2_with fail
                refine (rok_any Q (8 * q + 8 * i) 0 (bs (Bts.allB L)) x2 _ H_0.out.bk).mono ?_
                rintro r w9 ⟨rfl, h9⟩
                have h9s := h9.symm
                clear h9
                subst h9s
                rw [show decide (0 = 0) = true from rfl]
                go_wp2_with fail
                clear t8
                refine (qget_any Q (8 * q + 8 * i) 0 8 L x2 _ H_0.out.bk (by omega) (by omega) hL).mono ?_
                rintro r w_13 ⟨hK, hP⟩
                rw [if_pos rfl, HGB.out] at hP
                obtain ⟨rfl, hB⟩ := hP
                have H_1 := Lib.hid (H_0.out.quiet hK hB)
                clear H_0
                clear hK hB
                obtain ⟨M, hM⟩ : ∃ M, (out ++ (L.drop q).take i).length = M := ⟨_, rfl⟩
                have HM := Lib.hid hM
                have hMl : M = Lo + i := by rw [← hM, List.length_append, HL.out, List.length_take, List.length_drop]; omega
                have hMb : M ≤ 300000 := by have := HLo.out; omega
                have hro := H_1.out.row
                rw [hM] at hro
                obtain ⟨xq, cq, rfl⟩ := lit_row hro
                have HO := Lib.hid hro
                have hx2w := H_1.out.x2
                clear hM hro hMl
                have c2 := H_1.out.bk.cell 2
                simp only [qc] at c2
                rw [hx2w] at c2
                have hky : ((y.toNat : Nat) : Int) % 256 = (y.toNat : Int) := by omega
                have wk : ∀ z, z = (y.toNat : Int) → IntKind.u8.wrap z = z := by rintro _ rfl; unfold IntKind.wrap; simp [IntKind.bits, IntKind.signed]; omega
                go_wp2_with (at_builtin; refine wpList_append_own_at _ rfl _ _ 61 rfl 0 5 i0 (.int .u8 0) 1 1 Tryd.underlying61 hi0 hz0 hz1 hz2 rfl (by decide) _ _ _ rfl (HO.out.alloc _) ⟨w_13.heap.size, 0, none⟩ 1 1 [.int .u8 (y.toNat : Int)] rfl rfl ?c1 (one8 _) ?c3 ?c4 ?c5 ?_)
                case c1 => exact (cell_one_new _ _ _)
                case c3 => unfold maxLen; omega
                case c4 => omega
                case c5 => omega
                intro v' w4 hown hgrow _ hat
                obtain ⟨x4, c4, rfl⟩ := lit_row hown
                have P := H_1.out.push (y := y) HM.out ((Ext.refl _).alloc _) hgrow hown (by rcases hat with q | q; exact .inl q; exact .inr (by rw [q]; simp))
                have b2 := P.1.cell 2
                have f2 := P.1.frozen 2
                have HP := Lib.hid P.2
                have wi : ∀ z, z = (i : Int) + 1 → IntKind.i64.wrap z = z := by rintro _ rfl; rw [IntKind.wrap_i64]; omega
                clear P hown hgrow hat c2 wk
                go_wp2_with fail
                go_roundw
                case rel => exact ⟨i + 1, _, _, by omega, by go_num, Lib.hid (by rw [HY.out, ← List.append_assoc, Nat.mul_succ, ← Nat.add_assoc]; exact HP.out), Lib.hid (fun j hj => by rw [← HXX.out j hj]; simp [xset, hj])⟩
                case measure => simp [intOf]; omega
              · obtain rfl : i = n := by omega
                have t8 : decide ((i : Int) < (i : Int)) = false := decide_eq_false (by omega)
                go_wp2_with fail
                go_end0
                exact spost_ok HQ.out (by rw [← HQA.out]; exact H_0.out) HXX.out
      · have t1 : ((n : Int) + (m : Int) != 65535) = true := by rw [bne_iff_ne]; omega
        have HQ : Hid (.error 0 = rr) := Lib.hid (by have h := HR.out; rw [if_pos hx] at h; exact h)
        go_wp2_with fail
        refine (rfail_any Q a3 0 1 (bs (Bts.allB L)) x _ H_3.out.bk).mono ?_
        rintro r w_14 ⟨rfl, hB, hK⟩
        rw [show fl 0 1 = 1 from rfl] at hB
        have H_4 := Lib.hid (H_3.out.quiet hK hB)
        clear H_3
        clear hK hB
        clear t1 wnm
        go_wp2_with fail
        refine wp_regionQ (by kernel_rfl) (by kernel_rfl) ?_
        have hdk : decide (1 = 0) = false := decide_eq_false (by omega)
        refine wpQ_yes (by kernel_rfl) (fun K hK => ?_)
        go_simp
        refine hK _ ?_
        clear hK K
        refine wpQ_yes (by kernel_rfl) (fun K hK => ?_)
        go_simp
        refine ⟨_, (rok_any Q a3 1 (bs (Bts.allB L)) x _ H_4.out.bk.drew), hK _ ?_⟩
        clear hK K
        refine wpQ_yes (by kernel_rfl) (fun K hK => ?_)
        go_simp
        refine hK _ ?_
        clear hK K
        refine wpQ_no (by kernel_rfl) ?_
        try simp only [Act.put, List.getElem_toArray, List.getElem_cons_succ, List.getElem_cons_zero, List.setIfInBounds_toArray, List.set_cons_zero, List.set_cons_succ]
        refine wpQ_no (by kernel_rfl) ?_
        try simp only [Act.put, List.getElem_toArray, List.getElem_cons_succ, List.getElem_cons_zero, List.setIfInBounds_toArray, List.set_cons_zero, List.set_cons_succ]
        refine wpQ_no (by kernel_rfl) ?_
        try simp only [Act.put, List.getElem_toArray, List.getElem_cons_succ, List.getElem_cons_zero, List.setIfInBounds_toArray, List.set_cons_zero, List.set_cons_succ]
        refine wpQ_no (by kernel_rfl) ?_
        try simp only [Act.put, List.getElem_toArray, List.getElem_cons_succ, List.getElem_cons_zero, List.setIfInBounds_toArray, List.set_cons_zero, List.set_cons_succ]
        refine wpQ_no (by kernel_rfl) ?_
        try simp only [Act.put, List.getElem_toArray, List.getElem_cons_succ, List.getElem_cons_zero, List.setIfInBounds_toArray, List.set_cons_zero, List.set_cons_succ]
        refine wpQ_no (by kernel_rfl) ?_
        try simp only [Act.put, List.getElem_toArray, List.getElem_cons_succ, List.getElem_cons_zero, List.setIfInBounds_toArray, List.set_cons_zero, List.set_cons_succ]
        refine wpQ_no (by kernel_rfl) ?_
        try simp only [Act.put, List.getElem_toArray, List.getElem_cons_succ, List.getElem_cons_zero, List.setIfInBounds_toArray, List.set_cons_zero, List.set_cons_succ]
        refine wpQ_no (by kernel_rfl) ?_
        try simp only [Act.put, List.getElem_toArray, List.getElem_cons_succ, List.getElem_cons_zero, List.setIfInBounds_toArray, List.set_cons_zero, List.set_cons_succ]
        refine wpQ_no (by kernel_rfl) ?_
        try simp only [Act.put, List.getElem_toArray, List.getElem_cons_succ, List.getElem_cons_zero, List.setIfInBounds_toArray, List.set_cons_zero, List.set_cons_succ]
        refine wpQ_no (by kernel_rfl) ?_
        try simp only [Act.put, List.getElem_toArray, List.getElem_cons_succ, List.getElem_cons_zero, List.setIfInBounds_toArray, List.set_cons_zero, List.set_cons_succ]
        refine wpQ_no (by kernel_rfl) ?_
        try simp only [Act.put, List.getElem_toArray, List.getElem_cons_succ, List.getElem_cons_zero, List.setIfInBounds_toArray, List.set_cons_zero, List.set_cons_succ]
        refine wpQ_no (by kernel_rfl) ?_
        try simp only [Act.put, List.getElem_toArray, List.getElem_cons_succ, List.getElem_cons_zero, List.setIfInBounds_toArray, List.set_cons_zero, List.set_cons_succ]
        refine wpQ_no (by kernel_rfl) ?_
        try simp only [Act.put, List.getElem_toArray, List.getElem_cons_succ, List.getElem_cons_zero, List.setIfInBounds_toArray, List.set_cons_zero, List.set_cons_succ]
        refine wpQ_yes (by kernel_rfl) (fun K hK => ?_)
        go_simp
        refine hK _ ?_
        clear hK K
        refine wpQ_nil ?_
        clear hdk
        have H_5 := Lib.hid (H_4.out.ext (show Ext w_14 w_14.drew from Below.drew (Ext.refl _)))
        clear H_4
        go_wp2_with fail
        refine wp_world (fun wz => Ext w_14.drew wz) (Ext.refl _) ?_
        rintro w_15 hX
        have H_6 := Lib.hid (H_5.out.ext hX)
        clear H_5
        clear hX
        refine wp_regionQ (by kernel_rfl) (by kernel_rfl) ?_
        have hdk : decide (1 = 0) = false := decide_eq_false (by omega)
        refine wpQ_yes (by kernel_rfl) (fun K hK => ?_)
        go_simp
        refine hK _ ?_
        clear hK K
        refine wpQ_yes (by kernel_rfl) (fun K hK => ?_)
        go_simp
        refine ⟨_, (rok_any Q a3 1 (bs (Bts.allB L)) x _ H_6.out.bk.drew), hK _ ?_⟩
        clear hK K
        refine wpQ_yes (by kernel_rfl) (fun K hK => ?_)
        go_simp
        refine hK _ ?_
        clear hK K
        refine wpQ_no (by kernel_rfl) ?_
        try simp only [Act.put, List.getElem_toArray, List.getElem_cons_succ, List.getElem_cons_zero, List.setIfInBounds_toArray, List.set_cons_zero, List.set_cons_succ]
        refine wpQ_no (by kernel_rfl) ?_
        try simp only [Act.put, List.getElem_toArray, List.getElem_cons_succ, List.getElem_cons_zero, List.setIfInBounds_toArray, List.set_cons_zero, List.set_cons_succ]
        refine wpQ_no (by kernel_rfl) ?_
        try simp only [Act.put, List.getElem_toArray, List.getElem_cons_succ, List.getElem_cons_zero, List.setIfInBounds_toArray, List.set_cons_zero, List.set_cons_succ]
        refine wpQ_no (by kernel_rfl) ?_
        try simp only [Act.put, List.getElem_toArray, List.getElem_cons_succ, List.getElem_cons_zero, List.setIfInBounds_toArray, List.set_cons_zero, List.set_cons_succ]
        refine wpQ_no (by kernel_rfl) ?_
        try simp only [Act.put, List.getElem_toArray, List.getElem_cons_succ, List.getElem_cons_zero, List.setIfInBounds_toArray, List.set_cons_zero, List.set_cons_succ]
        refine wpQ_no (by kernel_rfl) ?_
        try simp only [Act.put, List.getElem_toArray, List.getElem_cons_succ, List.getElem_cons_zero, List.setIfInBounds_toArray, List.set_cons_zero, List.set_cons_succ]
        refine wpQ_no (by kernel_rfl) ?_
        try simp only [Act.put, List.getElem_toArray, List.getElem_cons_succ, List.getElem_cons_zero, List.setIfInBounds_toArray, List.set_cons_zero, List.set_cons_succ]
        refine wpQ_no (by kernel_rfl) ?_
        try simp only [Act.put, List.getElem_toArray, List.getElem_cons_succ, List.getElem_cons_zero, List.setIfInBounds_toArray, List.set_cons_zero, List.set_cons_succ]
        refine wpQ_no (by kernel_rfl) ?_
        try simp only [Act.put, List.getElem_toArray, List.getElem_cons_succ, List.getElem_cons_zero, List.setIfInBounds_toArray, List.set_cons_zero, List.set_cons_succ]
        refine wpQ_no (by kernel_rfl) ?_
        try simp only [Act.put, List.getElem_toArray, List.getElem_cons_succ, List.getElem_cons_zero, List.setIfInBounds_toArray, List.set_cons_zero, List.set_cons_succ]
        refine wpQ_no (by kernel_rfl) ?_
        try simp only [Act.put, List.getElem_toArray, List.getElem_cons_succ, List.getElem_cons_zero, List.setIfInBounds_toArray, List.set_cons_zero, List.set_cons_succ]
        refine wpQ_no (by kernel_rfl) ?_
        try simp only [Act.put, List.getElem_toArray, List.getElem_cons_succ, List.getElem_cons_zero, List.setIfInBounds_toArray, List.set_cons_zero, List.set_cons_succ]
        refine wpQ_yes (by kernel_rfl) (fun K hK => ?_)
        go_simp
        refine hK _ ?_
        clear hK K
        refine wpQ_nil ?_
        clear hdk
        have H_7 := Lib.hid (H_6.out.ext (show Ext w_15 w_15.drew from Below.drew (Ext.refl _)))
        clear H_6
        go_wp2_with fail
        go_loopw [4] (fun z wr => z = .int .i64 0 ∧ Hid (QGo w wr Q (bs (Bts.allB L)) a3 1 x vo vo out)) (fun _ _ => 0)
        case atStart => exact ⟨rfl, H_7⟩
        case round =>
          clear H_7
          obtain ⟨rfl, H_7⟩ := hrel
          by_cases hn0 : 0 < n
          · have t8 : decide ((0 : Int) < (n : Int)) = true := decide_eq_true (by omega)
            go_wp2_with fail
            refine (rok_any Q a3 1 (bs (Bts.allB L)) x _ H_7.out.bk).mono ?_
            rintro r w9 ⟨rfl, h9⟩
            have h9s := h9.symm
            clear h9
            subst h9s
            rw [show decide (1 = 0) = false from decide_eq_false (by omega)]
            go_wp2_with fail
            go_end0
            exact spost_error HQ.out rfl H_7.out (fun i _ => rfl)
          · have t8 : decide ((0 : Int) < (n : Int)) = false := decide_eq_false (by omega)
            go_wp2_with fail
            go_end0
            exact spost_error HQ.out rfl H_7.out (fun i _ => rfl)
end Go.Proofs.YtnhbjgmfbcedaaaDoor
