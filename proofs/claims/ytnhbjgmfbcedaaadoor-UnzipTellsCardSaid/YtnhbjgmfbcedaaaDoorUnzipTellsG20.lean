/-
  the document's UnzipOf.
  UnzipTells' walk.
  The package's errors, out of what a row lists.
  The tables of package inflate, out of what a row lists.
  The last step of every law's row, once: a call that returns true and turns nothing that was there meets the row's post.
-/
import Derived.Test.YtnhbjgmfbcedaaaDoorUnzipTellsG11
import Derived.Test.YtnhbjgmfbcedaaaDoorUnzipTellsG10
import Derived.Test.YtnhbjgmfbcedaaaDoorUnzipTellsG19
import Derived.Test.YtnhbjgmfbcedaaaDoorUnzipTellsG12
import Derived.Test.YtnhbjgmfbcedaaaDoorUnzipTellsG2
import Derived.LaidHandle
import Derived.LaidSub
import Derived.Stop.LaidTwo
import Derived.Test.YtnhbjgmfbcedaaaDoorUnzipTellsG5
import Derived.Lib.LaidTab
import Derived.Test.YtnhbjgmfbcedaaaDoorRows
import Derived.ProofKit
import Derived.ShutString
import Derived.Below
import Derived.OpenShut
namespace Go.Proofs.YtnhbjgmfbcedaaaDoor
open Go.RowKit
set_option linter.unusedSimpArgs false
set_option maxRecDepth 100000
set_option linter.unusedSimpArgs false in
set_option maxHeartbeats 4000000 in
theorem unzipOf_any (s : ByteArray) (most : Int) (w : World) (hs : s.size ≤ maxLen) :
    Calls Tryd.prog 19 #[.string s, .int .i64 most] w fun e w' => UoPost (Inf.unz s most) e ∧ Ext w w' := by
  have HO := Lib.hid (fun (t : ByteArray) (w : World) (h : t.size ≤ maxLen) => inflateOf_any t most w h)
  have HAd := Lib.hid (fun (t : ByteArray) (w : World) (h : t.size ≤ maxLen) => refAdler_any t w h)
  have HBo := Lib.hid (fun (t : ByteArray) (w : World) (h : t.size ≤ maxLen) (h4 : 4 ≤ t.size) => bigOf_any t w h h4)
  unfold maxLen at hs
  obtain ⟨r, hr⟩ : ∃ r, Inf.unz s most = r := ⟨_, rfl⟩
  rw [hr]
  unfold Inf.unz at hr
  by_cases hb : most < 0 ∨ 300000 < most ∨ 300000 < s.size
  · rw [if_pos hb] at hr
    subst hr
    go_enter Tryd.func19, Tryd.ntmps19
    by_cases h0 : most < 0
    · have t0 : decide (most < 0) = true := decide_eq_true h0
      go_wp2_with fail
      go_ret2
      exact ⟨rfl, Ext.refl _⟩
    · have t0 : decide (most < 0) = false := decide_eq_false h0
      by_cases h1 : 300000 < most
      · have t1 : decide (300000 < most) = true := decide_eq_true h1
        go_wp2_with fail
        go_ret2
        exact ⟨rfl, Ext.refl _⟩
      · have h2 : 300000 < s.size := by omega
        have h2I : (300000 : Int) < (s.size : Int) := by omega
        have t1 : decide (300000 < most) = false := decide_eq_false h1
        have t2 : decide ((300000 : Int) < (s.size : Int)) = true := decide_eq_true h2I
        clear hb
        go_wp2_with fail
        go_ret2
        exact ⟨rfl, Ext.refl _⟩
  · rw [if_neg hb] at hr
    have HR := Lib.hid hr
    have hsz : s.size ≤ 300000 := by omega
    obtain ⟨m, rfl⟩ : ∃ m : Nat, most = m := ⟨most.toNat, by omega⟩
    have t0 : decide ((m : Int) < 0) = false := decide_eq_false (by omega)
    have t1 : decide (300000 < (m : Int)) = false := decide_eq_false (by omega)
    have t2 : decide ((300000 : Int) < (s.size : Int)) = false := decide_eq_false (by omega)
    have n1 : ¬ 300000 < m := by omega
    have n2 : ¬ 300000 < s.size := by omega
    clear hb hr
    go_enter Tryd.func19, Tryd.ntmps19
    go_upto_region 3 with fail
    clear t0 t1 t2 n1 n2
    go_cut [51] (fun s51 wx => s51 = .bool (decide (¬ Inf.headOk s)) ∧ w.drew = wx)
    case first =>
      by_cases h2 : s.size < 2
      · have f0 : decide ((s.size : Int) < 2) = true := decide_eq_true (by omega)
        have HQ : Hid (¬ Inf.headOk s) := Lib.hid (fun h => by have := h.1; omega)
        refine wp_regionQ (by kernel_rfl) (by kernel_rfl) ?_
        refine wpQ_yes (by kernel_rfl) (fun K hK => ?_)
        go_simp
        refine hK _ ?_
        clear hK K
        refine wpQ_yes (by kernel_rfl) (fun K hK => ?_)
        go_simp
        refine hK _ ?_
        clear hK K
        refine wpQ_yes (by kernel_rfl) (fun K hK => ?_)
        go_simp
        refine hK _ ?_
        clear hK K
        refine wpQ_yes (by kernel_rfl) (fun K hK => ?_)
        go_simp
        refine hK _ ?_
        clear hK K
        refine wpQ_no (by kernel_rfl) ?_
        try simp only [Act.put, List.getElem_toArray, List.getElem_cons_succ, List.getElem_cons_zero, List.setIfInBounds_toArray, List.set_cons_zero, List.set_cons_succ]
        refine wpQ_no (by kernel_rfl) ?_
        try simp only [Act.put, List.getElem_toArray, List.getElem_cons_succ, List.getElem_cons_zero, List.setIfInBounds_toArray, List.set_cons_zero, List.set_cons_succ]
        refine wpQ_no (by kernel_rfl) ?_
        try simp only [Act.put, List.getElem_toArray, List.getElem_cons_succ, List.getElem_cons_zero, List.setIfInBounds_toArray, List.set_cons_zero, List.set_cons_succ]
        refine wpQ_no (by kernel_rfl) ?_
        try simp only [Act.put, List.getElem_toArray, List.getElem_cons_succ, List.getElem_cons_zero, List.setIfInBounds_toArray, List.set_cons_zero, List.set_cons_succ]
        refine wpQ_yes (by kernel_rfl) (fun K hK => ?_)
        go_simp
        refine hK _ ?_
        clear hK K
        refine wpQ_yes (by kernel_rfl) (fun K hK => ?_)
        go_simp
        refine hK _ ?_
        clear hK K
        refine wpQ_no (by kernel_rfl) ?_
        try simp only [Act.put, List.getElem_toArray, List.getElem_cons_succ, List.getElem_cons_zero, List.setIfInBounds_toArray, List.set_cons_zero, List.set_cons_succ]
        refine wpQ_no (by kernel_rfl) ?_
        try simp only [Act.put, List.getElem_toArray, List.getElem_cons_succ, List.getElem_cons_zero, List.setIfInBounds_toArray, List.set_cons_zero, List.set_cons_succ]
        refine wpQ_no (by kernel_rfl) ?_
        try simp only [Act.put, List.getElem_toArray, List.getElem_cons_succ, List.getElem_cons_zero, List.setIfInBounds_toArray, List.set_cons_zero, List.set_cons_succ]
        refine wpQ_no (by kernel_rfl) ?_
        try simp only [Act.put, List.getElem_toArray, List.getElem_cons_succ, List.getElem_cons_zero, List.setIfInBounds_toArray, List.set_cons_zero, List.set_cons_succ]
        refine wpQ_yes (by kernel_rfl) (fun K hK => ?_)
        go_simp
        refine hK _ ?_
        clear hK K
        refine wpQ_yes (by kernel_rfl) (fun K hK => ?_)
        go_simp
        refine hK _ ?_
        clear hK K
        refine wpQ_no (by kernel_rfl) ?_
        try simp only [Act.put, List.getElem_toArray, List.getElem_cons_succ, List.getElem_cons_zero, List.setIfInBounds_toArray, List.set_cons_zero, List.set_cons_succ]
        refine wpQ_no (by kernel_rfl) ?_
        try simp only [Act.put, List.getElem_toArray, List.getElem_cons_succ, List.getElem_cons_zero, List.setIfInBounds_toArray, List.set_cons_zero, List.set_cons_succ]
        refine wpQ_no (by kernel_rfl) ?_
        try simp only [Act.put, List.getElem_toArray, List.getElem_cons_succ, List.getElem_cons_zero, List.setIfInBounds_toArray, List.set_cons_zero, List.set_cons_succ]
        refine wpQ_no (by kernel_rfl) ?_
        try simp only [Act.put, List.getElem_toArray, List.getElem_cons_succ, List.getElem_cons_zero, List.setIfInBounds_toArray, List.set_cons_zero, List.set_cons_succ]
        refine wpQ_no (by kernel_rfl) ?_
        try simp only [Act.put, List.getElem_toArray, List.getElem_cons_succ, List.getElem_cons_zero, List.setIfInBounds_toArray, List.set_cons_zero, List.set_cons_succ]
        refine wpQ_no (by kernel_rfl) ?_
        try simp only [Act.put, List.getElem_toArray, List.getElem_cons_succ, List.getElem_cons_zero, List.setIfInBounds_toArray, List.set_cons_zero, List.set_cons_succ]
        refine wpQ_no (by kernel_rfl) ?_
        try simp only [Act.put, List.getElem_toArray, List.getElem_cons_succ, List.getElem_cons_zero, List.setIfInBounds_toArray, List.set_cons_zero, List.set_cons_succ]
        refine wpQ_no (by kernel_rfl) ?_
        try simp only [Act.put, List.getElem_toArray, List.getElem_cons_succ, List.getElem_cons_zero, List.setIfInBounds_toArray, List.set_cons_zero, List.set_cons_succ]
        refine wpQ_no (by kernel_rfl) ?_
        try simp only [Act.put, List.getElem_toArray, List.getElem_cons_succ, List.getElem_cons_zero, List.setIfInBounds_toArray, List.set_cons_zero, List.set_cons_succ]
        refine wpQ_no (by kernel_rfl) ?_
        try simp only [Act.put, List.getElem_toArray, List.getElem_cons_succ, List.getElem_cons_zero, List.setIfInBounds_toArray, List.set_cons_zero, List.set_cons_succ]
        refine wpQ_yes (by kernel_rfl) (fun K hK => ?_)
        go_simp
        refine hK _ ?_
        clear hK K
        refine wpQ_yes (by kernel_rfl) (fun K hK => ?_)
        go_simp
        refine hK _ ?_
        clear hK K
        refine wpQ_no (by kernel_rfl) ?_
        try simp only [Act.put, List.getElem_toArray, List.getElem_cons_succ, List.getElem_cons_zero, List.setIfInBounds_toArray, List.set_cons_zero, List.set_cons_succ]
        refine wpQ_no (by kernel_rfl) ?_
        try simp only [Act.put, List.getElem_toArray, List.getElem_cons_succ, List.getElem_cons_zero, List.setIfInBounds_toArray, List.set_cons_zero, List.set_cons_succ]
        refine wpQ_no (by kernel_rfl) ?_
        try simp only [Act.put, List.getElem_toArray, List.getElem_cons_succ, List.getElem_cons_zero, List.setIfInBounds_toArray, List.set_cons_zero, List.set_cons_succ]
        refine wpQ_no (by kernel_rfl) ?_
        try simp only [Act.put, List.getElem_toArray, List.getElem_cons_succ, List.getElem_cons_zero, List.setIfInBounds_toArray, List.set_cons_zero, List.set_cons_succ]
        refine wpQ_no (by kernel_rfl) ?_
        try simp only [Act.put, List.getElem_toArray, List.getElem_cons_succ, List.getElem_cons_zero, List.setIfInBounds_toArray, List.set_cons_zero, List.set_cons_succ]
        refine wpQ_yes (by kernel_rfl) (fun K hK => ?_)
        go_simp
        refine hK _ ?_
        clear hK K
        refine wpQ_nil ?_
        (try go_wp2_with fail)
        clear f0
        go_meet
        exact ⟨by rw [show decide (¬ Inf.headOk s) = true from decide_eq_true HQ.out], rfl⟩
      · have f0 : decide ((s.size : Int) < 2) = false := decide_eq_false (by omega)
        have h0 : 0 < s.size := by omega
        have h1 : 1 < s.size := by omega
        have h0I : (0 : Int) < (s.size : Int) := by omega
        have h1I : (1 : Int) < (s.size : Int) := by omega
        have HH : Hid (Inf.headOk s ↔ (s[0].toNat % 16 = 8 ∧ s[0].toNat / 16 ≤ 7 ∧ (s[0].toNat * 256 + s[1].toNat) % 31 = 0 ∧ s[1].toNat / 32 % 2 = 0)) := Lib.hid (head_is s h1)
        have ha := s[0].toNat_lt
        have hb := s[1].toNat_lt
        obtain ⟨K, hK⟩ : ∃ K : Nat, s[0].toNat * 256 + s[1].toNat = K := ⟨_, rfl⟩
        obtain ⟨r31, hr31⟩ : ∃ q : Nat, K % 31 = q := ⟨_, rfl⟩
        have mC : (K : Int).tmod 31 = (r31 : Int) := by rw [Int.tmod_eq_emod_of_nonneg (by omega)]; omega
        have wa : ∀ z, z = (s[0].toNat : Int) → IntKind.i64.wrap z = z := by rintro _ rfl; rw [IntKind.wrap_i64]; omega
        have wb : ∀ z, z = (s[1].toNat : Int) → IntKind.i64.wrap z = z := by rintro _ rfl; rw [IntKind.wrap_i64]; omega
        have wr : ∀ z, z = (r31 : Int) → IntKind.i64.wrap z = z := by rintro _ rfl; rw [IntKind.wrap_i64]; omega
        rw [hK, hr31] at HH
        have wq16 : ∀ z, z = (s[0].toNat : Int) / 16 → IntKind.u8.wrap z = z := by rintro _ rfl; rw [IntKind.wrap_u8']; omega
        have wq32 : ∀ z, z = (s[1].toNat : Int) / 32 → IntKind.u8.wrap z = z := by rintro _ rfl; rw [IntKind.wrap_u8']; omega
        have wKK : ∀ z, z = (s[0].toNat : Int) * 256 + (s[1].toNat : Int) → IntKind.i64.wrap z = (K : Int) := by rintro _ rfl; rw [IntKind.wrap_i64]; omega
        have wK : ∀ z, z = (K : Int) → IntKind.i64.wrap z = z := by rintro _ rfl; rw [IntKind.wrap_i64]; omega
        have wL : ∀ z, z = (s[0].toNat : Int) * 256 → IntKind.i64.wrap z = z := by rintro _ rfl; rw [IntKind.wrap_i64]; omega
        by_cases hA : s[0].toNat % 16 = 8
        · have fA : ((s[0].toNat : Int).tmod 16 != 8) = false := by rw [Int.tmod_eq_emod_of_nonneg (by omega), bne_eq_false_iff_eq]; omega
          by_cases hB : s[0].toNat / 16 ≤ 7
          · have fB : decide ((7 : Int) < (s[0].toNat : Int) / 16) = false := decide_eq_false (by omega)
            by_cases hC : r31 = 0
            · have fC : ((r31 : Int) != 0) = false := by rw [bne_eq_false_iff_eq]; omega
              by_cases hD : s[1].toNat / 32 % 2 = 0
              · have fD : (((s[1].toNat : Int) / 32).tmod 2 != 0) = false := by rw [Int.tmod_eq_emod_of_nonneg (by omega), bne_eq_false_iff_eq]; omega
                have HQ : Hid (Inf.headOk s) := Lib.hid (HH.out.2 ⟨hA, hB, hC, hD⟩)
                refine wp_regionQ (by kernel_rfl) (by kernel_rfl) ?_
                refine wpQ_yes (by kernel_rfl) (fun K hK => ?_)
                go_simp
                refine hK _ ?_
                clear hK K
                refine wpQ_yes (by kernel_rfl) (fun K hK => ?_)
                go_simp
                refine hK _ ?_
                clear hK K
                refine wpQ_yes (by kernel_rfl) (fun K hK => ?_)
                go_simp
                refine hK _ ?_
                clear hK K
                refine wpQ_yes (by kernel_rfl) (fun K hK => ?_)
                go_simp
                refine hK _ ?_
                clear hK K
                refine wpQ_yes (by kernel_rfl) (fun K hK => ?_)
                go_simp
                refine hK _ ?_
                clear hK K
                refine wpQ_yes (by kernel_rfl) (fun K hK => ?_)
                go_simp
                refine hK _ ?_
                clear hK K
                refine wpQ_yes (by kernel_rfl) (fun K hK => ?_)
                go_simp
                refine hK _ ?_
                clear hK K
                refine wpQ_yes (by kernel_rfl) (fun K hK => ?_)
                go_simp
                refine hK _ ?_
                clear hK K
                refine wpQ_yes (by kernel_rfl) (fun K hK => ?_)
                go_simp
                refine hK _ ?_
                clear hK K
                refine wpQ_yes (by kernel_rfl) (fun K hK => ?_)
                go_simp
                refine hK _ ?_
                clear hK K
                refine wpQ_yes (by kernel_rfl) (fun K hK => ?_)
                go_simp
                refine hK _ ?_
                clear hK K
                refine wpQ_yes (by kernel_rfl) (fun K hK => ?_)
                go_simp
                refine hK _ ?_
                clear hK K
                refine wpQ_yes (by kernel_rfl) (fun K hK => ?_)
                go_simp
                refine hK _ ?_
                clear hK K
                refine wpQ_yes (by kernel_rfl) (fun K hK => ?_)
                go_simp
                refine hK _ ?_
                clear hK K
                refine wpQ_yes (by kernel_rfl) (fun K hK => ?_)
                go_simp
                refine hK _ ?_
                clear hK K
                refine wpQ_yes (by kernel_rfl) (fun K hK => ?_)
                go_simp
                refine hK _ ?_
                clear hK K
                refine wpQ_yes (by kernel_rfl) (fun K hK => ?_)
                go_simp
                refine hK _ ?_
                clear hK K
                refine wpQ_yes (by kernel_rfl) (fun K hK => ?_)
                go_simp
                refine hK _ ?_
                clear hK K
                refine wpQ_yes (by kernel_rfl) (fun K hK => ?_)
                go_simp
                refine hK _ ?_
                clear hK K
                refine wpQ_yes (by kernel_rfl) (fun K hK => ?_)
                go_simp
                refine hK _ ?_
                clear hK K
                refine wpQ_yes (by kernel_rfl) (fun K hK => ?_)
                go_simp
                refine hK _ ?_
                clear hK K
                refine wpQ_yes (by kernel_rfl) (fun K hK => ?_)
                go_simp
                refine hK _ ?_
                clear hK K
                refine wpQ_yes (by kernel_rfl) (fun K hK => ?_)
                go_simp
                refine hK _ ?_
                clear hK K
                refine wpQ_yes (by kernel_rfl) (fun K hK => ?_)
                go_simp
                refine hK _ ?_
                clear hK K
                refine wpQ_yes (by kernel_rfl) (fun K hK => ?_)
                go_simp
                refine hK _ ?_
                clear hK K
                refine wpQ_yes (by kernel_rfl) (fun K hK => ?_)
                go_simp
                refine hK _ ?_
                clear hK K
                refine wpQ_yes (by kernel_rfl) (fun K hK => ?_)
                go_simp
                refine hK _ ?_
                clear hK K
                refine wpQ_yes (by kernel_rfl) (fun K hK => ?_)
                go_simp
                refine hK _ ?_
                clear hK K
                refine wpQ_yes (by kernel_rfl) (fun K hK => ?_)
                go_simp
                refine hK _ ?_
                clear hK K
                refine wpQ_yes (by kernel_rfl) (fun K hK => ?_)
                go_simp
                refine hK _ ?_
                clear hK K
                refine wpQ_yes (by kernel_rfl) (fun K hK => ?_)
                go_simp
                refine hK _ ?_
                clear hK K
                refine wpQ_yes (by kernel_rfl) (fun K hK => ?_)
                go_simp
                refine hK _ ?_
                clear hK K
                refine wpQ_yes (by kernel_rfl) (fun K hK => ?_)
                go_simp
                refine hK _ ?_
                clear hK K
                refine wpQ_yes (by kernel_rfl) (fun K hK => ?_)
                go_simp
                refine hK _ ?_
                clear hK K
                refine wpQ_nil ?_
                (try go_wp2_with fail)
                clear fA fB fC fD
                go_meet
                exact ⟨by rw [show decide (¬ Inf.headOk s) = false from decide_eq_false (fun h => h HQ.out)], rfl⟩
              · have fD : (((s[1].toNat : Int) / 32).tmod 2 != 0) = true := by rw [Int.tmod_eq_emod_of_nonneg (by omega), bne_iff_ne]; omega
                have HQ : Hid (¬ Inf.headOk s) := Lib.hid (fun h => hD (HH.out.1 h).2.2.2)
                refine wp_regionQ (by kernel_rfl) (by kernel_rfl) ?_
                refine wpQ_yes (by kernel_rfl) (fun K hK => ?_)
                go_simp
                refine hK _ ?_
                clear hK K
                refine wpQ_yes (by kernel_rfl) (fun K hK => ?_)
                go_simp
                refine hK _ ?_
                clear hK K
                refine wpQ_yes (by kernel_rfl) (fun K hK => ?_)
                go_simp
                refine hK _ ?_
                clear hK K
                refine wpQ_yes (by kernel_rfl) (fun K hK => ?_)
                go_simp
                refine hK _ ?_
                clear hK K
                refine wpQ_yes (by kernel_rfl) (fun K hK => ?_)
                go_simp
                refine hK _ ?_
                clear hK K
                refine wpQ_yes (by kernel_rfl) (fun K hK => ?_)
                go_simp
                refine hK _ ?_
                clear hK K
                refine wpQ_yes (by kernel_rfl) (fun K hK => ?_)
                go_simp
                refine hK _ ?_
                clear hK K
                refine wpQ_yes (by kernel_rfl) (fun K hK => ?_)
                go_simp
                refine hK _ ?_
                clear hK K
                refine wpQ_yes (by kernel_rfl) (fun K hK => ?_)
                go_simp
                refine hK _ ?_
                clear hK K
                refine wpQ_yes (by kernel_rfl) (fun K hK => ?_)
                go_simp
                refine hK _ ?_
                clear hK K
                refine wpQ_yes (by kernel_rfl) (fun K hK => ?_)
                go_simp
                refine hK _ ?_
                clear hK K
                refine wpQ_yes (by kernel_rfl) (fun K hK => ?_)
                go_simp
                refine hK _ ?_
                clear hK K
                refine wpQ_yes (by kernel_rfl) (fun K hK => ?_)
                go_simp
                refine hK _ ?_
                clear hK K
                refine wpQ_yes (by kernel_rfl) (fun K hK => ?_)
                go_simp
                refine hK _ ?_
                clear hK K
                refine wpQ_yes (by kernel_rfl) (fun K hK => ?_)
                go_simp
                refine hK _ ?_
                clear hK K
                refine wpQ_yes (by kernel_rfl) (fun K hK => ?_)
                go_simp
                refine hK _ ?_
                clear hK K
                refine wpQ_yes (by kernel_rfl) (fun K hK => ?_)
                go_simp
                refine hK _ ?_
                clear hK K
                refine wpQ_yes (by kernel_rfl) (fun K hK => ?_)
                go_simp
                refine hK _ ?_
                clear hK K
                refine wpQ_yes (by kernel_rfl) (fun K hK => ?_)
                go_simp
                refine hK _ ?_
                clear hK K
                refine wpQ_yes (by kernel_rfl) (fun K hK => ?_)
                go_simp
                refine hK _ ?_
                clear hK K
                refine wpQ_yes (by kernel_rfl) (fun K hK => ?_)
                go_simp
                refine hK _ ?_
                clear hK K
                refine wpQ_yes (by kernel_rfl) (fun K hK => ?_)
                go_simp
                refine hK _ ?_
                clear hK K
                refine wpQ_yes (by kernel_rfl) (fun K hK => ?_)
                go_simp
                refine hK _ ?_
                clear hK K
                refine wpQ_yes (by kernel_rfl) (fun K hK => ?_)
                go_simp
                refine hK _ ?_
                clear hK K
                refine wpQ_yes (by kernel_rfl) (fun K hK => ?_)
                go_simp
                refine hK _ ?_
                clear hK K
                refine wpQ_yes (by kernel_rfl) (fun K hK => ?_)
                go_simp
                refine hK _ ?_
                clear hK K
                refine wpQ_yes (by kernel_rfl) (fun K hK => ?_)
                go_simp
                refine hK _ ?_
                clear hK K
                refine wpQ_yes (by kernel_rfl) (fun K hK => ?_)
                go_simp
                refine hK _ ?_
                clear hK K
                refine wpQ_yes (by kernel_rfl) (fun K hK => ?_)
                go_simp
                refine hK _ ?_
                clear hK K
                refine wpQ_yes (by kernel_rfl) (fun K hK => ?_)
                go_simp
                refine hK _ ?_
                clear hK K
                refine wpQ_yes (by kernel_rfl) (fun K hK => ?_)
                go_simp
                refine hK _ ?_
                clear hK K
                refine wpQ_yes (by kernel_rfl) (fun K hK => ?_)
                go_simp
                refine hK _ ?_
                clear hK K
                refine wpQ_yes (by kernel_rfl) (fun K hK => ?_)
                go_simp
                refine hK _ ?_
                clear hK K
                refine wpQ_yes (by kernel_rfl) (fun K hK => ?_)
                go_simp
                refine hK _ ?_
                clear hK K
                refine wpQ_nil ?_
                (try go_wp2_with fail)
                clear fA fB fC fD
                go_meet
                exact ⟨by rw [show decide (¬ Inf.headOk s) = true from decide_eq_true HQ.out], rfl⟩
            · have fC : ((r31 : Int) != 0) = true := by rw [bne_iff_ne]; omega
              have HQ : Hid (¬ Inf.headOk s) := Lib.hid (fun h => hC (HH.out.1 h).2.2.1)
              refine wp_regionQ (by kernel_rfl) (by kernel_rfl) ?_
              refine wpQ_yes (by kernel_rfl) (fun K hK => ?_)
              go_simp
              refine hK _ ?_
              clear hK K
              refine wpQ_yes (by kernel_rfl) (fun K hK => ?_)
              go_simp
              refine hK _ ?_
              clear hK K
              refine wpQ_yes (by kernel_rfl) (fun K hK => ?_)
              go_simp
              refine hK _ ?_
              clear hK K
              refine wpQ_yes (by kernel_rfl) (fun K hK => ?_)
              go_simp
              refine hK _ ?_
              clear hK K
              refine wpQ_yes (by kernel_rfl) (fun K hK => ?_)
              go_simp
              refine hK _ ?_
              clear hK K
              refine wpQ_yes (by kernel_rfl) (fun K hK => ?_)
              go_simp
              refine hK _ ?_
              clear hK K
              refine wpQ_yes (by kernel_rfl) (fun K hK => ?_)
              go_simp
              refine hK _ ?_
              clear hK K
              refine wpQ_yes (by kernel_rfl) (fun K hK => ?_)
              go_simp
              refine hK _ ?_
              clear hK K
              refine wpQ_yes (by kernel_rfl) (fun K hK => ?_)
              go_simp
              refine hK _ ?_
              clear hK K
              refine wpQ_yes (by kernel_rfl) (fun K hK => ?_)
              go_simp
              refine hK _ ?_
              clear hK K
              refine wpQ_yes (by kernel_rfl) (fun K hK => ?_)
              go_simp
              refine hK _ ?_
              clear hK K
              refine wpQ_yes (by kernel_rfl) (fun K hK => ?_)
              go_simp
              refine hK _ ?_
              clear hK K
              refine wpQ_yes (by kernel_rfl) (fun K hK => ?_)
              go_simp
              refine hK _ ?_
              clear hK K
              refine wpQ_yes (by kernel_rfl) (fun K hK => ?_)
              go_simp
              refine hK _ ?_
              clear hK K
              refine wpQ_yes (by kernel_rfl) (fun K hK => ?_)
              go_simp
              refine hK _ ?_
              clear hK K
              refine wpQ_yes (by kernel_rfl) (fun K hK => ?_)
              go_simp
              refine hK _ ?_
              clear hK K
              refine wpQ_yes (by kernel_rfl) (fun K hK => ?_)
              go_simp
              refine hK _ ?_
              clear hK K
              refine wpQ_yes (by kernel_rfl) (fun K hK => ?_)
              go_simp
              refine hK _ ?_
              clear hK K
              refine wpQ_yes (by kernel_rfl) (fun K hK => ?_)
              go_simp
              refine hK _ ?_
              clear hK K
              refine wpQ_yes (by kernel_rfl) (fun K hK => ?_)
              go_simp
              refine hK _ ?_
              clear hK K
              refine wpQ_yes (by kernel_rfl) (fun K hK => ?_)
              go_simp
              refine hK _ ?_
              clear hK K
              refine wpQ_yes (by kernel_rfl) (fun K hK => ?_)
              go_simp
              refine hK _ ?_
              clear hK K
              refine wpQ_yes (by kernel_rfl) (fun K hK => ?_)
              go_simp
              refine hK _ ?_
              clear hK K
              refine wpQ_yes (by kernel_rfl) (fun K hK => ?_)
              go_simp
              refine hK _ ?_
              clear hK K
              refine wpQ_yes (by kernel_rfl) (fun K hK => ?_)
              go_simp
              refine hK _ ?_
              clear hK K
              refine wpQ_yes (by kernel_rfl) (fun K hK => ?_)
              go_simp
              refine hK _ ?_
              clear hK K
              refine wpQ_yes (by kernel_rfl) (fun K hK => ?_)
              go_simp
              refine hK _ ?_
              clear hK K
              refine wpQ_yes (by kernel_rfl) (fun K hK => ?_)
              go_simp
              refine hK _ ?_
              clear hK K
              refine wpQ_no (by kernel_rfl) ?_
              try simp only [Act.put, List.getElem_toArray, List.getElem_cons_succ, List.getElem_cons_zero, List.setIfInBounds_toArray, List.set_cons_zero, List.set_cons_succ]
              refine wpQ_no (by kernel_rfl) ?_
              try simp only [Act.put, List.getElem_toArray, List.getElem_cons_succ, List.getElem_cons_zero, List.setIfInBounds_toArray, List.set_cons_zero, List.set_cons_succ]
              refine wpQ_no (by kernel_rfl) ?_
              try simp only [Act.put, List.getElem_toArray, List.getElem_cons_succ, List.getElem_cons_zero, List.setIfInBounds_toArray, List.set_cons_zero, List.set_cons_succ]
              refine wpQ_no (by kernel_rfl) ?_
              try simp only [Act.put, List.getElem_toArray, List.getElem_cons_succ, List.getElem_cons_zero, List.setIfInBounds_toArray, List.set_cons_zero, List.set_cons_succ]
              refine wpQ_no (by kernel_rfl) ?_
              try simp only [Act.put, List.getElem_toArray, List.getElem_cons_succ, List.getElem_cons_zero, List.setIfInBounds_toArray, List.set_cons_zero, List.set_cons_succ]
              refine wpQ_yes (by kernel_rfl) (fun K hK => ?_)
              go_simp
              refine hK _ ?_
              clear hK K
              refine wpQ_nil ?_
              (try go_wp2_with fail)
              clear fA fB fC
              go_meet
              exact ⟨by rw [show decide (¬ Inf.headOk s) = true from decide_eq_true HQ.out], rfl⟩
          · have fB : decide ((7 : Int) < (s[0].toNat : Int) / 16) = true := decide_eq_true (by omega)
            have HQ : Hid (¬ Inf.headOk s) := Lib.hid (fun h => hB (HH.out.1 h).2.1)
            refine wp_regionQ (by kernel_rfl) (by kernel_rfl) ?_
            refine wpQ_yes (by kernel_rfl) (fun K hK => ?_)
            go_simp
            refine hK _ ?_
            clear hK K
            refine wpQ_yes (by kernel_rfl) (fun K hK => ?_)
            go_simp
            refine hK _ ?_
            clear hK K
            refine wpQ_yes (by kernel_rfl) (fun K hK => ?_)
            go_simp
            refine hK _ ?_
            clear hK K
            refine wpQ_yes (by kernel_rfl) (fun K hK => ?_)
            go_simp
            refine hK _ ?_
            clear hK K
            refine wpQ_yes (by kernel_rfl) (fun K hK => ?_)
            go_simp
            refine hK _ ?_
            clear hK K
            refine wpQ_yes (by kernel_rfl) (fun K hK => ?_)
            go_simp
            refine hK _ ?_
            clear hK K
            refine wpQ_yes (by kernel_rfl) (fun K hK => ?_)
            go_simp
            refine hK _ ?_
            clear hK K
            refine wpQ_yes (by kernel_rfl) (fun K hK => ?_)
            go_simp
            refine hK _ ?_
            clear hK K
            refine wpQ_yes (by kernel_rfl) (fun K hK => ?_)
            go_simp
            refine hK _ ?_
            clear hK K
            refine wpQ_yes (by kernel_rfl) (fun K hK => ?_)
            go_simp
            refine hK _ ?_
            clear hK K
            refine wpQ_yes (by kernel_rfl) (fun K hK => ?_)
            go_simp
            refine hK _ ?_
            clear hK K
            refine wpQ_yes (by kernel_rfl) (fun K hK => ?_)
            go_simp
            refine hK _ ?_
            clear hK K
            refine wpQ_yes (by kernel_rfl) (fun K hK => ?_)
            go_simp
            refine hK _ ?_
            clear hK K
            refine wpQ_yes (by kernel_rfl) (fun K hK => ?_)
            go_simp
            refine hK _ ?_
            clear hK K
            refine wpQ_yes (by kernel_rfl) (fun K hK => ?_)
            go_simp
            refine hK _ ?_
            clear hK K
            refine wpQ_yes (by kernel_rfl) (fun K hK => ?_)
            go_simp
            refine hK _ ?_
            clear hK K
            refine wpQ_no (by kernel_rfl) ?_
            try simp only [Act.put, List.getElem_toArray, List.getElem_cons_succ, List.getElem_cons_zero, List.setIfInBounds_toArray, List.set_cons_zero, List.set_cons_succ]
            refine wpQ_no (by kernel_rfl) ?_
            try simp only [Act.put, List.getElem_toArray, List.getElem_cons_succ, List.getElem_cons_zero, List.setIfInBounds_toArray, List.set_cons_zero, List.set_cons_succ]
            refine wpQ_no (by kernel_rfl) ?_
            try simp only [Act.put, List.getElem_toArray, List.getElem_cons_succ, List.getElem_cons_zero, List.setIfInBounds_toArray, List.set_cons_zero, List.set_cons_succ]
            refine wpQ_no (by kernel_rfl) ?_
            try simp only [Act.put, List.getElem_toArray, List.getElem_cons_succ, List.getElem_cons_zero, List.setIfInBounds_toArray, List.set_cons_zero, List.set_cons_succ]
            refine wpQ_no (by kernel_rfl) ?_
            try simp only [Act.put, List.getElem_toArray, List.getElem_cons_succ, List.getElem_cons_zero, List.setIfInBounds_toArray, List.set_cons_zero, List.set_cons_succ]
            refine wpQ_no (by kernel_rfl) ?_
            try simp only [Act.put, List.getElem_toArray, List.getElem_cons_succ, List.getElem_cons_zero, List.setIfInBounds_toArray, List.set_cons_zero, List.set_cons_succ]
            refine wpQ_no (by kernel_rfl) ?_
            try simp only [Act.put, List.getElem_toArray, List.getElem_cons_succ, List.getElem_cons_zero, List.setIfInBounds_toArray, List.set_cons_zero, List.set_cons_succ]
            refine wpQ_no (by kernel_rfl) ?_
            try simp only [Act.put, List.getElem_toArray, List.getElem_cons_succ, List.getElem_cons_zero, List.setIfInBounds_toArray, List.set_cons_zero, List.set_cons_succ]
            refine wpQ_no (by kernel_rfl) ?_
            try simp only [Act.put, List.getElem_toArray, List.getElem_cons_succ, List.getElem_cons_zero, List.setIfInBounds_toArray, List.set_cons_zero, List.set_cons_succ]
            refine wpQ_no (by kernel_rfl) ?_
            try simp only [Act.put, List.getElem_toArray, List.getElem_cons_succ, List.getElem_cons_zero, List.setIfInBounds_toArray, List.set_cons_zero, List.set_cons_succ]
            refine wpQ_yes (by kernel_rfl) (fun K hK => ?_)
            go_simp
            refine hK _ ?_
            clear hK K
            refine wpQ_yes (by kernel_rfl) (fun K hK => ?_)
            go_simp
            refine hK _ ?_
            clear hK K
            refine wpQ_no (by kernel_rfl) ?_
            try simp only [Act.put, List.getElem_toArray, List.getElem_cons_succ, List.getElem_cons_zero, List.setIfInBounds_toArray, List.set_cons_zero, List.set_cons_succ]
            refine wpQ_no (by kernel_rfl) ?_
            try simp only [Act.put, List.getElem_toArray, List.getElem_cons_succ, List.getElem_cons_zero, List.setIfInBounds_toArray, List.set_cons_zero, List.set_cons_succ]
            refine wpQ_no (by kernel_rfl) ?_
            try simp only [Act.put, List.getElem_toArray, List.getElem_cons_succ, List.getElem_cons_zero, List.setIfInBounds_toArray, List.set_cons_zero, List.set_cons_succ]
            refine wpQ_no (by kernel_rfl) ?_
            try simp only [Act.put, List.getElem_toArray, List.getElem_cons_succ, List.getElem_cons_zero, List.setIfInBounds_toArray, List.set_cons_zero, List.set_cons_succ]
            refine wpQ_no (by kernel_rfl) ?_
            try simp only [Act.put, List.getElem_toArray, List.getElem_cons_succ, List.getElem_cons_zero, List.setIfInBounds_toArray, List.set_cons_zero, List.set_cons_succ]
            refine wpQ_yes (by kernel_rfl) (fun K hK => ?_)
            go_simp
            refine hK _ ?_
            clear hK K
            refine wpQ_nil ?_
            (try go_wp2_with fail)
            clear fA fB
            go_meet
            exact ⟨by rw [show decide (¬ Inf.headOk s) = true from decide_eq_true HQ.out], rfl⟩
        · have fA : ((s[0].toNat : Int).tmod 16 != 8) = true := by rw [Int.tmod_eq_emod_of_nonneg (by omega), bne_iff_ne]; omega
          have HQ : Hid (¬ Inf.headOk s) := Lib.hid (fun h => hA (HH.out.1 h).1)
          refine wp_regionQ (by kernel_rfl) (by kernel_rfl) ?_
          refine wpQ_yes (by kernel_rfl) (fun K hK => ?_)
          go_simp
          refine hK _ ?_
          clear hK K
          refine wpQ_yes (by kernel_rfl) (fun K hK => ?_)
          go_simp
          refine hK _ ?_
          clear hK K
          refine wpQ_yes (by kernel_rfl) (fun K hK => ?_)
          go_simp
          refine hK _ ?_
          clear hK K
          refine wpQ_yes (by kernel_rfl) (fun K hK => ?_)
          go_simp
          refine hK _ ?_
          clear hK K
          refine wpQ_yes (by kernel_rfl) (fun K hK => ?_)
          go_simp
          refine hK _ ?_
          clear hK K
          refine wpQ_yes (by kernel_rfl) (fun K hK => ?_)
          go_simp
          refine hK _ ?_
          clear hK K
          refine wpQ_yes (by kernel_rfl) (fun K hK => ?_)
          go_simp
          refine hK _ ?_
          clear hK K
          refine wpQ_yes (by kernel_rfl) (fun K hK => ?_)
          go_simp
          refine hK _ ?_
          clear hK K
          refine wpQ_yes (by kernel_rfl) (fun K hK => ?_)
          go_simp
          refine hK _ ?_
          clear hK K
          refine wpQ_yes (by kernel_rfl) (fun K hK => ?_)
          go_simp
          refine hK _ ?_
          clear hK K
          refine wpQ_no (by kernel_rfl) ?_
          try simp only [Act.put, List.getElem_toArray, List.getElem_cons_succ, List.getElem_cons_zero, List.setIfInBounds_toArray, List.set_cons_zero, List.set_cons_succ]
          refine wpQ_no (by kernel_rfl) ?_
          try simp only [Act.put, List.getElem_toArray, List.getElem_cons_succ, List.getElem_cons_zero, List.setIfInBounds_toArray, List.set_cons_zero, List.set_cons_succ]
          refine wpQ_no (by kernel_rfl) ?_
          try simp only [Act.put, List.getElem_toArray, List.getElem_cons_succ, List.getElem_cons_zero, List.setIfInBounds_toArray, List.set_cons_zero, List.set_cons_succ]
          refine wpQ_no (by kernel_rfl) ?_
          try simp only [Act.put, List.getElem_toArray, List.getElem_cons_succ, List.getElem_cons_zero, List.setIfInBounds_toArray, List.set_cons_zero, List.set_cons_succ]
          refine wpQ_yes (by kernel_rfl) (fun K hK => ?_)
          go_simp
          refine hK _ ?_
          clear hK K
          refine wpQ_yes (by kernel_rfl) (fun K hK => ?_)
          go_simp
          refine hK _ ?_
          clear hK K
          refine wpQ_no (by kernel_rfl) ?_
          try simp only [Act.put, List.getElem_toArray, List.getElem_cons_succ, List.getElem_cons_zero, List.setIfInBounds_toArray, List.set_cons_zero, List.set_cons_succ]
          refine wpQ_no (by kernel_rfl) ?_
          try simp only [Act.put, List.getElem_toArray, List.getElem_cons_succ, List.getElem_cons_zero, List.setIfInBounds_toArray, List.set_cons_zero, List.set_cons_succ]
          refine wpQ_no (by kernel_rfl) ?_
          try simp only [Act.put, List.getElem_toArray, List.getElem_cons_succ, List.getElem_cons_zero, List.setIfInBounds_toArray, List.set_cons_zero, List.set_cons_succ]
          refine wpQ_no (by kernel_rfl) ?_
          try simp only [Act.put, List.getElem_toArray, List.getElem_cons_succ, List.getElem_cons_zero, List.setIfInBounds_toArray, List.set_cons_zero, List.set_cons_succ]
          refine wpQ_no (by kernel_rfl) ?_
          try simp only [Act.put, List.getElem_toArray, List.getElem_cons_succ, List.getElem_cons_zero, List.setIfInBounds_toArray, List.set_cons_zero, List.set_cons_succ]
          refine wpQ_no (by kernel_rfl) ?_
          try simp only [Act.put, List.getElem_toArray, List.getElem_cons_succ, List.getElem_cons_zero, List.setIfInBounds_toArray, List.set_cons_zero, List.set_cons_succ]
          refine wpQ_no (by kernel_rfl) ?_
          try simp only [Act.put, List.getElem_toArray, List.getElem_cons_succ, List.getElem_cons_zero, List.setIfInBounds_toArray, List.set_cons_zero, List.set_cons_succ]
          refine wpQ_no (by kernel_rfl) ?_
          try simp only [Act.put, List.getElem_toArray, List.getElem_cons_succ, List.getElem_cons_zero, List.setIfInBounds_toArray, List.set_cons_zero, List.set_cons_succ]
          refine wpQ_no (by kernel_rfl) ?_
          try simp only [Act.put, List.getElem_toArray, List.getElem_cons_succ, List.getElem_cons_zero, List.setIfInBounds_toArray, List.set_cons_zero, List.set_cons_succ]
          refine wpQ_no (by kernel_rfl) ?_
          try simp only [Act.put, List.getElem_toArray, List.getElem_cons_succ, List.getElem_cons_zero, List.setIfInBounds_toArray, List.set_cons_zero, List.set_cons_succ]
          refine wpQ_yes (by kernel_rfl) (fun K hK => ?_)
          go_simp
          refine hK _ ?_
          clear hK K
          refine wpQ_yes (by kernel_rfl) (fun K hK => ?_)
          go_simp
          refine hK _ ?_
          clear hK K
          refine wpQ_no (by kernel_rfl) ?_
          try simp only [Act.put, List.getElem_toArray, List.getElem_cons_succ, List.getElem_cons_zero, List.setIfInBounds_toArray, List.set_cons_zero, List.set_cons_succ]
          refine wpQ_no (by kernel_rfl) ?_
          try simp only [Act.put, List.getElem_toArray, List.getElem_cons_succ, List.getElem_cons_zero, List.setIfInBounds_toArray, List.set_cons_zero, List.set_cons_succ]
          refine wpQ_no (by kernel_rfl) ?_
          try simp only [Act.put, List.getElem_toArray, List.getElem_cons_succ, List.getElem_cons_zero, List.setIfInBounds_toArray, List.set_cons_zero, List.set_cons_succ]
          refine wpQ_no (by kernel_rfl) ?_
          try simp only [Act.put, List.getElem_toArray, List.getElem_cons_succ, List.getElem_cons_zero, List.setIfInBounds_toArray, List.set_cons_zero, List.set_cons_succ]
          refine wpQ_no (by kernel_rfl) ?_
          try simp only [Act.put, List.getElem_toArray, List.getElem_cons_succ, List.getElem_cons_zero, List.setIfInBounds_toArray, List.set_cons_zero, List.set_cons_succ]
          refine wpQ_yes (by kernel_rfl) (fun K hK => ?_)
          go_simp
          refine hK _ ?_
          clear hK K
          refine wpQ_nil ?_
          (try go_wp2_with fail)
          clear fA
          go_meet
          exact ⟨by rw [show decide (¬ Inf.headOk s) = true from decide_eq_true HQ.out], rfl⟩
    case rest =>
      obtain ⟨rfl, rfl⟩ := hcut
      by_cases hh : Inf.headOk s
      · have HQ := Lib.hid hh
        rw [decide_eq_false (fun h => h hh)]
        have h2 := hh.1
        clear hh
        have hr := HR.out
        rw [if_neg (fun h => h HQ.out)] at hr
        have HR2 := Lib.hid hr
        clear hr HR
        obtain ⟨S, hS⟩ : ∃ S, s.extract 2 s.size = S := ⟨_, rfl⟩
        have hSs : S.size = s.size - 2 := by rw [← hS]; simp
        have h2n : 2 ≤ s.size := by omega
        have h2I : (2 : Int) ≤ (s.size : Int) := by omega
        go_wp2_with fail
        (try rw [hS])
        refine (HO.out S _ (by rw [hSs]; unfold maxLen; omega)).mono ?_
        rintro e w3 ⟨⟨v, rfl, hv⟩, h3⟩
        have X3 : Hid (Ext w w3) := Lib.hid (Ext.trans (Below.drew (Ext.refl _)) h3)
        clear h3
        rw [hS] at HR2
        cases hi : Inf.infl S (m : Int) with
        | error c =>
          rw [hi] at hv HR2
          simp only at HR2
          unfold IOPost at hv
          simp only at hv
          obtain ⟨cc, hcc⟩ : ∃ cc : Nat, c + 1 = cc := ⟨_, rfl⟩
          rw [hcc] at hv
          subst hv
          have HCC := Lib.hid hcc
          have hc0 : (0 : Int) < (cc : Int) := by omega
          have hc1 : 0 < cc := by omega
          clear hi hcc hS
          go_wp2_with fail
          refine wp_regionQ (by kernel_rfl) (by kernel_rfl) ?_
          refine wpQ_yes (by kernel_rfl) (fun K hK => ?_)
          go_simp
          refine hK _ ?_
          clear hK K
          refine wpQ_yes (by kernel_rfl) (fun K hK => ?_)
          go_simp
          refine hK _ ?_
          clear hK K
          refine wpQ_yes (by kernel_rfl) (fun K hK => ?_)
          go_simp
          refine hK _ ?_
          clear hK K
          refine wpQ_yes (by kernel_rfl) (fun K hK => ?_)
          go_simp
          refine hK _ ?_
          clear hK K
          refine wpQ_nil ?_
          go_wp2_with fail
          go_ret2
          rw [← HR2.out]
          exact ⟨by show _ = Ending.returned (.tuple #[.string ⟨#[]⟩, .int .i64 ((c + 1 : Nat) : Int)]); rw [HCC.out]; rfl, Below.drew (X3.out.alloc _)⟩
        | ok q =>
          obtain ⟨out, used, bl⟩ := q
          have hbd := Inf.infl_most hi
          have hus : used ≤ s.size - 2 := by rw [← hSs]; exact hbd.2.1
          have hob : out.length ≤ 300000 := by have := Inf.infl_bd hi; omega
          rw [hi] at hv HR2
          simp only at HR2
          unfold IOPost at hv
          simp only at hv
          obtain ⟨T, hT⟩ : ∃ T, tb out = T := ⟨_, rfl⟩
          have hTs : T.size = out.length := by rw [← hT, tb_size]
          have hTl : T.data.toList = out := by rw [← hT]; simp [tb]
          rw [hT] at hv
          obtain ⟨x, lo, rfl, e9, _, ht, ⟨p5, n5, u5, e5⟩, ⟨p6, n6, u6, e6⟩, ⟨p7, n7, u7, e7⟩, ⟨p8, n8, u8, e8⟩, ⟨k10, e10⟩⟩ := hv
          obtain ⟨xt, ct, e11⟩ := lit_row ht
          obtain ⟨nt, hnt⟩ : ∃ nt, (tksB bl).length = nt := ⟨_, rfl⟩
          rw [e5, e6, e7, e8, e9, e10, e11, hnt]
          clear e5 e6 e7 e8 e9 e10 e11 hnt ht
          have HT := Lib.hid hT
          have HTl := Lib.hid hTl
          obtain ⟨A, hA0⟩ : ∃ A, 2 + used = A := ⟨_, rfl⟩
          have hAI : (2 : Int) + (used : Int) = (A : Int) := by omega
          have wA : ∀ z, z = (A : Int) → IntKind.i64.wrap z = z := by rintro _ rfl; rw [IntKind.wrap_i64]; omega
          have wA4 : ∀ z, z = (A : Int) + 4 → IntKind.i64.wrap z = z := by rintro _ rfl; rw [IntKind.wrap_i64]; omega
          rw [hA0] at HR2
          clear hi hbd hT hTl hS
          obtain ⟨w4, hw4⟩ : ∃ w4, w3.alloc (.cells #[.string T, .int .i64 (used : Int), .int .i64 0, .slice p5 n5 u5, .slice p6 n6 u6, .slice p7 n7 u7, .slice p8 n8 u8, .int .i64 (bl.length : Int), .int .i64 k10, .slice xt nt ct] 34) = w4 := ⟨_, rfl⟩
          have HB4 : Hid (Bk w4 w3.heap.size #[.string T, .int .i64 (used : Int), .int .i64 0, .slice p5 n5 u5, .slice p6 n6 u6, .slice p7 n7 u7, .slice p8 n8 u8, .int .i64 (bl.length : Int), .int .i64 k10, .slice xt nt ct]) := Lib.hid (by rw [← hw4]; exact Bk.at rfl)
          have X4 : Hid (Ext w w4) := Lib.hid (by rw [← hw4]; exact X3.out.alloc _)
          have HW4 := Lib.hid hw4
          clear hw4
          by_cases h4 : s.size = A + 4
          · have t4 : ((s.size : Int) != (A : Int) + 4) = false := by rw [bne_eq_false_iff_eq]; omega
            have hr := HR2.out
            rw [if_neg (by omega)] at hr
            have HR3 := Lib.hid hr
            clear hr HR2
            have hAs : A ≤ s.size := by omega
            have hAsI : (A : Int) ≤ (s.size : Int) := by omega
            have hA0n : (0 : Int) ≤ (A : Int) := by omega
            have hAt : ((A : Nat) : Int).toNat = A := by omega
            obtain ⟨R, hR⟩ : ∃ R, s.extract A s.size = R := ⟨_, rfl⟩
            have hRs : R.size = s.size - A := by rw [← hR]; simp
            have hRl : R.data.toList = s.data.toList.drop A := by rw [← hR, ex_list, List.take_of_length_le (by rw [List.length_drop, bytes_len]; omega)]
            have HRl := Lib.hid hRl
            have HRs := Lib.hid hRs
            obtain ⟨v, hv⟩ : ∃ v, valN (s.data.toList.drop A) = v := ⟨_, rfl⟩
            obtain ⟨y, hy⟩ : ∃ y, Adl.adler out = y := ⟨_, rfl⟩
            have HBR : Hid (∀ w, Calls Tryd.prog 53 #[.string R] w fun e w' => e = .returned (.int .u32 (v : Int)) ∧ w' = w) := Lib.hid (fun w => by
              refine (HBo.out R w (by rw [HRs.out]; unfold maxLen; omega) (by rw [HRs.out]; omega)).mono ?_
              rintro e w9 ⟨rfl, h9⟩
              refine ⟨?_, h9.symm⟩
              rw [List.take_of_length_le (by rw [bytes_len, HRs.out]; omega), HRl.out, hv])
            have HAR : Hid (∀ w, Calls Tryd.prog 54 #[.string T] w fun e w' => e = .returned (.int .u32 (y : Int)) ∧ w' = w) := Lib.hid (fun w => by
              refine (HAd.out T w (by unfold maxLen; omega)).mono ?_
              rintro e w9 ⟨rfl, h9⟩
              refine ⟨?_, h9.symm⟩
              rw [HTl.out, hy])
            have hr := HR3.out
            rw [hv, hy] at hr
            have HR4 := Lib.hid hr
            clear hr HR3 hRs hRl hv hy h4
            go_wp2_with fail
            clear t4
            rw [HW4.out]
            clear HW4
            by_cases hvy : v = y
            · have t5 : ((v : Int) != (y : Int)) = false := by rw [bne_eq_false_iff_eq]; omega
              have hr := HR4.out
              rw [if_neg (fun h => h hvy)] at hr
              subst hr
              have c0 : w4.drew.cell? ⟨w3.heap.size, 0, none⟩ = some (.string T) := HB4.out.cell 0
              have c1 : w4.drew.cell? ⟨w3.heap.size, 1, none⟩ = some (.int .i64 (used : Int)) := HB4.out.cell 1
              refine wp_regionQ (by kernel_rfl) (by kernel_rfl) ?_
              refine wpQ_yes (by kernel_rfl) (fun K hK => ?_)
              go_simp
              refine hK _ ?_
              clear hK K
              refine wpQ_yes (by kernel_rfl) (fun K hK => ?_)
              go_simp
              refine hK _ ?_
              clear hK K
              refine wpQ_yes (by kernel_rfl) (fun K hK => ?_)
              go_simp
              refine hK _ ?_
              clear hK K
              refine wpQ_yes (by kernel_rfl) (fun K hK => ?_)
              go_simp
              refine hK _ ?_
              clear hK K
              refine wpQ_yes (by kernel_rfl) (fun K hK => ?_)
              go_simp
              refine hK _ ?_
              clear hK K
              refine wpQ_yes (by kernel_rfl) (fun K hK => ?_)
              go_simp
              refine ⟨_, HBR.out _, hK _ ?_⟩
              clear hK K
              refine wpQ_yes (by kernel_rfl) (fun K hK => ?_)
              go_simp
              refine hK _ ?_
              clear hK K
              refine wpQ_yes (by kernel_rfl) (fun K hK => ?_)
              go_simp
              refine hK _ ?_
              clear hK K
              refine wpQ_yes (by kernel_rfl) (fun K hK => ?_)
              go_simp
              refine ⟨_, HAR.out _, hK _ ?_⟩
              clear hK K
              refine wpQ_yes (by kernel_rfl) (fun K hK => ?_)
              go_simp
              refine hK _ ?_
              clear hK K
              refine wpQ_nil ?_
              go_wp2_with fail
              go_ret2
              exact ⟨by show _ = Ending.returned (.tuple #[.string (tb out), .int .i64 0]); rw [HT.out]; rfl, Below.drew X4.out⟩
            · have t5 : ((v : Int) != (y : Int)) = true := by rw [bne_iff_ne]; omega
              have hr := HR4.out
              rw [if_pos hvy] at hr
              subst hr
              have c0 : w4.drew.cell? ⟨w3.heap.size, 0, none⟩ = some (.string T) := HB4.out.cell 0
              have c1 : w4.drew.cell? ⟨w3.heap.size, 1, none⟩ = some (.int .i64 (used : Int)) := HB4.out.cell 1
              refine wp_regionQ (by kernel_rfl) (by kernel_rfl) ?_
              refine wpQ_yes (by kernel_rfl) (fun K hK => ?_)
              go_simp
              refine hK _ ?_
              clear hK K
              refine wpQ_yes (by kernel_rfl) (fun K hK => ?_)
              go_simp
              refine hK _ ?_
              clear hK K
              refine wpQ_yes (by kernel_rfl) (fun K hK => ?_)
              go_simp
              refine hK _ ?_
              clear hK K
              refine wpQ_yes (by kernel_rfl) (fun K hK => ?_)
              go_simp
              refine hK _ ?_
              clear hK K
              refine wpQ_yes (by kernel_rfl) (fun K hK => ?_)
              go_simp
              refine hK _ ?_
              clear hK K
              refine wpQ_yes (by kernel_rfl) (fun K hK => ?_)
              go_simp
              refine ⟨_, HBR.out _, hK _ ?_⟩
              clear hK K
              refine wpQ_yes (by kernel_rfl) (fun K hK => ?_)
              go_simp
              refine hK _ ?_
              clear hK K
              refine wpQ_yes (by kernel_rfl) (fun K hK => ?_)
              go_simp
              refine hK _ ?_
              clear hK K
              refine wpQ_yes (by kernel_rfl) (fun K hK => ?_)
              go_simp
              refine ⟨_, HAR.out _, hK _ ?_⟩
              clear hK K
              refine wpQ_yes (by kernel_rfl) (fun K hK => ?_)
              go_simp
              refine hK _ ?_
              clear hK K
              refine wpQ_nil ?_
              go_wp2_with fail
              go_ret2
              exact ⟨rfl, Below.drew X4.out⟩
          · have t4 : ((s.size : Int) != (A : Int) + 4) = true := by rw [bne_iff_ne]; omega
            have hr := HR2.out
            rw [if_pos (by omega)] at hr
            subst hr
            go_wp2_with fail
            go_ret2
            exact ⟨rfl, X3.out.alloc _⟩
      · have HQ := Lib.hid hh
        rw [decide_eq_true hh]
        clear hh
        have hr := HR.out
        rw [if_pos HQ.out] at hr
        subst hr
        go_wp2_with fail
        go_ret2
        exact ⟨rfl, Below.drew (Ext.refl _)⟩
end Go.Proofs.YtnhbjgmfbcedaaaDoor
namespace Go.Proofs.YtnhbjgmfbcedaaaDoor
open Go.RowKit
set_option linter.unusedSimpArgs false
set_option maxRecDepth 100000
theorem unz_err {s : ByteArray} {most : Int} {c : Nat} (h : Inf.unz s most = .error c) : c < 4 := by
  unfold Inf.unz at h
  split at h
  · injection h with h; omega
  · split at h
    · injection h with h; omega
    · split at h
      · rename_i c' hi
        injection h with h
        have := Inf.infl_err hi
        omega
      · split at h
        · injection h with h; omega
        · split at h
          · injection h with h; omega
          · cases h
set_option maxHeartbeats 2000000 in
theorem unzipTells_any (s : ByteArray) (most : Int) (w : World) (E : Nat → Addr) (hE : Errs w E) (hTb : Tabs w) (hs : s.size ≤ maxLen) :
    Calls Tryd.prog 6 #[.string s, .int .i64 most] w fun e w' => e = .returned (.bool true) ∧ Ext w w' := by
  have HE := Lib.hid hE
  have HI := Lib.hid (fun (w : World) (hE : Errs w E) (hT : Tabs w) => unzip_any s most w E hE hT hs)
  have HO := Lib.hid (fun (w : World) => unzipOf_any s most w hs)
  unfold maxLen at hs
  have HL := Lib.hid (letter_any w E hE hTb)
  have HTb := Lib.hid hTb
  clear hE hTb
  by_cases h1 : 3000 < s.size
  · go_enter Tryd.func6, Tryd.ntmps6
    go_wp2_with fail
    refine (HL.out).mono ?_
    rintro e w1 ⟨rfl, h1⟩
    have X1 := Lib.hid (h1)
    clear h1
    go_wp2_with fail
    go_ret
    exact ⟨rfl, X1.out⟩
  · go_enter Tryd.func6, Tryd.ntmps6
    go_wp2_with fail
    refine (HL.out).mono ?_
    rintro e w1 ⟨rfl, h2⟩
    have X1 := Lib.hid (h2)
    clear h2
    go_wp2_with fail
    refine (HI.out _ (HE.out.ext X1.out) (HTb.out.ext X1.out)).mono ?_
    rintro e w2 ⟨h2, he⟩
    have X2 := Lib.hid (X1.out.trans h2)
    clear h2
    cases hr : Inf.unz s most with
    | error c =>
      have hc := unz_err hr
      rw [hr] at he HO
      simp only at he
      subst he
      obtain ⟨cc, hcc⟩ : ∃ cc : Nat, c + 1 = cc := ⟨_, rfl⟩
      have hccI : ((c : Int) + 1) = (cc : Int) := by omega
      have HV : Hid (∀ w, ErrV w E (sentV (E c)) (cc : Int) (-1)) := Lib.hid (fun w => by rw [← hccI]; exact .sent c (by omega))
      have hc0 : (0 : Int) < (cc : Int) := by omega
      have hc1 : 0 < cc := by omega
      have HCC := Lib.hid hcc
      clear hr hcc hccI hc
      have HV2 := HV
      unfold sentV at HV2 ⊢
      go_wp2_with fail
      refine (HO.out _).mono ?_
      rintro e w3 ⟨hv, h3⟩
      unfold UoPost at hv
      simp only [HCC.out] at hv
      subst hv
      have X3 := Lib.hid (X2.out.trans h3)
      clear h3
      go_wp2_with fail
      refine (coded_any _ E (HE.out.ext X3.out) _ (cc : Int) (-1) (cc : Int) (HV2.out _)).mono ?_
      rintro e w9 ⟨he, h9⟩
      obtain rfl : e = .returned (.bool true) := by rw [he]; exact ret_bool (by simp)
      have X9 := Lib.hid (X3.out.trans h9)
      clear he h9
      go_wp2_with fail
      go_ret
      exact ⟨rfl, X9.out⟩
    | ok out =>
      rw [hr] at he HO
      simp only at he
      obtain ⟨T, hT⟩ : ∃ T, tb out = T := ⟨_, rfl⟩
      rw [hT] at he
      subst he
      have HT := Lib.hid hT
      clear hr hT
      go_wp2_with fail
      refine (HO.out _).mono ?_
      rintro e w3 ⟨hv, h3⟩
      unfold UoPost at hv
      simp only [HT.out] at hv
      subst hv
      have X3 := Lib.hid (X2.out.trans h3)
      clear h3
      have t1 : (T.toList == T.toList) = true := beq_self_eq_true _
      go_wp2_with fail
      go_ret
      exact ⟨rfl, X3.out⟩
end Go.Proofs.YtnhbjgmfbcedaaaDoor
namespace Go.Proofs.YtnhbjgmfbcedaaaDoor
open Go.RowKit Go.ChangeShapes
set_option linter.unusedSimpArgs false
set_option maxRecDepth 100000
theorem rowName : (Tryd.prog.cutTypes.find? (·.1 == "internal/reflectlite.rtype")).map (·.2) = some 190 := by kernel_rfl
theorem oneRow : ((List.range Tryd.prog.types.size).filter fun t => Tryd.prog.rowNamed t [101, 114, 114, 111, 114]) = [24] := by kernel_rfl
theorem etName : Tryd.prog.globalNamed "errors.errorType" = some 14 := by kernel_rfl
theorem errType_of_laid {l : List (String × DataW Unit)} {W : World} (h : laidMetH Tryd.prog l W)
    (hl : l.filter (fun x => x.1 == "errors.errorType") = [("errors.errorType", .iface "internal/reflectlite.rtype" (.agg [.ptr (.lit (.string [101, 114, 114, 111, 114]))]))]) : ErrType W := by
  have h1 := laidMetH.filter (fun x => x.1 == "errors.errorType") h
  rw [hl] at h1
  have h' : laidMet Tryd.prog [] W ∧ handlesMet Tryd.prog [("errors.errorType", .iface "internal/reflectlite.rtype" (.agg [.ptr (.lit (.string [101, 114, 114, 111, 114]))]))] W := h1
  obtain ⟨name, u, ty, e1, e2, e3, e4, e5⟩ := h'.2 _ (List.mem_singleton.2 rfl)
  have en : name = [101, 114, 114, 111, 114] := (Option.some.inj e1).symm
  subst en
  obtain rfl := Option.some.inj (rowName.symm.trans e2)
  have hm : ty ∈ (List.range Tryd.prog.types.size).filter fun t => Tryd.prog.rowNamed t [101, 114, 114, 111, 114] := List.mem_filter.2 ⟨List.mem_range.2 e3, e4⟩
  rw [oneRow] at hm
  obtain rfl := List.mem_singleton.1 hm
  have hh : typeHandle Tryd.prog 24 = hdl 24 := by kernel_rfl
  rw [hh] at e5
  unfold ErrType
  simpa using World.var?_cell etName e5 0
theorem sentinel_row {l : List (String × DataW Unit)} {W : World} {n : String} {g : Nat} {text : List UInt8} {ti : TypeId} {ms : Array (String × TypeId)} (h : laidMetH Tryd.prog l W)
    (hl : l.filter (fun x => x.1 == n) = [(n, .iface "*errors.errorString" (.ptr (.agg [.lit (.string text)])))]) (hg : Tryd.prog.globalNamed n = some g)
    (ht : (Tryd.prog.globals[g]?).map (·.type) = some ti) (hi : Tryd.prog.underlying ti = some (.interface ms)) :
    ∃ (E : Addr), W.cell? ⟨g, 0, none⟩ = some (sentV E) ∧ (∃ s : ByteArray, W.cell? E = some (.string s) ∧ s.data.toList = text) ∧ ∃ c t, W.heap[E.block]? = some (.cells c t (0, 0)) := by
  have h1 := laidMetH.filter (fun x => x.1 == n) h
  rw [hl] at h1
  have h2 : laidMet Tryd.prog [(n, .iface "*errors.errorString" (.ptr (.agg [.lit (.string text)])))] W := h1
  obtain ⟨ps, ⟨g0, t0, cs0, f0, p0, q0, hg0, ht0, hv0, hd0, _, e0⟩, _, hrows⟩ := h2
  obtain rfl := Option.some.inj (hg.symm.trans hg0)
  obtain rfl := Option.some.inj (ht.symm.trans ht0)
  subst e0
  obtain ⟨l0⟩ := cs0
  have ok0 : ∀ u v, l0 = [.iface u v] → Value.okWide Tryd.prog W .any 0 u v := fun u v e => by
    subst e
    exact (hrows g 0 (by simp [MemPlace.row])).2 u v (by simpa using World.var?_cell hg0 hv0 0)
  obtain ⟨a0, s0, rfl, hc0, hs0, hz0, rfl⟩ := errorString_of_trod hi sent_row Tryd.underlying210 Tryd.underlying229 rfl rfl Tryd.underlying9 (by kernel_rfl) (by kernel_rfl) hd0 ok0
  obtain ⟨c, t, hb⟩ := (hrows a0.block a0.off (by simp [MemPlace.row])).1
  exact ⟨a0, by unfold sentV; simpa using World.var?_cell hg0 hv0 0, ⟨s0, hc0, hs0⟩, c, t, hb⟩
def nameE : Nat → String
  | 0 => "layercake/api.ErrText"
  | 1 => "layercake/api.ErrBound"
  | 2 => "layercake/api.ErrShape"
  | 3 => "layercake/api.ErrSum"
  | 4 => "layercake/api.ErrName"
  | 5 => "layercake/api.ErrNone"
  | 6 => "layercake/api.ErrColors"
  | 7 => "layercake/api.ErrFull"
  | _ => "layercake/api.ErrPower"
def textE : Nat → List UInt8
  | 0 => [108, 97, 121, 101, 114, 99, 97, 107, 101, 58, 32, 116, 101, 120, 116]
  | 1 => [108, 97, 121, 101, 114, 99, 97, 107, 101, 58, 32, 98, 111, 117, 110, 100]
  | 2 => [108, 97, 121, 101, 114, 99, 97, 107, 101, 58, 32, 115, 104, 97, 112, 101]
  | 3 => [108, 97, 121, 101, 114, 99, 97, 107, 101, 58, 32, 115, 117, 109]
  | 4 => [108, 97, 121, 101, 114, 99, 97, 107, 101, 58, 32, 110, 97, 109, 101]
  | 5 => [108, 97, 121, 101, 114, 99, 97, 107, 101, 58, 32, 110, 111, 110, 101]
  | 6 => [108, 97, 121, 101, 114, 99, 97, 107, 101, 58, 32, 99, 111, 108, 111, 114, 115]
  | 7 => [108, 97, 121, 101, 114, 99, 97, 107, 101, 58, 32, 102, 117, 108, 108]
  | _ => [108, 97, 121, 101, 114, 99, 97, 107, 101, 58, 32, 112, 111, 119, 101, 114]
def errD (k : Nat) : List (String × DataW Unit) := [(nameE k, .iface "*errors.errorString" (.ptr (.agg [.lit (.string (textE k))])))]
theorem textE_ne : ∀ j, j < 9 → ∀ k, k < 9 → j ≠ k → textE j ≠ textE k := by decide
theorem errs_of_laid {l : List (String × DataW Unit)} {W : World} (h : laidMetH Tryd.prog l W)
    (het : l.filter (fun x => x.1 == "errors.errorType") = [("errors.errorType", .iface "internal/reflectlite.rtype" (.agg [.ptr (.lit (.string [101, 114, 114, 111, 114]))]))])
    (hl0 : l.filter (fun x => x.1 == nameE 0) = errD 0) (hl1 : l.filter (fun x => x.1 == nameE 1) = errD 1) (hl2 : l.filter (fun x => x.1 == nameE 2) = errD 2)
    (hl3 : l.filter (fun x => x.1 == nameE 3) = errD 3) (hl4 : l.filter (fun x => x.1 == nameE 4) = errD 4) (hl5 : l.filter (fun x => x.1 == nameE 5) = errD 5)
    (hl6 : l.filter (fun x => x.1 == nameE 6) = errD 6) (hl7 : l.filter (fun x => x.1 == nameE 7) = errD 7) (hl8 : l.filter (fun x => x.1 == nameE 8) = errD 8) :
    ∃ E, Errs W E ∧ ∀ k, k < 9 → ∃ s : ByteArray, W.cell? (E k) = some (.string s) ∧ s.data.toList = textE k := by
  have key : ∀ k, k < 9 → ∃ (E : Addr), W.cell? ⟨gk k, 0, none⟩ = some (sentV E) ∧ (∃ s : ByteArray, W.cell? E = some (.string s) ∧ s.data.toList = textE k) ∧ ∃ c t, W.heap[E.block]? = some (.cells c t (0, 0)) := by
    intro k hk
    match k, hk with
    | 0, _ => exact sentinel_row h hl0 (by kernel_rfl) (by kernel_rfl) Tryd.underlying24
    | 1, _ => exact sentinel_row h hl1 (by kernel_rfl) (by kernel_rfl) Tryd.underlying24
    | 2, _ => exact sentinel_row h hl2 (by kernel_rfl) (by kernel_rfl) Tryd.underlying24
    | 3, _ => exact sentinel_row h hl3 (by kernel_rfl) (by kernel_rfl) Tryd.underlying24
    | 4, _ => exact sentinel_row h hl4 (by kernel_rfl) (by kernel_rfl) Tryd.underlying24
    | 5, _ => exact sentinel_row h hl5 (by kernel_rfl) (by kernel_rfl) Tryd.underlying24
    | 6, _ => exact sentinel_row h hl6 (by kernel_rfl) (by kernel_rfl) Tryd.underlying24
    | 7, _ => exact sentinel_row h hl7 (by kernel_rfl) (by kernel_rfl) Tryd.underlying24
    | 8, _ => exact sentinel_row h hl8 (by kernel_rfl) (by kernel_rfl) Tryd.underlying24
  let E : Nat → Addr := fun k => if hk : k < 9 then (key k hk).choose else ⟨0, 0, none⟩
  have hE : ∀ k (hk : k < 9), E k = (key k hk).choose := fun k hk => by simp [E, hk]
  refine ⟨E, ⟨errType_of_laid h het, fun k hk => ?_, fun k hk => ?_, fun j k hj hk hjk => ?_⟩, fun k hk => ?_⟩
  · rw [hE k hk]; exact (key k hk).choose_spec.1
  · rw [hE k hk]; exact (key k hk).choose_spec.2.2
  · rw [hE j hj, hE k hk]
    intro e
    obtain ⟨s, h1, h2⟩ := (key j hj).choose_spec.2.1
    obtain ⟨s', h3, h4⟩ := (key k hk).choose_spec.2.1
    rw [e, h3] at h1
    injection h1 with h1; injection h1 with h1
    subst h1
    exact textE_ne j hj k hk hjk (h2.symm.trans h4)
  · rw [hE k hk]; exact (key k hk).choose_spec.2.1
end Go.Proofs.YtnhbjgmfbcedaaaDoor
namespace Go.Proofs.YtnhbjgmfbcedaaaDoor
open Go.RowKit Go.ChangeShapes
set_option linter.unusedSimpArgs false
set_option maxRecDepth 100000
def tabD (n : String) (zs : List Nat) : List (String × DataW Unit) := [(n, Lib.tabData .i64 (zs.map fun z => ((z : Nat) : Int)))]
theorem tab_row {l : List (String × DataW Unit)} {W : World} {n : String} {g m : Nat} {t : TypeId} {zs : List Nat} (h : laidMetH Tryd.prog l W) (hl : l.filter (fun x => x.1 == n) = tabD n zs)
    (hm : laidMetH Tryd.prog (tabD n zs) W = laidMet Tryd.prog (tabD n zs) W) (hg : Tryd.prog.globalNamed n = some g) (hty : (Tryd.prog.globals[g]?).map (·.type) = some t) (ht : Tryd.prog.underlying t = some (.array m 3)) (hct : Tryd.prog.cellsOf t = m) (hlen : zs.length = m) :
    ∀ k, k < m → W.cell? ⟨g, k, none⟩ = some (.int .i64 ((zs.getD k 0 : Nat) : Int)) := by
  have h1 := laidMetH.filter (fun x => x.1 == n) h
  rw [hl, hm] at h1
  have hT := Lib.tabIs_of_head (rest := []) hg hty ht Tryd.underlying3 (by kernel_rfl) hct h1
  intro k hk
  have := hT.cell hg k (by simp; omega)
  rw [this]
  simp [List.getD, hlen, hk]
theorem tabs_of_laid {l : List (String × DataW Unit)} {W : World} (h : laidMetH Tryd.prog l W)
    (h1 : l.filter (fun x => x.1 == "layercake/inflate.Lens") = tabD "layercake/inflate.Lens" Inf.lensL) (h2 : l.filter (fun x => x.1 == "layercake/inflate.LenBits") = tabD "layercake/inflate.LenBits" Inf.lensB)
    (h3 : l.filter (fun x => x.1 == "layercake/inflate.Dists") = tabD "layercake/inflate.Dists" Inf.distsL) (h4 : l.filter (fun x => x.1 == "layercake/inflate.DistBits") = tabD "layercake/inflate.DistBits" Inf.distsB)
    (h5 : l.filter (fun x => x.1 == "layercake/inflate.Order") = tabD "layercake/inflate.Order" Inf.orderL) : Tabs W :=
  ⟨tab_row h h1 rfl (by kernel_rfl) (by kernel_rfl) Tryd.underlying152 (by kernel_rfl) rfl,
   tab_row h h2 rfl (by kernel_rfl) (by kernel_rfl) Tryd.underlying152 (by kernel_rfl) rfl,
   tab_row h h3 rfl (by kernel_rfl) (by kernel_rfl) Tryd.underlying153 (by kernel_rfl) rfl,
   tab_row h h4 rfl (by kernel_rfl) (by kernel_rfl) Tryd.underlying153 (by kernel_rfl) rfl,
   tab_row h h5 rfl (by kernel_rfl) (by kernel_rfl) Tryd.underlying129 (by kernel_rfl) rfl⟩
end Go.Proofs.YtnhbjgmfbcedaaaDoor
namespace Go.Proofs.YtnhbjgmfbcedaaaDoor
open Go.ChangeShapes Go.WideShapes Go.ChangeAt Go.RowKit
set_option linter.unusedSimpArgs false
theorem law_readAll {H : Type} {enc : TypeId × Value → H} {P : Program} (hl : laidOutB P = true) {W W' : World} (sp : Nat → Bool) (hB : Below W.heap.size W W') :
    ∀ (ts : List TypeId) (vs : List Value) (ds : List (DataW H)) (ps : List MemPlace),
      (∀ t ∈ ts, P.readableRec t = true ∧ t < P.types.size) → (∀ p ∈ ps, p.block < W.heap.size) → (∀ p ∈ ps, sp p.block = true) →
      DataW.TrodAll enc P W 0 (fun _ => true) true ts vs ds ps → DataW.TrodAll enc P W' 0 sp true ts vs ds ps
  | [], [], [], _, _, _, _, h => h
  | t :: ts, v :: vs, d :: ds, ps, hr, hlt, hsp, h => by
    obtain ⟨p, q, h1, h2, rfl⟩ := h
    have ht := hr t (List.mem_cons_self ..)
    refine ⟨p, q, ?_, ?_, rfl⟩
    · exact WideElems.Trod_stays hl ht.1 ht.2 h1 (fun x hx => hB.same (hlt x (List.mem_append_left _ hx))) (fun x hx => hsp x (List.mem_append_left _ hx))
    · exact law_readAll hl sp hB ts vs ds q (fun t' ht' => hr t' (List.mem_cons_of_mem _ ht')) (fun x hx => hlt x (List.mem_append_right _ hx)) (fun x hx => hsp x (List.mem_append_right _ hx)) h2
  | [], [], _ :: _, _, _, _, _, h => h.elim
  | [], _ :: _, _, _, _, _, _, h => h.elim
  | _ :: _, [], _, _, _, _, _, h => h.elim
  | _ :: _, _ :: _, [], _, _, _, _, h => h.elim
theorem law_post {H : Type} {enc : TypeId × Value → H} {P : Program} (hl : laidOutB P = true) {f : Func} {s : ChangeSpec} {apart fresh handsOn : Bool} {W W' : World} {args : Array Value} {ds : List (DataW H)} {before : List MemPlace} {tb : TypeId}
    (hW : DataW.Whole enc P f.params.toList s.vars apart W args.toList ds [] before) (hv : s.vars = [])
    (hfn : s.fn H (ds ++ []) = { results := [.lit (.bool true)], args := ds })
    (hread : f.params.toList.all (fun t => P.readableRec t && decide (t < P.types.size)) = true)
    (hres : f.resultTypes = #[tb]) (hb : P.underlying tb = some .bool) (hB : Below W.heap.size W W') :
    s.post enc P f apart fresh handsOn false W args (.bool true) W' := by
  have hlt : ∀ p ∈ before, p.block < W.heap.size := fun p hp => hW.lt p hp
  have hr : ∀ t ∈ f.params.toList, P.readableRec t = true ∧ t < P.types.size := by
    intro t ht
    have := List.all_eq_true.1 hread t ht
    simpa using this
  have hW0 := hW
  obtain ⟨p, q, hA, hV, hpq, hfz, hnd⟩ := hW
  rw [hv] at hV
  have hq : q = [] := by simpa [DataW.TrodVars] using hV
  subst hq
  rw [List.append_nil] at hpq
  subst hpq
  have hargs : ∀ sp : Nat → Bool, (∀ x ∈ before, sp x.block = true) → DataW.TrodAll enc P W' 0 sp true f.params.toList args.toList ds before :=
    fun sp hsp => law_readAll hl sp hB _ _ _ _ hr hlt hsp hA
  have hold : ∀ x ∈ before, (fun b => decide (b < W.heap.size)) x.block = true := fun x hx => by simpa using hlt x hx
  have hresults : ∀ (b : Nat) (sp : Nat → Bool) (hd : Bool), DataW.TrodAll enc P W' b sp hd f.resultTypes.toList ((Value.bool true).resultList f.resultTypes.size) [.lit (.bool true)] [] := by
    intro b sp hd
    rw [hres]
    exact trodAll_mk1 (shut_bool hb true)
  refine ⟨ds, [], before, [], before, [], hW0, ?_, ?_, ?_, World.keptBut_mono (fun x hx => ⟨hx, ?_⟩) (hB.frame (· ∈ before)), fun _ => ?_⟩
  · rw [hfn]; exact hresults _ _ _
  · rw [hfn]; exact hargs _ hold
  · rw [hfn, hv]; rfl
  · exact Or.inr (Or.inl hx)
  · cases ‹false = true›
end Go.Proofs.YtnhbjgmfbcedaaaDoor
