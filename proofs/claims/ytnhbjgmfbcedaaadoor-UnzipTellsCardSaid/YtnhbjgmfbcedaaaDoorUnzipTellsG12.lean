/-
  inflate.Unzip.
-/
import Derived.Test.YtnhbjgmfbcedaaaDoorUnzipTellsG11
import Derived.Test.YtnhbjgmfbcedaaaDoorUnzipTellsG10
namespace Go.Proofs.YtnhbjgmfbcedaaaDoor
open Go.RowKit
set_option linter.unusedSimpArgs false
set_option maxRecDepth 100000
set_option linter.unusedSimpArgs false in
set_option maxHeartbeats 4000000 in
theorem unzip_any (s : ByteArray) (most : Int) (w : World) (E : Nat → Addr) (hE : Errs w E) (hTb : Tabs w) (hs : s.size ≤ maxLen) :
    Calls Tryd.prog 18 #[.string s, .int .i64 most] w fun e w' => UzPost w w' E (Inf.unz s most) e := by
  have HE := Lib.hid hE
  have HTb := Lib.hid hTb
  have HBd := Lib.hid (fun w => bound_any s most w hs)
  have HI := Lib.hid (fun (t : ByteArray) (ht : t.size ≤ maxLen) (w : World) (hE : Errs w E) (hT : Tabs w) => inflate_any t most w E hE hT ht)
  have HAd := Lib.hid (fun (t : ByteArray) (w : World) (h : t.size ≤ maxLen) => adler_any t w h)
  unfold maxLen at hs
  obtain ⟨r, hr⟩ : ∃ r, Inf.unz s most = r := ⟨_, rfl⟩
  rw [hr]
  unfold Inf.unz at hr
  have ev := (err_cells hE (Ext.refl w)).2
  have et := (err_cells hE (Ext.refl w)).1
  clear hE hTb
  by_cases hb : most < 0 ∨ 300000 < most ∨ 300000 < s.size
  · rw [if_pos hb] at hr
    have hd : decide (most < 0 ∨ 300000 < most ∨ 300000 < s.size) = true := decide_eq_true hb
    subst hr
    go_enter Tryd.func18, Tryd.ntmps18
    go_wp2_with fail
    refine (HBd.out _).mono ?_
    rintro e _ ⟨rfl, rfl⟩
    rw [hd]
    clear hd hb
    go_wp2_with fail
    have ev2 : w.drew.cell? ⟨0, 0, none⟩ = some (.iface 210 (.pointer (some (E 1)))) := ev
    refine wp_regionQ (by kernel_rfl) (by kernel_rfl) ?_
    refine wpQ_yes (by kernel_rfl) (fun K hK => ?_)
    go_simp
    refine hK _ ?_
    clear hK K
    refine wpQ_yes (by kernel_rfl) (fun K hK => ?_)
    go_simp
    refine hK _ ?_
    clear hK K
    refine wpQ_yes (by kernel_rfl) (fun K hK => ?_)
    go_simp
    refine hK _ ?_
    clear hK K
    refine wpQ_nil ?_
    go_wp2_with fail
    go_ret2
    exact ⟨Below.drew (Ext.refl _), rfl⟩
  · rw [if_neg hb] at hr
    have hd : decide (most < 0 ∨ 300000 < most ∨ 300000 < s.size) = false := decide_eq_false hb
    have hsz : s.size ≤ 300000 := by omega
    have HR := Lib.hid hr
    go_enter Tryd.func18, Tryd.ntmps18
    go_wp2_with fail
    refine (HBd.out _).mono ?_
    rintro e _ ⟨rfl, rfl⟩
    rw [hd]
    clear hd hb hr
    go_upto_region 3 with fail
    go_cut [48] (fun s48 wx => s48 = .bool (decide (¬ Inf.headOk s)) ∧ w.drew = wx)
    case first =>
      by_cases h2 : s.size < 2
      · have f0 : decide ((s.size : Int) < 2) = true := decide_eq_true (by omega)
        have HQ : Hid (¬ Inf.headOk s) := Lib.hid (fun h => by have := h.1; omega)
        refine wp_regionQ (by kernel_rfl) (by kernel_rfl) ?_
        refine wpQ_yes (by kernel_rfl) (fun K hK => ?_)
        go_simp
        refine hK _ ?_
        clear hK K
        refine wpQ_yes (by kernel_rfl) (fun K hK => ?_)
        go_simp
        refine hK _ ?_
        clear hK K
        refine wpQ_yes (by kernel_rfl) (fun K hK => ?_)
        go_simp
        refine hK _ ?_
        clear hK K
        refine wpQ_yes (by kernel_rfl) (fun K hK => ?_)
        go_simp
        refine hK _ ?_
        clear hK K
        refine wpQ_no (by kernel_rfl) ?_
        try simp only [Act.put, List.getElem_toArray, List.getElem_cons_succ, List.getElem_cons_zero, List.setIfInBounds_toArray, List.set_cons_zero, List.set_cons_succ]
        refine wpQ_no (by kernel_rfl) ?_
        try simp only [Act.put, List.getElem_toArray, List.getElem_cons_succ, List.getElem_cons_zero, List.setIfInBounds_toArray, List.set_cons_zero, List.set_cons_succ]
        refine wpQ_no (by kernel_rfl) ?_
        try simp only [Act.put, List.getElem_toArray, List.getElem_cons_succ, List.getElem_cons_zero, List.setIfInBounds_toArray, List.set_cons_zero, List.set_cons_succ]
        refine wpQ_no (by kernel_rfl) ?_
        try simp only [Act.put, List.getElem_toArray, List.getElem_cons_succ, List.getElem_cons_zero, List.setIfInBounds_toArray, List.set_cons_zero, List.set_cons_succ]
        refine wpQ_yes (by kernel_rfl) (fun K hK => ?_)
        go_simp
        refine hK _ ?_
        clear hK K
        refine wpQ_yes (by kernel_rfl) (fun K hK => ?_)
        go_simp
        refine hK _ ?_
        clear hK K
        refine wpQ_no (by kernel_rfl) ?_
        try simp only [Act.put, List.getElem_toArray, List.getElem_cons_succ, List.getElem_cons_zero, List.setIfInBounds_toArray, List.set_cons_zero, List.set_cons_succ]
        refine wpQ_no (by kernel_rfl) ?_
        try simp only [Act.put, List.getElem_toArray, List.getElem_cons_succ, List.getElem_cons_zero, List.setIfInBounds_toArray, List.set_cons_zero, List.set_cons_succ]
        refine wpQ_no (by kernel_rfl) ?_
        try simp only [Act.put, List.getElem_toArray, List.getElem_cons_succ, List.getElem_cons_zero, List.setIfInBounds_toArray, List.set_cons_zero, List.set_cons_succ]
        refine wpQ_no (by kernel_rfl) ?_
        try simp only [Act.put, List.getElem_toArray, List.getElem_cons_succ, List.getElem_cons_zero, List.setIfInBounds_toArray, List.set_cons_zero, List.set_cons_succ]
        refine wpQ_yes (by kernel_rfl) (fun K hK => ?_)
        go_simp
        refine hK _ ?_
        clear hK K
        refine wpQ_yes (by kernel_rfl) (fun K hK => ?_)
        go_simp
        refine hK _ ?_
        clear hK K
        refine wpQ_no (by kernel_rfl) ?_
        try simp only [Act.put, List.getElem_toArray, List.getElem_cons_succ, List.getElem_cons_zero, List.setIfInBounds_toArray, List.set_cons_zero, List.set_cons_succ]
        refine wpQ_no (by kernel_rfl) ?_
        try simp only [Act.put, List.getElem_toArray, List.getElem_cons_succ, List.getElem_cons_zero, List.setIfInBounds_toArray, List.set_cons_zero, List.set_cons_succ]
        refine wpQ_no (by kernel_rfl) ?_
        try simp only [Act.put, List.getElem_toArray, List.getElem_cons_succ, List.getElem_cons_zero, List.setIfInBounds_toArray, List.set_cons_zero, List.set_cons_succ]
        refine wpQ_no (by kernel_rfl) ?_
        try simp only [Act.put, List.getElem_toArray, List.getElem_cons_succ, List.getElem_cons_zero, List.setIfInBounds_toArray, List.set_cons_zero, List.set_cons_succ]
        refine wpQ_no (by kernel_rfl) ?_
        try simp only [Act.put, List.getElem_toArray, List.getElem_cons_succ, List.getElem_cons_zero, List.setIfInBounds_toArray, List.set_cons_zero, List.set_cons_succ]
        refine wpQ_no (by kernel_rfl) ?_
        try simp only [Act.put, List.getElem_toArray, List.getElem_cons_succ, List.getElem_cons_zero, List.setIfInBounds_toArray, List.set_cons_zero, List.set_cons_succ]
        refine wpQ_no (by kernel_rfl) ?_
        try simp only [Act.put, List.getElem_toArray, List.getElem_cons_succ, List.getElem_cons_zero, List.setIfInBounds_toArray, List.set_cons_zero, List.set_cons_succ]
        refine wpQ_no (by kernel_rfl) ?_
        try simp only [Act.put, List.getElem_toArray, List.getElem_cons_succ, List.getElem_cons_zero, List.setIfInBounds_toArray, List.set_cons_zero, List.set_cons_succ]
        refine wpQ_no (by kernel_rfl) ?_
        try simp only [Act.put, List.getElem_toArray, List.getElem_cons_succ, List.getElem_cons_zero, List.setIfInBounds_toArray, List.set_cons_zero, List.set_cons_succ]
        refine wpQ_no (by kernel_rfl) ?_
        try simp only [Act.put, List.getElem_toArray, List.getElem_cons_succ, List.getElem_cons_zero, List.setIfInBounds_toArray, List.set_cons_zero, List.set_cons_succ]
        refine wpQ_yes (by kernel_rfl) (fun K hK => ?_)
        go_simp
        refine hK _ ?_
        clear hK K
        refine wpQ_yes (by kernel_rfl) (fun K hK => ?_)
        go_simp
        refine hK _ ?_
        clear hK K
        refine wpQ_no (by kernel_rfl) ?_
        try simp only [Act.put, List.getElem_toArray, List.getElem_cons_succ, List.getElem_cons_zero, List.setIfInBounds_toArray, List.set_cons_zero, List.set_cons_succ]
        refine wpQ_no (by kernel_rfl) ?_
        try simp only [Act.put, List.getElem_toArray, List.getElem_cons_succ, List.getElem_cons_zero, List.setIfInBounds_toArray, List.set_cons_zero, List.set_cons_succ]
        refine wpQ_no (by kernel_rfl) ?_
        try simp only [Act.put, List.getElem_toArray, List.getElem_cons_succ, List.getElem_cons_zero, List.setIfInBounds_toArray, List.set_cons_zero, List.set_cons_succ]
        refine wpQ_no (by kernel_rfl) ?_
        try simp only [Act.put, List.getElem_toArray, List.getElem_cons_succ, List.getElem_cons_zero, List.setIfInBounds_toArray, List.set_cons_zero, List.set_cons_succ]
        refine wpQ_yes (by kernel_rfl) (fun K hK => ?_)
        go_simp
        refine hK _ ?_
        clear hK K
        refine wpQ_nil ?_
        (try go_wp2_with fail)
        clear f0
        go_meet
        exact ⟨by rw [show decide (¬ Inf.headOk s) = true from decide_eq_true HQ.out], rfl⟩
      · have f0 : decide ((s.size : Int) < 2) = false := decide_eq_false (by omega)
        have h0 : 0 < s.size := by omega
        have h1 : 1 < s.size := by omega
        have h0I : (0 : Int) < (s.size : Int) := by omega
        have h1I : (1 : Int) < (s.size : Int) := by omega
        have HH : Hid (Inf.headOk s ↔ (s[0].toNat % 16 = 8 ∧ s[0].toNat / 16 ≤ 7 ∧ (s[0].toNat * 256 + s[1].toNat) % 31 = 0 ∧ s[1].toNat / 32 % 2 = 0)) := Lib.hid (head_is s h1)
        have ha := s[0].toNat_lt
        have hb := s[1].toNat_lt
        obtain ⟨K, hK⟩ : ∃ K : Nat, s[0].toNat * 256 + s[1].toNat = K := ⟨_, rfl⟩
        obtain ⟨r31, hr31⟩ : ∃ q : Nat, K % 31 = q := ⟨_, rfl⟩
        have mC : (K : Int).tmod 31 = (r31 : Int) := by rw [Int.tmod_eq_emod_of_nonneg (by omega)]; omega
        have wa : ∀ z, z = (s[0].toNat : Int) → IntKind.i64.wrap z = z := by rintro _ rfl; rw [IntKind.wrap_i64]; omega
        have wb : ∀ z, z = (s[1].toNat : Int) → IntKind.i64.wrap z = z := by rintro _ rfl; rw [IntKind.wrap_i64]; omega
        have wr : ∀ z, z = (r31 : Int) → IntKind.i64.wrap z = z := by rintro _ rfl; rw [IntKind.wrap_i64]; omega
        rw [hK, hr31] at HH
        have gA := u8_15 s[0].toNat ha
        have gD := u8_32 s[1].toNat hb
        have gO := i64_or8 s[0].toNat s[1].toNat ha hb
        rw [hK] at gO
        have wK : ∀ z, z = (K : Int) → IntKind.i64.wrap z = z := by rintro _ rfl; rw [IntKind.wrap_i64]; omega
        have wL : ∀ z, z = (s[0].toNat : Int) * 256 → IntKind.i64.wrap z = z := by rintro _ rfl; rw [IntKind.wrap_i64]; omega
        by_cases hA : s[0].toNat % 16 = 8
        · have fA : (((s[0].toNat % 16 : Nat) : Int) != 8) = false := by rw [bne_eq_false_iff_eq]; omega
          have mA : (s[0].toNat : Int) % 16 = ((s[0].toNat % 16 : Nat) : Int) := by omega
          have fA2 : ((s[0].toNat : Int) % 16 != 8) = false := by rw [bne_eq_false_iff_eq]; omega
          by_cases hB : s[0].toNat / 16 ≤ 7
          · have fB : decide ((7 : Int) < (s[0].toNat : Int) / 16) = false := decide_eq_false (by omega)
            by_cases hC : r31 = 0
            · have fC : ((r31 : Int) != 0) = false := by rw [bne_eq_false_iff_eq]; omega
              by_cases hD : s[1].toNat / 32 % 2 = 0
              · have fD : (bits BinOp.and IntKind.u8 (s[1].toNat : Int) 32 != 0) = false := by rw [gD]; exact decide_eq_false (by omega)
                have HQ : Hid (Inf.headOk s) := Lib.hid (HH.out.2 ⟨hA, hB, hC, hD⟩)
                refine wp_regionQ (by kernel_rfl) (by kernel_rfl) ?_
                refine wpQ_yes (by kernel_rfl) (fun K hK => ?_)
                go_simp
                refine hK _ ?_
                clear hK K
                refine wpQ_yes (by kernel_rfl) (fun K hK => ?_)
                go_simp
                refine hK _ ?_
                clear hK K
                refine wpQ_yes (by kernel_rfl) (fun K hK => ?_)
                go_simp
                refine hK _ ?_
                clear hK K
                refine wpQ_yes (by kernel_rfl) (fun K hK => ?_)
                go_simp
                refine hK _ ?_
                clear hK K
                refine wpQ_yes (by kernel_rfl) (fun K hK => ?_)
                go_simp
                refine hK _ ?_
                clear hK K
                refine wpQ_yes (by kernel_rfl) (fun K hK => ?_)
                go_simp
                refine hK _ ?_
                clear hK K
                refine wpQ_yes (by kernel_rfl) (fun K hK => ?_)
                go_simp
                refine hK _ ?_
                clear hK K
                refine wpQ_yes (by kernel_rfl) (fun K hK => ?_)
                go_simp
                refine hK _ ?_
                clear hK K
                refine wpQ_yes (by kernel_rfl) (fun K hK => ?_)
                go_simp
                refine hK _ ?_
                clear hK K
                refine wpQ_yes (by kernel_rfl) (fun K hK => ?_)
                go_simp
                refine hK _ ?_
                clear hK K
                refine wpQ_yes (by kernel_rfl) (fun K hK => ?_)
                go_simp
                refine hK _ ?_
                clear hK K
                refine wpQ_yes (by kernel_rfl) (fun K hK => ?_)
                go_simp
                refine hK _ ?_
                clear hK K
                refine wpQ_yes (by kernel_rfl) (fun K hK => ?_)
                go_simp
                refine hK _ ?_
                clear hK K
                refine wpQ_yes (by kernel_rfl) (fun K hK => ?_)
                go_simp
                refine hK _ ?_
                clear hK K
                refine wpQ_yes (by kernel_rfl) (fun K hK => ?_)
                go_simp
                refine hK _ ?_
                clear hK K
                refine wpQ_yes (by kernel_rfl) (fun K hK => ?_)
                go_simp
                refine hK _ ?_
                clear hK K
                refine wpQ_yes (by kernel_rfl) (fun K hK => ?_)
                go_simp
                refine hK _ ?_
                clear hK K
                refine wpQ_yes (by kernel_rfl) (fun K hK => ?_)
                go_simp
                refine hK _ ?_
                clear hK K
                refine wpQ_yes (by kernel_rfl) (fun K hK => ?_)
                go_simp
                refine hK _ ?_
                clear hK K
                refine wpQ_yes (by kernel_rfl) (fun K hK => ?_)
                go_simp
                refine hK _ ?_
                clear hK K
                refine wpQ_yes (by kernel_rfl) (fun K hK => ?_)
                go_simp
                refine hK _ ?_
                clear hK K
                refine wpQ_yes (by kernel_rfl) (fun K hK => ?_)
                go_simp
                refine hK _ ?_
                clear hK K
                refine wpQ_yes (by kernel_rfl) (fun K hK => ?_)
                go_simp
                refine hK _ ?_
                clear hK K
                refine wpQ_yes (by kernel_rfl) (fun K hK => ?_)
                go_simp
                refine hK _ ?_
                clear hK K
                refine wpQ_yes (by kernel_rfl) (fun K hK => ?_)
                go_simp
                refine hK _ ?_
                clear hK K
                refine wpQ_yes (by kernel_rfl) (fun K hK => ?_)
                go_simp
                refine hK _ ?_
                clear hK K
                refine wpQ_yes (by kernel_rfl) (fun K hK => ?_)
                go_simp
                refine hK _ ?_
                clear hK K
                refine wpQ_yes (by kernel_rfl) (fun K hK => ?_)
                go_simp
                refine hK _ ?_
                clear hK K
                refine wpQ_yes (by kernel_rfl) (fun K hK => ?_)
                go_simp
                refine hK _ ?_
                clear hK K
                refine wpQ_yes (by kernel_rfl) (fun K hK => ?_)
                go_simp
                refine hK _ ?_
                clear hK K
                refine wpQ_yes (by kernel_rfl) (fun K hK => ?_)
                go_simp
                refine hK _ ?_
                clear hK K
                refine wpQ_yes (by kernel_rfl) (fun K hK => ?_)
                go_simp
                refine hK _ ?_
                clear hK K
                refine wpQ_yes (by kernel_rfl) (fun K hK => ?_)
                go_simp
                refine hK _ ?_
                clear hK K
                refine wpQ_nil ?_
                (try go_wp2_with fail)
                clear fA fB fC fD
                go_meet
                exact ⟨by rw [show decide (¬ Inf.headOk s) = false from decide_eq_false (fun h => h HQ.out)], rfl⟩
              · have fD : (bits BinOp.and IntKind.u8 (s[1].toNat : Int) 32 != 0) = true := by rw [gD]; exact decide_eq_true (by omega)
                have HQ : Hid (¬ Inf.headOk s) := Lib.hid (fun h => hD (HH.out.1 h).2.2.2)
                refine wp_regionQ (by kernel_rfl) (by kernel_rfl) ?_
                refine wpQ_yes (by kernel_rfl) (fun K hK => ?_)
                go_simp
                refine hK _ ?_
                clear hK K
                refine wpQ_yes (by kernel_rfl) (fun K hK => ?_)
                go_simp
                refine hK _ ?_
                clear hK K
                refine wpQ_yes (by kernel_rfl) (fun K hK => ?_)
                go_simp
                refine hK _ ?_
                clear hK K
                refine wpQ_yes (by kernel_rfl) (fun K hK => ?_)
                go_simp
                refine hK _ ?_
                clear hK K
                refine wpQ_yes (by kernel_rfl) (fun K hK => ?_)
                go_simp
                refine hK _ ?_
                clear hK K
                refine wpQ_yes (by kernel_rfl) (fun K hK => ?_)
                go_simp
                refine hK _ ?_
                clear hK K
                refine wpQ_yes (by kernel_rfl) (fun K hK => ?_)
                go_simp
                refine hK _ ?_
                clear hK K
                refine wpQ_yes (by kernel_rfl) (fun K hK => ?_)
                go_simp
                refine hK _ ?_
                clear hK K
                refine wpQ_yes (by kernel_rfl) (fun K hK => ?_)
                go_simp
                refine hK _ ?_
                clear hK K
                refine wpQ_yes (by kernel_rfl) (fun K hK => ?_)
                go_simp
                refine hK _ ?_
                clear hK K
                refine wpQ_yes (by kernel_rfl) (fun K hK => ?_)
                go_simp
                refine hK _ ?_
                clear hK K
                refine wpQ_yes (by kernel_rfl) (fun K hK => ?_)
                go_simp
                refine hK _ ?_
                clear hK K
                refine wpQ_yes (by kernel_rfl) (fun K hK => ?_)
                go_simp
                refine hK _ ?_
                clear hK K
                refine wpQ_yes (by kernel_rfl) (fun K hK => ?_)
                go_simp
                refine hK _ ?_
                clear hK K
                refine wpQ_yes (by kernel_rfl) (fun K hK => ?_)
                go_simp
                refine hK _ ?_
                clear hK K
                refine wpQ_yes (by kernel_rfl) (fun K hK => ?_)
                go_simp
                refine hK _ ?_
                clear hK K
                refine wpQ_yes (by kernel_rfl) (fun K hK => ?_)
                go_simp
                refine hK _ ?_
                clear hK K
                refine wpQ_yes (by kernel_rfl) (fun K hK => ?_)
                go_simp
                refine hK _ ?_
                clear hK K
                refine wpQ_yes (by kernel_rfl) (fun K hK => ?_)
                go_simp
                refine hK _ ?_
                clear hK K
                refine wpQ_yes (by kernel_rfl) (fun K hK => ?_)
                go_simp
                refine hK _ ?_
                clear hK K
                refine wpQ_yes (by kernel_rfl) (fun K hK => ?_)
                go_simp
                refine hK _ ?_
                clear hK K
                refine wpQ_yes (by kernel_rfl) (fun K hK => ?_)
                go_simp
                refine hK _ ?_
                clear hK K
                refine wpQ_yes (by kernel_rfl) (fun K hK => ?_)
                go_simp
                refine hK _ ?_
                clear hK K
                refine wpQ_yes (by kernel_rfl) (fun K hK => ?_)
                go_simp
                refine hK _ ?_
                clear hK K
                refine wpQ_yes (by kernel_rfl) (fun K hK => ?_)
                go_simp
                refine hK _ ?_
                clear hK K
                refine wpQ_yes (by kernel_rfl) (fun K hK => ?_)
                go_simp
                refine hK _ ?_
                clear hK K
                refine wpQ_yes (by kernel_rfl) (fun K hK => ?_)
                go_simp
                refine hK _ ?_
                clear hK K
                refine wpQ_yes (by kernel_rfl) (fun K hK => ?_)
                go_simp
                refine hK _ ?_
                clear hK K
                refine wpQ_yes (by kernel_rfl) (fun K hK => ?_)
                go_simp
                refine hK _ ?_
                clear hK K
                refine wpQ_yes (by kernel_rfl) (fun K hK => ?_)
                go_simp
                refine hK _ ?_
                clear hK K
                refine wpQ_yes (by kernel_rfl) (fun K hK => ?_)
                go_simp
                refine hK _ ?_
                clear hK K
                refine wpQ_yes (by kernel_rfl) (fun K hK => ?_)
                go_simp
                refine hK _ ?_
                clear hK K
                refine wpQ_yes (by kernel_rfl) (fun K hK => ?_)
                go_simp
                refine hK _ ?_
                clear hK K
                refine wpQ_nil ?_
                (try go_wp2_with fail)
                clear fA fB fC fD
                go_meet
                exact ⟨by rw [show decide (¬ Inf.headOk s) = true from decide_eq_true HQ.out], rfl⟩
            · have fC : ((r31 : Int) != 0) = true := by rw [bne_iff_ne]; omega
              have HQ : Hid (¬ Inf.headOk s) := Lib.hid (fun h => hC (HH.out.1 h).2.2.1)
              refine wp_regionQ (by kernel_rfl) (by kernel_rfl) ?_
              refine wpQ_yes (by kernel_rfl) (fun K hK => ?_)
              go_simp
              refine hK _ ?_
              clear hK K
              refine wpQ_yes (by kernel_rfl) (fun K hK => ?_)
              go_simp
              refine hK _ ?_
              clear hK K
              refine wpQ_yes (by kernel_rfl) (fun K hK => ?_)
              go_simp
              refine hK _ ?_
              clear hK K
              refine wpQ_yes (by kernel_rfl) (fun K hK => ?_)
              go_simp
              refine hK _ ?_
              clear hK K
              refine wpQ_yes (by kernel_rfl) (fun K hK => ?_)
              go_simp
              refine hK _ ?_
              clear hK K
              refine wpQ_yes (by kernel_rfl) (fun K hK => ?_)
              go_simp
              refine hK _ ?_
              clear hK K
              refine wpQ_yes (by kernel_rfl) (fun K hK => ?_)
              go_simp
              refine hK _ ?_
              clear hK K
              refine wpQ_yes (by kernel_rfl) (fun K hK => ?_)
              go_simp
              refine hK _ ?_
              clear hK K
              refine wpQ_yes (by kernel_rfl) (fun K hK => ?_)
              go_simp
              refine hK _ ?_
              clear hK K
              refine wpQ_yes (by kernel_rfl) (fun K hK => ?_)
              go_simp
              refine hK _ ?_
              clear hK K
              refine wpQ_yes (by kernel_rfl) (fun K hK => ?_)
              go_simp
              refine hK _ ?_
              clear hK K
              refine wpQ_yes (by kernel_rfl) (fun K hK => ?_)
              go_simp
              refine hK _ ?_
              clear hK K
              refine wpQ_yes (by kernel_rfl) (fun K hK => ?_)
              go_simp
              refine hK _ ?_
              clear hK K
              refine wpQ_yes (by kernel_rfl) (fun K hK => ?_)
              go_simp
              refine hK _ ?_
              clear hK K
              refine wpQ_yes (by kernel_rfl) (fun K hK => ?_)
              go_simp
              refine hK _ ?_
              clear hK K
              refine wpQ_yes (by kernel_rfl) (fun K hK => ?_)
              go_simp
              refine hK _ ?_
              clear hK K
              refine wpQ_yes (by kernel_rfl) (fun K hK => ?_)
              go_simp
              refine hK _ ?_
              clear hK K
              refine wpQ_yes (by kernel_rfl) (fun K hK => ?_)
              go_simp
              refine hK _ ?_
              clear hK K
              refine wpQ_yes (by kernel_rfl) (fun K hK => ?_)
              go_simp
              refine hK _ ?_
              clear hK K
              refine wpQ_yes (by kernel_rfl) (fun K hK => ?_)
              go_simp
              refine hK _ ?_
              clear hK K
              refine wpQ_yes (by kernel_rfl) (fun K hK => ?_)
              go_simp
              refine hK _ ?_
              clear hK K
              refine wpQ_yes (by kernel_rfl) (fun K hK => ?_)
              go_simp
              refine hK _ ?_
              clear hK K
              refine wpQ_yes (by kernel_rfl) (fun K hK => ?_)
              go_simp
              refine hK _ ?_
              clear hK K
              refine wpQ_yes (by kernel_rfl) (fun K hK => ?_)
              go_simp
              refine hK _ ?_
              clear hK K
              refine wpQ_yes (by kernel_rfl) (fun K hK => ?_)
              go_simp
              refine hK _ ?_
              clear hK K
              refine wpQ_yes (by kernel_rfl) (fun K hK => ?_)
              go_simp
              refine hK _ ?_
              clear hK K
              refine wpQ_yes (by kernel_rfl) (fun K hK => ?_)
              go_simp
              refine hK _ ?_
              clear hK K
              refine wpQ_yes (by kernel_rfl) (fun K hK => ?_)
              go_simp
              refine hK _ ?_
              clear hK K
              refine wpQ_no (by kernel_rfl) ?_
              try simp only [Act.put, List.getElem_toArray, List.getElem_cons_succ, List.getElem_cons_zero, List.setIfInBounds_toArray, List.set_cons_zero, List.set_cons_succ]
              refine wpQ_no (by kernel_rfl) ?_
              try simp only [Act.put, List.getElem_toArray, List.getElem_cons_succ, List.getElem_cons_zero, List.setIfInBounds_toArray, List.set_cons_zero, List.set_cons_succ]
              refine wpQ_no (by kernel_rfl) ?_
              try simp only [Act.put, List.getElem_toArray, List.getElem_cons_succ, List.getElem_cons_zero, List.setIfInBounds_toArray, List.set_cons_zero, List.set_cons_succ]
              refine wpQ_no (by kernel_rfl) ?_
              try simp only [Act.put, List.getElem_toArray, List.getElem_cons_succ, List.getElem_cons_zero, List.setIfInBounds_toArray, List.set_cons_zero, List.set_cons_succ]
              refine wpQ_yes (by kernel_rfl) (fun K hK => ?_)
              go_simp
              refine hK _ ?_
              clear hK K
              refine wpQ_nil ?_
              (try go_wp2_with fail)
              clear fA fB fC
              go_meet
              exact ⟨by rw [show decide (¬ Inf.headOk s) = true from decide_eq_true HQ.out], rfl⟩
          · have fB : decide ((7 : Int) < (s[0].toNat : Int) / 16) = true := decide_eq_true (by omega)
            have HQ : Hid (¬ Inf.headOk s) := Lib.hid (fun h => hB (HH.out.1 h).2.1)
            refine wp_regionQ (by kernel_rfl) (by kernel_rfl) ?_
            refine wpQ_yes (by kernel_rfl) (fun K hK => ?_)
            go_simp
            refine hK _ ?_
            clear hK K
            refine wpQ_yes (by kernel_rfl) (fun K hK => ?_)
            go_simp
            refine hK _ ?_
            clear hK K
            refine wpQ_yes (by kernel_rfl) (fun K hK => ?_)
            go_simp
            refine hK _ ?_
            clear hK K
            refine wpQ_yes (by kernel_rfl) (fun K hK => ?_)
            go_simp
            refine hK _ ?_
            clear hK K
            refine wpQ_yes (by kernel_rfl) (fun K hK => ?_)
            go_simp
            refine hK _ ?_
            clear hK K
            refine wpQ_yes (by kernel_rfl) (fun K hK => ?_)
            go_simp
            refine hK _ ?_
            clear hK K
            refine wpQ_yes (by kernel_rfl) (fun K hK => ?_)
            go_simp
            refine hK _ ?_
            clear hK K
            refine wpQ_yes (by kernel_rfl) (fun K hK => ?_)
            go_simp
            refine hK _ ?_
            clear hK K
            refine wpQ_yes (by kernel_rfl) (fun K hK => ?_)
            go_simp
            refine hK _ ?_
            clear hK K
            refine wpQ_yes (by kernel_rfl) (fun K hK => ?_)
            go_simp
            refine hK _ ?_
            clear hK K
            refine wpQ_yes (by kernel_rfl) (fun K hK => ?_)
            go_simp
            refine hK _ ?_
            clear hK K
            refine wpQ_yes (by kernel_rfl) (fun K hK => ?_)
            go_simp
            refine hK _ ?_
            clear hK K
            refine wpQ_yes (by kernel_rfl) (fun K hK => ?_)
            go_simp
            refine hK _ ?_
            clear hK K
            refine wpQ_yes (by kernel_rfl) (fun K hK => ?_)
            go_simp
            refine hK _ ?_
            clear hK K
            refine wpQ_yes (by kernel_rfl) (fun K hK => ?_)
            go_simp
            refine hK _ ?_
            clear hK K
            refine wpQ_yes (by kernel_rfl) (fun K hK => ?_)
            go_simp
            refine hK _ ?_
            clear hK K
            refine wpQ_no (by kernel_rfl) ?_
            try simp only [Act.put, List.getElem_toArray, List.getElem_cons_succ, List.getElem_cons_zero, List.setIfInBounds_toArray, List.set_cons_zero, List.set_cons_succ]
            refine wpQ_no (by kernel_rfl) ?_
            try simp only [Act.put, List.getElem_toArray, List.getElem_cons_succ, List.getElem_cons_zero, List.setIfInBounds_toArray, List.set_cons_zero, List.set_cons_succ]
            refine wpQ_no (by kernel_rfl) ?_
            try simp only [Act.put, List.getElem_toArray, List.getElem_cons_succ, List.getElem_cons_zero, List.setIfInBounds_toArray, List.set_cons_zero, List.set_cons_succ]
            refine wpQ_no (by kernel_rfl) ?_
            try simp only [Act.put, List.getElem_toArray, List.getElem_cons_succ, List.getElem_cons_zero, List.setIfInBounds_toArray, List.set_cons_zero, List.set_cons_succ]
            refine wpQ_no (by kernel_rfl) ?_
            try simp only [Act.put, List.getElem_toArray, List.getElem_cons_succ, List.getElem_cons_zero, List.setIfInBounds_toArray, List.set_cons_zero, List.set_cons_succ]
            refine wpQ_no (by kernel_rfl) ?_
            try simp only [Act.put, List.getElem_toArray, List.getElem_cons_succ, List.getElem_cons_zero, List.setIfInBounds_toArray, List.set_cons_zero, List.set_cons_succ]
            refine wpQ_no (by kernel_rfl) ?_
            try simp only [Act.put, List.getElem_toArray, List.getElem_cons_succ, List.getElem_cons_zero, List.setIfInBounds_toArray, List.set_cons_zero, List.set_cons_succ]
            refine wpQ_no (by kernel_rfl) ?_
            try simp only [Act.put, List.getElem_toArray, List.getElem_cons_succ, List.getElem_cons_zero, List.setIfInBounds_toArray, List.set_cons_zero, List.set_cons_succ]
            refine wpQ_no (by kernel_rfl) ?_
            try simp only [Act.put, List.getElem_toArray, List.getElem_cons_succ, List.getElem_cons_zero, List.setIfInBounds_toArray, List.set_cons_zero, List.set_cons_succ]
            refine wpQ_no (by kernel_rfl) ?_
            try simp only [Act.put, List.getElem_toArray, List.getElem_cons_succ, List.getElem_cons_zero, List.setIfInBounds_toArray, List.set_cons_zero, List.set_cons_succ]
            refine wpQ_yes (by kernel_rfl) (fun K hK => ?_)
            go_simp
            refine hK _ ?_
            clear hK K
            refine wpQ_yes (by kernel_rfl) (fun K hK => ?_)
            go_simp
            refine hK _ ?_
            clear hK K
            refine wpQ_no (by kernel_rfl) ?_
            try simp only [Act.put, List.getElem_toArray, List.getElem_cons_succ, List.getElem_cons_zero, List.setIfInBounds_toArray, List.set_cons_zero, List.set_cons_succ]
            refine wpQ_no (by kernel_rfl) ?_
            try simp only [Act.put, List.getElem_toArray, List.getElem_cons_succ, List.getElem_cons_zero, List.setIfInBounds_toArray, List.set_cons_zero, List.set_cons_succ]
            refine wpQ_no (by kernel_rfl) ?_
            try simp only [Act.put, List.getElem_toArray, List.getElem_cons_succ, List.getElem_cons_zero, List.setIfInBounds_toArray, List.set_cons_zero, List.set_cons_succ]
            refine wpQ_no (by kernel_rfl) ?_
            try simp only [Act.put, List.getElem_toArray, List.getElem_cons_succ, List.getElem_cons_zero, List.setIfInBounds_toArray, List.set_cons_zero, List.set_cons_succ]
            refine wpQ_yes (by kernel_rfl) (fun K hK => ?_)
            go_simp
            refine hK _ ?_
            clear hK K
            refine wpQ_nil ?_
            (try go_wp2_with fail)
            clear fA fB
            go_meet
            exact ⟨by rw [show decide (¬ Inf.headOk s) = true from decide_eq_true HQ.out], rfl⟩
        · have fA : (((s[0].toNat % 16 : Nat) : Int) != 8) = true := by rw [bne_iff_ne]; omega
          have mA : (s[0].toNat : Int) % 16 = ((s[0].toNat % 16 : Nat) : Int) := by omega
          have fA2 : ((s[0].toNat : Int) % 16 != 8) = true := by rw [bne_iff_ne]; omega
          have HQ : Hid (¬ Inf.headOk s) := Lib.hid (fun h => hA (HH.out.1 h).1)
          refine wp_regionQ (by kernel_rfl) (by kernel_rfl) ?_
          refine wpQ_yes (by kernel_rfl) (fun K hK => ?_)
          go_simp
          refine hK _ ?_
          clear hK K
          refine wpQ_yes (by kernel_rfl) (fun K hK => ?_)
          go_simp
          refine hK _ ?_
          clear hK K
          refine wpQ_yes (by kernel_rfl) (fun K hK => ?_)
          go_simp
          refine hK _ ?_
          clear hK K
          refine wpQ_yes (by kernel_rfl) (fun K hK => ?_)
          go_simp
          refine hK _ ?_
          clear hK K
          refine wpQ_yes (by kernel_rfl) (fun K hK => ?_)
          go_simp
          refine hK _ ?_
          clear hK K
          refine wpQ_yes (by kernel_rfl) (fun K hK => ?_)
          go_simp
          refine hK _ ?_
          clear hK K
          refine wpQ_yes (by kernel_rfl) (fun K hK => ?_)
          go_simp
          refine hK _ ?_
          clear hK K
          refine wpQ_yes (by kernel_rfl) (fun K hK => ?_)
          go_simp
          refine hK _ ?_
          clear hK K
          refine wpQ_yes (by kernel_rfl) (fun K hK => ?_)
          go_simp
          refine hK _ ?_
          clear hK K
          refine wpQ_yes (by kernel_rfl) (fun K hK => ?_)
          go_simp
          refine hK _ ?_
          clear hK K
          refine wpQ_no (by kernel_rfl) ?_
          try simp only [Act.put, List.getElem_toArray, List.getElem_cons_succ, List.getElem_cons_zero, List.setIfInBounds_toArray, List.set_cons_zero, List.set_cons_succ]
          refine wpQ_no (by kernel_rfl) ?_
          try simp only [Act.put, List.getElem_toArray, List.getElem_cons_succ, List.getElem_cons_zero, List.setIfInBounds_toArray, List.set_cons_zero, List.set_cons_succ]
          refine wpQ_no (by kernel_rfl) ?_
          try simp only [Act.put, List.getElem_toArray, List.getElem_cons_succ, List.getElem_cons_zero, List.setIfInBounds_toArray, List.set_cons_zero, List.set_cons_succ]
          refine wpQ_no (by kernel_rfl) ?_
          try simp only [Act.put, List.getElem_toArray, List.getElem_cons_succ, List.getElem_cons_zero, List.setIfInBounds_toArray, List.set_cons_zero, List.set_cons_succ]
          refine wpQ_yes (by kernel_rfl) (fun K hK => ?_)
          go_simp
          refine hK _ ?_
          clear hK K
          refine wpQ_yes (by kernel_rfl) (fun K hK => ?_)
          go_simp
          refine hK _ ?_
          clear hK K
          refine wpQ_no (by kernel_rfl) ?_
          try simp only [Act.put, List.getElem_toArray, List.getElem_cons_succ, List.getElem_cons_zero, List.setIfInBounds_toArray, List.set_cons_zero, List.set_cons_succ]
          refine wpQ_no (by kernel_rfl) ?_
          try simp only [Act.put, List.getElem_toArray, List.getElem_cons_succ, List.getElem_cons_zero, List.setIfInBounds_toArray, List.set_cons_zero, List.set_cons_succ]
          refine wpQ_no (by kernel_rfl) ?_
          try simp only [Act.put, List.getElem_toArray, List.getElem_cons_succ, List.getElem_cons_zero, List.setIfInBounds_toArray, List.set_cons_zero, List.set_cons_succ]
          refine wpQ_no (by kernel_rfl) ?_
          try simp only [Act.put, List.getElem_toArray, List.getElem_cons_succ, List.getElem_cons_zero, List.setIfInBounds_toArray, List.set_cons_zero, List.set_cons_succ]
          refine wpQ_no (by kernel_rfl) ?_
          try simp only [Act.put, List.getElem_toArray, List.getElem_cons_succ, List.getElem_cons_zero, List.setIfInBounds_toArray, List.set_cons_zero, List.set_cons_succ]
          refine wpQ_no (by kernel_rfl) ?_
          try simp only [Act.put, List.getElem_toArray, List.getElem_cons_succ, List.getElem_cons_zero, List.setIfInBounds_toArray, List.set_cons_zero, List.set_cons_succ]
          refine wpQ_no (by kernel_rfl) ?_
          try simp only [Act.put, List.getElem_toArray, List.getElem_cons_succ, List.getElem_cons_zero, List.setIfInBounds_toArray, List.set_cons_zero, List.set_cons_succ]
          refine wpQ_no (by kernel_rfl) ?_
          try simp only [Act.put, List.getElem_toArray, List.getElem_cons_succ, List.getElem_cons_zero, List.setIfInBounds_toArray, List.set_cons_zero, List.set_cons_succ]
          refine wpQ_no (by kernel_rfl) ?_
          try simp only [Act.put, List.getElem_toArray, List.getElem_cons_succ, List.getElem_cons_zero, List.setIfInBounds_toArray, List.set_cons_zero, List.set_cons_succ]
          refine wpQ_no (by kernel_rfl) ?_
          try simp only [Act.put, List.getElem_toArray, List.getElem_cons_succ, List.getElem_cons_zero, List.setIfInBounds_toArray, List.set_cons_zero, List.set_cons_succ]
          refine wpQ_yes (by kernel_rfl) (fun K hK => ?_)
          go_simp
          refine hK _ ?_
          clear hK K
          refine wpQ_yes (by kernel_rfl) (fun K hK => ?_)
          go_simp
          refine hK _ ?_
          clear hK K
          refine wpQ_no (by kernel_rfl) ?_
          try simp only [Act.put, List.getElem_toArray, List.getElem_cons_succ, List.getElem_cons_zero, List.setIfInBounds_toArray, List.set_cons_zero, List.set_cons_succ]
          refine wpQ_no (by kernel_rfl) ?_
          try simp only [Act.put, List.getElem_toArray, List.getElem_cons_succ, List.getElem_cons_zero, List.setIfInBounds_toArray, List.set_cons_zero, List.set_cons_succ]
          refine wpQ_no (by kernel_rfl) ?_
          try simp only [Act.put, List.getElem_toArray, List.getElem_cons_succ, List.getElem_cons_zero, List.setIfInBounds_toArray, List.set_cons_zero, List.set_cons_succ]
          refine wpQ_no (by kernel_rfl) ?_
          try simp only [Act.put, List.getElem_toArray, List.getElem_cons_succ, List.getElem_cons_zero, List.setIfInBounds_toArray, List.set_cons_zero, List.set_cons_succ]
          refine wpQ_yes (by kernel_rfl) (fun K hK => ?_)
          go_simp
          refine hK _ ?_
          clear hK K
          refine wpQ_nil ?_
          (try go_wp2_with fail)
          clear fA
          go_meet
          exact ⟨by rw [show decide (¬ Inf.headOk s) = true from decide_eq_true HQ.out], rfl⟩
    case rest =>
      obtain ⟨rfl, rfl⟩ := hcut
      by_cases hh : Inf.headOk s
      · have HQ := Lib.hid hh
        rw [decide_eq_false (fun h => h hh)]
        have h2 := hh.1
        clear hh
        go_wp2_with fail
        have hr := HR.out
        rw [if_neg (fun h => h HQ.out)] at hr
        have HR2 := Lib.hid hr
        clear hr HR
        obtain ⟨S, hS⟩ : ∃ S, s.extract 2 s.size = S := ⟨_, rfl⟩
        have hSs : S.size = s.size - 2 := by rw [← hS]; simp
        have h2n : 2 ≤ s.size := by omega
        have h2I : (2 : Int) ≤ (s.size : Int) := by omega
        go_wp2_with fail
        rw [hS]
        refine (HI.out S (by rw [hSs]; unfold maxLen; omega) _ (HE.out.ext (Below.drew (Ext.refl _))) (HTb.out.ext (Below.drew (Ext.refl _)))).mono ?_
        rintro e w2 ⟨h2x, he⟩
        have X2 : Hid (Ext w w2) := Lib.hid (Ext.trans (Below.drew (Ext.refl _)) h2x)
        clear h2x et ev
        rw [hS] at HR2
        cases hi : Inf.infl S most with
        | error c =>
          rw [hi] at he HR2
          simp only at he HR2
          subst he
          unfold sentV
          go_wp2_with fail
          go_ret2
          rw [← HR2.out]
          exact ⟨X2.out, rfl⟩
        | ok q =>
          obtain ⟨out, used, bl⟩ := q
          have hbd := Inf.infl_most hi
          have hus : used ≤ s.size - 2 := by rw [← hSs]; exact hbd.2.1
          have hob : out.length ≤ 300000 := by have := Inf.infl_bd hi; omega
          rw [hi] at he HR2
          simp only at he HR2
          obtain ⟨T, hT⟩ : ∃ T, tb out = T := ⟨_, rfl⟩
          have hTs : T.size = out.length := by rw [← hT, tb_size]
          have hTl : T.data.toList = out := by rw [← hT]; simp [tb]
          rw [hT] at he
          subst he
          have HT := Lib.hid hT
          obtain ⟨A, hA0⟩ : ∃ A, 2 + used = A := ⟨_, rfl⟩
          have hAI : (2 : Int) + (used : Int) = (A : Int) := by omega
          have wA : ∀ z, z = (A : Int) → IntKind.i64.wrap z = z := by rintro _ rfl; rw [IntKind.wrap_i64]; omega
          have hAs : A ≤ s.size := by omega
          have hAsI : (A : Int) ≤ (s.size : Int) := by omega
          have hA0n : (0 : Int) ≤ (A : Int) := by omega
          have hAt : ((A : Nat) : Int).toNat = A := by omega
          rw [hA0] at HR2
          obtain ⟨R, hR⟩ : ∃ R, s.extract A s.size = R := ⟨_, rfl⟩
          have hRs : R.size = s.size - A := by rw [← hR]; simp
          have hRl : R.data.toList = s.data.toList.drop A := by rw [← hR, ex_list, List.take_of_length_le (by rw [List.length_drop, bytes_len]; omega)]
          have HRl := Lib.hid hRl
          have HTl := Lib.hid hTl
          clear hi hbd hT hTl hRl hS h2
          by_cases h4 : R.size = 4
          · have t4 : ((R.size : Int) != 4) = false := by rw [bne_eq_false_iff_eq]; omega
            have hr := HR2.out
            rw [if_neg (by omega)] at hr
            have HR3 := Lib.hid hr
            clear hr HR2 hRs
            go_wp2_with fail
            clear t4 hAI wA hR hAsI hA0n hAt
            go_loopw [10, 69] (fun x c wr => ∃ k : Nat, k ≤ 4 ∧ c = .int .i64 k ∧ x = .int .u32 ((valN (R.data.toList.take k) : Nat) : Int) ∧ Hid (Ext w2 wr)) (fun _ c _ => 4 - (intOf c).toNat)
            case atStart => exact ⟨0, by omega, rfl, by rw [List.take_zero]; rfl, Lib.hid (Ext.refl _)⟩
            case round =>
              obtain ⟨k, hk, rfl, rfl, HW⟩ := hrel
              have X3 := Lib.hid (X2.out.trans HW.out)
              by_cases hlt : k < 4
              · have t0 : decide ((k : Int) < 4) = true := decide_eq_true (by omega)
                have hks : k < R.size := by omega
                have hk0 : (0 : Int) ≤ (k : Int) := by omega
                have hksI : (k : Int) < (R.size : Int) := by omega
                have hv : valN (R.data.toList.take (k + 1)) = vstep (valN (R.data.toList.take k)) R[k] := valN_succ (by rw [bytes_len]; exact hks)
                obtain ⟨x, hx⟩ : ∃ x, valN (R.data.toList.take k) = x := ⟨_, rfl⟩
                have hxl := valN_lt (R.data.toList.take k)
                rw [hx] at hv hxl ⊢
                have ho := or_low8 x R[k]
                have wk : ∀ z, z = (k : Int) + 1 → IntKind.i64.wrap z = z := by rintro _ rfl; rw [IntKind.wrap_i64]; omega
                go_wp2_with fail
                go_roundw
                case rel => exact ⟨k + 1, by omega, by go_num, by rw [hv], HW⟩
                case measure => simp [intOf]; omega
              · obtain rfl : k = 4 := by omega
                have e1 : R.data.toList.take 4 = R.data.toList := List.take_of_length_le (by rw [bytes_len]; omega)
                rw [e1, HRl.out]
                have hr := HR3.out
                obtain ⟨v, hv⟩ : ∃ v, valN (s.data.toList.drop A) = v := ⟨_, rfl⟩
                rw [hv] at hr ⊢
                have hTm : T.size ≤ maxLen := by unfold maxLen; omega
                go_wp2_with fail
                refine (HAd.out T _ hTm).mono ?_
                rintro e w3 ⟨rfl, h3⟩
                subst h3
                rw [HTl.out]
                obtain ⟨y, hy⟩ : ∃ y, Adl.adler out = y := ⟨_, rfl⟩
                rw [hy] at hr ⊢
                by_cases hvy : v = y
                · have t5 : ((v : Int) != (y : Int)) = false := by rw [bne_eq_false_iff_eq]; omega
                  rw [if_neg (fun h => h hvy)] at hr
                  subst hr
                  go_wp2_with fail
                  go_ret2
                  exact ⟨X3.out, by show _ = Ending.returned (.tuple #[.string (tb out), .nilIface]); rw [HT.out]; rfl⟩
                · have t5 : ((v : Int) != (y : Int)) = true := by rw [bne_iff_ne]; omega
                  rw [if_pos hvy] at hr
                  subst hr
                  go_wp2_with fail
                  have es : wr.drew.cell? ⟨2, 0, none⟩ = some (.iface 210 (.pointer (some (E 3)))) := ext_cell X3.out (HE.out.var 3 (by decide))
                  refine wp_regionQ (by kernel_rfl) (by kernel_rfl) ?_
                  refine wpQ_yes (by kernel_rfl) (fun K hK => ?_)
                  go_simp
                  refine hK _ ?_
                  clear hK K
                  refine wpQ_yes (by kernel_rfl) (fun K hK => ?_)
                  go_simp
                  refine hK _ ?_
                  clear hK K
                  refine wpQ_yes (by kernel_rfl) (fun K hK => ?_)
                  go_simp
                  refine hK _ ?_
                  clear hK K
                  refine wpQ_nil ?_
                  go_wp2_with fail
                  go_ret2
                  exact ⟨Below.drew X3.out, rfl⟩
          · have t4 : ((R.size : Int) != 4) = true := by rw [bne_iff_ne]; omega
            have hr := HR2.out
            rw [if_pos (by omega)] at hr
            subst hr
            clear hRs
            go_wp2_with fail
            have et2 : w2.drew.cell? ⟨1, 0, none⟩ = some (.iface 210 (.pointer (some (E 0)))) := (err_cells HE.out X2.out).1
            refine wp_regionQ (by kernel_rfl) (by kernel_rfl) ?_
            refine wpQ_yes (by kernel_rfl) (fun K hK => ?_)
            go_simp
            refine hK _ ?_
            clear hK K
            refine wpQ_yes (by kernel_rfl) (fun K hK => ?_)
            go_simp
            refine hK _ ?_
            clear hK K
            refine wpQ_yes (by kernel_rfl) (fun K hK => ?_)
            go_simp
            refine hK _ ?_
            clear hK K
            refine wpQ_nil ?_
            go_wp2_with fail
            go_ret2
            exact ⟨Below.drew X2.out, rfl⟩
      · have HQ := Lib.hid hh
        rw [decide_eq_true hh]
        clear hh
        go_wp2_with fail
        have hr := HR.out
        rw [if_pos HQ.out] at hr
        subst hr
        have et2 : w.drew.drew.cell? ⟨1, 0, none⟩ = some (.iface 210 (.pointer (some (E 0)))) := et
        refine wp_regionQ (by kernel_rfl) (by kernel_rfl) ?_
        refine wpQ_yes (by kernel_rfl) (fun K hK => ?_)
        go_simp
        refine hK _ ?_
        clear hK K
        refine wpQ_yes (by kernel_rfl) (fun K hK => ?_)
        go_simp
        refine hK _ ?_
        clear hK K
        refine wpQ_yes (by kernel_rfl) (fun K hK => ?_)
        go_simp
        refine hK _ ?_
        clear hK K
        refine wpQ_nil ?_
        go_wp2_with fail
        go_ret2
        exact ⟨Below.drew (Below.drew (Ext.refl _)), rfl⟩
end Go.Proofs.YtnhbjgmfbcedaaaDoor
