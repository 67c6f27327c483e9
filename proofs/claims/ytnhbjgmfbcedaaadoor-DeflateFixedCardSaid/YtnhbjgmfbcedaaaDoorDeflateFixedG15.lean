/-
  inflate: a stored block.
  inflate: a block.
  inflate.Inflate: the deferred closure.
-/
import Derived.Test.YtnhbjgmfbcedaaaDoorDeflateFixedG5
import Derived.Test.YtnhbjgmfbcedaaaDoorDeflateFixedG7
import Derived.Test.YtnhbjgmfbcedaaaDoorDeflateFixedG8
import Derived.Test.YtnhbjgmfbcedaaaDoorDeflateFixedG13
import Derived.Test.YtnhbjgmfbcedaaaDoorDeflateFixedG14
import Derived.Defers
import Derived.Recover
namespace Go.Proofs.YtnhbjgmfbcedaaaDoor
open Go.RowKit
set_option linter.unusedSimpArgs false
set_option linter.unusedVariables false
set_option maxRecDepth 100000
set_option linter.unusedSimpArgs false in
set_option maxHeartbeats 4000000 in
theorem istored_any (R B a most : Nat) (s : ByteArray) (v : Value) (out : List UInt8) (w0 w : World) (E : Nat → Addr) (hE : Errs w0 E) (hI : ISt w0 w R B s a v out most) (hmost : most ≤ 300000) (_hsz : s.size ≤ 300000) (hout : out.length ≤ most) :
    Calls Tryd.prog 77 #[.pointer (some ⟨R, 0, none⟩)] w fun e w' => IPost w0 w R B s most v E (Inf.stored s.data.toList most a out) e w' := by
  have HE := Lib.hid hE
  have H_0 := Lib.hid (IGo.start hI)
  have HA := Lib.hid (ralign_calls B 0 a s w hI.at_.rd hI.le)
  have hle := hI.le
  obtain ⟨a1, ha1⟩ : ∃ x, (a + 7) / 8 * 8 = x := ⟨_, rfl⟩
  obtain ⟨r, hr⟩ : ∃ r, Inf.stored s.data.toList most a out = r := ⟨_, rfl⟩
  rw [hr]
  unfold Inf.stored at hr
  rw [ha1] at hr HA
  have h1 : a1 ≤ 8 * s.size := by omega
  have h18 : a1 % 8 = 0 := by omega
  have HR := Lib.hid hr
  have k0 := H_0.out.bk.cell 0
  clear hE hI hle ha1 hr
  go_enter Tryd.func77, Tryd.ntmps77
  go_wp2_with fail
  refine HA.out.mono ?_
  rintro e w1 ⟨rfl, hR, hS⟩
  have hG := H_0.out.read hR hS h1
  clear hR hS HA k0
  have H_1 := Lib.hid hG
  clear H_0 hG
  go_wp2_with fail
  cases hg1 : Inf.get s.data.toList 16 a1 with
  | error c =>
    have HR2 : Hid (.error c = r) := Lib.hid (by rw [← HR.out, hg1])
    refine (gget_no R B a1 16 c most s v v out w0 w _ E HE.out H_1.out (by omega) hg1).mono ?_
    rintro e w9 ⟨rfl, h9⟩
    exact ⟨rfl, ipost_error HR2.out h9⟩
  | ok p =>
    obtain ⟨n, a2⟩ := p
    have HR1 := HR.out
    simp only [hg1] at HR1
    have HR2 := Lib.hid HR1
    clear HR1 HR
    refine (gget_yes R B a1 16 n a2 most s v v out w0 w _ E HE.out H_1.out (by omega) hg1).mono ?_
    rintro e w2 ⟨rfl, hG, hS⟩
    clear hS
    have H_2 := Lib.hid hG
    clear H_1 hG
    obtain ⟨q1, q2, q3, q4⟩ := Inf.get_ok hg1
    clear q4
    rw [list_size] at q2
    clear hg1
    go_wp2_with fail
    cases hg2 : Inf.get s.data.toList 16 a2 with
    | error c =>
      have HR3 : Hid (.error c = r) := Lib.hid (by rw [← HR2.out, hg2])
      have HG2 := Lib.hid hg2
      clear hg2
      refine wp_region_held_drew (S := fun w' => w'.cell? ⟨1, 0, none⟩ = some (.iface 210 (.pointer (some (E 0))))) (by kernel_rfl) ((err_cells HE.out H_2.out.old).1) (fun hHeld => ?_)
      clear hHeld
      refine anyH_world (fun wz => Ext w2 wz) (show Ext w2 w2.drew from Below.drew (Ext.refl w2)) ?_
      rintro w3 h
      have H_3 := Lib.hid (H_2.out.ext h)
      clear h H_2
      have hHeld : w3.cell? ⟨1, 0, none⟩ = some (.iface 210 (.pointer (some (E 0)))) := ((err_cells HE.out H_3.out.old).1)
      refine wpAnyH_take (i := 0) (v := ?_) rfl (by kernel_rfl) (by kernel_rfl) (by kernel_rfl) (fun _ _ _ h => h) (Or.inl ⟨by kernel_rfl, ?_⟩) hHeld ?_
      rotate_left
      · intro w hSw
        (try dsimp only at hSw)
        go_split_ands
        go_simp
        (try with_reducible rfl)
      try simp only [Act.put, List.getElem_toArray, List.getElem_cons_succ, List.getElem_cons_zero, List.setIfInBounds_toArray, List.set_cons_zero, List.set_cons_succ]
      refine wpAnyH_take (i := 1) (v := ?_) rfl (by kernel_rfl) (by kernel_rfl) (by kernel_rfl) (fun _ _ _ h => h) (Or.inl ⟨by kernel_rfl, ?_⟩) hHeld ?_
      rotate_left
      · intro w hSw
        (try dsimp only at hSw)
        go_split_ands
        go_simp
        (try with_reducible rfl)
      try simp only [Act.put, List.getElem_toArray, List.getElem_cons_succ, List.getElem_cons_zero, List.setIfInBounds_toArray, List.set_cons_zero, List.set_cons_succ]
      refine wpAnyH_take (i := 2) (v := ?_) rfl (by kernel_rfl) (by kernel_rfl) (by kernel_rfl) (fun _ _ _ h => h) (Or.inl ⟨by kernel_rfl, ?_⟩) hHeld ?_
      rotate_left
      · intro w hSw
        (try dsimp only at hSw)
        go_split_ands
        go_simp
        (try with_reducible rfl)
      try simp only [Act.put, List.getElem_toArray, List.getElem_cons_succ, List.getElem_cons_zero, List.setIfInBounds_toArray, List.set_cons_zero, List.set_cons_succ]
      refine wpAnyH_take (i := 6) (v := ?_) rfl (by kernel_rfl) (by kernel_rfl) (by kernel_rfl) (fun _ _ _ h => h) (Or.inl ⟨by kernel_rfl, ?_⟩) hHeld ?_
      rotate_left
      · intro w hSw
        (try dsimp only at hSw)
        go_split_ands
        go_simp
        (try with_reducible rfl)
      try simp only [Act.put, List.getElem_toArray, List.getElem_cons_succ, List.getElem_cons_zero, List.setIfInBounds_toArray, List.set_cons_zero, List.set_cons_succ]
      refine wpAnyH_ready (rs := [3]) (by kernel_rfl) (by simp) ?_
      refine AllReadyH.cons rfl (fun KK hK => ?_) AllReadyH.nil
      clear hHeld
      go_simp
      refine (gget_no R B a2 16 c most s v v out w0 w _ E HE.out H_3.out (by omega) HG2.out).mono ?_
      rintro e w9 ⟨rfl, h9⟩
      exact ⟨rfl, ipost_error HR3.out h9⟩
    | ok p =>
      obtain ⟨m, a3⟩ := p
      obtain ⟨p1, p2, p3, p4⟩ := Inf.get_ok hg2
      clear p4
      rw [list_size] at p2
      have HR1 := HR2.out
      simp only [hg2] at HR1
      have HR3 := Lib.hid HR1
      have HG2 := Lib.hid hg2
      have HX := Lib.hid (xor_all n m q3 p3)
      clear HR1 HR2 hg2
      by_cases hx : n + m = 65535
      · have hxx := HX.out.2 hx
        have t1 : (bits BinOp.xor IntKind.i64 (n : Int) (m : Int) == 65535) = true := beq_iff_eq.2 hxx
        have HR1 := HR3.out
        rw [if_neg (by omega)] at HR1
        have HR4 := Lib.hid HR1
        clear HR1 HR3 HX hxx
        refine wp_region_held_drew (S := fun w' => w'.cell? ⟨1, 0, none⟩ = some (.iface 210 (.pointer (some (E 0))))) (by kernel_rfl) ((err_cells HE.out H_2.out.old).1) (fun hHeld => ?_)
        clear hHeld
        refine anyH_world (fun wz => Ext w2 wz) (show Ext w2 w2.drew from Below.drew (Ext.refl w2)) ?_
        rintro w3 h
        have H_3 := Lib.hid (H_2.out.ext h)
        clear h H_2
        have hHeld : w3.cell? ⟨1, 0, none⟩ = some (.iface 210 (.pointer (some (E 0)))) := ((err_cells HE.out H_3.out.old).1)
        refine wpAnyH_take (i := 0) (v := ?_) rfl (by kernel_rfl) (by kernel_rfl) (by kernel_rfl) (fun _ _ _ h => h) (Or.inl ⟨by kernel_rfl, ?_⟩) hHeld ?_
        rotate_left
        · intro w hSw
          (try dsimp only at hSw)
          go_split_ands
          go_simp
          (try with_reducible rfl)
        try simp only [Act.put, List.getElem_toArray, List.getElem_cons_succ, List.getElem_cons_zero, List.setIfInBounds_toArray, List.set_cons_zero, List.set_cons_succ]
        refine wpAnyH_take (i := 1) (v := ?_) rfl (by kernel_rfl) (by kernel_rfl) (by kernel_rfl) (fun _ _ _ h => h) (Or.inl ⟨by kernel_rfl, ?_⟩) hHeld ?_
        rotate_left
        · intro w hSw
          (try dsimp only at hSw)
          go_split_ands
          go_simp
          (try with_reducible rfl)
        try simp only [Act.put, List.getElem_toArray, List.getElem_cons_succ, List.getElem_cons_zero, List.setIfInBounds_toArray, List.set_cons_zero, List.set_cons_succ]
        refine wpAnyH_take (i := 2) (v := ?_) rfl (by kernel_rfl) (by kernel_rfl) (by kernel_rfl) (fun _ _ _ h => h) (Or.inl ⟨by kernel_rfl, ?_⟩) hHeld ?_
        rotate_left
        · intro w hSw
          (try dsimp only at hSw)
          go_split_ands
          go_simp
          (try with_reducible rfl)
        try simp only [Act.put, List.getElem_toArray, List.getElem_cons_succ, List.getElem_cons_zero, List.setIfInBounds_toArray, List.set_cons_zero, List.set_cons_succ]
        refine wpAnyH_take (i := 6) (v := ?_) rfl (by kernel_rfl) (by kernel_rfl) (by kernel_rfl) (fun _ _ _ h => h) (Or.inl ⟨by kernel_rfl, ?_⟩) hHeld ?_
        rotate_left
        · intro w hSw
          (try dsimp only at hSw)
          go_split_ands
          go_simp
          (try with_reducible rfl)
        try simp only [Act.put, List.getElem_toArray, List.getElem_cons_succ, List.getElem_cons_zero, List.setIfInBounds_toArray, List.set_cons_zero, List.set_cons_succ]
        refine wpAnyH_ready (rs := [3]) (by kernel_rfl) (by simp) ?_
        refine AllReadyH.cons rfl (fun KK hK => ?_) AllReadyH.nil
        clear hHeld
        go_simp
        refine (gget_yes R B a2 16 m a3 most s v v out w0 w _ E HE.out H_3.out (by omega) HG2.out).mono ?_
        rintro e w4 ⟨rfl, hG, hS⟩
        have H_4 := Lib.hid hG
        clear H_3 hG
        clear hS
        go_simp
        refine hK.out _ _ ((err_cells HE.out H_4.out.old).1) (fun hHeld => ?_)
        clear hK KK
        try simp only [Act.put, List.getElem_toArray, List.getElem_cons_succ, List.getElem_cons_zero, List.setIfInBounds_toArray, List.set_cons_zero, List.set_cons_succ]
        refine wpAnyH_take (i := 4) (v := ?_) rfl (by kernel_rfl) (by kernel_rfl) (by kernel_rfl) (fun _ _ _ h => h) (Or.inl ⟨by kernel_rfl, ?_⟩) hHeld ?_
        rotate_left
        · intro w hSw
          (try dsimp only at hSw)
          go_split_ands
          go_simp
          (try with_reducible rfl)
        try simp only [Act.put, List.getElem_toArray, List.getElem_cons_succ, List.getElem_cons_zero, List.setIfInBounds_toArray, List.set_cons_zero, List.set_cons_succ]
        refine wpAnyH_take (i := 5) (v := ?_) rfl (by kernel_rfl) (by kernel_rfl) (by kernel_rfl) (fun _ _ _ h => h) (Or.inl ⟨by kernel_rfl, ?_⟩) hHeld ?_
        rotate_left
        · intro w hSw
          (try dsimp only at hSw)
          go_split_ands
          go_simp
          (try with_reducible rfl)
        try simp only [Act.put, List.getElem_toArray, List.getElem_cons_succ, List.getElem_cons_zero, List.setIfInBounds_toArray, List.set_cons_zero, List.set_cons_succ]
        refine wpAnyH_ready (rs := [7]) (by kernel_rfl) (by simp) ?_
        refine AllReadyH.cons rfl (fun KK hK => ?_) AllReadyH.nil
        clear hHeld
        go_simp
        refine (must_yes _ _ _).mono ?_
        rintro e w9 ⟨rfl, rfl⟩
        go_simp
        refine hK.out _ _ ((err_cells HE.out H_4.out.old).1) (fun hHeld => ?_)
        clear hK KK
        try simp only [Act.put, List.getElem_toArray, List.getElem_cons_succ, List.getElem_cons_zero, List.setIfInBounds_toArray, List.set_cons_zero, List.set_cons_succ]
        refine wpAnyH_done (by kernel_rfl) ?_ _
        clear hHeld
        have c0 := H_4.out.bk.cell 0
        have c1 := H_4.out.bk.cell 1
        have c2 := H_4.out.bk.cell 2
        have ee := err_cells HE.out H_4.out.old
        have e0 := ee.1
        have e1 := ee.2
        clear ee
        go_wp2_with fail
        clear c0 c1 c2 e0 e1
        have e3 : (a3 + 7) / 8 * 8 = a3 := by omega
        by_cases hb : 8 * s.size < a3 + 8 * n
        · have HR1 := HR4.out
          rw [list_size, if_pos hb] at HR1
          have HR5 := Lib.hid HR1
          clear HR1 HR4
          refine (rbytes_no B 0 a3 n s _ H_4.out.st.at_.rd H_4.out.st.le (by omega) (by omega)).mono ?_
          rintro e w7 ⟨rfl, hR, hS⟩
          have hG := H_4.out.read hR hS (by omega)
          clear hR hS
          have H_5 := Lib.hid hG
          clear H_4 hG
          have c0 := H_5.out.bk.cell 0
          have c1 := H_5.out.bk.cell 1
          have c2 := H_5.out.bk.cell 2
          have ee := err_cells HE.out H_5.out.old
          have e0 := ee.1
          have e1 := ee.2
          clear ee
          go_wp2_with fail
          refine (must_no _ (E 0) _).mono ?_
          rintro e _ ⟨rfl, rfl⟩
          exact ⟨rfl, ipost_error HR5.out H_5.out.old⟩
        · have HR1 := HR4.out
          rw [list_size, if_neg hb] at HR1
          have HR5 := Lib.hid HR1
          clear HR1 HR4
          have HB := Lib.hid (rbytes_yes B 0 a3 n s _ H_4.out.st.at_.rd H_4.out.st.le (by omega))
          have e4 : (a3 + 7) / 8 = a3 / 8 := by omega
          rw [e3, e4] at HB
          clear e4
          obtain ⟨t, ht⟩ : ∃ t, s.extract (a3 / 8) (a3 / 8 + n) = t := ⟨_, rfl⟩
          rw [ht] at HB
          have hts : t.size = n := by rw [← ht, ByteArray.size_extract]; omega
          have htl : (s.data.toList.drop (a3 / 8)).take n = t.data.toList := by rw [← ht, ex_list, show a3 / 8 + n - a3 / 8 = n by omega]
          have HR1 := HR5.out
          rw [htl] at HR1
          have HR6 := Lib.hid HR1
          clear HR1 HR5 ht htl
          refine HB.out.mono ?_
          rintro e w7 ⟨rfl, hR, hS⟩
          have hG := H_4.out.read hR hS (by omega)
          clear hR hS HB
          have H_5 := Lib.hid hG
          clear H_4 hG
          have c0 := H_5.out.bk.cell 0
          have c1 := H_5.out.bk.cell 1
          have c2 := H_5.out.bk.cell 2
          have ee := err_cells HE.out H_5.out.old
          have e0 := ee.1
          have e1 := ee.2
          clear ee
          go_wp2_with fail
          refine (must_yes _ _ _).mono ?_
          rintro e _ ⟨rfl, rfl⟩
          obtain ⟨L, hL⟩ : ∃ L, out.length = L := ⟨_, rfl⟩
          have HL := Lib.hid hL
          have hro := H_5.out.row
          rw [hL] at hro hout
          obtain ⟨xo, co, rfl⟩ := lit_row hro
          clear hL
          go_wp2_with fail
          by_cases hm : most < L + n
          · have t2 : decide ((L : Int) + (n : Int) ≤ (most : Int)) = false := decide_eq_false (by omega)
            have wl : ∀ z, z = (L : Int) + (n : Int) → IntKind.i64.wrap z = z := by rintro _ rfl; rw [IntKind.wrap_i64]; omega
            have HR1 := HR6.out
            rw [HL.out, if_pos hm] at HR1
            have HR7 := Lib.hid HR1
            clear HR1 HR6 hro
            refine wp_region_still_tail 14 (by kernel_rfl) (by kernel_rfl) ?_
            simp only [List.take_succ_cons, List.take_zero, List.drop_succ_cons, List.drop_zero]
            repeat still_step
            refine wpStill_nil ?_
            change wpList _ _ _ _ _ w7.drew
            go_wp2_with fail
            refine (must_no _ (E 1) _).mono ?_
            rintro e _ ⟨rfl, rfl⟩
            exact ⟨rfl, ipost_error HR7.out (H_5.out.ext (Below.drew (Ext.refl _))).old⟩
          · have t2 : decide ((L : Int) + (n : Int) ≤ (most : Int)) = true := decide_eq_true (by omega)
            have wl : ∀ z, z = (L : Int) + (n : Int) → IntKind.i64.wrap z = z := by rintro _ rfl; rw [IntKind.wrap_i64]; omega
            have HR1 := HR6.out
            rw [HL.out, if_neg hm] at HR1
            have HR7 := Lib.hid HR1
            clear HR1 HR6 hro
            refine wp_region_still_tail 14 (by kernel_rfl) (by kernel_rfl) ?_
            simp only [List.take_succ_cons, List.take_zero, List.drop_succ_cons, List.drop_zero]
            repeat still_step
            refine wpStill_nil ?_
            change wpList _ _ _ _ _ w7.drew
            go_wp2_with fail
            refine (must_yes _ _ _).mono ?_
            rintro e _ ⟨rfl, rfl⟩
            have H_6 := Lib.hid (H_5.out.ext (show Ext w7 w7.drew from Below.drew (Ext.refl _)))
            clear H_5
            clear t2 wl
            have hro := H_6.out.row
            rw [HL.out] at hro
            have HO := Lib.hid hro
            clear hro
            have hz : 0 ≤ w7.drew.heap.size := Nat.zero_le _
            obtain ⟨i0, hi0, hz0, hz1, hz2⟩ := info_parts u8inf
            go_wp2_with (at_builtin; refine wpList_app_string rfl _ _ 61 9 rfl 0 5 i0 Tryd.underlying61 Tryd.underlying9 hi0 hz0 hz1 hz2 _ _ _ rfl HO.out t rfl ?c3 ?c4 hz ?_)
            case c3 => unfold maxLen; omega
            case c4 => omega
            intro v8 w8 hown hgrow hat
            obtain ⟨x8, c8, rfl⟩ := lit_row hown
            have hG8 := H_6.out.st.at_.grow (Ext.refl _) hgrow (t := t) (by rw [HL.out, hts]; exact hown) hat
            have b1 := hG8.1.cell 1
            have f1 := hG8.1.frozen 1
            have HG8 := Lib.hid hG8
            clear hown hgrow hat hG8 c0 c1 c2 e0 e1
            go_wp2_with fail
            go_end0
            exact ipost_ok HR7.out (H_6.out.to HG8.out.2.1 HG8.out.2.2 (by omega))
      · have hxx : ¬ _ := fun q => hx (HX.out.1 q)
        have t1 : (bits BinOp.xor IntKind.i64 (n : Int) (m : Int) == 65535) = false := beq_eq_false_iff_ne.2 hxx
        have HR1 := HR3.out
        rw [if_pos hx] at HR1
        have HR4 := Lib.hid HR1
        clear HR1 HR3 HX hxx
        refine wp_region_held_drew (S := fun w' => w'.cell? ⟨1, 0, none⟩ = some (.iface 210 (.pointer (some (E 0))))) (by kernel_rfl) ((err_cells HE.out H_2.out.old).1) (fun hHeld => ?_)
        clear hHeld
        refine anyH_world (fun wz => Ext w2 wz) (show Ext w2 w2.drew from Below.drew (Ext.refl w2)) ?_
        rintro w3 h
        have H_3 := Lib.hid (H_2.out.ext h)
        clear h H_2
        have hHeld : w3.cell? ⟨1, 0, none⟩ = some (.iface 210 (.pointer (some (E 0)))) := ((err_cells HE.out H_3.out.old).1)
        refine wpAnyH_take (i := 0) (v := ?_) rfl (by kernel_rfl) (by kernel_rfl) (by kernel_rfl) (fun _ _ _ h => h) (Or.inl ⟨by kernel_rfl, ?_⟩) hHeld ?_
        rotate_left
        · intro w hSw
          (try dsimp only at hSw)
          go_split_ands
          go_simp
          (try with_reducible rfl)
        try simp only [Act.put, List.getElem_toArray, List.getElem_cons_succ, List.getElem_cons_zero, List.setIfInBounds_toArray, List.set_cons_zero, List.set_cons_succ]
        refine wpAnyH_take (i := 1) (v := ?_) rfl (by kernel_rfl) (by kernel_rfl) (by kernel_rfl) (fun _ _ _ h => h) (Or.inl ⟨by kernel_rfl, ?_⟩) hHeld ?_
        rotate_left
        · intro w hSw
          (try dsimp only at hSw)
          go_split_ands
          go_simp
          (try with_reducible rfl)
        try simp only [Act.put, List.getElem_toArray, List.getElem_cons_succ, List.getElem_cons_zero, List.setIfInBounds_toArray, List.set_cons_zero, List.set_cons_succ]
        refine wpAnyH_take (i := 2) (v := ?_) rfl (by kernel_rfl) (by kernel_rfl) (by kernel_rfl) (fun _ _ _ h => h) (Or.inl ⟨by kernel_rfl, ?_⟩) hHeld ?_
        rotate_left
        · intro w hSw
          (try dsimp only at hSw)
          go_split_ands
          go_simp
          (try with_reducible rfl)
        try simp only [Act.put, List.getElem_toArray, List.getElem_cons_succ, List.getElem_cons_zero, List.setIfInBounds_toArray, List.set_cons_zero, List.set_cons_succ]
        refine wpAnyH_take (i := 6) (v := ?_) rfl (by kernel_rfl) (by kernel_rfl) (by kernel_rfl) (fun _ _ _ h => h) (Or.inl ⟨by kernel_rfl, ?_⟩) hHeld ?_
        rotate_left
        · intro w hSw
          (try dsimp only at hSw)
          go_split_ands
          go_simp
          (try with_reducible rfl)
        try simp only [Act.put, List.getElem_toArray, List.getElem_cons_succ, List.getElem_cons_zero, List.setIfInBounds_toArray, List.set_cons_zero, List.set_cons_succ]
        refine wpAnyH_ready (rs := [3]) (by kernel_rfl) (by simp) ?_
        refine AllReadyH.cons rfl (fun KK hK => ?_) AllReadyH.nil
        clear hHeld
        go_simp
        refine (gget_yes R B a2 16 m a3 most s v v out w0 w _ E HE.out H_3.out (by omega) HG2.out).mono ?_
        rintro e w4 ⟨rfl, hG, hS⟩
        have H_4 := Lib.hid hG
        clear H_3 hG
        clear hS
        go_simp
        refine hK.out _ _ ((err_cells HE.out H_4.out.old).1) (fun hHeld => ?_)
        clear hK KK
        try simp only [Act.put, List.getElem_toArray, List.getElem_cons_succ, List.getElem_cons_zero, List.setIfInBounds_toArray, List.set_cons_zero, List.set_cons_succ]
        refine wpAnyH_take (i := 4) (v := ?_) rfl (by kernel_rfl) (by kernel_rfl) (by kernel_rfl) (fun _ _ _ h => h) (Or.inl ⟨by kernel_rfl, ?_⟩) hHeld ?_
        rotate_left
        · intro w hSw
          (try dsimp only at hSw)
          go_split_ands
          go_simp
          (try with_reducible rfl)
        try simp only [Act.put, List.getElem_toArray, List.getElem_cons_succ, List.getElem_cons_zero, List.setIfInBounds_toArray, List.set_cons_zero, List.set_cons_succ]
        refine wpAnyH_take (i := 5) (v := ?_) rfl (by kernel_rfl) (by kernel_rfl) (by kernel_rfl) (fun _ _ _ h => h) (Or.inl ⟨by kernel_rfl, ?_⟩) hHeld ?_
        rotate_left
        · intro w hSw
          (try dsimp only at hSw)
          go_split_ands
          go_simp
          (try with_reducible rfl)
        try simp only [Act.put, List.getElem_toArray, List.getElem_cons_succ, List.getElem_cons_zero, List.setIfInBounds_toArray, List.set_cons_zero, List.set_cons_succ]
        refine wpAnyH_ready (rs := [7]) (by kernel_rfl) (by simp) ?_
        refine AllReadyH.cons rfl (fun KK hK => ?_) AllReadyH.nil
        clear hHeld
        go_simp
        refine (must_no _ (E 0) _).mono ?_
        rintro e w9 ⟨rfl, rfl⟩
        exact ⟨rfl, ipost_error HR4.out H_4.out.old⟩
end Go.Proofs.YtnhbjgmfbcedaaaDoor
namespace Go.Proofs.YtnhbjgmfbcedaaaDoor
open Go.RowKit
set_option linter.unusedSimpArgs false
set_option linter.unusedVariables false
set_option maxRecDepth 100000
def BPost (w0 w : World) (R B : Nat) (s : ByteArray) (most : Nat) (v : Value) (E : Nat → Addr) (r : Except Nat (Nat × Nat × List UInt8 × Inf.Blk)) (e : Ending) (w' : World) : Prop :=
  match r with
  | .ok (last, a, out, _) => e = .returned (.bool (decide (last = 1))) ∧ ∃ v', IGo w0 w w' R B s a v v' out most
  | .error c => e = thrown (E c) ∧ Ext w0 w'
section
variable {w0 w w1 w' : World} {R B a c most last : Nat} {s : ByteArray} {v v' : Value} {E : Nat → Addr} {out : List UInt8} {b : Inf.Blk} {r : Except Nat (Nat × Nat × List UInt8 × Inf.Blk)} {e : Ending}
theorem bpost_ok (hr : .ok (last, a, out, b) = r) (h : IGo w0 w w' R B s a v v' out most) : BPost w0 w R B s most v E r (.returned (.bool (decide (last = 1)))) w' := by
  subst hr; exact ⟨rfl, v', h⟩
theorem bpost_error (hr : .error c = r) (h : Ext w0 w') : BPost w0 w R B s most v E r (thrown (E c)) w' := by
  subst hr; exact ⟨rfl, h⟩
theorem IPost.yes {r : Except Nat (Nat × List UInt8)} (h : IPost w0 w R B s most v E r e w') (hr : r = .ok (a, out)) : e = .returned (.tuple #[]) ∧ ∃ v', IGo w0 w w' R B s a v v' out most := by subst hr; exact h
theorem IPost.no {r : Except Nat (Nat × List UInt8)} (h : IPost w0 w R B s most v E r e w') (hr : r = .error c) : e = thrown (E c) ∧ Ext w0 w' := by subst hr; exact h
theorem DPost.yes {r : Except Nat (List Nat × List Nat × Nat)} {l d : List Nat} (h : DPost w0 w R B s most v out E r e w') (hr : r = .ok (l, d, a)) : ∃ T U, e = .returned (.tuple #[.pointer (some ⟨T, 0, none⟩), .pointer (some ⟨U, 0, none⟩)]) ∧ IGo w0 w w' R B s a v v out most ∧ Tr w' T (Inf.fn l) l.length R B v ∧ Tr w' U (Inf.fn d) d.length R B v := by subst hr; exact h
theorem DPost.no {r : Except Nat (List Nat × List Nat × Nat)} (h : DPost w0 w R B s most v out E r e w') (hr : r = .error c) : e = thrown (E c) ∧ Ext w0 w' := by subst hr; exact h
end
theorem pr_ok {r : Inf.TRes} {a : Nat} {out : List UInt8} {tr : List Inf.Ev} (h : r = .ok (a, out, tr)) : Inf.pr r = .ok (a, out) := by subst h; rfl
theorem pr_error {r : Inf.TRes} {c : Nat} (h : r = .error c) : Inf.pr r = .error c := by subst h; rfl
set_option linter.unusedSimpArgs false in
set_option maxHeartbeats 4000000 in
theorem iblock_any (R B a most : Nat) (s : ByteArray) (v : Value) (out : List UInt8) (w0 w : World) (E : Nat → Addr) (hE : Errs w0 E) (hTb : Tabs w0) (hI : ISt w0 w R B s a v out most) (hmost : most ≤ 300000) (hsz : s.size ≤ 300000) (hout : out.length ≤ most) :
    Calls Tryd.prog 37 #[.pointer (some ⟨R, 0, none⟩)] w fun e w' => BPost w0 w R B s most v E (Inf.block s.data.toList most a out) e w' := by
  have HE := Lib.hid hE
  have HTb := Lib.hid hTb
  have H_0 : Hid (IGo w0 w w R B s a v v out most) := Lib.hid (IGo.start hI)
  have HLT := Lib.hid (IGo.start hI).lts
  obtain ⟨r, hr⟩ : ∃ r, Inf.block s.data.toList most a out = r := ⟨_, rfl⟩
  rw [hr]
  unfold Inf.block at hr
  have HR := Lib.hid hr
  clear hE hTb hI hr
  have hmf : ∀ (fn : Fn) (first cap : Array Value) (w : World), (Instr.makeFunc fn first cap).run Tryd.prog w = .ok (.func fn first cap) w := fun _ _ _ _ => rfl
  go_enter Tryd.func37, Tryd.ntmps37
  go_wp2_with fail
  refine calls_world (fun wz => Ext w wz ∧ Bk wz w.heap.size #[.pointer (some ⟨R, 0, none⟩)]) ⟨(Ext.refl _).alloc _, Bk.at rfl⟩ ?_
  rintro w1 ⟨h, hB⟩
  have HB : Hid (BoxB w.heap.size (.pointer (some ⟨R, 0, none⟩)) R B w1 v) := Lib.hid ⟨hB, by have := HLT.out; omega, by have := HLT.out; omega, fun q => by have := HLT.out.2.2 _ q; omega⟩
  clear hB
  obtain ⟨bb, hbb⟩ : ∃ bb, w.heap.size = bb := ⟨_, rfl⟩
  have HBB := Lib.hid hbb
  rw [hbb] at HB ⊢
  clear hbb
  have H_1 := Lib.hid (H_0.out.ext h)
  clear h H_0
  cases hg : Inf.get s.data.toList 1 a with
  | error c =>
    refine (gget_no R B a 1 c most s v v out w0 w _ E HE.out H_1.out (by omega) hg).mono ?_
    rintro e w9 ⟨rfl, h9⟩
    exact ⟨rfl, bpost_error (by have h := HR.out; simp only [hg] at h; exact h) h9⟩
  | ok p =>
    obtain ⟨last, a1⟩ := p
    have HR1 := HR.out
    simp only [hg] at HR1
    clear HR
    have HR := Lib.hid HR1
    clear HR1
    refine (gget_yes R B a 1 last a1 most s v v out w0 w _ E HE.out H_1.out (by omega) hg).mono ?_
    rintro e w2 ⟨rfl, hG, hS⟩
    have HB1 := Lib.hid (HB.out.step (IStep.rd hS))
    clear HB
    have HB := HB1
    clear HB1
    have H_2 := Lib.hid (hG)
    clear H_1 hG hS
    have hl2 : last < 2 := (Inf.get_ok hg).2.2.1
    clear hg
    have b0 := HB.out.1.cell 0
    obtain ⟨lb, hlb⟩ : ∃ lb, decide (last = 1) = lb := ⟨_, rfl⟩
    have hlb2 : ((last : Int) == 1) = lb := by rw [← hlb]; rw [Bool.eq_iff_iff]; simp only [beq_iff_eq, decide_eq_true_eq]; omega
    have HLB := Lib.hid hlb
    clear hlb
    go_wp2_with fail
    clear b0
    cases hg : Inf.get s.data.toList 2 a1 with
    | error c =>
      refine (gget_no R B a1 2 c most s v v out w0 w _ E HE.out H_2.out (by omega) hg).mono ?_
      rintro e w9 ⟨rfl, h9⟩
      exact ⟨rfl, bpost_error (by have h := HR.out; simp only [hg] at h; exact h) h9⟩
    | ok p =>
      obtain ⟨kind, a2⟩ := p
      have HR1 := HR.out
      simp only [hg] at HR1
      clear HR
      have HR := Lib.hid HR1
      clear HR1
      refine (gget_yes R B a1 2 kind a2 most s v v out w0 w _ E HE.out H_2.out (by omega) hg).mono ?_
      rintro e w3 ⟨rfl, hG, hS⟩
      have HB1 := Lib.hid (HB.out.step (IStep.rd hS))
      clear HB
      have HB := HB1
      clear HB1
      have H_3 := Lib.hid (hG)
      clear H_2 hG hS
      have hk4 : kind < 4 := (Inf.get_ok hg).2.2.1
      clear hg hlb2
      by_cases hk0 : kind = 0
      · subst hk0
        have HR1 := HR.out
        simp only [if_pos] at HR1
        clear HR
        have HR := Lib.hid HR1
        clear HR1
        have b0 := HB.out.1.cell 0
        go_wp2_with fail
        clear b0
        have hP := istored_any R B a2 most s v out w0 _ E HE.out H_3.out.st hmost hsz hout
        cases hs : Inf.stored s.data.toList most a2 out with
        | error c =>
          refine hP.mono ?_
          intro e w9 h9
          obtain ⟨rfl, h8⟩ := h9.no hs
          exact ⟨rfl, bpost_error (by have h := HR.out; simp only [hs] at h; exact h) h8⟩
        | ok q =>
          obtain ⟨a3, out3⟩ := q
          refine hP.mono ?_
          intro e w9 h9
          obtain ⟨rfl, v', h9⟩ := h9.yes hs
          have HRR : Hid (.ok (last, a3, out3, ⟨0, [], [], []⟩) = r) := Lib.hid (by have h := HR.out; simp only [hs] at h; exact h)
          have HF := Lib.hid (H_3.out.trans h9)
          clear hP hs h9
          go_wp2_with fail
          go_ret
          rw [← HLB.out]
          exact bpost_ok HRR.out HF.out
      · have t0 : ((kind : Int) == 0) = false := beq_eq_false_iff_ne.2 (by omega)
        by_cases hk1 : kind = 1
        · subst hk1
          have HR1 := HR.out
          rw [if_neg hk0, if_pos rfl] at HR1
          clear HR
          have HR := Lib.hid HR1
          clear HR1 t0
          go_wp2_with fail
          obtain ⟨tr0, htr0⟩ : ∃ tr0, Inf.toks s.data.toList most Inf.fixF 288 Inf.fiveF 32 (8 * s.data.toList.length + 1) a2 out [] = tr0 := ⟨_, rfl⟩
          rw [htr0] at HR
          have HT0 := Lib.hid htr0
          clear htr0
          have Y_3 := Lib.hid (Ext.refl w3)
          refine wp_region_held_drew (S := fun w' => w'.cell? ⟨bb, 0, none⟩ = some (.pointer (some ⟨R, 0, none⟩))) (by kernel_rfl) ((ext_cell Y_3.out (HB.out.1.cell 0))) (fun hHeld => ?_)
          clear hHeld
          refine anyH_world (fun wz => Ext w3 wz) (show Ext w3 w3.drew from Below.drew (Ext.refl w3)) ?_
          rintro w4 h
          have H_4 := Lib.hid (H_3.out.ext h)
          have Y_4 := Lib.hid (Y_3.out.trans h)
          clear h H_3 Y_3
          have hHeld : w4.cell? ⟨bb, 0, none⟩ = some (.pointer (some ⟨R, 0, none⟩)) := ((ext_cell Y_4.out (HB.out.1.cell 0)))
          refine wpAnyH_take (i := 0) (v := ?_) rfl (by kernel_rfl) (by kernel_rfl) (by kernel_rfl) (fun _ _ _ h => h) (Or.inl ⟨by kernel_rfl, ?_⟩) hHeld ?_
          rotate_left
          · intro w hSw
            (try dsimp only at hSw)
            go_split_ands
            go_simp
            (try with_reducible rfl)
          try simp only [Act.put, List.getElem_toArray, List.getElem_cons_succ, List.getElem_cons_zero, List.setIfInBounds_toArray, List.set_cons_zero, List.set_cons_succ]
          refine wpAnyH_take (i := 1) (v := ?_) rfl (by kernel_rfl) (by kernel_rfl) (by kernel_rfl) (fun _ _ _ h => h) (Or.inl ⟨by kernel_rfl, ?_⟩) hHeld ?_
          rotate_left
          · intro w hSw
            (try dsimp only at hSw)
            go_split_ands
            go_simp
            (try with_reducible rfl)
          try simp only [Act.put, List.getElem_toArray, List.getElem_cons_succ, List.getElem_cons_zero, List.setIfInBounds_toArray, List.set_cons_zero, List.set_cons_succ]
          refine wpAnyH_take (i := 4) (v := ?_) rfl (by kernel_rfl) (by kernel_rfl) (by kernel_rfl) (fun _ _ _ h => h) (Or.inl ⟨by kernel_rfl, ?_⟩) hHeld ?_
          rotate_left
          · intro w hSw
            (try dsimp only at hSw)
            go_split_ands
            go_simp
            (try with_reducible rfl)
          try simp only [Act.put, List.getElem_toArray, List.getElem_cons_succ, List.getElem_cons_zero, List.setIfInBounds_toArray, List.set_cons_zero, List.set_cons_succ]
          refine wpAnyH_ready (rs := [2]) (by kernel_rfl) (by simp) ?_
          refine AllReadyH.cons rfl (fun KK hK => ?_) AllReadyH.nil
          clear hHeld
          go_simp
          refine (fixed_any _).mono ?_
          rintro e w5 ⟨⟨xf, cf, rfl, hI, _⟩, h⟩
          have HI := Lib.hid hI
          clear hI
          have H_5 := Lib.hid (H_4.out.ext h)
          have Y_5 := Lib.hid (Y_4.out.trans h)
          clear h H_4 Y_4
          go_simp
          refine hK.out _ _ ((ext_cell Y_5.out (HB.out.1.cell 0))) (fun hHeld => ?_)
          clear hK KK
          try simp only [Act.put, List.getElem_toArray, List.getElem_cons_succ, List.getElem_cons_zero, List.setIfInBounds_toArray, List.set_cons_zero, List.set_cons_succ]
          refine wpAnyH_ready (rs := [3]) (by kernel_rfl) (by simp) ?_
          refine AllReadyH.cons rfl (fun KK hK => ?_) AllReadyH.nil
          clear hHeld
          go_simp
          refine (gtree_yes R B a2 most 288 cf xf _ s v v out w0 w _ E HE.out H_5.out HI.out Inf.good_fix).mono ?_
          rintro e w6 ⟨T, rfl, hT, h⟩
          have HTr := Lib.hid hT
          clear hT HI
          have H_6 := Lib.hid (H_5.out.ext h)
          have Y_6 := Lib.hid (Y_5.out.trans h)
          clear h H_5 Y_5
          go_simp
          refine hK.out _ _ ((ext_cell Y_6.out (HB.out.1.cell 0))) (fun hHeld => ?_)
          clear hK KK
          try simp only [Act.put, List.getElem_toArray, List.getElem_cons_succ, List.getElem_cons_zero, List.setIfInBounds_toArray, List.set_cons_zero, List.set_cons_succ]
          refine wpAnyH_ready (rs := [5]) (by kernel_rfl) (by simp) ?_
          refine AllReadyH.cons rfl (fun KK hK => ?_) AllReadyH.nil
          clear hHeld
          go_simp
          have hP := itokens_any _ _ _ R B T a2 most 288 32 (8 * s.data.toList.length + 1) Inf.fixF Inf.fiveF s v out [] w0 w6 E HE.out HTb.out (Dist.five bb R B most s w0 E HE.out) H_6.out.st HTr.out (HB.out.step (IStep.ext Y_6.out)) (by rw [list_size]; omega) hmost hsz hout
          rw [HT0.out] at hP
          cases tr0 with
          | error c =>
            refine hP.mono ?_
            intro e w9 h9
            obtain ⟨rfl, h8⟩ := h9.no (pr_error rfl)
            exact ⟨rfl, bpost_error HR.out h8⟩
          | ok q =>
            obtain ⟨a3, out3, tr⟩ := q
            refine hP.mono ?_
            intro e w7 h9
            obtain ⟨rfl, v', h9⟩ := h9.yes (pr_ok rfl)
            have HF := Lib.hid (H_6.out.trans h9)
            clear hP
            go_simp
            refine hK.out _ _ ?hS (fun hHeld => ?_)
            case hS => exact ((HB.out.step (IStep.ext Y_6.out)).step h9.step).1.cell 0
            clear hK KK h9
            try simp only [Act.put, List.getElem_toArray, List.getElem_cons_succ, List.getElem_cons_zero, List.setIfInBounds_toArray, List.set_cons_zero, List.set_cons_succ]
            refine wpAnyH_done (by kernel_rfl) ?_ _
            clear hHeld
            go_wp2_with fail
            go_ret
            rw [← HLB.out]
            exact bpost_ok HR.out HF.out
        · have t1 : ((kind : Int) == 1) = false := beq_eq_false_iff_ne.2 (by omega)
          by_cases hk2 : kind = 2
          · subst hk2
            have HR1 := HR.out
            rw [if_neg hk0, if_neg hk1, if_pos rfl] at HR1
            clear HR
            have HR := Lib.hid HR1
            clear HR1 t0 t1
            have b0 := HB.out.1.cell 0
            go_wp2_with fail
            clear b0
            have hP := idynamic_any R B a2 most s v out w0 _ E HE.out HTb.out H_3.out.st
            cases hs : Inf.dyn s.data.toList a2 with
            | error c =>
              refine hP.mono ?_
              intro e w9 h9
              obtain ⟨rfl, h8⟩ := h9.no hs
              exact ⟨rfl, bpost_error (by have h := HR.out; simp only [hs] at h; exact h) h8⟩
            | ok q =>
              obtain ⟨l, dd, a3⟩ := q
              have HR1 := HR.out
              simp only [hs] at HR1
              clear HR
              have HR := Lib.hid HR1
              clear HR1
              obtain ⟨tr0, htr0⟩ : ∃ tr0, Inf.toks s.data.toList most (Inf.fn l) l.length (Inf.fn dd) dd.length (8 * s.data.toList.length + 1) a3 out [] = tr0 := ⟨_, rfl⟩
              rw [htr0] at HR
              have HT0 := Lib.hid htr0
              clear htr0
              refine hP.mono ?_
              intro e w4 h9
              obtain ⟨T, U, rfl, h9, hT, hU⟩ := h9.yes hs
              have hH := H_3.out.trans h9
              have HB1 := Lib.hid (HB.out.step h9.step)
              clear HB
              have HB := HB1
              have HT := Lib.hid hT
              have HU := Lib.hid hU
              have H_4 := Lib.hid hH
              have HLT3 := Lib.hid hH.lts
              clear HB1 hT hU h9 hH hP hs H_3
              have b0 := HB.out.1.cell 0
              have b1 : ∀ o : Obj, (w4.alloc o).cell? ⟨bb, 0, none⟩ = some (.pointer (some ⟨R, 0, none⟩)) := fun o => ext_cell ((Ext.refl w4).alloc o) (HB.out.1.cell 0)
              go_wp2_with fail
              clear b0 b1
              refine calls_world (fun wz => Ext w4 wz ∧ Bk wz w4.heap.size #[.pointer (some ⟨U, 0, none⟩)]) ⟨(Ext.refl _).alloc _, Bk.at rfl⟩ ?_
              rintro w5 ⟨h, hB2⟩
              have HB2 : Hid (BoxB w4.heap.size (.pointer (some ⟨U, 0, none⟩)) R B w5 v) := Lib.hid ⟨hB2, by have := HLT3.out; omega, by have := HLT3.out; omega, fun q => by have := HLT3.out.2.2 _ q; omega⟩
              have HBx := Lib.hid (HB.out.step (IStep.ext h))
              have HTx := Lib.hid (HT.out.step (IStep.ext h))
              have HUx := Lib.hid (HU.out.step (IStep.ext h))
              clear hB2 HB HT HU
              have H_5 := Lib.hid (H_4.out.ext h)
              clear h H_4
              have hP := itokens_any _ _ _ R B T a3 most l.length dd.length (8 * s.data.toList.length + 1) (Inf.fn l) (Inf.fn dd) s v out [] w0 w5 E HE.out HTb.out (Dist.far bb w4.heap.size U R B most dd.length (Inf.fn dd) s w0 E HE.out) H_5.out.st HTx.out ⟨HBx.out, HB2.out, HUx.out⟩ (by rw [list_size]; omega) hmost hsz hout
              rw [HT0.out] at hP
              cases tr0 with
              | error c =>
                refine hP.mono ?_
                intro e w9 h9
                obtain ⟨rfl, h8⟩ := h9.no (pr_error rfl)
                exact ⟨rfl, bpost_error HR.out h8⟩
              | ok q =>
                obtain ⟨a4, out4, tr⟩ := q
                refine hP.mono ?_
                intro e w9 h9
                obtain ⟨rfl, v', h8⟩ := h9.yes (pr_ok rfl)
                have HF := Lib.hid (H_5.out.trans h8)
                clear hP h9 h8
                go_wp2_with fail
                go_ret
                rw [← HLB.out]
                exact bpost_ok HR.out HF.out
          · have t2 : ((kind : Int) == 2) = false := beq_eq_false_iff_ne.2 (by omega)
            have HR1 := HR.out
            rw [if_neg hk0, if_neg hk1, if_neg hk2] at HR1
            have e0 := (err_cells HE.out H_3.out.old).1
            go_wp2_with fail
            exact ⟨rfl, bpost_error HR1 H_3.out.old⟩
end Go.Proofs.YtnhbjgmfbcedaaaDoor
namespace Go.Proofs.YtnhbjgmfbcedaaaDoor
open Go.RowKit
set_option linter.unusedSimpArgs false
set_option linter.unusedVariables false
set_option maxRecDepth 100000
/-- no panic comes up -/
def noPanic (Q : Exit → Act → World → Prop) : Exit → Act → World → Prop
  | .panic _, _, _ => False
  | e, a, w => Q e a w
theorem wp_noPanic {P : Program} {c : Code} {Q : Exit → Act → World → Prop} {a : Act} {w : World} (h : c.wp P (noPanic Q) a w) : c.wp P Q a w :=
  wp_mono h fun e a w q => by
    cases e with
    | panic ch => exact q.elim
    | _ => exact q
theorem fail_assert (x : Value) (xT : TypeId) (w : World) : (Instr.typeAssert (.iface 57 x) xT 57 true).run Tryd.prog w = .ok (.tuple #[x, .bool true]) w := by
  have hu := Tryd.underlying57
  simp [Instr.typeAssert, run_underlying hu, go_sem, Result.andThen]
theorem icatch_idle (p q r : Addr) (w : World) :
    CallsD Tryd.prog 35 #[.pointer (some p), .pointer (some q), .pointer (some r)] .returning w fun e u' w' => e = .returned (.tuple #[]) ∧ u' = .returning ∧ w' = w := by
  refine callsD_of_wpS Tryd.func35 rfl fun c₀ cs hu => ?_
  apply wpS_seq
  apply wpS_region
  simp [wpOpsS, go_sem, recoverD, hu, Tryd.ntmps35, Exit.thenS]
  refine wpS_of_wp ?_
  go_wp2_with fail
  cases c₀
  simp_all [bodyPostS, results, Tryd.results35]
/-- what the three results hold behind a recovered panic -/
structure Caught (w w' : World) (p q r : Nat) (a : Addr) : Prop where
  h0 : Bk w' p #[.string ⟨#[]⟩]
  h1 : Bk w' q #[.int .i64 0]
  h2 : Bk w' r #[sentV a]
  ext : Below p w w'
theorem Caught.drew {w w' : World} {p q r : Nat} {a : Addr} (h : Caught w w' p q r a) : Caught w w'.drew p q r a := ⟨h.h0, h.h1, h.h2, Below.drew h.ext⟩
theorem caught_of {w w0 : World} {p : Nat} {a : Addr} {x y z : Value} (h0 : Bk w p #[x]) (h1 : Bk w (p + 1) #[y]) (h2 : Bk w (p + 2) #[z]) (hE : Ext w w0) : Caught w (((w0.setCell ⟨p, 0, none⟩ (.string ⟨#[]⟩)).setCell ⟨p + 1, 0, none⟩ (.int .i64 0)).setCell ⟨p + 2, 0, none⟩ (sentV a)) p (p + 1) (p + 2) a := by
  have hl := h0.lt
  have hs := hE.size
  have b0 := (h0.ext hE).set_ 0 (.string ⟨#[]⟩)
  have b1 := (h1.ext hE)
  have b2 := (h2.ext hE)
  refine ⟨?_, ?_, ?_, ?_⟩
  · exact (b0.far (p := ⟨p + 1, 0, none⟩) (by show p ≠ p + 1; omega) _).far (p := ⟨p + 2, 0, none⟩) (by show p ≠ p + 2; omega) _
  · exact ((b1.far (p := ⟨p, 0, none⟩) (by show p + 1 ≠ p; omega) _).set_ 0 (.int .i64 0)).far (p := ⟨p + 2, 0, none⟩) (by show p + 1 ≠ p + 2; omega) _
  · exact ((b2.far (p := ⟨p, 0, none⟩) (by show p + 2 ≠ p; omega) _).far (p := ⟨p + 1, 0, none⟩) (by show p + 2 ≠ p + 1; omega) _).set_ 0 (sentV a)
  · exact (((Below.mono hE (Nat.le_of_lt hl)).setCell (p := ⟨p, 0, none⟩) (Nat.le_refl _) _).setCell (p := ⟨p + 1, 0, none⟩) (by show p ≤ p + 1; omega) _).setCell (p := ⟨p + 2, 0, none⟩) (by show p ≤ p + 2; omega) _
theorem boxed_keep {w w' : World} {b : Nat} {u : Value} {t : TypeId} (hb : w.heap.size = b) (h : Below (b + 1) (w.alloc (.cells #[u] t)) w') : w'.cell? ⟨b, 0, none⟩ = some u := by
  have : (w.alloc (.cells #[u] t)).cell? ⟨b, 0, none⟩ = some u := by subst hb; exact (Bk.at (w := w) (t := t) rfl).cell 0
  exact (Below.cell h (by show b < b + 1; omega)).trans this
set_option maxHeartbeats 1000000 in
theorem icatch (p : Nat) (a : Addr) (older : List PanicEntry) (x y z : Value) (w : World) (h0 : Bk w p #[x]) (h1 : Bk w (p + 1) #[y]) (h2 : Bk w (p + 2) #[z]) :
    CallsD Tryd.prog 35 #[.pointer (some ⟨p, 0, none⟩), .pointer (some ⟨p + 1, 0, none⟩), .pointer (some ⟨p + 2, 0, none⟩)] (.panicking ({ v := failV a, recovered := false } :: older)) w fun e u' w' => e = .returned (.tuple #[]) ∧ u' = .panicking ({ v := failV a, recovered := true } :: older) ∧ Caught w w' p (p + 1) (p + 2) a := by
  have HC := Lib.hid (fun w0 (hE : Ext w w0) => caught_of (a := a) h0 h1 h2 hE)
  have H0 := Lib.hid h0
  have H1 := Lib.hid h1
  have H2 := Lib.hid h2
  clear h0 h1 h2
  refine callsD_of_wpS Tryd.func35 rfl fun c₀ cs hu => ?_
  rw [show (#[Value.pointer (some ⟨p, 0, none⟩), .pointer (some ⟨p + 1, 0, none⟩), .pointer (some ⟨p + 2, 0, none⟩)] ++ Array.replicate (Tryd.f35.ntmps - #[Value.pointer (some ⟨p, 0, none⟩), .pointer (some ⟨p + 1, 0, none⟩), .pointer (some ⟨p + 2, 0, none⟩)].size) undef) = #[Value.pointer (some ⟨p, 0, none⟩), .pointer (some ⟨p + 1, 0, none⟩), .pointer (some ⟨p + 2, 0, none⟩), undef, undef, undef, undef, undef, undef, undef, undef, undef, undef, undef] from rfl]
  apply wpS_seq
  apply wpS_region
  simp [wpOpsS, go_sem, recoverD, hu, Exit.thenS]
  refine wpS_of_wp ?_
  unfold failV sentV
  have hta := fail_assert
  go_wp2_with fail
  clear hta
  have hl := H0.out.lt
  have hl1 := H1.out.lt
  have hl2 := H2.out.lt
  obtain ⟨b, hb⟩ : ∃ b, w.heap.size = b := ⟨_, rfl⟩
  refine wp_world (fun wz => Ext w wz ∧ wz.cell? ⟨b, 0, none⟩ = some (.iface 210 (.pointer (some a)))) ⟨(Ext.refl _).alloc _, by subst hb; exact (Bk.at (w := w) rfl).cell 0⟩ ?_
  rintro w1 ⟨hX, hc⟩
  rw [hb] at hl hl1 hl2 ⊢
  have HX := Lib.hid hX
  have k0 := (H0.out.ext hX).cell 0
  have k1 := (H1.out.ext hX).cell 0
  have k2 := (H2.out.ext hX).cell 0
  have f0 := (H0.out.ext hX).frozen 0
  have f1 := (H1.out.ext hX).frozen 0
  have f2 := (H2.out.ext hX).frozen 0
  have n0 : ¬ p = b := by omega
  have n1 : ¬ p + 1 = b := by omega
  have n2 : ¬ p + 2 = b := by omega
  clear hX hb hl hl1 hl2
  go_region
  all_goals (try go_wp2_with fail)
  all_goals exact ⟨rfl, _, rfl, .tuple #[], by simp [results, Tryd.results35], rfl, rfl, (HC.out w1 HX.out).drew⟩
end Go.Proofs.YtnhbjgmfbcedaaaDoor
