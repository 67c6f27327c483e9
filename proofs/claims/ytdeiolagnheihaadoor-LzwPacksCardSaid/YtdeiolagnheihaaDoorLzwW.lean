/- lzw.unpacker: word. -/
import Derived.Test.YtdeiolagnheihaaDoorLzwC
import Derived.Test.YtdeiolagnheihaaDoorAnyH
import Derived.Deep.AppendLies
import Derived.Deep.RegionHeld3
import Derived.RegionTactic
import Derived.Outline
import Derived.Deep.DeepCutAuto
import Derived.Deep.CutBlock
namespace Go.Proofs.YtdeiolagnheihaaDoor
open Go.RowKit
set_option maxRecDepth 100000
theorem addW_len (c : Nat) (L : List ByteArray) (last x : ByteArray) : (Lz.addW c L last x).length ≤ L.length + 1 := by
  unfold Lz.addW; split <;> simp
theorem word_cell {c n M : Nat} {L : List ByteArray} {last x : ByteArray} (hx : Lz.wordOf c L last n = some x) (hM : c + 2 + L.length = M) (hn : n < M) (h1 : n ≠ c) (h2 : n ≠ c + 1) : (wv c L)[n]? = some (.string x) := by
  unfold Lz.wordOf at hx
  by_cases h : n < c
  · rw [if_pos h] at hx; cases hx; exact wv_low L h
  · rw [if_neg h, if_pos (by omega)] at hx; exact wv_high (by omega) hx
theorem word_new {c n M : Nat} {L : List ByteArray} {last x : ByteArray} (hx : Lz.wordOf c L last n = some x) (hM : c + 2 + L.length = M) (hn : ¬ n < M) : n = M ∧ last.size ≠ 0 ∧ x = last ++ last.extract 0 1 := by
  unfold Lz.wordOf at hx
  rw [if_neg (by omega), if_neg (by omega)] at hx
  split at hx
  · rename_i h; exact ⟨by omega, h.2, by cases hx; rfl⟩
  · cases hx
set_option linter.unusedSimpArgs false in
set_option maxHeartbeats 2000000 in
theorem uword_none (U c n size : Nat) (v : Value) (L : List ByteArray) (last : ByteArray) (w : World) (hA : UAt w U v (c + 2 + L.length) (wv c L) (.int .i64 (size : Int)) (.string last)) (h1 : c + 2 + L.length ≤ n) (h2 : last.size ≠ 0 → n ≠ c + 2 + L.length) (hl : c + 2 + L.length ≤ 4096) (_hn : n < 1000000) :
    Calls Tryd.prog 48 #[.pointer (some ⟨U, 0, none⟩), .int .i64 (n : Int)] w fun e w' => e = .returned (.tuple #[.string ⟨#[]⟩, .bool false]) ∧ w = w' := by
  obtain ⟨M, hM⟩ : ∃ M, c + 2 + L.length = M := ⟨_, rfl⟩
  rw [hM] at hA hl h1 h2
  obtain ⟨gb, cap, rfl, hcap, hgl⟩ := ownsRow_some hA.row (by omega)
  have a0 := hA.bk.cell 0
  have a2 := hA.bk.cell 2
  clear hM hA hcap hgl
  by_cases hn : n = M
  · have hls : last.size = 0 := by cases Nat.eq_zero_or_pos last.size with | inl h => exact h | inr h => exact absurd hn (h2 (by omega))
    have e1 : last.toList.isEmpty = true := emp_yes last hls
    subst hn
    clear hls h2 h1
    go_enter Tryd.func48, Tryd.ntmps48
    go_wp2_with fail
    go_ret2
    exact ⟨rfl, rfl⟩
  · have t1 : ((n : Int) == (M : Int)) = false := beq_eq_false_iff_ne.2 (by omega)
    have t2 : ¬ (n : Int) < (M : Int) := by omega
    clear h2 h1 hn
    go_enter Tryd.func48, Tryd.ntmps48
    go_wp2_with fail
    go_ret2
    exact ⟨rfl, rfl⟩
set_option linter.unusedSimpArgs false in
set_option maxHeartbeats 2000000 in
theorem uword_any (U c n size : Nat) (v : Value) (L : List ByteArray) (last x : ByteArray) (w : World) (hA : UAt w U v (c + 2 + L.length) (wv c L) (.int .i64 (size : Int)) (.string last)) (hn1 : n ≠ c) (hn2 : n ≠ c + 1) (hx : Lz.wordOf c L last n = some x) (hl : c + 2 + L.length ≤ 4096) (hs : size ≤ 12) (hb1 : last.size ≤ 400000) (hb2 : x.size ≤ 400000) (hb0 : x.size ≠ 0) :
    Calls Tryd.prog 48 #[.pointer (some ⟨U, 0, none⟩), .int .i64 (n : Int)] w fun e w' => e = .returned (.tuple #[.string x, .bool true]) ∧ (∃ v', UAt w' U v' (c + 2 + (Lz.addW c L last x).length) (wv c (Lz.addW c L last x)) (.int .i64 ((Lz.sizeW c (Lz.addW c L last x) size : Nat) : Int)) (.string x) ∧ UStep w w' U v v') := by
  obtain ⟨i0, hi0, hz0, hz1, hz2⟩ := info_parts strinf
  obtain ⟨M, hM⟩ : ∃ M, c + 2 + L.length = M := ⟨_, rfl⟩
  have HM := Lib.hid hM
  have HX := Lib.hid hx
  rw [hM] at hA hl
  obtain ⟨gb, cap, rfl, hcap, hgl⟩ := ownsRow_some hA.row (by omega)
  have HA := Lib.hid hA
  have HN := Lib.hid (And.intro hn1 hn2)
  have a0 := hA.bk.cell 0
  have a2 := hA.bk.cell 2
  obtain ⟨R, hR⟩ : ∃ R, Lz.addW c L last x = R := ⟨_, rfl⟩
  obtain ⟨K, hK⟩ : ∃ K, c + 2 + R.length = K := ⟨_, rfl⟩
  obtain ⟨Z, hZ⟩ : ∃ Z, Lz.sizeW c R size = Z := ⟨_, rfl⟩
  rw [hR, hK, hZ]
  have HR := Lib.hid hR
  have HKK := Lib.hid hK
  have HZZ := Lib.hid hZ
  clear hR hK hZ
  clear hM hx hA hcap hgl hn1 hn2
  go_enter Tryd.func48, Tryd.ntmps48
  go_upto_block 0 with fail
  go_cut [6] (fun s6 wx => s6 = .string x ∧ Hid (Ext w wx))
  case first =>
    by_cases hlt : n < M
    · have hc : w.cell? ⟨gb, n, none⟩ = some (.string x) := by
        rw [HA.out.row.cellAt n (by omega)]
        exact word_cell HX.out HM.out hlt HN.out.1 HN.out.2
      have hni : (n : Int) < (M : Int) := by omega
      go_wp2_with fail
      go_meet
      exact ⟨rfl, Lib.hid (Ext.refl _)⟩
    · obtain ⟨hnM, hls, hxe⟩ := word_new HX.out HM.out hlt
      subst hnM
      have e1 : last.toList.isEmpty = false := emp_no last hls
      have hl1 : (1 : Int) ≤ (last.size : Int) := by omega
      obtain ⟨z, hz⟩ : ∃ z, last.extract 0 1 = z := ⟨_, rfl⟩
      have hzs : z.size = 1 := by rw [← hz, ByteArray.size_extract]; omega
      have hov : ¬ 9223372036854775807 < last.size + z.size := by omega
      have HXE := Lib.hid hxe
      have HZ := Lib.hid hz
      clear hxe hls hlt
      go_wp2_with fail
      go_quiet (fail)
      go_wp2_with fail
      go_meet
      exact ⟨by rw [HXE.out, HZ.out], Lib.hid (by repeat (first | exact Ext.refl _ | refine Ext.drewN ?_ _))⟩
  case rest =>
    obtain ⟨rfl, HX1⟩ := hcut
    have HA1 := Lib.hid (HA.out.ext HX1.out)
    obtain ⟨ab, hab⟩ : ∃ ab, decide (last.size ≠ 0 ∧ M < 4096) = ab := ⟨_, rfl⟩
    have HAB := Lib.hid hab
    clear hab
    go_upto_region 7 with fail
    go_cut [59] (fun s59 wx => s59 = .bool ab ∧ Hid (Ext w wx))
    case first =>
      have a0 := HA1.out.bk.cell 0
      have a2 := HA1.out.bk.cell 2
      by_cases hls : last.size = 0
      · have e1 : last.toList.isEmpty = true := emp_yes last hls
        have HF : Hid (ab = false) := Lib.hid (by rw [← HAB.out]; exact decide_eq_false (by omega))
        clear hls
        go_wp2_with fail
        go_meet
        exact ⟨by rw [HF.out], HX1⟩
      · have e1 : last.toList.isEmpty = false := emp_no last hls
        by_cases hf : (M : Int) < 4096
        · have HF : Hid (ab = true) := Lib.hid (by rw [← HAB.out]; exact decide_eq_true ⟨hls, by omega⟩)
          clear hls
          go_wp2_with fail
          go_meet
          exact ⟨by rw [HF.out], HX1⟩
        · have HF : Hid (ab = false) := Lib.hid (by rw [← HAB.out]; exact decide_eq_false (by omega))
          clear hls
          go_wp2_with fail
          go_meet
          exact ⟨by rw [HF.out], HX1⟩
    case rest =>
      clear HX1 HA1
      obtain ⟨rfl, HX1⟩ := hcut
      have HA1 := Lib.hid (HA.out.ext HX1.out)
      clear HA
      go_upto_if 59 with fail
      go_cut [60] (fun s60 wx => ∃ v', Hid (UAt wx U v' K (wv c R) (.int .i64 (size : Int)) (.string last)) ∧ Hid (UStep w wx U (.slice (some ⟨gb, 0, none⟩) M cap) v'))
      case first =>
        have a0 := HA1.out.bk.cell 0
        have a2 := HA1.out.bk.cell 2
        cases ab
        · have hls := of_decide_eq_false HAB.out
          have hRL : R = L := by rw [← HR.out]; unfold Lz.addW; rw [if_neg (by have := HM.out; omega)]
          have hKM : K = M := by rw [← HKK.out, hRL, HM.out]
          subst hRL
          subst hKM
          clear hls
          go_wp2_with fail
          go_meet
          exact ⟨_, HA1, Lib.hid (UStep.ext HX1.out)⟩
        · obtain ⟨hls, hf⟩ := of_decide_eq_true HAB.out
          have hfi : (M : Int) < 4096 := by omega
          obtain ⟨z, hz⟩ : ∃ z, x.extract 0 1 = z := ⟨_, rfl⟩
          have hzs : z.size = 1 := by rw [← hz, ByteArray.size_extract]; omega
          have hRL : R = L ++ [last ++ z] := by rw [← HR.out, ← hz]; unfold Lz.addW; rw [if_pos (by have := HM.out; omega)]
          have hKM : K = M + 1 := by rw [← HKK.out, hRL, List.length_append, List.length_singleton, ← HM.out]; omega
          subst hRL
          subst hKM
          have hov : ¬ 9223372036854775807 < last.size + 1 := by omega
          have hx1 : (1 : Int) ≤ (x.size : Int) := by omega
          have HZ := Lib.hid hz
          clear hls
          go_wp2_with fail
          have B_0 := Lib.hid (HA1.out.bk)
          have Y_0 := Lib.hid (Ext.refl wc)
          refine wp_region_held_drew (S := fun w' => True) (by kernel_rfl) trivial (fun hHeld => ?_)
          clear hHeld
          refine anyH_world (fun wz => Ext wc wz) (show Ext wc wc.drew from Below.drew (Ext.refl wc)) ?_
          rintro w1 h
          have B_1 := Lib.hid (B_0.out.ext h)
          have Y_1 := Lib.hid (Y_0.out.trans h)
          clear h B_0 Y_0
          have hHeld : True := trivial
          refine wpAnyH_take (i := 0) (v := ?_) rfl (by kernel_rfl) (by kernel_rfl) (by kernel_rfl) (fun _ _ _ h => h) (Or.inl ⟨by kernel_rfl, ?_⟩) hHeld ?_
          rotate_left
          · intro w hSw
            (try dsimp only at hSw)
            go_split_ands
            go_simp
            (try with_reducible rfl)
          try simp only [Act.put, List.getElem_toArray, List.getElem_cons_succ, List.getElem_cons_zero, List.setIfInBounds_toArray, List.set_cons_zero, List.set_cons_succ]
          refine wpAnyH_take (i := 1) (v := ?_) rfl (by kernel_rfl) (by kernel_rfl) (by kernel_rfl) (fun _ _ _ h => h) (Or.inl ⟨by kernel_rfl, ?_⟩) hHeld ?_
          rotate_left
          · intro w hSw
            (try dsimp only at hSw)
            go_split_ands
            go_simp
            (try with_reducible rfl)
          try simp only [Act.put, List.getElem_toArray, List.getElem_cons_succ, List.getElem_cons_zero, List.setIfInBounds_toArray, List.set_cons_zero, List.set_cons_succ]
          refine wpAnyH_take (i := 2) (v := ?_) rfl (by kernel_rfl) (by kernel_rfl) (by kernel_rfl) (fun _ _ _ h => h) (Or.inl ⟨by kernel_rfl, ?_⟩) hHeld ?_
          rotate_left
          · intro w hSw
            (try dsimp only at hSw)
            go_split_ands
            go_simp
            (try with_reducible rfl)
          try simp only [Act.put, List.getElem_toArray, List.getElem_cons_succ, List.getElem_cons_zero, List.setIfInBounds_toArray, List.set_cons_zero, List.set_cons_succ]
          refine wpAnyH_take (i := 3) (v := ?_) rfl (by kernel_rfl) (by kernel_rfl) (by kernel_rfl) (fun _ _ _ h => h) (Or.inl ⟨by kernel_rfl, ?_⟩) hHeld ?_
          rotate_left
          · intro w hSw
            (try dsimp only at hSw)
            go_split_ands
            go_simp
            (try with_reducible rfl)
          try simp only [Act.put, List.getElem_toArray, List.getElem_cons_succ, List.getElem_cons_zero, List.setIfInBounds_toArray, List.set_cons_zero, List.set_cons_succ]
          refine wpAnyH_take (i := 5) (v := ?_) rfl (by kernel_rfl) (by kernel_rfl) (by kernel_rfl) (fun _ _ _ h => h) (Or.inl ⟨by kernel_rfl, ?_⟩) hHeld ?_
          rotate_left
          · intro w hSw
            (try dsimp only at hSw)
            go_split_ands
            go_simp
            (try with_reducible rfl)
          try simp only [Act.put, List.getElem_toArray, List.getElem_cons_succ, List.getElem_cons_zero, List.setIfInBounds_toArray, List.set_cons_zero, List.set_cons_succ]
          refine wpAnyH_take (i := 6) (v := ?_) rfl (by kernel_rfl) (by kernel_rfl) (by kernel_rfl) (fun _ _ _ h => h) (Or.inl ⟨by kernel_rfl, ?_⟩) hHeld ?_
          rotate_left
          · intro w hSw
            (try dsimp only at hSw)
            go_split_ands
            go_simp
            (try with_reducible rfl)
          try simp only [Act.put, List.getElem_toArray, List.getElem_cons_succ, List.getElem_cons_zero, List.setIfInBounds_toArray, List.set_cons_zero, List.set_cons_succ]
          refine wpAnyH_take (i := 7) (v := ?_) rfl (by kernel_rfl) (by kernel_rfl) (by kernel_rfl) (fun _ _ _ h => h) (Or.inl ⟨by kernel_rfl, ?_⟩) hHeld ?_
          rotate_left
          · intro w hSw
            (try dsimp only at hSw)
            go_split_ands
            go_simp
            (try with_reducible rfl)
          try simp only [Act.put, List.getElem_toArray, List.getElem_cons_succ, List.getElem_cons_zero, List.setIfInBounds_toArray, List.set_cons_zero, List.set_cons_succ]
          refine wpAnyH_take (i := 9) (v := ?_) rfl (by kernel_rfl) (by kernel_rfl) (by kernel_rfl) (fun _ _ _ h => h) (Or.inl ⟨by kernel_rfl, ?_⟩) hHeld ?_
          rotate_left
          · intro w hSw
            (try dsimp only at hSw)
            go_split_ands
            go_simp
            (try with_reducible rfl)
          try simp only [Act.put, List.getElem_toArray, List.getElem_cons_succ, List.getElem_cons_zero, List.setIfInBounds_toArray, List.set_cons_zero, List.set_cons_succ]
          refine wpAnyH_take (i := 10) (v := ?_) rfl (by kernel_rfl) (by kernel_rfl) (by kernel_rfl) (fun _ _ _ h => h) (Or.inl ⟨by kernel_rfl, ?_⟩) hHeld ?_
          rotate_left
          · intro w hSw
            (try dsimp only at hSw)
            go_split_ands
            go_simp
            (try with_reducible rfl)
          try simp only [Act.put, List.getElem_toArray, List.getElem_cons_succ, List.getElem_cons_zero, List.setIfInBounds_toArray, List.set_cons_zero, List.set_cons_succ]
          refine wpAnyH_ready (rs := [4, 8]) (by kernel_rfl) (by simp) ?_
          refine AllReadyH.cons rfl (fun KK hK => ?_) (AllReadyH.cons rfl (fun KK hK => ?_) AllReadyH.nil)
          · clear hHeld
            have t0 := B_1.out.cell 0
            go_simp
            clear t0
            refine hK.out _ _ trivial (fun hHeld => ?_)
            clear hK KK
            try simp only [Act.put, List.getElem_toArray, List.getElem_cons_succ, List.getElem_cons_zero, List.setIfInBounds_toArray, List.set_cons_zero, List.set_cons_succ]
            refine wpAnyH_ready (rs := [8]) (by kernel_rfl) (by simp) ?_
            refine AllReadyH.cons rfl (fun KK hK => ?_) AllReadyH.nil
            clear hHeld
            have t0 := B_1.out.cell 2
            go_simp
            clear t0
            refine hK.out _ _ trivial (fun hHeld => ?_)
            clear hK KK
            try simp only [Act.put, List.getElem_toArray, List.getElem_cons_succ, List.getElem_cons_zero, List.setIfInBounds_toArray, List.set_cons_zero, List.set_cons_succ]
            refine wpAnyH_take (i := 11) (v := ?_) rfl (by kernel_rfl) (by kernel_rfl) (by kernel_rfl) (fun _ _ _ h => h) (Or.inl ⟨by kernel_rfl, ?_⟩) hHeld ?_
            rotate_left
            · intro w hSw
              (try dsimp only at hSw)
              go_split_ands
              go_simp
              (try with_reducible rfl)
            try simp only [Act.put, List.getElem_toArray, List.getElem_cons_succ, List.getElem_cons_zero, List.setIfInBounds_toArray, List.set_cons_zero, List.set_cons_succ]
            refine wpAnyH_ready (rs := [12]) (by kernel_rfl) (by simp) ?_
            refine AllReadyH.cons rfl (fun KK hK => ?_) AllReadyH.nil
            clear hHeld
            go_simp
            refine hK.out _ _ trivial (fun hHeld => ?_)
            clear hK KK hHeld
            try simp only [Act.put, List.getElem_toArray, List.getElem_cons_succ, List.getElem_cons_zero, List.setIfInBounds_toArray, List.set_cons_zero, List.set_cons_succ]
            have NE_B_T2 := Lib.hid (Nat.ne_of_lt B_1.out.lt)
            refine anyH_world (fun wz => Ext w1 wz ∧ Bk wz w1.heap.size #[.string (last ++ z)]) ⟨Ext.alloc (Ext.refl _) _, Bk.at rfl⟩ ?_
            rintro w2 ⟨h, hB⟩
            have B_2 := Lib.hid (B_1.out.ext h)
            have Y_2 := Lib.hid (Y_1.out.trans h)
            clear h B_1 Y_1
            have T2_2 := Lib.hid (hB)
            clear hB
            have hHeld : True := trivial
            refine wpAnyH_ready (rs := [13]) (by kernel_rfl) (by simp) ?_
            refine AllReadyH.cons rfl (fun KK hK => ?_) AllReadyH.nil
            clear hHeld
            have HQ := Lib.hid (HA1.out.ext Y_2.out)
            have hz := Y_2.out.size
            refine step_append_lies _ rfl (.tmp 64) (.tmp 72) 86 rfl 0 9 i0 (.string ⟨#[]⟩) 1 16 Tryd.underlying86 hi0 hz0 hz1 hz2 rfl (by decide) (.slice (some ⟨gb, 0, none⟩) M cap) M (wv c L) (by simp [Act.eval]) HQ.out.row ⟨w1.heap.size, 0, none⟩ 1 1 [.string (last ++ z)] (by simp [Act.eval]) rfl (fun j u hu => ?c1) (by intro u hu; simp at hu; subst hu; rfl) (by omega) (by unfold maxLen; omega) (by omega) (by omega) _ rfl ?_
            case c1 =>
              obtain rfl : j = 0 := by have := (List.getElem?_eq_some_iff.1 hu).1; simpa using this
              rw [add_plain, T2_2.out.cell 0]; exact hu
            intro g1 cap1 w2 hown1 hgrow1 hat1 hlt1
            have P := HA1.out.push Y_2.out hgrow1 hown1 hat1
            obtain ⟨hB2, hA2, hS2⟩ := P
            rw [← wv_push] at hA2
            have B_9 := Lib.hid hB2
            have HA2 := Lib.hid hA2
            have HS2 := Lib.hid ((UStep.ext HX1.out).trans hS2)
            clear hown1 hgrow1 hat1 hlt1 hA2 hB2 hS2 HQ hz
            clear B_2 Y_2 T2_2
            refine hK.out _ _ trivial (fun hHeld => ?_)
            clear hK KK
            try simp only [Act.put, List.getElem_toArray, List.getElem_cons_succ, List.getElem_cons_zero, List.setIfInBounds_toArray, List.set_cons_zero, List.set_cons_succ]
            refine wpAnyH_take (i := 14) (v := ?_) rfl (by kernel_rfl) (by kernel_rfl) (by kernel_rfl) (fun _ _ _ h => h) (Or.inl ⟨by kernel_rfl, ?_⟩) hHeld ?_
            rotate_left
            · intro w hSw
              (try dsimp only at hSw)
              go_split_ands
              go_simp
              (try with_reducible rfl)
            try simp only [Act.put, List.getElem_toArray, List.getElem_cons_succ, List.getElem_cons_zero, List.setIfInBounds_toArray, List.set_cons_zero, List.set_cons_succ]
            refine wpAnyH_take (i := 15) (v := ?_) rfl (by kernel_rfl) (by kernel_rfl) (by kernel_rfl) (fun _ _ _ h => h) (Or.inl ⟨by kernel_rfl, ?_⟩) hHeld ?_
            rotate_left
            · intro w hSw
              (try dsimp only at hSw)
              go_split_ands
              go_simp
              (try with_reducible rfl)
            try simp only [Act.put, List.getElem_toArray, List.getElem_cons_succ, List.getElem_cons_zero, List.setIfInBounds_toArray, List.set_cons_zero, List.set_cons_succ]
            refine wpAnyH_ready (rs := [16]) (by kernel_rfl) (by simp) ?_
            refine AllReadyH.cons rfl (fun KK hK => ?_) AllReadyH.nil
            clear hHeld
            have t0 := B_9.out.cell 0
            have f0 := B_9.out.frozen 0
            go_simp
            clear t0 f0
            refine hK.out _ _ trivial (fun hHeld => ?_)
            clear hK KK
            try simp only [Act.put, List.getElem_toArray, List.getElem_cons_succ, List.getElem_cons_zero, List.setIfInBounds_toArray, List.set_cons_zero, List.set_cons_succ]
            refine wpAnyH_done (by kernel_rfl) ?_ _
            clear hHeld
            go_wp2_with fail
            go_meet
            exact ⟨_, HA2, HS2⟩
          · clear hHeld
            have t0 := B_1.out.cell 2
            go_simp
            clear t0
            refine hK.out _ _ trivial (fun hHeld => ?_)
            clear hK KK
            try simp only [Act.put, List.getElem_toArray, List.getElem_cons_succ, List.getElem_cons_zero, List.setIfInBounds_toArray, List.set_cons_zero, List.set_cons_succ]
            refine wpAnyH_take (i := 11) (v := ?_) rfl (by kernel_rfl) (by kernel_rfl) (by kernel_rfl) (fun _ _ _ h => h) (Or.inl ⟨by kernel_rfl, ?_⟩) hHeld ?_
            rotate_left
            · intro w hSw
              (try dsimp only at hSw)
              go_split_ands
              go_simp
              (try with_reducible rfl)
            try simp only [Act.put, List.getElem_toArray, List.getElem_cons_succ, List.getElem_cons_zero, List.setIfInBounds_toArray, List.set_cons_zero, List.set_cons_succ]
            refine wpAnyH_ready (rs := [4, 12]) (by kernel_rfl) (by simp) ?_
            refine AllReadyH.cons rfl (fun KK hK => ?_) (AllReadyH.cons rfl (fun KK hK => ?_) AllReadyH.nil)
            · clear hHeld
              have t0 := B_1.out.cell 0
              go_simp
              clear t0
              refine hK.out _ _ trivial (fun hHeld => ?_)
              clear hK KK
              try simp only [Act.put, List.getElem_toArray, List.getElem_cons_succ, List.getElem_cons_zero, List.setIfInBounds_toArray, List.set_cons_zero, List.set_cons_succ]
              refine wpAnyH_ready (rs := [12]) (by kernel_rfl) (by simp) ?_
              refine AllReadyH.cons rfl (fun KK hK => ?_) AllReadyH.nil
              clear hHeld
              go_simp
              refine hK.out _ _ trivial (fun hHeld => ?_)
              clear hK KK hHeld
              try simp only [Act.put, List.getElem_toArray, List.getElem_cons_succ, List.getElem_cons_zero, List.setIfInBounds_toArray, List.set_cons_zero, List.set_cons_succ]
              have NE_B_T2 := Lib.hid (Nat.ne_of_lt B_1.out.lt)
              refine anyH_world (fun wz => Ext w1 wz ∧ Bk wz w1.heap.size #[.string (last ++ z)]) ⟨Ext.alloc (Ext.refl _) _, Bk.at rfl⟩ ?_
              rintro w2 ⟨h, hB⟩
              have B_2 := Lib.hid (B_1.out.ext h)
              have Y_2 := Lib.hid (Y_1.out.trans h)
              clear h B_1 Y_1
              have T2_2 := Lib.hid (hB)
              clear hB
              have hHeld : True := trivial
              refine wpAnyH_ready (rs := [13]) (by kernel_rfl) (by simp) ?_
              refine AllReadyH.cons rfl (fun KK hK => ?_) AllReadyH.nil
              clear hHeld
              have HQ := Lib.hid (HA1.out.ext Y_2.out)
              have hz := Y_2.out.size
              refine step_append_lies _ rfl (.tmp 64) (.tmp 72) 86 rfl 0 9 i0 (.string ⟨#[]⟩) 1 16 Tryd.underlying86 hi0 hz0 hz1 hz2 rfl (by decide) (.slice (some ⟨gb, 0, none⟩) M cap) M (wv c L) (by simp [Act.eval]) HQ.out.row ⟨w1.heap.size, 0, none⟩ 1 1 [.string (last ++ z)] (by simp [Act.eval]) rfl (fun j u hu => ?c1) (by intro u hu; simp at hu; subst hu; rfl) (by omega) (by unfold maxLen; omega) (by omega) (by omega) _ rfl ?_
              case c1 =>
                obtain rfl : j = 0 := by have := (List.getElem?_eq_some_iff.1 hu).1; simpa using this
                rw [add_plain, T2_2.out.cell 0]; exact hu
              intro g1 cap1 w2 hown1 hgrow1 hat1 hlt1
              have P := HA1.out.push Y_2.out hgrow1 hown1 hat1
              obtain ⟨hB2, hA2, hS2⟩ := P
              rw [← wv_push] at hA2
              have B_9 := Lib.hid hB2
              have HA2 := Lib.hid hA2
              have HS2 := Lib.hid ((UStep.ext HX1.out).trans hS2)
              clear hown1 hgrow1 hat1 hlt1 hA2 hB2 hS2 HQ hz
              clear B_2 Y_2 T2_2
              refine hK.out _ _ trivial (fun hHeld => ?_)
              clear hK KK
              try simp only [Act.put, List.getElem_toArray, List.getElem_cons_succ, List.getElem_cons_zero, List.setIfInBounds_toArray, List.set_cons_zero, List.set_cons_succ]
              refine wpAnyH_take (i := 14) (v := ?_) rfl (by kernel_rfl) (by kernel_rfl) (by kernel_rfl) (fun _ _ _ h => h) (Or.inl ⟨by kernel_rfl, ?_⟩) hHeld ?_
              rotate_left
              · intro w hSw
                (try dsimp only at hSw)
                go_split_ands
                go_simp
                (try with_reducible rfl)
              try simp only [Act.put, List.getElem_toArray, List.getElem_cons_succ, List.getElem_cons_zero, List.setIfInBounds_toArray, List.set_cons_zero, List.set_cons_succ]
              refine wpAnyH_take (i := 15) (v := ?_) rfl (by kernel_rfl) (by kernel_rfl) (by kernel_rfl) (fun _ _ _ h => h) (Or.inl ⟨by kernel_rfl, ?_⟩) hHeld ?_
              rotate_left
              · intro w hSw
                (try dsimp only at hSw)
                go_split_ands
                go_simp
                (try with_reducible rfl)
              try simp only [Act.put, List.getElem_toArray, List.getElem_cons_succ, List.getElem_cons_zero, List.setIfInBounds_toArray, List.set_cons_zero, List.set_cons_succ]
              refine wpAnyH_ready (rs := [16]) (by kernel_rfl) (by simp) ?_
              refine AllReadyH.cons rfl (fun KK hK => ?_) AllReadyH.nil
              clear hHeld
              have t0 := B_9.out.cell 0
              have f0 := B_9.out.frozen 0
              go_simp
              clear t0 f0
              refine hK.out _ _ trivial (fun hHeld => ?_)
              clear hK KK
              try simp only [Act.put, List.getElem_toArray, List.getElem_cons_succ, List.getElem_cons_zero, List.setIfInBounds_toArray, List.set_cons_zero, List.set_cons_succ]
              refine wpAnyH_done (by kernel_rfl) ?_ _
              clear hHeld
              go_wp2_with fail
              go_meet
              exact ⟨_, HA2, HS2⟩
            · clear hHeld
              go_simp
              refine hK.out _ _ trivial (fun hHeld => ?_)
              clear hK KK hHeld
              try simp only [Act.put, List.getElem_toArray, List.getElem_cons_succ, List.getElem_cons_zero, List.setIfInBounds_toArray, List.set_cons_zero, List.set_cons_succ]
              have NE_B_T2 := Lib.hid (Nat.ne_of_lt B_1.out.lt)
              refine anyH_world (fun wz => Ext w1 wz ∧ Bk wz w1.heap.size #[.string (last ++ z)]) ⟨Ext.alloc (Ext.refl _) _, Bk.at rfl⟩ ?_
              rintro w2 ⟨h, hB⟩
              have B_2 := Lib.hid (B_1.out.ext h)
              have Y_2 := Lib.hid (Y_1.out.trans h)
              clear h B_1 Y_1
              have T2_2 := Lib.hid (hB)
              clear hB
              have hHeld : True := trivial
              refine wpAnyH_ready (rs := [4]) (by kernel_rfl) (by simp) ?_
              refine AllReadyH.cons rfl (fun KK hK => ?_) AllReadyH.nil
              clear hHeld
              have t0 := B_2.out.cell 0
              go_simp
              clear t0
              refine hK.out _ _ trivial (fun hHeld => ?_)
              clear hK KK
              try simp only [Act.put, List.getElem_toArray, List.getElem_cons_succ, List.getElem_cons_zero, List.setIfInBounds_toArray, List.set_cons_zero, List.set_cons_succ]
              refine wpAnyH_ready (rs := [13]) (by kernel_rfl) (by simp) ?_
              refine AllReadyH.cons rfl (fun KK hK => ?_) AllReadyH.nil
              clear hHeld
              have HQ := Lib.hid (HA1.out.ext Y_2.out)
              have hz := Y_2.out.size
              refine step_append_lies _ rfl (.tmp 64) (.tmp 72) 86 rfl 0 9 i0 (.string ⟨#[]⟩) 1 16 Tryd.underlying86 hi0 hz0 hz1 hz2 rfl (by decide) (.slice (some ⟨gb, 0, none⟩) M cap) M (wv c L) (by simp [Act.eval]) HQ.out.row ⟨w1.heap.size, 0, none⟩ 1 1 [.string (last ++ z)] (by simp [Act.eval]) rfl (fun j u hu => ?c1) (by intro u hu; simp at hu; subst hu; rfl) (by omega) (by unfold maxLen; omega) (by omega) (by omega) _ rfl ?_
              case c1 =>
                obtain rfl : j = 0 := by have := (List.getElem?_eq_some_iff.1 hu).1; simpa using this
                rw [add_plain, T2_2.out.cell 0]; exact hu
              intro g1 cap1 w2 hown1 hgrow1 hat1 hlt1
              have P := HA1.out.push Y_2.out hgrow1 hown1 hat1
              obtain ⟨hB2, hA2, hS2⟩ := P
              rw [← wv_push] at hA2
              have B_9 := Lib.hid hB2
              have HA2 := Lib.hid hA2
              have HS2 := Lib.hid ((UStep.ext HX1.out).trans hS2)
              clear hown1 hgrow1 hat1 hlt1 hA2 hB2 hS2 HQ hz
              clear B_2 Y_2 T2_2
              refine hK.out _ _ trivial (fun hHeld => ?_)
              clear hK KK
              try simp only [Act.put, List.getElem_toArray, List.getElem_cons_succ, List.getElem_cons_zero, List.setIfInBounds_toArray, List.set_cons_zero, List.set_cons_succ]
              refine wpAnyH_take (i := 14) (v := ?_) rfl (by kernel_rfl) (by kernel_rfl) (by kernel_rfl) (fun _ _ _ h => h) (Or.inl ⟨by kernel_rfl, ?_⟩) hHeld ?_
              rotate_left
              · intro w hSw
                (try dsimp only at hSw)
                go_split_ands
                go_simp
                (try with_reducible rfl)
              try simp only [Act.put, List.getElem_toArray, List.getElem_cons_succ, List.getElem_cons_zero, List.setIfInBounds_toArray, List.set_cons_zero, List.set_cons_succ]
              refine wpAnyH_take (i := 15) (v := ?_) rfl (by kernel_rfl) (by kernel_rfl) (by kernel_rfl) (fun _ _ _ h => h) (Or.inl ⟨by kernel_rfl, ?_⟩) hHeld ?_
              rotate_left
              · intro w hSw
                (try dsimp only at hSw)
                go_split_ands
                go_simp
                (try with_reducible rfl)
              try simp only [Act.put, List.getElem_toArray, List.getElem_cons_succ, List.getElem_cons_zero, List.setIfInBounds_toArray, List.set_cons_zero, List.set_cons_succ]
              refine wpAnyH_ready (rs := [16]) (by kernel_rfl) (by simp) ?_
              refine AllReadyH.cons rfl (fun KK hK => ?_) AllReadyH.nil
              clear hHeld
              have t0 := B_9.out.cell 0
              have f0 := B_9.out.frozen 0
              go_simp
              clear t0 f0
              refine hK.out _ _ trivial (fun hHeld => ?_)
              clear hK KK
              try simp only [Act.put, List.getElem_toArray, List.getElem_cons_succ, List.getElem_cons_zero, List.setIfInBounds_toArray, List.set_cons_zero, List.set_cons_succ]
              refine wpAnyH_done (by kernel_rfl) ?_ _
              clear hHeld
              go_wp2_with fail
              go_meet
              exact ⟨_, HA2, HS2⟩
      case rest =>
        clear HA1 HX1 HAB
        obtain ⟨v2, HA1, HS1⟩ := hcut
        obtain ⟨D, hD⟩ : ∃ D : Nat, 2 ^ size = D := ⟨_, rfl⟩
        have hDl : D ≤ 4096 := by rw [← hD]; exact Nat.le_trans (Nat.pow_le_pow_right (by decide) hs) (by decide)
        have hDI := pow_int hD
        have HD := Lib.hid hD
        clear hD
        have hKl : K ≤ 4097 := by have e1 := HKK.out; have e3 := HM.out; have e4 := addW_len c L last x; rw [HR.out] at e4; omega
        have hK0 : 0 < K := by have e1 := HKK.out; omega
        obtain ⟨g2, cap2, rfl, hcap2, hgl2⟩ := ownsRow_some HA1.out.row hK0
        clear hcap2 hgl2
        have HZE : Hid (Z = if K = D ∧ size < 12 then size + 1 else size) := Lib.hid (by rw [← HZZ.out, ← HD.out, ← HKK.out]; rfl)
        have a0 := HA1.out.bk.cell 0
        have a1 := HA1.out.bk.cell 1
        have a2 := HA1.out.bk.cell 2
        have f1 := HA1.out.bk.frozen 1
        have f2 := HA1.out.bk.frozen 2
        have hw1 : IntKind.i64.wrap ((2 : Int) ^ size) = (D : Int) := by rw [hDI]; unfold IntKind.wrap; simp [IntKind.bits, IntKind.signed]; omega
        by_cases hg : K = D
        · have t1 : ((K : Int) == (D : Int)) = true := beq_iff_eq.2 (by omega)
          by_cases h12 : (size : Int) < 12
          · have HE : Hid (Z = size + 1) := Lib.hid (by rw [HZE.out]; exact if_pos ⟨hg, by omega⟩)
            have P1 := (HA1.out.set1 (.int .i64 ((size : Int) + 1)))
            have P2 := P1.1.set2 (.string x)
            have HP := Lib.hid P2.1
            have HQ := Lib.hid ((HS1.out.trans P1.2).trans P2.2)
            clear P1 P2 hg
            go_wp2_with fail
            go_quiet (fail)
            go_wp2_with fail
            go_ret2
            exact ⟨rfl, _, by rw [HE.out]; exact HP.out.same, HQ.out.same⟩
          · have HE : Hid (Z = size) := Lib.hid (by rw [HZE.out]; exact if_neg (fun h => by omega))
            clear hg
            have P2 := (HA1.out.set2 (.string x))
            have HP := Lib.hid P2.1
            have HQ := Lib.hid (HS1.out.trans P2.2)
            clear P2
            go_wp2_with fail
            go_quiet (fail)
            go_wp2_with fail
            go_ret2
            exact ⟨rfl, _, by rw [HE.out]; exact HP.out.same, HQ.out.same⟩
        · have t1 : ((K : Int) == (D : Int)) = false := beq_eq_false_iff_ne.2 (by omega)
          have HE : Hid (Z = size) := Lib.hid (by rw [HZE.out]; exact if_neg (fun h => hg h.1))
          clear hg
          have P2 := (HA1.out.set2 (.string x))
          have HP := Lib.hid P2.1
          have HQ := Lib.hid (HS1.out.trans P2.2)
          clear P2
          go_wp2_with fail
          go_quiet (fail)
          go_wp2_with fail
          go_ret2
          exact ⟨rfl, _, by rw [HE.out]; exact HP.out.same, HQ.out.same⟩
end Go.Proofs.YtdeiolagnheihaaDoor
