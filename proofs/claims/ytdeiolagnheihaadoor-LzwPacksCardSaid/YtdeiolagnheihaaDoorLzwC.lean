/- lzw.unpacker: clear. -/
import Derived.Test.YtdeiolagnheihaaDoorLzwU
import Derived.Test.YtdeiolagnheihaaDoorAnyH
import Derived.Deep.AppendLies
import Derived.Deep.RegionHeld3
import Derived.RegionTactic
import Derived.Outline
import Derived.Deep.DeepCutAuto
import Derived.Deep.CutBlock
namespace Go.Proofs.YtdeiolagnheihaaDoor
open Go.RowKit
set_option maxRecDepth 100000
theorem pow_bds {wd c : Nat} (hc : 2 ^ wd = c) (h2 : 2 ≤ wd) (h8 : wd ≤ 8) : 4 ≤ c ∧ c ≤ 256 := by
  rcases (show wd = 2 ∨ wd = 3 ∨ wd = 4 ∨ wd = 5 ∨ wd = 6 ∨ wd = 7 ∨ wd = 8 by omega) with h | h | h | h | h | h | h <;> subst h <;> omega
theorem pow_int {wd c : Nat} (hc : 2 ^ wd = c) : (2 : Int) ^ wd = (c : Int) := by rw [← hc]; simp
theorem pow_wrap {wd c : Nat} (hc : 2 ^ wd = c) (h8 : wd ≤ 8) : wrap64 ((2 : Int) ^ wd) = (c : Int) := by
  have h : c ≤ 2 ^ 8 := by rw [← hc]; exact Nat.pow_le_pow_right (by decide) h8
  rw [pow_int hc]; exact IntWalk.wrap64_in _ ⟨by omega, by omega⟩
set_option linter.unusedSimpArgs false in
set_option maxHeartbeats 2000000 in
theorem uclear_any (U wd : Nat) (v x y : Value) (w : World) (h2 : 2 ≤ wd) (h8 : wd ≤ 8) (hB : Bk w U #[v, x, y]) :
    Calls Tryd.prog 45 #[.pointer (some ⟨U, 0, none⟩), .int .i64 (wd : Int)] w fun e w' => e = .returned (.tuple #[]) ∧ (∃ v', UAt w' U v' (2 ^ wd + 2) (wv (2 ^ wd) []) (.int .i64 ((wd : Int) + 1)) (.string ⟨#[]⟩) ∧ Keeps (fun k => k = U) w w' ∧ ∀ k, v'.ownBlock = some k → w.heap.size ≤ k) := by
  obtain ⟨i0, hi0, hz0, hz1, hz2⟩ := info_parts strinf
  obtain ⟨c, hc⟩ : ∃ c : Nat, 2 ^ wd = c := ⟨_, rfl⟩
  have hp := pow_int hc
  have hc4 : 4 ≤ c ∧ c ≤ 256 := pow_bds hc h2 h8
  obtain ⟨hcl, hch⟩ := hc4
  rw [hc]
  clear hc
  have c0 := hB.cell 0
  have f0 := hB.frozen 0
  have P := UAt.set0 hB
  have HA := Lib.hid P.1
  have HK := Lib.hid P.2
  clear P hB
  go_enter Tryd.func45, Tryd.ntmps45
  go_wp2_with fail
  clear c0 f0 hp
  refine wp_world (fun wz => UAt wz U (.slice none 0 0) 0 [] x y ∧ Keeps (fun k => k = U) w wz) ⟨HA.out, HK.out⟩ ?_
  clear HA HK
  rintro w1 ⟨hA, hK⟩
  have HA := Lib.hid hA
  have HK := Lib.hid hK
  clear hA hK
  go_loopw [10] (fun i wr => ∃ (k : Nat) (v : Value), k ≤ c ∧ i = .int .i64 k ∧ Hid (UAt wr U v k (rngV k) x y) ∧ Hid (UStep w1 wr U (.slice none 0 0) v)) (fun i _ => c - (intOf i).toNat)
  case atStart => exact ⟨0, _, by omega, rfl, HA, Lib.hid (UStep.refl _ _ _)⟩
  case round =>
    clear HA
    obtain ⟨k, v, hk, rfl, HA, HS⟩ := hrel
    obtain ⟨xo, co, rfl⟩ := lit_row HA.out.row
    by_cases hlt : k < c
    · have hw8 : IntKind.u8.wrap (k : Int) = (k : Int) := by unfold IntKind.wrap; simp [IntKind.bits, IntKind.signed]; omega
      go_wp2_with fail
      have B_0 := Lib.hid (HA.out.bk)
      have Y_0 := Lib.hid (Ext.refl wr)
      refine wp_region_held_drew (S := fun w' => True) (by kernel_rfl) trivial (fun hHeld => ?_)
      clear hHeld
      refine anyH_world (fun wz => Ext wr wz) (show Ext wr wr.drew from Below.drew (Ext.refl wr)) ?_
      rintro w1 h
      have B_1 := Lib.hid (B_0.out.ext h)
      have Y_1 := Lib.hid (Y_0.out.trans h)
      clear h B_0 Y_0
      have hHeld : True := trivial
      refine wpAnyH_take (i := 0) (v := ?_) rfl (by kernel_rfl) (by kernel_rfl) (by kernel_rfl) (fun _ _ _ h => h) (Or.inl ⟨by kernel_rfl, ?_⟩) hHeld ?_
      rotate_left
      · intro w hSw
        (try dsimp only at hSw)
        go_split_ands
        go_simp
        (try with_reducible rfl)
      try simp only [Act.put, List.getElem_toArray, List.getElem_cons_succ, List.getElem_cons_zero, List.setIfInBounds_toArray, List.set_cons_zero, List.set_cons_succ]
      refine wpAnyH_take (i := 1) (v := ?_) rfl (by kernel_rfl) (by kernel_rfl) (by kernel_rfl) (fun _ _ _ h => h) (Or.inl ⟨by kernel_rfl, ?_⟩) hHeld ?_
      rotate_left
      · intro w hSw
        (try dsimp only at hSw)
        go_split_ands
        go_simp
        (try with_reducible rfl)
      try simp only [Act.put, List.getElem_toArray, List.getElem_cons_succ, List.getElem_cons_zero, List.setIfInBounds_toArray, List.set_cons_zero, List.set_cons_succ]
      refine wpAnyH_take (i := 2) (v := ?_) rfl (by kernel_rfl) (by kernel_rfl) (by kernel_rfl) (fun _ _ _ h => h) (Or.inl ⟨by kernel_rfl, ?_⟩) hHeld ?_
      rotate_left
      · intro w hSw
        (try dsimp only at hSw)
        go_split_ands
        go_simp
        (try with_reducible rfl)
      try simp only [Act.put, List.getElem_toArray, List.getElem_cons_succ, List.getElem_cons_zero, List.setIfInBounds_toArray, List.set_cons_zero, List.set_cons_succ]
      refine wpAnyH_take (i := 3) (v := ?_) rfl (by kernel_rfl) (by kernel_rfl) (by kernel_rfl) (fun _ _ _ h => h) (Or.inl ⟨by kernel_rfl, ?_⟩) hHeld ?_
      rotate_left
      · intro w hSw
        (try dsimp only at hSw)
        go_split_ands
        go_simp
        (try with_reducible rfl)
      try simp only [Act.put, List.getElem_toArray, List.getElem_cons_succ, List.getElem_cons_zero, List.setIfInBounds_toArray, List.set_cons_zero, List.set_cons_succ]
      refine wpAnyH_take (i := 5) (v := ?_) rfl (by kernel_rfl) (by kernel_rfl) (by kernel_rfl) (fun _ _ _ h => h) (Or.inl ⟨by kernel_rfl, ?_⟩) hHeld ?_
      rotate_left
      · intro w hSw
        (try dsimp only at hSw)
        go_split_ands
        go_simp
        (try with_reducible rfl)
      try simp only [Act.put, List.getElem_toArray, List.getElem_cons_succ, List.getElem_cons_zero, List.setIfInBounds_toArray, List.set_cons_zero, List.set_cons_succ]
      refine wpAnyH_take (i := 6) (v := ?_) rfl (by kernel_rfl) (by kernel_rfl) (by kernel_rfl) (fun _ _ _ h => h) (Or.inl ⟨by kernel_rfl, ?_⟩) hHeld ?_
      rotate_left
      · intro w hSw
        (try dsimp only at hSw)
        go_split_ands
        go_simp
        (try with_reducible rfl)
      try simp only [Act.put, List.getElem_toArray, List.getElem_cons_succ, List.getElem_cons_zero, List.setIfInBounds_toArray, List.set_cons_zero, List.set_cons_succ]
      refine wpAnyH_ready (rs := [4, 7]) (by kernel_rfl) (by simp) ?_
      refine AllReadyH.cons rfl (fun KK hK => ?_) (AllReadyH.cons rfl (fun KK hK => ?_) AllReadyH.nil)
      · clear hHeld
        have t0 := B_1.out.cell 0
        go_simp
        clear t0
        refine hK.out _ _ trivial (fun hHeld => ?_)
        clear hK KK
        try simp only [Act.put, List.getElem_toArray, List.getElem_cons_succ, List.getElem_cons_zero, List.setIfInBounds_toArray, List.set_cons_zero, List.set_cons_succ]
        refine wpAnyH_ready (rs := [7]) (by kernel_rfl) (by simp) ?_
        refine AllReadyH.cons rfl (fun KK hK => ?_) AllReadyH.nil
        clear hHeld
        go_simp
        refine hK.out _ _ trivial (fun hHeld => ?_)
        clear hK KK hHeld
        try simp only [Act.put, List.getElem_toArray, List.getElem_cons_succ, List.getElem_cons_zero, List.setIfInBounds_toArray, List.set_cons_zero, List.set_cons_succ]
        have NE_B_T1 := Lib.hid (Nat.ne_of_lt B_1.out.lt)
        refine anyH_world (fun wz => Ext w1 wz ∧ Bk wz w1.heap.size #[.int .u8 (k : Int)]) ⟨Ext.alloc (Ext.refl _) _, Bk.at rfl⟩ ?_
        rintro w2 ⟨h, hB⟩
        have B_2 := Lib.hid (B_1.out.ext h)
        have Y_2 := Lib.hid (Y_1.out.trans h)
        clear h B_1 Y_1
        have T1_2 := Lib.hid (hB)
        clear hB
        have hHeld : True := trivial
        refine wpAnyH_ready (rs := [8]) (by kernel_rfl) (by simp) ?_
        refine AllReadyH.cons rfl (fun KK hK => ?_) AllReadyH.nil
        clear hHeld
        have hcr := one_conv (i := k) (by omega) T1_2.out
        go_simp
        refine hK.out _ _ trivial (fun hHeld => ?_)
        clear hK KK hcr
        try simp only [Act.put, List.getElem_toArray, List.getElem_cons_succ, List.getElem_cons_zero, List.setIfInBounds_toArray, List.set_cons_zero, List.set_cons_succ]
        refine wpAnyH_ready (rs := [9]) (by kernel_rfl) (by simp) ?_
        refine AllReadyH.cons rfl (fun KK hK => ?_) AllReadyH.nil
        clear hHeld
        go_simp
        refine hK.out _ _ trivial (fun hHeld => ?_)
        clear hK KK hHeld
        try simp only [Act.put, List.getElem_toArray, List.getElem_cons_succ, List.getElem_cons_zero, List.setIfInBounds_toArray, List.set_cons_zero, List.set_cons_succ]
        have NE_B_T2 := Lib.hid (Nat.ne_of_lt B_2.out.lt)
        have NE_T1_T2 := Lib.hid (Nat.ne_of_lt T1_2.out.lt)
        refine anyH_world (fun wz => Ext w2 wz ∧ Bk wz w2.heap.size #[.string (Lz.one k)]) ⟨Ext.alloc (Ext.refl _) _, Bk.at rfl⟩ ?_
        rintro w3 ⟨h, hB⟩
        have B_3 := Lib.hid (B_2.out.ext h)
        have Y_3 := Lib.hid (Y_2.out.trans h)
        have T1_3 := Lib.hid (T1_2.out.ext h)
        clear h B_2 Y_2 T1_2
        have T2_3 := Lib.hid (hB)
        clear hB
        have hHeld : True := trivial
        refine wpAnyH_ready (rs := [10]) (by kernel_rfl) (by simp) ?_
        refine AllReadyH.cons rfl (fun KK hK => ?_) AllReadyH.nil
        clear hHeld
        have HR := Lib.hid (HA.out.ext Y_3.out)
        have hz := Y_3.out.size
        refine step_append_lies _ rfl (.tmp 17) (.tmp 22) 86 rfl 0 9 i0 (.string ⟨#[]⟩) 1 16 Tryd.underlying86 hi0 hz0 hz1 hz2 rfl (by decide) (.slice xo k co) k (rngV k) (by simp [Act.eval]) HR.out.row ⟨w2.heap.size, 0, none⟩ 1 1 [.string (Lz.one k)] (by simp [Act.eval]) rfl (fun j u hu => ?c1) (by intro u hu; simp at hu; subst hu; rfl) (by omega) (by unfold maxLen; omega) (by omega) (by omega) _ rfl ?_
        case c1 =>
          obtain rfl : j = 0 := by have := (List.getElem?_eq_some_iff.1 hu).1; simpa using this
          rw [add_plain, T2_3.out.cell 0]; exact hu
        intro g1 cap1 w2 hown1 hgrow1 hat1 hlt1
        have P := HA.out.push Y_3.out hgrow1 hown1 hat1
        obtain ⟨hB2, hA2, hS2⟩ := P
        have B_9 := Lib.hid hB2
        have HA2 := Lib.hid hA2
        have HS2 := Lib.hid (HS.out.trans hS2)
        clear hown1 hgrow1 hat1 hlt1 hA2 hB2 hS2 HR hz
        clear B_3 Y_3 T1_3 T2_3
        refine hK.out _ _ trivial (fun hHeld => ?_)
        clear hK KK
        try simp only [Act.put, List.getElem_toArray, List.getElem_cons_succ, List.getElem_cons_zero, List.setIfInBounds_toArray, List.set_cons_zero, List.set_cons_succ]
        refine wpAnyH_take (i := 11) (v := ?_) rfl (by kernel_rfl) (by kernel_rfl) (by kernel_rfl) (fun _ _ _ h => h) (Or.inl ⟨by kernel_rfl, ?_⟩) hHeld ?_
        rotate_left
        · intro w hSw
          (try dsimp only at hSw)
          go_split_ands
          go_simp
          (try with_reducible rfl)
        try simp only [Act.put, List.getElem_toArray, List.getElem_cons_succ, List.getElem_cons_zero, List.setIfInBounds_toArray, List.set_cons_zero, List.set_cons_succ]
        refine wpAnyH_take (i := 12) (v := ?_) rfl (by kernel_rfl) (by kernel_rfl) (by kernel_rfl) (fun _ _ _ h => h) (Or.inl ⟨by kernel_rfl, ?_⟩) hHeld ?_
        rotate_left
        · intro w hSw
          (try dsimp only at hSw)
          go_split_ands
          go_simp
          (try with_reducible rfl)
        try simp only [Act.put, List.getElem_toArray, List.getElem_cons_succ, List.getElem_cons_zero, List.setIfInBounds_toArray, List.set_cons_zero, List.set_cons_succ]
        refine wpAnyH_ready (rs := [13]) (by kernel_rfl) (by simp) ?_
        refine AllReadyH.cons rfl (fun KK hK => ?_) AllReadyH.nil
        clear hHeld
        have t0 := B_9.out.cell 0
        have f0 := B_9.out.frozen 0
        go_simp
        clear t0 f0
        refine hK.out _ _ trivial (fun hHeld => ?_)
        clear hK KK
        try simp only [Act.put, List.getElem_toArray, List.getElem_cons_succ, List.getElem_cons_zero, List.setIfInBounds_toArray, List.set_cons_zero, List.set_cons_succ]
        refine wpAnyH_done (by kernel_rfl) ?_ _
        clear hHeld
        go_wp2_with fail
        go_roundw
        case rel => exact ⟨k + 1, _, by omega, by go_num, by rw [rngV_succ]; exact HA2, HS2⟩
        case measure => simp [intOf]; omega
      · clear hHeld
        go_simp
        refine hK.out _ _ trivial (fun hHeld => ?_)
        clear hK KK hHeld
        try simp only [Act.put, List.getElem_toArray, List.getElem_cons_succ, List.getElem_cons_zero, List.setIfInBounds_toArray, List.set_cons_zero, List.set_cons_succ]
        have NE_B_T1 := Lib.hid (Nat.ne_of_lt B_1.out.lt)
        refine anyH_world (fun wz => Ext w1 wz ∧ Bk wz w1.heap.size #[.int .u8 (k : Int)]) ⟨Ext.alloc (Ext.refl _) _, Bk.at rfl⟩ ?_
        rintro w2 ⟨h, hB⟩
        have B_2 := Lib.hid (B_1.out.ext h)
        have Y_2 := Lib.hid (Y_1.out.trans h)
        clear h B_1 Y_1
        have T1_2 := Lib.hid (hB)
        clear hB
        have hHeld : True := trivial
        refine wpAnyH_ready (rs := [4, 8]) (by kernel_rfl) (by simp) ?_
        refine AllReadyH.cons rfl (fun KK hK => ?_) (AllReadyH.cons rfl (fun KK hK => ?_) AllReadyH.nil)
        · clear hHeld
          have t0 := B_2.out.cell 0
          go_simp
          clear t0
          refine hK.out _ _ trivial (fun hHeld => ?_)
          clear hK KK
          try simp only [Act.put, List.getElem_toArray, List.getElem_cons_succ, List.getElem_cons_zero, List.setIfInBounds_toArray, List.set_cons_zero, List.set_cons_succ]
          refine wpAnyH_ready (rs := [8]) (by kernel_rfl) (by simp) ?_
          refine AllReadyH.cons rfl (fun KK hK => ?_) AllReadyH.nil
          clear hHeld
          have hcr := one_conv (i := k) (by omega) T1_2.out
          go_simp
          refine hK.out _ _ trivial (fun hHeld => ?_)
          clear hK KK hcr
          try simp only [Act.put, List.getElem_toArray, List.getElem_cons_succ, List.getElem_cons_zero, List.setIfInBounds_toArray, List.set_cons_zero, List.set_cons_succ]
          refine wpAnyH_ready (rs := [9]) (by kernel_rfl) (by simp) ?_
          refine AllReadyH.cons rfl (fun KK hK => ?_) AllReadyH.nil
          clear hHeld
          go_simp
          refine hK.out _ _ trivial (fun hHeld => ?_)
          clear hK KK hHeld
          try simp only [Act.put, List.getElem_toArray, List.getElem_cons_succ, List.getElem_cons_zero, List.setIfInBounds_toArray, List.set_cons_zero, List.set_cons_succ]
          have NE_B_T2 := Lib.hid (Nat.ne_of_lt B_2.out.lt)
          have NE_T1_T2 := Lib.hid (Nat.ne_of_lt T1_2.out.lt)
          refine anyH_world (fun wz => Ext w2 wz ∧ Bk wz w2.heap.size #[.string (Lz.one k)]) ⟨Ext.alloc (Ext.refl _) _, Bk.at rfl⟩ ?_
          rintro w3 ⟨h, hB⟩
          have B_3 := Lib.hid (B_2.out.ext h)
          have Y_3 := Lib.hid (Y_2.out.trans h)
          have T1_3 := Lib.hid (T1_2.out.ext h)
          clear h B_2 Y_2 T1_2
          have T2_3 := Lib.hid (hB)
          clear hB
          have hHeld : True := trivial
          refine wpAnyH_ready (rs := [10]) (by kernel_rfl) (by simp) ?_
          refine AllReadyH.cons rfl (fun KK hK => ?_) AllReadyH.nil
          clear hHeld
          have HR := Lib.hid (HA.out.ext Y_3.out)
          have hz := Y_3.out.size
          refine step_append_lies _ rfl (.tmp 17) (.tmp 22) 86 rfl 0 9 i0 (.string ⟨#[]⟩) 1 16 Tryd.underlying86 hi0 hz0 hz1 hz2 rfl (by decide) (.slice xo k co) k (rngV k) (by simp [Act.eval]) HR.out.row ⟨w2.heap.size, 0, none⟩ 1 1 [.string (Lz.one k)] (by simp [Act.eval]) rfl (fun j u hu => ?c1) (by intro u hu; simp at hu; subst hu; rfl) (by omega) (by unfold maxLen; omega) (by omega) (by omega) _ rfl ?_
          case c1 =>
            obtain rfl : j = 0 := by have := (List.getElem?_eq_some_iff.1 hu).1; simpa using this
            rw [add_plain, T2_3.out.cell 0]; exact hu
          intro g1 cap1 w2 hown1 hgrow1 hat1 hlt1
          have P := HA.out.push Y_3.out hgrow1 hown1 hat1
          obtain ⟨hB2, hA2, hS2⟩ := P
          have B_9 := Lib.hid hB2
          have HA2 := Lib.hid hA2
          have HS2 := Lib.hid (HS.out.trans hS2)
          clear hown1 hgrow1 hat1 hlt1 hA2 hB2 hS2 HR hz
          clear B_3 Y_3 T1_3 T2_3
          refine hK.out _ _ trivial (fun hHeld => ?_)
          clear hK KK
          try simp only [Act.put, List.getElem_toArray, List.getElem_cons_succ, List.getElem_cons_zero, List.setIfInBounds_toArray, List.set_cons_zero, List.set_cons_succ]
          refine wpAnyH_take (i := 11) (v := ?_) rfl (by kernel_rfl) (by kernel_rfl) (by kernel_rfl) (fun _ _ _ h => h) (Or.inl ⟨by kernel_rfl, ?_⟩) hHeld ?_
          rotate_left
          · intro w hSw
            (try dsimp only at hSw)
            go_split_ands
            go_simp
            (try with_reducible rfl)
          try simp only [Act.put, List.getElem_toArray, List.getElem_cons_succ, List.getElem_cons_zero, List.setIfInBounds_toArray, List.set_cons_zero, List.set_cons_succ]
          refine wpAnyH_take (i := 12) (v := ?_) rfl (by kernel_rfl) (by kernel_rfl) (by kernel_rfl) (fun _ _ _ h => h) (Or.inl ⟨by kernel_rfl, ?_⟩) hHeld ?_
          rotate_left
          · intro w hSw
            (try dsimp only at hSw)
            go_split_ands
            go_simp
            (try with_reducible rfl)
          try simp only [Act.put, List.getElem_toArray, List.getElem_cons_succ, List.getElem_cons_zero, List.setIfInBounds_toArray, List.set_cons_zero, List.set_cons_succ]
          refine wpAnyH_ready (rs := [13]) (by kernel_rfl) (by simp) ?_
          refine AllReadyH.cons rfl (fun KK hK => ?_) AllReadyH.nil
          clear hHeld
          have t0 := B_9.out.cell 0
          have f0 := B_9.out.frozen 0
          go_simp
          clear t0 f0
          refine hK.out _ _ trivial (fun hHeld => ?_)
          clear hK KK
          try simp only [Act.put, List.getElem_toArray, List.getElem_cons_succ, List.getElem_cons_zero, List.setIfInBounds_toArray, List.set_cons_zero, List.set_cons_succ]
          refine wpAnyH_done (by kernel_rfl) ?_ _
          clear hHeld
          go_wp2_with fail
          go_roundw
          case rel => exact ⟨k + 1, _, by omega, by go_num, by rw [rngV_succ]; exact HA2, HS2⟩
          case measure => simp [intOf]; omega
        · clear hHeld
          have hcr := one_conv (i := k) (by omega) T1_2.out
          go_simp
          refine hK.out _ _ trivial (fun hHeld => ?_)
          clear hK KK hcr
          try simp only [Act.put, List.getElem_toArray, List.getElem_cons_succ, List.getElem_cons_zero, List.setIfInBounds_toArray, List.set_cons_zero, List.set_cons_succ]
          refine wpAnyH_ready (rs := [4, 9]) (by kernel_rfl) (by simp) ?_
          refine AllReadyH.cons rfl (fun KK hK => ?_) (AllReadyH.cons rfl (fun KK hK => ?_) AllReadyH.nil)
          · clear hHeld
            have t0 := B_2.out.cell 0
            go_simp
            clear t0
            refine hK.out _ _ trivial (fun hHeld => ?_)
            clear hK KK
            try simp only [Act.put, List.getElem_toArray, List.getElem_cons_succ, List.getElem_cons_zero, List.setIfInBounds_toArray, List.set_cons_zero, List.set_cons_succ]
            refine wpAnyH_ready (rs := [9]) (by kernel_rfl) (by simp) ?_
            refine AllReadyH.cons rfl (fun KK hK => ?_) AllReadyH.nil
            clear hHeld
            go_simp
            refine hK.out _ _ trivial (fun hHeld => ?_)
            clear hK KK hHeld
            try simp only [Act.put, List.getElem_toArray, List.getElem_cons_succ, List.getElem_cons_zero, List.setIfInBounds_toArray, List.set_cons_zero, List.set_cons_succ]
            have NE_B_T2 := Lib.hid (Nat.ne_of_lt B_2.out.lt)
            have NE_T1_T2 := Lib.hid (Nat.ne_of_lt T1_2.out.lt)
            refine anyH_world (fun wz => Ext w2 wz ∧ Bk wz w2.heap.size #[.string (Lz.one k)]) ⟨Ext.alloc (Ext.refl _) _, Bk.at rfl⟩ ?_
            rintro w3 ⟨h, hB⟩
            have B_3 := Lib.hid (B_2.out.ext h)
            have Y_3 := Lib.hid (Y_2.out.trans h)
            have T1_3 := Lib.hid (T1_2.out.ext h)
            clear h B_2 Y_2 T1_2
            have T2_3 := Lib.hid (hB)
            clear hB
            have hHeld : True := trivial
            refine wpAnyH_ready (rs := [10]) (by kernel_rfl) (by simp) ?_
            refine AllReadyH.cons rfl (fun KK hK => ?_) AllReadyH.nil
            clear hHeld
            have HR := Lib.hid (HA.out.ext Y_3.out)
            have hz := Y_3.out.size
            refine step_append_lies _ rfl (.tmp 17) (.tmp 22) 86 rfl 0 9 i0 (.string ⟨#[]⟩) 1 16 Tryd.underlying86 hi0 hz0 hz1 hz2 rfl (by decide) (.slice xo k co) k (rngV k) (by simp [Act.eval]) HR.out.row ⟨w2.heap.size, 0, none⟩ 1 1 [.string (Lz.one k)] (by simp [Act.eval]) rfl (fun j u hu => ?c1) (by intro u hu; simp at hu; subst hu; rfl) (by omega) (by unfold maxLen; omega) (by omega) (by omega) _ rfl ?_
            case c1 =>
              obtain rfl : j = 0 := by have := (List.getElem?_eq_some_iff.1 hu).1; simpa using this
              rw [add_plain, T2_3.out.cell 0]; exact hu
            intro g1 cap1 w2 hown1 hgrow1 hat1 hlt1
            have P := HA.out.push Y_3.out hgrow1 hown1 hat1
            obtain ⟨hB2, hA2, hS2⟩ := P
            have B_9 := Lib.hid hB2
            have HA2 := Lib.hid hA2
            have HS2 := Lib.hid (HS.out.trans hS2)
            clear hown1 hgrow1 hat1 hlt1 hA2 hB2 hS2 HR hz
            clear B_3 Y_3 T1_3 T2_3
            refine hK.out _ _ trivial (fun hHeld => ?_)
            clear hK KK
            try simp only [Act.put, List.getElem_toArray, List.getElem_cons_succ, List.getElem_cons_zero, List.setIfInBounds_toArray, List.set_cons_zero, List.set_cons_succ]
            refine wpAnyH_take (i := 11) (v := ?_) rfl (by kernel_rfl) (by kernel_rfl) (by kernel_rfl) (fun _ _ _ h => h) (Or.inl ⟨by kernel_rfl, ?_⟩) hHeld ?_
            rotate_left
            · intro w hSw
              (try dsimp only at hSw)
              go_split_ands
              go_simp
              (try with_reducible rfl)
            try simp only [Act.put, List.getElem_toArray, List.getElem_cons_succ, List.getElem_cons_zero, List.setIfInBounds_toArray, List.set_cons_zero, List.set_cons_succ]
            refine wpAnyH_take (i := 12) (v := ?_) rfl (by kernel_rfl) (by kernel_rfl) (by kernel_rfl) (fun _ _ _ h => h) (Or.inl ⟨by kernel_rfl, ?_⟩) hHeld ?_
            rotate_left
            · intro w hSw
              (try dsimp only at hSw)
              go_split_ands
              go_simp
              (try with_reducible rfl)
            try simp only [Act.put, List.getElem_toArray, List.getElem_cons_succ, List.getElem_cons_zero, List.setIfInBounds_toArray, List.set_cons_zero, List.set_cons_succ]
            refine wpAnyH_ready (rs := [13]) (by kernel_rfl) (by simp) ?_
            refine AllReadyH.cons rfl (fun KK hK => ?_) AllReadyH.nil
            clear hHeld
            have t0 := B_9.out.cell 0
            have f0 := B_9.out.frozen 0
            go_simp
            clear t0 f0
            refine hK.out _ _ trivial (fun hHeld => ?_)
            clear hK KK
            try simp only [Act.put, List.getElem_toArray, List.getElem_cons_succ, List.getElem_cons_zero, List.setIfInBounds_toArray, List.set_cons_zero, List.set_cons_succ]
            refine wpAnyH_done (by kernel_rfl) ?_ _
            clear hHeld
            go_wp2_with fail
            go_roundw
            case rel => exact ⟨k + 1, _, by omega, by go_num, by rw [rngV_succ]; exact HA2, HS2⟩
            case measure => simp [intOf]; omega
          · clear hHeld
            go_simp
            refine hK.out _ _ trivial (fun hHeld => ?_)
            clear hK KK hHeld
            try simp only [Act.put, List.getElem_toArray, List.getElem_cons_succ, List.getElem_cons_zero, List.setIfInBounds_toArray, List.set_cons_zero, List.set_cons_succ]
            have NE_B_T2 := Lib.hid (Nat.ne_of_lt B_2.out.lt)
            have NE_T1_T2 := Lib.hid (Nat.ne_of_lt T1_2.out.lt)
            refine anyH_world (fun wz => Ext w2 wz ∧ Bk wz w2.heap.size #[.string (Lz.one k)]) ⟨Ext.alloc (Ext.refl _) _, Bk.at rfl⟩ ?_
            rintro w3 ⟨h, hB⟩
            have B_3 := Lib.hid (B_2.out.ext h)
            have Y_3 := Lib.hid (Y_2.out.trans h)
            have T1_3 := Lib.hid (T1_2.out.ext h)
            clear h B_2 Y_2 T1_2
            have T2_3 := Lib.hid (hB)
            clear hB
            have hHeld : True := trivial
            refine wpAnyH_ready (rs := [4]) (by kernel_rfl) (by simp) ?_
            refine AllReadyH.cons rfl (fun KK hK => ?_) AllReadyH.nil
            clear hHeld
            have t0 := B_3.out.cell 0
            go_simp
            clear t0
            refine hK.out _ _ trivial (fun hHeld => ?_)
            clear hK KK
            try simp only [Act.put, List.getElem_toArray, List.getElem_cons_succ, List.getElem_cons_zero, List.setIfInBounds_toArray, List.set_cons_zero, List.set_cons_succ]
            refine wpAnyH_ready (rs := [10]) (by kernel_rfl) (by simp) ?_
            refine AllReadyH.cons rfl (fun KK hK => ?_) AllReadyH.nil
            clear hHeld
            have HR := Lib.hid (HA.out.ext Y_3.out)
            have hz := Y_3.out.size
            refine step_append_lies _ rfl (.tmp 17) (.tmp 22) 86 rfl 0 9 i0 (.string ⟨#[]⟩) 1 16 Tryd.underlying86 hi0 hz0 hz1 hz2 rfl (by decide) (.slice xo k co) k (rngV k) (by simp [Act.eval]) HR.out.row ⟨w2.heap.size, 0, none⟩ 1 1 [.string (Lz.one k)] (by simp [Act.eval]) rfl (fun j u hu => ?c1) (by intro u hu; simp at hu; subst hu; rfl) (by omega) (by unfold maxLen; omega) (by omega) (by omega) _ rfl ?_
            case c1 =>
              obtain rfl : j = 0 := by have := (List.getElem?_eq_some_iff.1 hu).1; simpa using this
              rw [add_plain, T2_3.out.cell 0]; exact hu
            intro g1 cap1 w2 hown1 hgrow1 hat1 hlt1
            have P := HA.out.push Y_3.out hgrow1 hown1 hat1
            obtain ⟨hB2, hA2, hS2⟩ := P
            have B_9 := Lib.hid hB2
            have HA2 := Lib.hid hA2
            have HS2 := Lib.hid (HS.out.trans hS2)
            clear hown1 hgrow1 hat1 hlt1 hA2 hB2 hS2 HR hz
            clear B_3 Y_3 T1_3 T2_3
            refine hK.out _ _ trivial (fun hHeld => ?_)
            clear hK KK
            try simp only [Act.put, List.getElem_toArray, List.getElem_cons_succ, List.getElem_cons_zero, List.setIfInBounds_toArray, List.set_cons_zero, List.set_cons_succ]
            refine wpAnyH_take (i := 11) (v := ?_) rfl (by kernel_rfl) (by kernel_rfl) (by kernel_rfl) (fun _ _ _ h => h) (Or.inl ⟨by kernel_rfl, ?_⟩) hHeld ?_
            rotate_left
            · intro w hSw
              (try dsimp only at hSw)
              go_split_ands
              go_simp
              (try with_reducible rfl)
            try simp only [Act.put, List.getElem_toArray, List.getElem_cons_succ, List.getElem_cons_zero, List.setIfInBounds_toArray, List.set_cons_zero, List.set_cons_succ]
            refine wpAnyH_take (i := 12) (v := ?_) rfl (by kernel_rfl) (by kernel_rfl) (by kernel_rfl) (fun _ _ _ h => h) (Or.inl ⟨by kernel_rfl, ?_⟩) hHeld ?_
            rotate_left
            · intro w hSw
              (try dsimp only at hSw)
              go_split_ands
              go_simp
              (try with_reducible rfl)
            try simp only [Act.put, List.getElem_toArray, List.getElem_cons_succ, List.getElem_cons_zero, List.setIfInBounds_toArray, List.set_cons_zero, List.set_cons_succ]
            refine wpAnyH_ready (rs := [13]) (by kernel_rfl) (by simp) ?_
            refine AllReadyH.cons rfl (fun KK hK => ?_) AllReadyH.nil
            clear hHeld
            have t0 := B_9.out.cell 0
            have f0 := B_9.out.frozen 0
            go_simp
            clear t0 f0
            refine hK.out _ _ trivial (fun hHeld => ?_)
            clear hK KK
            try simp only [Act.put, List.getElem_toArray, List.getElem_cons_succ, List.getElem_cons_zero, List.setIfInBounds_toArray, List.set_cons_zero, List.set_cons_succ]
            refine wpAnyH_done (by kernel_rfl) ?_ _
            clear hHeld
            go_wp2_with fail
            go_roundw
            case rel => exact ⟨k + 1, _, by omega, by go_num, by rw [rngV_succ]; exact HA2, HS2⟩
            case measure => simp [intOf]; omega
    · obtain rfl : k = c := by omega
      have c0 := HA.out.bk.cell 0
      have HSs : Hid (UStep w1 w1 U (.slice none 0 0) (.slice none 0 0)) := Lib.hid (UStep.refl _ _ _)
      go_wp2_with (at_builtin; refine wpList_append_own_at _ rfl _ _ 86 rfl 0 9 i0 (.string ⟨#[]⟩) 1 16 Tryd.underlying86 hi0 hz0 hz1 hz2 rfl (by decide) _ _ _ rfl (HA.out.row.alloc _) ⟨wr.heap.size, 0, none⟩ 2 2 [.string ⟨#[]⟩, .string ⟨#[]⟩] rfl rfl ?c1 ?c2 ?c3 ?c4 ?c5 ?_)
      case c1 =>
        intro j u hu
        rw [add_plain]
        exact (Bk.at (w := wr) rfl).cell j |>.trans (by simpa using hu)
      case c2 => intro u hu; simp at hu; subst hu; rfl
      case c3 => unfold maxLen; omega
      case c4 => omega
      case c5 => omega
      intro v2 w2 hown hgrow _ hat
      obtain ⟨g, cap, rfl, hcap, hgl⟩ := ownsRow_some hown (by omega)
      have hat2 : (Value.slice xo k co).ownBlock = some g ∨ g = (wr.alloc (.cells #[.string ⟨#[]⟩, .string ⟨#[]⟩] 9)).heap.size := by
        rcases hat with q | q
        · exact .inl q.symm
        · exact .inr (by rw [World.size_alloc]; exact Option.some.inj q)
      obtain ⟨hB2, hA2, hS2⟩ := HA.out.push ((Ext.refl wr).alloc _) hgrow hown hat2
      rw [← wv_nil] at hA2
      have P1 := hA2.set1 (.int .i64 ((wd : Int) + 1))
      have P2 := P1.1.set2 (.string ⟨#[]⟩)
      have HP := Lib.hid P2.1
      have HQ := Lib.hid (((HS.out.trans hS2).trans P1.2).trans P2.2)
      have b0 := hB2.cell 0
      have b1 := hB2.cell 1
      have b2 := hB2.cell 2
      have f0 := hB2.frozen 0
      have f1 := hB2.frozen 1
      have f2 := hB2.frozen 2
      clear hown hgrow hat hat2 hcap hgl hB2 hA2 hS2 P1 P2
      go_wp2_with fail
      go_end0
      refine ⟨rfl, _, HP.out, ?_, ?_⟩
      · exact HK.out.trans (HQ.out.keeps.mono (fun _ _ q => q.elim id (fun e => by cases e))) (fun _ _ q => q)
      · intro k2 hk2
        rcases HQ.out.new k2 hk2 with q | q
        · cases q
        · have := HK.out.size; omega
end Go.Proofs.YtdeiolagnheihaaDoor
