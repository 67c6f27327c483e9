/-
  lzw.unpacker: clear.
  lzw.unpacker: word.
  Put, and what else a writer does: contracts in terms of its number and its count.
-/
import Derived.Test.YtdeiolagnheihaaDoorMatchLongG4
import Derived.Test.YtdeiolagnheihaaDoorMatchLongG1
import Derived.Deep.AppendLies
import Derived.Deep.RegionHeld3
import Derived.RegionTactic
import Derived.Outline
import Derived.Deep.DeepCutAuto
import Derived.Deep.CutBlock
namespace Go.Proofs.YtdeiolagnheihaaDoor
open Go.RowKit
set_option maxRecDepth 100000
theorem pow_bds {wd c : Nat} (hc : 2 ^ wd = c) (h2 : 2 ≤ wd) (h8 : wd ≤ 8) : 4 ≤ c ∧ c ≤ 256 := by
  rcases (show wd = 2 ∨ wd = 3 ∨ wd = 4 ∨ wd = 5 ∨ wd = 6 ∨ wd = 7 ∨ wd = 8 by omega) with h | h | h | h | h | h | h <;> subst h <;> omega
theorem pow_int {wd c : Nat} (hc : 2 ^ wd = c) : (2 : Int) ^ wd = (c : Int) := by rw [← hc]; simp
theorem pow_wrap {wd c : Nat} (hc : 2 ^ wd = c) (h8 : wd ≤ 8) : wrap64 ((2 : Int) ^ wd) = (c : Int) := by
  have h : c ≤ 2 ^ 8 := by rw [← hc]; exact Nat.pow_le_pow_right (by decide) h8
  rw [pow_int hc]; exact IntWalk.wrap64_in _ ⟨by omega, by omega⟩
set_option linter.unusedSimpArgs false in
set_option maxHeartbeats 2000000 in
theorem uclear_any (U wd : Nat) (v x y : Value) (w : World) (h2 : 2 ≤ wd) (h8 : wd ≤ 8) (hB : Bk w U #[v, x, y]) :
    Calls Tryd.prog 45 #[.pointer (some ⟨U, 0, none⟩), .int .i64 (wd : Int)] w fun e w' => e = .returned (.tuple #[]) ∧ (∃ v', UAt w' U v' (2 ^ wd + 2) (wv (2 ^ wd) []) (.int .i64 ((wd : Int) + 1)) (.string ⟨#[]⟩) ∧ Keeps (fun k => k = U) w w' ∧ ∀ k, v'.ownBlock = some k → w.heap.size ≤ k) := by
  obtain ⟨i0, hi0, hz0, hz1, hz2⟩ := info_parts strinf
  obtain ⟨c, hc⟩ : ∃ c : Nat, 2 ^ wd = c := ⟨_, rfl⟩
  have hp := pow_int hc
  have hc4 : 4 ≤ c ∧ c ≤ 256 := pow_bds hc h2 h8
  obtain ⟨hcl, hch⟩ := hc4
  rw [hc]
  clear hc
  have c0 := hB.cell 0
  have f0 := hB.frozen 0
  have P := UAt.set0 hB
  have HA := Lib.hid P.1
  have HK := Lib.hid P.2
  clear P hB
  go_enter Tryd.func45, Tryd.ntmps45
  go_wp2_with fail
  clear c0 f0 hp
  refine wp_world (fun wz => UAt wz U (.slice none 0 0) 0 [] x y ∧ Keeps (fun k => k = U) w wz) ⟨HA.out, HK.out⟩ ?_
  clear HA HK
  rintro w1 ⟨hA, hK⟩
  have HA := Lib.hid hA
  have HK := Lib.hid hK
  clear hA hK
  go_loopw [10] (fun i wr => ∃ (k : Nat) (v : Value), k ≤ c ∧ i = .int .i64 k ∧ Hid (UAt wr U v k (rngV k) x y) ∧ Hid (UStep w1 wr U (.slice none 0 0) v)) (fun i _ => c - (intOf i).toNat)
  case atStart => exact ⟨0, _, by omega, rfl, HA, Lib.hid (UStep.refl _ _ _)⟩
  case round =>
    clear HA
    obtain ⟨k, v, hk, rfl, HA, HS⟩ := hrel
    obtain ⟨xo, co, rfl⟩ := lit_row HA.out.row
    by_cases hlt : k < c
    · have hw8 : IntKind.u8.wrap (k : Int) = (k : Int) := by unfold IntKind.wrap; simp [IntKind.bits, IntKind.signed]; omega
      go_wp2_with fail
      have B_0 := Lib.hid (HA.out.bk)
      have Y_0 := Lib.hid (Ext.refl wr)
      refine wp_region_held_drew (S := fun w' => True) (by kernel_rfl) trivial (fun hHeld => ?_)
      clear hHeld
      refine anyH_world (fun wz => Ext wr wz) (show Ext wr wr.drew from Below.drew (Ext.refl wr)) ?_
      rintro w1 h
      have B_1 := Lib.hid (B_0.out.ext h)
      have Y_1 := Lib.hid (Y_0.out.trans h)
      clear h B_0 Y_0
      have hHeld : True := trivial
      refine wpAnyH_take (i := 0) (v := ?_) rfl (by kernel_rfl) (by kernel_rfl) (by kernel_rfl) (fun _ _ _ h => h) (Or.inl ⟨by kernel_rfl, ?_⟩) hHeld ?_
      rotate_left
      · intro w hSw
        (try dsimp only at hSw)
        go_split_ands
        go_simp
        (try with_reducible rfl)
      try simp only [Act.put, List.getElem_toArray, List.getElem_cons_succ, List.getElem_cons_zero, List.setIfInBounds_toArray, List.set_cons_zero, List.set_cons_succ]
      refine wpAnyH_take (i := 1) (v := ?_) rfl (by kernel_rfl) (by kernel_rfl) (by kernel_rfl) (fun _ _ _ h => h) (Or.inl ⟨by kernel_rfl, ?_⟩) hHeld ?_
      rotate_left
      · intro w hSw
        (try dsimp only at hSw)
        go_split_ands
        go_simp
        (try with_reducible rfl)
      try simp only [Act.put, List.getElem_toArray, List.getElem_cons_succ, List.getElem_cons_zero, List.setIfInBounds_toArray, List.set_cons_zero, List.set_cons_succ]
      refine wpAnyH_take (i := 2) (v := ?_) rfl (by kernel_rfl) (by kernel_rfl) (by kernel_rfl) (fun _ _ _ h => h) (Or.inl ⟨by kernel_rfl, ?_⟩) hHeld ?_
      rotate_left
      · intro w hSw
        (try dsimp only at hSw)
        go_split_ands
        go_simp
        (try with_reducible rfl)
      try simp only [Act.put, List.getElem_toArray, List.getElem_cons_succ, List.getElem_cons_zero, List.setIfInBounds_toArray, List.set_cons_zero, List.set_cons_succ]
      refine wpAnyH_take (i := 3) (v := ?_) rfl (by kernel_rfl) (by kernel_rfl) (by kernel_rfl) (fun _ _ _ h => h) (Or.inl ⟨by kernel_rfl, ?_⟩) hHeld ?_
      rotate_left
      · intro w hSw
        (try dsimp only at hSw)
        go_split_ands
        go_simp
        (try with_reducible rfl)
      try simp only [Act.put, List.getElem_toArray, List.getElem_cons_succ, List.getElem_cons_zero, List.setIfInBounds_toArray, List.set_cons_zero, List.set_cons_succ]
      refine wpAnyH_take (i := 5) (v := ?_) rfl (by kernel_rfl) (by kernel_rfl) (by kernel_rfl) (fun _ _ _ h => h) (Or.inl ⟨by kernel_rfl, ?_⟩) hHeld ?_
      rotate_left
      · intro w hSw
        (try dsimp only at hSw)
        go_split_ands
        go_simp
        (try with_reducible rfl)
      try simp only [Act.put, List.getElem_toArray, List.getElem_cons_succ, List.getElem_cons_zero, List.setIfInBounds_toArray, List.set_cons_zero, List.set_cons_succ]
      refine wpAnyH_take (i := 6) (v := ?_) rfl (by kernel_rfl) (by kernel_rfl) (by kernel_rfl) (fun _ _ _ h => h) (Or.inl ⟨by kernel_rfl, ?_⟩) hHeld ?_
      rotate_left
      · intro w hSw
        (try dsimp only at hSw)
        go_split_ands
        go_simp
        (try with_reducible rfl)
      try simp only [Act.put, List.getElem_toArray, List.getElem_cons_succ, List.getElem_cons_zero, List.setIfInBounds_toArray, List.set_cons_zero, List.set_cons_succ]
      refine wpAnyH_ready (rs := [4, 7]) (by kernel_rfl) (by simp) ?_
      refine AllReadyH.cons rfl (fun KK hK => ?_) (AllReadyH.cons rfl (fun KK hK => ?_) AllReadyH.nil)
      · clear hHeld
        have t0 := B_1.out.cell 0
        go_simp
        clear t0
        refine hK.out _ _ trivial (fun hHeld => ?_)
        clear hK KK
        try simp only [Act.put, List.getElem_toArray, List.getElem_cons_succ, List.getElem_cons_zero, List.setIfInBounds_toArray, List.set_cons_zero, List.set_cons_succ]
        refine wpAnyH_ready (rs := [7]) (by kernel_rfl) (by simp) ?_
        refine AllReadyH.cons rfl (fun KK hK => ?_) AllReadyH.nil
        clear hHeld
        go_simp
        refine hK.out _ _ trivial (fun hHeld => ?_)
        clear hK KK hHeld
        try simp only [Act.put, List.getElem_toArray, List.getElem_cons_succ, List.getElem_cons_zero, List.setIfInBounds_toArray, List.set_cons_zero, List.set_cons_succ]
        have NE_B_T1 := Lib.hid (Nat.ne_of_lt B_1.out.lt)
        refine anyH_world (fun wz => Ext w1 wz ∧ Bk wz w1.heap.size #[.int .u8 (k : Int)]) ⟨Ext.alloc (Ext.refl _) _, Bk.at rfl⟩ ?_
        rintro w2 ⟨h, hB⟩
        have B_2 := Lib.hid (B_1.out.ext h)
        have Y_2 := Lib.hid (Y_1.out.trans h)
        clear h B_1 Y_1
        have T1_2 := Lib.hid (hB)
        clear hB
        have hHeld : True := trivial
        refine wpAnyH_ready (rs := [8]) (by kernel_rfl) (by simp) ?_
        refine AllReadyH.cons rfl (fun KK hK => ?_) AllReadyH.nil
        clear hHeld
        have hcr := one_conv (i := k) (by omega) T1_2.out
        go_simp
        refine hK.out _ _ trivial (fun hHeld => ?_)
        clear hK KK hcr
        try simp only [Act.put, List.getElem_toArray, List.getElem_cons_succ, List.getElem_cons_zero, List.setIfInBounds_toArray, List.set_cons_zero, List.set_cons_succ]
        refine wpAnyH_ready (rs := [9]) (by kernel_rfl) (by simp) ?_
        refine AllReadyH.cons rfl (fun KK hK => ?_) AllReadyH.nil
        clear hHeld
        go_simp
        refine hK.out _ _ trivial (fun hHeld => ?_)
        clear hK KK hHeld
        try simp only [Act.put, List.getElem_toArray, List.getElem_cons_succ, List.getElem_cons_zero, List.setIfInBounds_toArray, List.set_cons_zero, List.set_cons_succ]
        have NE_B_T2 := Lib.hid (Nat.ne_of_lt B_2.out.lt)
        have NE_T1_T2 := Lib.hid (Nat.ne_of_lt T1_2.out.lt)
        refine anyH_world (fun wz => Ext w2 wz ∧ Bk wz w2.heap.size #[.string (Lz.one k)]) ⟨Ext.alloc (Ext.refl _) _, Bk.at rfl⟩ ?_
        rintro w3 ⟨h, hB⟩
        have B_3 := Lib.hid (B_2.out.ext h)
        have Y_3 := Lib.hid (Y_2.out.trans h)
        have T1_3 := Lib.hid (T1_2.out.ext h)
        clear h B_2 Y_2 T1_2
        have T2_3 := Lib.hid (hB)
        clear hB
        have hHeld : True := trivial
        refine wpAnyH_ready (rs := [10]) (by kernel_rfl) (by simp) ?_
        refine AllReadyH.cons rfl (fun KK hK => ?_) AllReadyH.nil
        clear hHeld
        have HR := Lib.hid (HA.out.ext Y_3.out)
        have hz := Y_3.out.size
        refine step_append_lies _ rfl (.tmp 17) (.tmp 22) 86 rfl 0 9 i0 (.string ⟨#[]⟩) 1 16 Tryd.underlying86 hi0 hz0 hz1 hz2 rfl (by decide) (.slice xo k co) k (rngV k) (by simp [Act.eval]) HR.out.row ⟨w2.heap.size, 0, none⟩ 1 1 [.string (Lz.one k)] (by simp [Act.eval]) rfl (fun j u hu => ?c1) (by intro u hu; simp at hu; subst hu; rfl) (by omega) (by unfold maxLen; omega) (by omega) (by omega) _ rfl ?_
        case c1 =>
          obtain rfl : j = 0 := by have := (List.getElem?_eq_some_iff.1 hu).1; simpa using this
          rw [add_plain, T2_3.out.cell 0]; exact hu
        intro g1 cap1 w2 hown1 hgrow1 hat1 hlt1
        have P := HA.out.push Y_3.out hgrow1 hown1 hat1
        obtain ⟨hB2, hA2, hS2⟩ := P
        have B_9 := Lib.hid hB2
        have HA2 := Lib.hid hA2
        have HS2 := Lib.hid (HS.out.trans hS2)
        clear hown1 hgrow1 hat1 hlt1 hA2 hB2 hS2 HR hz
        clear B_3 Y_3 T1_3 T2_3
        refine hK.out _ _ trivial (fun hHeld => ?_)
        clear hK KK
        try simp only [Act.put, List.getElem_toArray, List.getElem_cons_succ, List.getElem_cons_zero, List.setIfInBounds_toArray, List.set_cons_zero, List.set_cons_succ]
        refine wpAnyH_take (i := 11) (v := ?_) rfl (by kernel_rfl) (by kernel_rfl) (by kernel_rfl) (fun _ _ _ h => h) (Or.inl ⟨by kernel_rfl, ?_⟩) hHeld ?_
        rotate_left
        · intro w hSw
          (try dsimp only at hSw)
          go_split_ands
          go_simp
          (try with_reducible rfl)
        try simp only [Act.put, List.getElem_toArray, List.getElem_cons_succ, List.getElem_cons_zero, List.setIfInBounds_toArray, List.set_cons_zero, List.set_cons_succ]
        refine wpAnyH_take (i := 12) (v := ?_) rfl (by kernel_rfl) (by kernel_rfl) (by kernel_rfl) (fun _ _ _ h => h) (Or.inl ⟨by kernel_rfl, ?_⟩) hHeld ?_
        rotate_left
        · intro w hSw
          (try dsimp only at hSw)
          go_split_ands
          go_simp
          (try with_reducible rfl)
        try simp only [Act.put, List.getElem_toArray, List.getElem_cons_succ, List.getElem_cons_zero, List.setIfInBounds_toArray, List.set_cons_zero, List.set_cons_succ]
        refine wpAnyH_ready (rs := [13]) (by kernel_rfl) (by simp) ?_
        refine AllReadyH.cons rfl (fun KK hK => ?_) AllReadyH.nil
        clear hHeld
        have t0 := B_9.out.cell 0
        have f0 := B_9.out.frozen 0
        go_simp
        clear t0 f0
        refine hK.out _ _ trivial (fun hHeld => ?_)
        clear hK KK
        try simp only [Act.put, List.getElem_toArray, List.getElem_cons_succ, List.getElem_cons_zero, List.setIfInBounds_toArray, List.set_cons_zero, List.set_cons_succ]
        refine wpAnyH_done (by kernel_rfl) ?_ _
        clear hHeld
        go_wp2_with fail
        go_roundw
        case rel => exact ⟨k + 1, _, by omega, by go_num, by rw [rngV_succ]; exact HA2, HS2⟩
        case measure => simp [intOf]; omega
      · clear hHeld
        go_simp
        refine hK.out _ _ trivial (fun hHeld => ?_)
        clear hK KK hHeld
        try simp only [Act.put, List.getElem_toArray, List.getElem_cons_succ, List.getElem_cons_zero, List.setIfInBounds_toArray, List.set_cons_zero, List.set_cons_succ]
        have NE_B_T1 := Lib.hid (Nat.ne_of_lt B_1.out.lt)
        refine anyH_world (fun wz => Ext w1 wz ∧ Bk wz w1.heap.size #[.int .u8 (k : Int)]) ⟨Ext.alloc (Ext.refl _) _, Bk.at rfl⟩ ?_
        rintro w2 ⟨h, hB⟩
        have B_2 := Lib.hid (B_1.out.ext h)
        have Y_2 := Lib.hid (Y_1.out.trans h)
        clear h B_1 Y_1
        have T1_2 := Lib.hid (hB)
        clear hB
        have hHeld : True := trivial
        refine wpAnyH_ready (rs := [4, 8]) (by kernel_rfl) (by simp) ?_
        refine AllReadyH.cons rfl (fun KK hK => ?_) (AllReadyH.cons rfl (fun KK hK => ?_) AllReadyH.nil)
        · clear hHeld
          have t0 := B_2.out.cell 0
          go_simp
          clear t0
          refine hK.out _ _ trivial (fun hHeld => ?_)
          clear hK KK
          try simp only [Act.put, List.getElem_toArray, List.getElem_cons_succ, List.getElem_cons_zero, List.setIfInBounds_toArray, List.set_cons_zero, List.set_cons_succ]
          refine wpAnyH_ready (rs := [8]) (by kernel_rfl) (by simp) ?_
          refine AllReadyH.cons rfl (fun KK hK => ?_) AllReadyH.nil
          clear hHeld
          have hcr := one_conv (i := k) (by omega) T1_2.out
          go_simp
          refine hK.out _ _ trivial (fun hHeld => ?_)
          clear hK KK hcr
          try simp only [Act.put, List.getElem_toArray, List.getElem_cons_succ, List.getElem_cons_zero, List.setIfInBounds_toArray, List.set_cons_zero, List.set_cons_succ]
          refine wpAnyH_ready (rs := [9]) (by kernel_rfl) (by simp) ?_
          refine AllReadyH.cons rfl (fun KK hK => ?_) AllReadyH.nil
          clear hHeld
          go_simp
          refine hK.out _ _ trivial (fun hHeld => ?_)
          clear hK KK hHeld
          try simp only [Act.put, List.getElem_toArray, List.getElem_cons_succ, List.getElem_cons_zero, List.setIfInBounds_toArray, List.set_cons_zero, List.set_cons_succ]
          have NE_B_T2 := Lib.hid (Nat.ne_of_lt B_2.out.lt)
          have NE_T1_T2 := Lib.hid (Nat.ne_of_lt T1_2.out.lt)
          refine anyH_world (fun wz => Ext w2 wz ∧ Bk wz w2.heap.size #[.string (Lz.one k)]) ⟨Ext.alloc (Ext.refl _) _, Bk.at rfl⟩ ?_
          rintro w3 ⟨h, hB⟩
          have B_3 := Lib.hid (B_2.out.ext h)
          have Y_3 := Lib.hid (Y_2.out.trans h)
          have T1_3 := Lib.hid (T1_2.out.ext h)
          clear h B_2 Y_2 T1_2
          have T2_3 := Lib.hid (hB)
          clear hB
          have hHeld : True := trivial
          refine wpAnyH_ready (rs := [10]) (by kernel_rfl) (by simp) ?_
          refine AllReadyH.cons rfl (fun KK hK => ?_) AllReadyH.nil
          clear hHeld
          have HR := Lib.hid (HA.out.ext Y_3.out)
          have hz := Y_3.out.size
          refine step_append_lies _ rfl (.tmp 17) (.tmp 22) 86 rfl 0 9 i0 (.string ⟨#[]⟩) 1 16 Tryd.underlying86 hi0 hz0 hz1 hz2 rfl (by decide) (.slice xo k co) k (rngV k) (by simp [Act.eval]) HR.out.row ⟨w2.heap.size, 0, none⟩ 1 1 [.string (Lz.one k)] (by simp [Act.eval]) rfl (fun j u hu => ?c1) (by intro u hu; simp at hu; subst hu; rfl) (by omega) (by unfold maxLen; omega) (by omega) (by omega) _ rfl ?_
          case c1 =>
            obtain rfl : j = 0 := by have := (List.getElem?_eq_some_iff.1 hu).1; simpa using this
            rw [add_plain, T2_3.out.cell 0]; exact hu
          intro g1 cap1 w2 hown1 hgrow1 hat1 hlt1
          have P := HA.out.push Y_3.out hgrow1 hown1 hat1
          obtain ⟨hB2, hA2, hS2⟩ := P
          have B_9 := Lib.hid hB2
          have HA2 := Lib.hid hA2
          have HS2 := Lib.hid (HS.out.trans hS2)
          clear hown1 hgrow1 hat1 hlt1 hA2 hB2 hS2 HR hz
          clear B_3 Y_3 T1_3 T2_3
          refine hK.out _ _ trivial (fun hHeld => ?_)
          clear hK KK
          try simp only [Act.put, List.getElem_toArray, List.getElem_cons_succ, List.getElem_cons_zero, List.setIfInBounds_toArray, List.set_cons_zero, List.set_cons_succ]
          refine wpAnyH_take (i := 11) (v := ?_) rfl (by kernel_rfl) (by kernel_rfl) (by kernel_rfl) (fun _ _ _ h => h) (Or.inl ⟨by kernel_rfl, ?_⟩) hHeld ?_
          rotate_left
          · intro w hSw
            (try dsimp only at hSw)
            go_split_ands
            go_simp
            (try with_reducible rfl)
          try simp only [Act.put, List.getElem_toArray, List.getElem_cons_succ, List.getElem_cons_zero, List.setIfInBounds_toArray, List.set_cons_zero, List.set_cons_succ]
          refine wpAnyH_take (i := 12) (v := ?_) rfl (by kernel_rfl) (by kernel_rfl) (by kernel_rfl) (fun _ _ _ h => h) (Or.inl ⟨by kernel_rfl, ?_⟩) hHeld ?_
          rotate_left
          · intro w hSw
            (try dsimp only at hSw)
            go_split_ands
            go_simp
            (try with_reducible rfl)
          try simp only [Act.put, List.getElem_toArray, List.getElem_cons_succ, List.getElem_cons_zero, List.setIfInBounds_toArray, List.set_cons_zero, List.set_cons_succ]
          refine wpAnyH_ready (rs := [13]) (by kernel_rfl) (by simp) ?_
          refine AllReadyH.cons rfl (fun KK hK => ?_) AllReadyH.nil
          clear hHeld
          have t0 := B_9.out.cell 0
          have f0 := B_9.out.frozen 0
          go_simp
          clear t0 f0
          refine hK.out _ _ trivial (fun hHeld => ?_)
          clear hK KK
          try simp only [Act.put, List.getElem_toArray, List.getElem_cons_succ, List.getElem_cons_zero, List.setIfInBounds_toArray, List.set_cons_zero, List.set_cons_succ]
          refine wpAnyH_done (by kernel_rfl) ?_ _
          clear hHeld
          go_wp2_with fail
          go_roundw
          case rel => exact ⟨k + 1, _, by omega, by go_num, by rw [rngV_succ]; exact HA2, HS2⟩
          case measure => simp [intOf]; omega
        · clear hHeld
          have hcr := one_conv (i := k) (by omega) T1_2.out
          go_simp
          refine hK.out _ _ trivial (fun hHeld => ?_)
          clear hK KK hcr
          try simp only [Act.put, List.getElem_toArray, List.getElem_cons_succ, List.getElem_cons_zero, List.setIfInBounds_toArray, List.set_cons_zero, List.set_cons_succ]
          refine wpAnyH_ready (rs := [4, 9]) (by kernel_rfl) (by simp) ?_
          refine AllReadyH.cons rfl (fun KK hK => ?_) (AllReadyH.cons rfl (fun KK hK => ?_) AllReadyH.nil)
          · clear hHeld
            have t0 := B_2.out.cell 0
            go_simp
            clear t0
            refine hK.out _ _ trivial (fun hHeld => ?_)
            clear hK KK
            try simp only [Act.put, List.getElem_toArray, List.getElem_cons_succ, List.getElem_cons_zero, List.setIfInBounds_toArray, List.set_cons_zero, List.set_cons_succ]
            refine wpAnyH_ready (rs := [9]) (by kernel_rfl) (by simp) ?_
            refine AllReadyH.cons rfl (fun KK hK => ?_) AllReadyH.nil
            clear hHeld
            go_simp
            refine hK.out _ _ trivial (fun hHeld => ?_)
            clear hK KK hHeld
            try simp only [Act.put, List.getElem_toArray, List.getElem_cons_succ, List.getElem_cons_zero, List.setIfInBounds_toArray, List.set_cons_zero, List.set_cons_succ]
            have NE_B_T2 := Lib.hid (Nat.ne_of_lt B_2.out.lt)
            have NE_T1_T2 := Lib.hid (Nat.ne_of_lt T1_2.out.lt)
            refine anyH_world (fun wz => Ext w2 wz ∧ Bk wz w2.heap.size #[.string (Lz.one k)]) ⟨Ext.alloc (Ext.refl _) _, Bk.at rfl⟩ ?_
            rintro w3 ⟨h, hB⟩
            have B_3 := Lib.hid (B_2.out.ext h)
            have Y_3 := Lib.hid (Y_2.out.trans h)
            have T1_3 := Lib.hid (T1_2.out.ext h)
            clear h B_2 Y_2 T1_2
            have T2_3 := Lib.hid (hB)
            clear hB
            have hHeld : True := trivial
            refine wpAnyH_ready (rs := [10]) (by kernel_rfl) (by simp) ?_
            refine AllReadyH.cons rfl (fun KK hK => ?_) AllReadyH.nil
            clear hHeld
            have HR := Lib.hid (HA.out.ext Y_3.out)
            have hz := Y_3.out.size
            refine step_append_lies _ rfl (.tmp 17) (.tmp 22) 86 rfl 0 9 i0 (.string ⟨#[]⟩) 1 16 Tryd.underlying86 hi0 hz0 hz1 hz2 rfl (by decide) (.slice xo k co) k (rngV k) (by simp [Act.eval]) HR.out.row ⟨w2.heap.size, 0, none⟩ 1 1 [.string (Lz.one k)] (by simp [Act.eval]) rfl (fun j u hu => ?c1) (by intro u hu; simp at hu; subst hu; rfl) (by omega) (by unfold maxLen; omega) (by omega) (by omega) _ rfl ?_
            case c1 =>
              obtain rfl : j = 0 := by have := (List.getElem?_eq_some_iff.1 hu).1; simpa using this
              rw [add_plain, T2_3.out.cell 0]; exact hu
            intro g1 cap1 w2 hown1 hgrow1 hat1 hlt1
            have P := HA.out.push Y_3.out hgrow1 hown1 hat1
            obtain ⟨hB2, hA2, hS2⟩ := P
            have B_9 := Lib.hid hB2
            have HA2 := Lib.hid hA2
            have HS2 := Lib.hid (HS.out.trans hS2)
            clear hown1 hgrow1 hat1 hlt1 hA2 hB2 hS2 HR hz
            clear B_3 Y_3 T1_3 T2_3
            refine hK.out _ _ trivial (fun hHeld => ?_)
            clear hK KK
            try simp only [Act.put, List.getElem_toArray, List.getElem_cons_succ, List.getElem_cons_zero, List.setIfInBounds_toArray, List.set_cons_zero, List.set_cons_succ]
            refine wpAnyH_take (i := 11) (v := ?_) rfl (by kernel_rfl) (by kernel_rfl) (by kernel_rfl) (fun _ _ _ h => h) (Or.inl ⟨by kernel_rfl, ?_⟩) hHeld ?_
            rotate_left
            · intro w hSw
              (try dsimp only at hSw)
              go_split_ands
              go_simp
              (try with_reducible rfl)
            try simp only [Act.put, List.getElem_toArray, List.getElem_cons_succ, List.getElem_cons_zero, List.setIfInBounds_toArray, List.set_cons_zero, List.set_cons_succ]
            refine wpAnyH_take (i := 12) (v := ?_) rfl (by kernel_rfl) (by kernel_rfl) (by kernel_rfl) (fun _ _ _ h => h) (Or.inl ⟨by kernel_rfl, ?_⟩) hHeld ?_
            rotate_left
            · intro w hSw
              (try dsimp only at hSw)
              go_split_ands
              go_simp
              (try with_reducible rfl)
            try simp only [Act.put, List.getElem_toArray, List.getElem_cons_succ, List.getElem_cons_zero, List.setIfInBounds_toArray, List.set_cons_zero, List.set_cons_succ]
            refine wpAnyH_ready (rs := [13]) (by kernel_rfl) (by simp) ?_
            refine AllReadyH.cons rfl (fun KK hK => ?_) AllReadyH.nil
            clear hHeld
            have t0 := B_9.out.cell 0
            have f0 := B_9.out.frozen 0
            go_simp
            clear t0 f0
            refine hK.out _ _ trivial (fun hHeld => ?_)
            clear hK KK
            try simp only [Act.put, List.getElem_toArray, List.getElem_cons_succ, List.getElem_cons_zero, List.setIfInBounds_toArray, List.set_cons_zero, List.set_cons_succ]
            refine wpAnyH_done (by kernel_rfl) ?_ _
            clear hHeld
            go_wp2_with fail
            go_roundw
            case rel => exact ⟨k + 1, _, by omega, by go_num, by rw [rngV_succ]; exact HA2, HS2⟩
            case measure => simp [intOf]; omega
          · clear hHeld
            go_simp
            refine hK.out _ _ trivial (fun hHeld => ?_)
            clear hK KK hHeld
            try simp only [Act.put, List.getElem_toArray, List.getElem_cons_succ, List.getElem_cons_zero, List.setIfInBounds_toArray, List.set_cons_zero, List.set_cons_succ]
            have NE_B_T2 := Lib.hid (Nat.ne_of_lt B_2.out.lt)
            have NE_T1_T2 := Lib.hid (Nat.ne_of_lt T1_2.out.lt)
            refine anyH_world (fun wz => Ext w2 wz ∧ Bk wz w2.heap.size #[.string (Lz.one k)]) ⟨Ext.alloc (Ext.refl _) _, Bk.at rfl⟩ ?_
            rintro w3 ⟨h, hB⟩
            have B_3 := Lib.hid (B_2.out.ext h)
            have Y_3 := Lib.hid (Y_2.out.trans h)
            have T1_3 := Lib.hid (T1_2.out.ext h)
            clear h B_2 Y_2 T1_2
            have T2_3 := Lib.hid (hB)
            clear hB
            have hHeld : True := trivial
            refine wpAnyH_ready (rs := [4]) (by kernel_rfl) (by simp) ?_
            refine AllReadyH.cons rfl (fun KK hK => ?_) AllReadyH.nil
            clear hHeld
            have t0 := B_3.out.cell 0
            go_simp
            clear t0
            refine hK.out _ _ trivial (fun hHeld => ?_)
            clear hK KK
            try simp only [Act.put, List.getElem_toArray, List.getElem_cons_succ, List.getElem_cons_zero, List.setIfInBounds_toArray, List.set_cons_zero, List.set_cons_succ]
            refine wpAnyH_ready (rs := [10]) (by kernel_rfl) (by simp) ?_
            refine AllReadyH.cons rfl (fun KK hK => ?_) AllReadyH.nil
            clear hHeld
            have HR := Lib.hid (HA.out.ext Y_3.out)
            have hz := Y_3.out.size
            refine step_append_lies _ rfl (.tmp 17) (.tmp 22) 86 rfl 0 9 i0 (.string ⟨#[]⟩) 1 16 Tryd.underlying86 hi0 hz0 hz1 hz2 rfl (by decide) (.slice xo k co) k (rngV k) (by simp [Act.eval]) HR.out.row ⟨w2.heap.size, 0, none⟩ 1 1 [.string (Lz.one k)] (by simp [Act.eval]) rfl (fun j u hu => ?c1) (by intro u hu; simp at hu; subst hu; rfl) (by omega) (by unfold maxLen; omega) (by omega) (by omega) _ rfl ?_
            case c1 =>
              obtain rfl : j = 0 := by have := (List.getElem?_eq_some_iff.1 hu).1; simpa using this
              rw [add_plain, T2_3.out.cell 0]; exact hu
            intro g1 cap1 w2 hown1 hgrow1 hat1 hlt1
            have P := HA.out.push Y_3.out hgrow1 hown1 hat1
            obtain ⟨hB2, hA2, hS2⟩ := P
            have B_9 := Lib.hid hB2
            have HA2 := Lib.hid hA2
            have HS2 := Lib.hid (HS.out.trans hS2)
            clear hown1 hgrow1 hat1 hlt1 hA2 hB2 hS2 HR hz
            clear B_3 Y_3 T1_3 T2_3
            refine hK.out _ _ trivial (fun hHeld => ?_)
            clear hK KK
            try simp only [Act.put, List.getElem_toArray, List.getElem_cons_succ, List.getElem_cons_zero, List.setIfInBounds_toArray, List.set_cons_zero, List.set_cons_succ]
            refine wpAnyH_take (i := 11) (v := ?_) rfl (by kernel_rfl) (by kernel_rfl) (by kernel_rfl) (fun _ _ _ h => h) (Or.inl ⟨by kernel_rfl, ?_⟩) hHeld ?_
            rotate_left
            · intro w hSw
              (try dsimp only at hSw)
              go_split_ands
              go_simp
              (try with_reducible rfl)
            try simp only [Act.put, List.getElem_toArray, List.getElem_cons_succ, List.getElem_cons_zero, List.setIfInBounds_toArray, List.set_cons_zero, List.set_cons_succ]
            refine wpAnyH_take (i := 12) (v := ?_) rfl (by kernel_rfl) (by kernel_rfl) (by kernel_rfl) (fun _ _ _ h => h) (Or.inl ⟨by kernel_rfl, ?_⟩) hHeld ?_
            rotate_left
            · intro w hSw
              (try dsimp only at hSw)
              go_split_ands
              go_simp
              (try with_reducible rfl)
            try simp only [Act.put, List.getElem_toArray, List.getElem_cons_succ, List.getElem_cons_zero, List.setIfInBounds_toArray, List.set_cons_zero, List.set_cons_succ]
            refine wpAnyH_ready (rs := [13]) (by kernel_rfl) (by simp) ?_
            refine AllReadyH.cons rfl (fun KK hK => ?_) AllReadyH.nil
            clear hHeld
            have t0 := B_9.out.cell 0
            have f0 := B_9.out.frozen 0
            go_simp
            clear t0 f0
            refine hK.out _ _ trivial (fun hHeld => ?_)
            clear hK KK
            try simp only [Act.put, List.getElem_toArray, List.getElem_cons_succ, List.getElem_cons_zero, List.setIfInBounds_toArray, List.set_cons_zero, List.set_cons_succ]
            refine wpAnyH_done (by kernel_rfl) ?_ _
            clear hHeld
            go_wp2_with fail
            go_roundw
            case rel => exact ⟨k + 1, _, by omega, by go_num, by rw [rngV_succ]; exact HA2, HS2⟩
            case measure => simp [intOf]; omega
    · obtain rfl : k = c := by omega
      have c0 := HA.out.bk.cell 0
      have HSs : Hid (UStep w1 w1 U (.slice none 0 0) (.slice none 0 0)) := Lib.hid (UStep.refl _ _ _)
      go_wp2_with (at_builtin; refine wpList_append_own_at _ rfl _ _ 86 rfl 0 9 i0 (.string ⟨#[]⟩) 1 16 Tryd.underlying86 hi0 hz0 hz1 hz2 rfl (by decide) _ _ _ rfl (HA.out.row.alloc _) ⟨wr.heap.size, 0, none⟩ 2 2 [.string ⟨#[]⟩, .string ⟨#[]⟩] rfl rfl ?c1 ?c2 ?c3 ?c4 ?c5 ?_)
      case c1 =>
        intro j u hu
        rw [add_plain]
        exact (Bk.at (w := wr) rfl).cell j |>.trans (by simpa using hu)
      case c2 => intro u hu; simp at hu; subst hu; rfl
      case c3 => unfold maxLen; omega
      case c4 => omega
      case c5 => omega
      intro v2 w2 hown hgrow _ hat
      obtain ⟨g, cap, rfl, hcap, hgl⟩ := ownsRow_some hown (by omega)
      have hat2 : (Value.slice xo k co).ownBlock = some g ∨ g = (wr.alloc (.cells #[.string ⟨#[]⟩, .string ⟨#[]⟩] 9)).heap.size := by
        rcases hat with q | q
        · exact .inl q.symm
        · exact .inr (by rw [World.size_alloc]; exact Option.some.inj q)
      obtain ⟨hB2, hA2, hS2⟩ := HA.out.push ((Ext.refl wr).alloc _) hgrow hown hat2
      rw [← wv_nil] at hA2
      have P1 := hA2.set1 (.int .i64 ((wd : Int) + 1))
      have P2 := P1.1.set2 (.string ⟨#[]⟩)
      have HP := Lib.hid P2.1
      have HQ := Lib.hid (((HS.out.trans hS2).trans P1.2).trans P2.2)
      have b0 := hB2.cell 0
      have b1 := hB2.cell 1
      have b2 := hB2.cell 2
      have f0 := hB2.frozen 0
      have f1 := hB2.frozen 1
      have f2 := hB2.frozen 2
      clear hown hgrow hat hat2 hcap hgl hB2 hA2 hS2 P1 P2
      go_wp2_with fail
      go_end0
      refine ⟨rfl, _, HP.out, ?_, ?_⟩
      · exact HK.out.trans (HQ.out.keeps.mono (fun _ _ q => q.elim id (fun e => by cases e))) (fun _ _ q => q)
      · intro k2 hk2
        rcases HQ.out.new k2 hk2 with q | q
        · cases q
        · have := HK.out.size; omega
end Go.Proofs.YtdeiolagnheihaaDoor
namespace Go.Proofs.YtdeiolagnheihaaDoor
open Go.RowKit
set_option maxRecDepth 100000
theorem addW_len (c : Nat) (L : List ByteArray) (last x : ByteArray) : (Lz.addW c L last x).length ≤ L.length + 1 := by
  unfold Lz.addW; split <;> simp
theorem word_cell {c n M : Nat} {L : List ByteArray} {last x : ByteArray} (hx : Lz.wordOf c L last n = some x) (hM : c + 2 + L.length = M) (hn : n < M) (h1 : n ≠ c) (h2 : n ≠ c + 1) : (wv c L)[n]? = some (.string x) := by
  unfold Lz.wordOf at hx
  by_cases h : n < c
  · rw [if_pos h] at hx; cases hx; exact wv_low L h
  · rw [if_neg h, if_pos (by omega)] at hx; exact wv_high (by omega) hx
theorem word_new {c n M : Nat} {L : List ByteArray} {last x : ByteArray} (hx : Lz.wordOf c L last n = some x) (hM : c + 2 + L.length = M) (hn : ¬ n < M) : n = M ∧ last.size ≠ 0 ∧ x = last ++ last.extract 0 1 := by
  unfold Lz.wordOf at hx
  rw [if_neg (by omega), if_neg (by omega)] at hx
  split at hx
  · rename_i h; exact ⟨by omega, h.2, by cases hx; rfl⟩
  · cases hx
set_option linter.unusedSimpArgs false in
set_option maxHeartbeats 2000000 in
theorem uword_none (U c n size : Nat) (v : Value) (L : List ByteArray) (last : ByteArray) (w : World) (hA : UAt w U v (c + 2 + L.length) (wv c L) (.int .i64 (size : Int)) (.string last)) (h1 : c + 2 + L.length ≤ n) (h2 : last.size ≠ 0 → n ≠ c + 2 + L.length) (hl : c + 2 + L.length ≤ 4096) (_hn : n < 1000000) :
    Calls Tryd.prog 48 #[.pointer (some ⟨U, 0, none⟩), .int .i64 (n : Int)] w fun e w' => e = .returned (.tuple #[.string ⟨#[]⟩, .bool false]) ∧ w = w' := by
  obtain ⟨M, hM⟩ : ∃ M, c + 2 + L.length = M := ⟨_, rfl⟩
  rw [hM] at hA hl h1 h2
  obtain ⟨gb, cap, rfl, hcap, hgl⟩ := ownsRow_some hA.row (by omega)
  have a0 := hA.bk.cell 0
  have a2 := hA.bk.cell 2
  clear hM hA hcap hgl
  by_cases hn : n = M
  · have hls : last.size = 0 := by cases Nat.eq_zero_or_pos last.size with | inl h => exact h | inr h => exact absurd hn (h2 (by omega))
    have e1 : last.toList.isEmpty = true := emp_yes last hls
    subst hn
    clear hls h2 h1
    go_enter Tryd.func48, Tryd.ntmps48
    go_wp2_with fail
    go_ret2
    exact ⟨rfl, rfl⟩
  · have t1 : ((n : Int) == (M : Int)) = false := beq_eq_false_iff_ne.2 (by omega)
    have t2 : ¬ (n : Int) < (M : Int) := by omega
    clear h2 h1 hn
    go_enter Tryd.func48, Tryd.ntmps48
    go_wp2_with fail
    go_ret2
    exact ⟨rfl, rfl⟩
set_option linter.unusedSimpArgs false in
set_option maxHeartbeats 2000000 in
theorem uword_any (U c n size : Nat) (v : Value) (L : List ByteArray) (last x : ByteArray) (w : World) (hA : UAt w U v (c + 2 + L.length) (wv c L) (.int .i64 (size : Int)) (.string last)) (hn1 : n ≠ c) (hn2 : n ≠ c + 1) (hx : Lz.wordOf c L last n = some x) (hl : c + 2 + L.length ≤ 4096) (hs : size ≤ 12) (hb1 : last.size ≤ 400000) (hb2 : x.size ≤ 400000) (hb0 : x.size ≠ 0) :
    Calls Tryd.prog 48 #[.pointer (some ⟨U, 0, none⟩), .int .i64 (n : Int)] w fun e w' => e = .returned (.tuple #[.string x, .bool true]) ∧ (∃ v', UAt w' U v' (c + 2 + (Lz.addW c L last x).length) (wv c (Lz.addW c L last x)) (.int .i64 ((Lz.sizeW c (Lz.addW c L last x) size : Nat) : Int)) (.string x) ∧ UStep w w' U v v') := by
  obtain ⟨i0, hi0, hz0, hz1, hz2⟩ := info_parts strinf
  obtain ⟨M, hM⟩ : ∃ M, c + 2 + L.length = M := ⟨_, rfl⟩
  have HM := Lib.hid hM
  have HX := Lib.hid hx
  rw [hM] at hA hl
  obtain ⟨gb, cap, rfl, hcap, hgl⟩ := ownsRow_some hA.row (by omega)
  have HA := Lib.hid hA
  have HN := Lib.hid (And.intro hn1 hn2)
  have a0 := hA.bk.cell 0
  have a2 := hA.bk.cell 2
  obtain ⟨R, hR⟩ : ∃ R, Lz.addW c L last x = R := ⟨_, rfl⟩
  obtain ⟨K, hK⟩ : ∃ K, c + 2 + R.length = K := ⟨_, rfl⟩
  obtain ⟨Z, hZ⟩ : ∃ Z, Lz.sizeW c R size = Z := ⟨_, rfl⟩
  rw [hR, hK, hZ]
  have HR := Lib.hid hR
  have HKK := Lib.hid hK
  have HZZ := Lib.hid hZ
  clear hR hK hZ
  clear hM hx hA hcap hgl hn1 hn2
  go_enter Tryd.func48, Tryd.ntmps48
  go_upto_block 0 with fail
  go_cut [6] (fun s6 wx => s6 = .string x ∧ Hid (Ext w wx))
  case first =>
    by_cases hlt : n < M
    · have hc : w.cell? ⟨gb, n, none⟩ = some (.string x) := by
        rw [HA.out.row.cellAt n (by omega)]
        exact word_cell HX.out HM.out hlt HN.out.1 HN.out.2
      have hni : (n : Int) < (M : Int) := by omega
      go_wp2_with fail
      go_meet
      exact ⟨rfl, Lib.hid (Ext.refl _)⟩
    · obtain ⟨hnM, hls, hxe⟩ := word_new HX.out HM.out hlt
      subst hnM
      have e1 : last.toList.isEmpty = false := emp_no last hls
      have hl1 : (1 : Int) ≤ (last.size : Int) := by omega
      obtain ⟨z, hz⟩ : ∃ z, last.extract 0 1 = z := ⟨_, rfl⟩
      have hzs : z.size = 1 := by rw [← hz, ByteArray.size_extract]; omega
      have hov : ¬ 9223372036854775807 < last.size + z.size := by omega
      have HXE := Lib.hid hxe
      have HZ := Lib.hid hz
      clear hxe hls hlt
      go_wp2_with fail
      go_quiet (fail)
      go_wp2_with fail
      go_meet
      exact ⟨by rw [HXE.out, HZ.out], Lib.hid (by repeat (first | exact Ext.refl _ | refine Ext.drewN ?_ _))⟩
  case rest =>
    obtain ⟨rfl, HX1⟩ := hcut
    have HA1 := Lib.hid (HA.out.ext HX1.out)
    obtain ⟨ab, hab⟩ : ∃ ab, decide (last.size ≠ 0 ∧ M < 4096) = ab := ⟨_, rfl⟩
    have HAB := Lib.hid hab
    clear hab
    go_upto_region 7 with fail
    go_cut [59] (fun s59 wx => s59 = .bool ab ∧ Hid (Ext w wx))
    case first =>
      have a0 := HA1.out.bk.cell 0
      have a2 := HA1.out.bk.cell 2
      by_cases hls : last.size = 0
      · have e1 : last.toList.isEmpty = true := emp_yes last hls
        have HF : Hid (ab = false) := Lib.hid (by rw [← HAB.out]; exact decide_eq_false (by omega))
        clear hls
        go_wp2_with fail
        go_meet
        exact ⟨by rw [HF.out], HX1⟩
      · have e1 : last.toList.isEmpty = false := emp_no last hls
        by_cases hf : (M : Int) < 4096
        · have HF : Hid (ab = true) := Lib.hid (by rw [← HAB.out]; exact decide_eq_true ⟨hls, by omega⟩)
          clear hls
          go_wp2_with fail
          go_meet
          exact ⟨by rw [HF.out], HX1⟩
        · have HF : Hid (ab = false) := Lib.hid (by rw [← HAB.out]; exact decide_eq_false (by omega))
          clear hls
          go_wp2_with fail
          go_meet
          exact ⟨by rw [HF.out], HX1⟩
    case rest =>
      clear HX1 HA1
      obtain ⟨rfl, HX1⟩ := hcut
      have HA1 := Lib.hid (HA.out.ext HX1.out)
      clear HA
      go_upto_if 59 with fail
      go_cut [60] (fun s60 wx => ∃ v', Hid (UAt wx U v' K (wv c R) (.int .i64 (size : Int)) (.string last)) ∧ Hid (UStep w wx U (.slice (some ⟨gb, 0, none⟩) M cap) v'))
      case first =>
        have a0 := HA1.out.bk.cell 0
        have a2 := HA1.out.bk.cell 2
        cases ab
        · have hls := of_decide_eq_false HAB.out
          have hRL : R = L := by rw [← HR.out]; unfold Lz.addW; rw [if_neg (by have := HM.out; omega)]
          have hKM : K = M := by rw [← HKK.out, hRL, HM.out]
          subst hRL
          subst hKM
          clear hls
          go_wp2_with fail
          go_meet
          exact ⟨_, HA1, Lib.hid (UStep.ext HX1.out)⟩
        · obtain ⟨hls, hf⟩ := of_decide_eq_true HAB.out
          have hfi : (M : Int) < 4096 := by omega
          obtain ⟨z, hz⟩ : ∃ z, x.extract 0 1 = z := ⟨_, rfl⟩
          have hzs : z.size = 1 := by rw [← hz, ByteArray.size_extract]; omega
          have hRL : R = L ++ [last ++ z] := by rw [← HR.out, ← hz]; unfold Lz.addW; rw [if_pos (by have := HM.out; omega)]
          have hKM : K = M + 1 := by rw [← HKK.out, hRL, List.length_append, List.length_singleton, ← HM.out]; omega
          subst hRL
          subst hKM
          have hov : ¬ 9223372036854775807 < last.size + 1 := by omega
          have hx1 : (1 : Int) ≤ (x.size : Int) := by omega
          have HZ := Lib.hid hz
          clear hls
          go_wp2_with fail
          have B_0 := Lib.hid (HA1.out.bk)
          have Y_0 := Lib.hid (Ext.refl wc)
          refine wp_region_held_drew (S := fun w' => True) (by kernel_rfl) trivial (fun hHeld => ?_)
          clear hHeld
          refine anyH_world (fun wz => Ext wc wz) (show Ext wc wc.drew from Below.drew (Ext.refl wc)) ?_
          rintro w1 h
          have B_1 := Lib.hid (B_0.out.ext h)
          have Y_1 := Lib.hid (Y_0.out.trans h)
          clear h B_0 Y_0
          have hHeld : True := trivial
          refine wpAnyH_take (i := 0) (v := ?_) rfl (by kernel_rfl) (by kernel_rfl) (by kernel_rfl) (fun _ _ _ h => h) (Or.inl ⟨by kernel_rfl, ?_⟩) hHeld ?_
          rotate_left
          · intro w hSw
            (try dsimp only at hSw)
            go_split_ands
            go_simp
            (try with_reducible rfl)
          try simp only [Act.put, List.getElem_toArray, List.getElem_cons_succ, List.getElem_cons_zero, List.setIfInBounds_toArray, List.set_cons_zero, List.set_cons_succ]
          refine wpAnyH_take (i := 1) (v := ?_) rfl (by kernel_rfl) (by kernel_rfl) (by kernel_rfl) (fun _ _ _ h => h) (Or.inl ⟨by kernel_rfl, ?_⟩) hHeld ?_
          rotate_left
          · intro w hSw
            (try dsimp only at hSw)
            go_split_ands
            go_simp
            (try with_reducible rfl)
          try simp only [Act.put, List.getElem_toArray, List.getElem_cons_succ, List.getElem_cons_zero, List.setIfInBounds_toArray, List.set_cons_zero, List.set_cons_succ]
          refine wpAnyH_take (i := 2) (v := ?_) rfl (by kernel_rfl) (by kernel_rfl) (by kernel_rfl) (fun _ _ _ h => h) (Or.inl ⟨by kernel_rfl, ?_⟩) hHeld ?_
          rotate_left
          · intro w hSw
            (try dsimp only at hSw)
            go_split_ands
            go_simp
            (try with_reducible rfl)
          try simp only [Act.put, List.getElem_toArray, List.getElem_cons_succ, List.getElem_cons_zero, List.setIfInBounds_toArray, List.set_cons_zero, List.set_cons_succ]
          refine wpAnyH_take (i := 3) (v := ?_) rfl (by kernel_rfl) (by kernel_rfl) (by kernel_rfl) (fun _ _ _ h => h) (Or.inl ⟨by kernel_rfl, ?_⟩) hHeld ?_
          rotate_left
          · intro w hSw
            (try dsimp only at hSw)
            go_split_ands
            go_simp
            (try with_reducible rfl)
          try simp only [Act.put, List.getElem_toArray, List.getElem_cons_succ, List.getElem_cons_zero, List.setIfInBounds_toArray, List.set_cons_zero, List.set_cons_succ]
          refine wpAnyH_take (i := 5) (v := ?_) rfl (by kernel_rfl) (by kernel_rfl) (by kernel_rfl) (fun _ _ _ h => h) (Or.inl ⟨by kernel_rfl, ?_⟩) hHeld ?_
          rotate_left
          · intro w hSw
            (try dsimp only at hSw)
            go_split_ands
            go_simp
            (try with_reducible rfl)
          try simp only [Act.put, List.getElem_toArray, List.getElem_cons_succ, List.getElem_cons_zero, List.setIfInBounds_toArray, List.set_cons_zero, List.set_cons_succ]
          refine wpAnyH_take (i := 6) (v := ?_) rfl (by kernel_rfl) (by kernel_rfl) (by kernel_rfl) (fun _ _ _ h => h) (Or.inl ⟨by kernel_rfl, ?_⟩) hHeld ?_
          rotate_left
          · intro w hSw
            (try dsimp only at hSw)
            go_split_ands
            go_simp
            (try with_reducible rfl)
          try simp only [Act.put, List.getElem_toArray, List.getElem_cons_succ, List.getElem_cons_zero, List.setIfInBounds_toArray, List.set_cons_zero, List.set_cons_succ]
          refine wpAnyH_take (i := 7) (v := ?_) rfl (by kernel_rfl) (by kernel_rfl) (by kernel_rfl) (fun _ _ _ h => h) (Or.inl ⟨by kernel_rfl, ?_⟩) hHeld ?_
          rotate_left
          · intro w hSw
            (try dsimp only at hSw)
            go_split_ands
            go_simp
            (try with_reducible rfl)
          try simp only [Act.put, List.getElem_toArray, List.getElem_cons_succ, List.getElem_cons_zero, List.setIfInBounds_toArray, List.set_cons_zero, List.set_cons_succ]
          refine wpAnyH_take (i := 9) (v := ?_) rfl (by kernel_rfl) (by kernel_rfl) (by kernel_rfl) (fun _ _ _ h => h) (Or.inl ⟨by kernel_rfl, ?_⟩) hHeld ?_
          rotate_left
          · intro w hSw
            (try dsimp only at hSw)
            go_split_ands
            go_simp
            (try with_reducible rfl)
          try simp only [Act.put, List.getElem_toArray, List.getElem_cons_succ, List.getElem_cons_zero, List.setIfInBounds_toArray, List.set_cons_zero, List.set_cons_succ]
          refine wpAnyH_take (i := 10) (v := ?_) rfl (by kernel_rfl) (by kernel_rfl) (by kernel_rfl) (fun _ _ _ h => h) (Or.inl ⟨by kernel_rfl, ?_⟩) hHeld ?_
          rotate_left
          · intro w hSw
            (try dsimp only at hSw)
            go_split_ands
            go_simp
            (try with_reducible rfl)
          try simp only [Act.put, List.getElem_toArray, List.getElem_cons_succ, List.getElem_cons_zero, List.setIfInBounds_toArray, List.set_cons_zero, List.set_cons_succ]
          refine wpAnyH_ready (rs := [4, 8]) (by kernel_rfl) (by simp) ?_
          refine AllReadyH.cons rfl (fun KK hK => ?_) (AllReadyH.cons rfl (fun KK hK => ?_) AllReadyH.nil)
          · clear hHeld
            have t0 := B_1.out.cell 0
            go_simp
            clear t0
            refine hK.out _ _ trivial (fun hHeld => ?_)
            clear hK KK
            try simp only [Act.put, List.getElem_toArray, List.getElem_cons_succ, List.getElem_cons_zero, List.setIfInBounds_toArray, List.set_cons_zero, List.set_cons_succ]
            refine wpAnyH_ready (rs := [8]) (by kernel_rfl) (by simp) ?_
            refine AllReadyH.cons rfl (fun KK hK => ?_) AllReadyH.nil
            clear hHeld
            have t0 := B_1.out.cell 2
            go_simp
            clear t0
            refine hK.out _ _ trivial (fun hHeld => ?_)
            clear hK KK
            try simp only [Act.put, List.getElem_toArray, List.getElem_cons_succ, List.getElem_cons_zero, List.setIfInBounds_toArray, List.set_cons_zero, List.set_cons_succ]
            refine wpAnyH_take (i := 11) (v := ?_) rfl (by kernel_rfl) (by kernel_rfl) (by kernel_rfl) (fun _ _ _ h => h) (Or.inl ⟨by kernel_rfl, ?_⟩) hHeld ?_
            rotate_left
            · intro w hSw
              (try dsimp only at hSw)
              go_split_ands
              go_simp
              (try with_reducible rfl)
            try simp only [Act.put, List.getElem_toArray, List.getElem_cons_succ, List.getElem_cons_zero, List.setIfInBounds_toArray, List.set_cons_zero, List.set_cons_succ]
            refine wpAnyH_ready (rs := [12]) (by kernel_rfl) (by simp) ?_
            refine AllReadyH.cons rfl (fun KK hK => ?_) AllReadyH.nil
            clear hHeld
            go_simp
            refine hK.out _ _ trivial (fun hHeld => ?_)
            clear hK KK hHeld
            try simp only [Act.put, List.getElem_toArray, List.getElem_cons_succ, List.getElem_cons_zero, List.setIfInBounds_toArray, List.set_cons_zero, List.set_cons_succ]
            have NE_B_T2 := Lib.hid (Nat.ne_of_lt B_1.out.lt)
            refine anyH_world (fun wz => Ext w1 wz ∧ Bk wz w1.heap.size #[.string (last ++ z)]) ⟨Ext.alloc (Ext.refl _) _, Bk.at rfl⟩ ?_
            rintro w2 ⟨h, hB⟩
            have B_2 := Lib.hid (B_1.out.ext h)
            have Y_2 := Lib.hid (Y_1.out.trans h)
            clear h B_1 Y_1
            have T2_2 := Lib.hid (hB)
            clear hB
            have hHeld : True := trivial
            refine wpAnyH_ready (rs := [13]) (by kernel_rfl) (by simp) ?_
            refine AllReadyH.cons rfl (fun KK hK => ?_) AllReadyH.nil
            clear hHeld
            have HQ := Lib.hid (HA1.out.ext Y_2.out)
            have hz := Y_2.out.size
            refine step_append_lies _ rfl (.tmp 64) (.tmp 72) 86 rfl 0 9 i0 (.string ⟨#[]⟩) 1 16 Tryd.underlying86 hi0 hz0 hz1 hz2 rfl (by decide) (.slice (some ⟨gb, 0, none⟩) M cap) M (wv c L) (by simp [Act.eval]) HQ.out.row ⟨w1.heap.size, 0, none⟩ 1 1 [.string (last ++ z)] (by simp [Act.eval]) rfl (fun j u hu => ?c1) (by intro u hu; simp at hu; subst hu; rfl) (by omega) (by unfold maxLen; omega) (by omega) (by omega) _ rfl ?_
            case c1 =>
              obtain rfl : j = 0 := by have := (List.getElem?_eq_some_iff.1 hu).1; simpa using this
              rw [add_plain, T2_2.out.cell 0]; exact hu
            intro g1 cap1 w2 hown1 hgrow1 hat1 hlt1
            have P := HA1.out.push Y_2.out hgrow1 hown1 hat1
            obtain ⟨hB2, hA2, hS2⟩ := P
            rw [← wv_push] at hA2
            have B_9 := Lib.hid hB2
            have HA2 := Lib.hid hA2
            have HS2 := Lib.hid ((UStep.ext HX1.out).trans hS2)
            clear hown1 hgrow1 hat1 hlt1 hA2 hB2 hS2 HQ hz
            clear B_2 Y_2 T2_2
            refine hK.out _ _ trivial (fun hHeld => ?_)
            clear hK KK
            try simp only [Act.put, List.getElem_toArray, List.getElem_cons_succ, List.getElem_cons_zero, List.setIfInBounds_toArray, List.set_cons_zero, List.set_cons_succ]
            refine wpAnyH_take (i := 14) (v := ?_) rfl (by kernel_rfl) (by kernel_rfl) (by kernel_rfl) (fun _ _ _ h => h) (Or.inl ⟨by kernel_rfl, ?_⟩) hHeld ?_
            rotate_left
            · intro w hSw
              (try dsimp only at hSw)
              go_split_ands
              go_simp
              (try with_reducible rfl)
            try simp only [Act.put, List.getElem_toArray, List.getElem_cons_succ, List.getElem_cons_zero, List.setIfInBounds_toArray, List.set_cons_zero, List.set_cons_succ]
            refine wpAnyH_take (i := 15) (v := ?_) rfl (by kernel_rfl) (by kernel_rfl) (by kernel_rfl) (fun _ _ _ h => h) (Or.inl ⟨by kernel_rfl, ?_⟩) hHeld ?_
            rotate_left
            · intro w hSw
              (try dsimp only at hSw)
              go_split_ands
              go_simp
              (try with_reducible rfl)
            try simp only [Act.put, List.getElem_toArray, List.getElem_cons_succ, List.getElem_cons_zero, List.setIfInBounds_toArray, List.set_cons_zero, List.set_cons_succ]
            refine wpAnyH_ready (rs := [16]) (by kernel_rfl) (by simp) ?_
            refine AllReadyH.cons rfl (fun KK hK => ?_) AllReadyH.nil
            clear hHeld
            have t0 := B_9.out.cell 0
            have f0 := B_9.out.frozen 0
            go_simp
            clear t0 f0
            refine hK.out _ _ trivial (fun hHeld => ?_)
            clear hK KK
            try simp only [Act.put, List.getElem_toArray, List.getElem_cons_succ, List.getElem_cons_zero, List.setIfInBounds_toArray, List.set_cons_zero, List.set_cons_succ]
            refine wpAnyH_done (by kernel_rfl) ?_ _
            clear hHeld
            go_wp2_with fail
            go_meet
            exact ⟨_, HA2, HS2⟩
          · clear hHeld
            have t0 := B_1.out.cell 2
            go_simp
            clear t0
            refine hK.out _ _ trivial (fun hHeld => ?_)
            clear hK KK
            try simp only [Act.put, List.getElem_toArray, List.getElem_cons_succ, List.getElem_cons_zero, List.setIfInBounds_toArray, List.set_cons_zero, List.set_cons_succ]
            refine wpAnyH_take (i := 11) (v := ?_) rfl (by kernel_rfl) (by kernel_rfl) (by kernel_rfl) (fun _ _ _ h => h) (Or.inl ⟨by kernel_rfl, ?_⟩) hHeld ?_
            rotate_left
            · intro w hSw
              (try dsimp only at hSw)
              go_split_ands
              go_simp
              (try with_reducible rfl)
            try simp only [Act.put, List.getElem_toArray, List.getElem_cons_succ, List.getElem_cons_zero, List.setIfInBounds_toArray, List.set_cons_zero, List.set_cons_succ]
            refine wpAnyH_ready (rs := [4, 12]) (by kernel_rfl) (by simp) ?_
            refine AllReadyH.cons rfl (fun KK hK => ?_) (AllReadyH.cons rfl (fun KK hK => ?_) AllReadyH.nil)
            · clear hHeld
              have t0 := B_1.out.cell 0
              go_simp
              clear t0
              refine hK.out _ _ trivial (fun hHeld => ?_)
              clear hK KK
              try simp only [Act.put, List.getElem_toArray, List.getElem_cons_succ, List.getElem_cons_zero, List.setIfInBounds_toArray, List.set_cons_zero, List.set_cons_succ]
              refine wpAnyH_ready (rs := [12]) (by kernel_rfl) (by simp) ?_
              refine AllReadyH.cons rfl (fun KK hK => ?_) AllReadyH.nil
              clear hHeld
              go_simp
              refine hK.out _ _ trivial (fun hHeld => ?_)
              clear hK KK hHeld
              try simp only [Act.put, List.getElem_toArray, List.getElem_cons_succ, List.getElem_cons_zero, List.setIfInBounds_toArray, List.set_cons_zero, List.set_cons_succ]
              have NE_B_T2 := Lib.hid (Nat.ne_of_lt B_1.out.lt)
              refine anyH_world (fun wz => Ext w1 wz ∧ Bk wz w1.heap.size #[.string (last ++ z)]) ⟨Ext.alloc (Ext.refl _) _, Bk.at rfl⟩ ?_
              rintro w2 ⟨h, hB⟩
              have B_2 := Lib.hid (B_1.out.ext h)
              have Y_2 := Lib.hid (Y_1.out.trans h)
              clear h B_1 Y_1
              have T2_2 := Lib.hid (hB)
              clear hB
              have hHeld : True := trivial
              refine wpAnyH_ready (rs := [13]) (by kernel_rfl) (by simp) ?_
              refine AllReadyH.cons rfl (fun KK hK => ?_) AllReadyH.nil
              clear hHeld
              have HQ := Lib.hid (HA1.out.ext Y_2.out)
              have hz := Y_2.out.size
              refine step_append_lies _ rfl (.tmp 64) (.tmp 72) 86 rfl 0 9 i0 (.string ⟨#[]⟩) 1 16 Tryd.underlying86 hi0 hz0 hz1 hz2 rfl (by decide) (.slice (some ⟨gb, 0, none⟩) M cap) M (wv c L) (by simp [Act.eval]) HQ.out.row ⟨w1.heap.size, 0, none⟩ 1 1 [.string (last ++ z)] (by simp [Act.eval]) rfl (fun j u hu => ?c1) (by intro u hu; simp at hu; subst hu; rfl) (by omega) (by unfold maxLen; omega) (by omega) (by omega) _ rfl ?_
              case c1 =>
                obtain rfl : j = 0 := by have := (List.getElem?_eq_some_iff.1 hu).1; simpa using this
                rw [add_plain, T2_2.out.cell 0]; exact hu
              intro g1 cap1 w2 hown1 hgrow1 hat1 hlt1
              have P := HA1.out.push Y_2.out hgrow1 hown1 hat1
              obtain ⟨hB2, hA2, hS2⟩ := P
              rw [← wv_push] at hA2
              have B_9 := Lib.hid hB2
              have HA2 := Lib.hid hA2
              have HS2 := Lib.hid ((UStep.ext HX1.out).trans hS2)
              clear hown1 hgrow1 hat1 hlt1 hA2 hB2 hS2 HQ hz
              clear B_2 Y_2 T2_2
              refine hK.out _ _ trivial (fun hHeld => ?_)
              clear hK KK
              try simp only [Act.put, List.getElem_toArray, List.getElem_cons_succ, List.getElem_cons_zero, List.setIfInBounds_toArray, List.set_cons_zero, List.set_cons_succ]
              refine wpAnyH_take (i := 14) (v := ?_) rfl (by kernel_rfl) (by kernel_rfl) (by kernel_rfl) (fun _ _ _ h => h) (Or.inl ⟨by kernel_rfl, ?_⟩) hHeld ?_
              rotate_left
              · intro w hSw
                (try dsimp only at hSw)
                go_split_ands
                go_simp
                (try with_reducible rfl)
              try simp only [Act.put, List.getElem_toArray, List.getElem_cons_succ, List.getElem_cons_zero, List.setIfInBounds_toArray, List.set_cons_zero, List.set_cons_succ]
              refine wpAnyH_take (i := 15) (v := ?_) rfl (by kernel_rfl) (by kernel_rfl) (by kernel_rfl) (fun _ _ _ h => h) (Or.inl ⟨by kernel_rfl, ?_⟩) hHeld ?_
              rotate_left
              · intro w hSw
                (try dsimp only at hSw)
                go_split_ands
                go_simp
                (try with_reducible rfl)
              try simp only [Act.put, List.getElem_toArray, List.getElem_cons_succ, List.getElem_cons_zero, List.setIfInBounds_toArray, List.set_cons_zero, List.set_cons_succ]
              refine wpAnyH_ready (rs := [16]) (by kernel_rfl) (by simp) ?_
              refine AllReadyH.cons rfl (fun KK hK => ?_) AllReadyH.nil
              clear hHeld
              have t0 := B_9.out.cell 0
              have f0 := B_9.out.frozen 0
              go_simp
              clear t0 f0
              refine hK.out _ _ trivial (fun hHeld => ?_)
              clear hK KK
              try simp only [Act.put, List.getElem_toArray, List.getElem_cons_succ, List.getElem_cons_zero, List.setIfInBounds_toArray, List.set_cons_zero, List.set_cons_succ]
              refine wpAnyH_done (by kernel_rfl) ?_ _
              clear hHeld
              go_wp2_with fail
              go_meet
              exact ⟨_, HA2, HS2⟩
            · clear hHeld
              go_simp
              refine hK.out _ _ trivial (fun hHeld => ?_)
              clear hK KK hHeld
              try simp only [Act.put, List.getElem_toArray, List.getElem_cons_succ, List.getElem_cons_zero, List.setIfInBounds_toArray, List.set_cons_zero, List.set_cons_succ]
              have NE_B_T2 := Lib.hid (Nat.ne_of_lt B_1.out.lt)
              refine anyH_world (fun wz => Ext w1 wz ∧ Bk wz w1.heap.size #[.string (last ++ z)]) ⟨Ext.alloc (Ext.refl _) _, Bk.at rfl⟩ ?_
              rintro w2 ⟨h, hB⟩
              have B_2 := Lib.hid (B_1.out.ext h)
              have Y_2 := Lib.hid (Y_1.out.trans h)
              clear h B_1 Y_1
              have T2_2 := Lib.hid (hB)
              clear hB
              have hHeld : True := trivial
              refine wpAnyH_ready (rs := [4]) (by kernel_rfl) (by simp) ?_
              refine AllReadyH.cons rfl (fun KK hK => ?_) AllReadyH.nil
              clear hHeld
              have t0 := B_2.out.cell 0
              go_simp
              clear t0
              refine hK.out _ _ trivial (fun hHeld => ?_)
              clear hK KK
              try simp only [Act.put, List.getElem_toArray, List.getElem_cons_succ, List.getElem_cons_zero, List.setIfInBounds_toArray, List.set_cons_zero, List.set_cons_succ]
              refine wpAnyH_ready (rs := [13]) (by kernel_rfl) (by simp) ?_
              refine AllReadyH.cons rfl (fun KK hK => ?_) AllReadyH.nil
              clear hHeld
              have HQ := Lib.hid (HA1.out.ext Y_2.out)
              have hz := Y_2.out.size
              refine step_append_lies _ rfl (.tmp 64) (.tmp 72) 86 rfl 0 9 i0 (.string ⟨#[]⟩) 1 16 Tryd.underlying86 hi0 hz0 hz1 hz2 rfl (by decide) (.slice (some ⟨gb, 0, none⟩) M cap) M (wv c L) (by simp [Act.eval]) HQ.out.row ⟨w1.heap.size, 0, none⟩ 1 1 [.string (last ++ z)] (by simp [Act.eval]) rfl (fun j u hu => ?c1) (by intro u hu; simp at hu; subst hu; rfl) (by omega) (by unfold maxLen; omega) (by omega) (by omega) _ rfl ?_
              case c1 =>
                obtain rfl : j = 0 := by have := (List.getElem?_eq_some_iff.1 hu).1; simpa using this
                rw [add_plain, T2_2.out.cell 0]; exact hu
              intro g1 cap1 w2 hown1 hgrow1 hat1 hlt1
              have P := HA1.out.push Y_2.out hgrow1 hown1 hat1
              obtain ⟨hB2, hA2, hS2⟩ := P
              rw [← wv_push] at hA2
              have B_9 := Lib.hid hB2
              have HA2 := Lib.hid hA2
              have HS2 := Lib.hid ((UStep.ext HX1.out).trans hS2)
              clear hown1 hgrow1 hat1 hlt1 hA2 hB2 hS2 HQ hz
              clear B_2 Y_2 T2_2
              refine hK.out _ _ trivial (fun hHeld => ?_)
              clear hK KK
              try simp only [Act.put, List.getElem_toArray, List.getElem_cons_succ, List.getElem_cons_zero, List.setIfInBounds_toArray, List.set_cons_zero, List.set_cons_succ]
              refine wpAnyH_take (i := 14) (v := ?_) rfl (by kernel_rfl) (by kernel_rfl) (by kernel_rfl) (fun _ _ _ h => h) (Or.inl ⟨by kernel_rfl, ?_⟩) hHeld ?_
              rotate_left
              · intro w hSw
                (try dsimp only at hSw)
                go_split_ands
                go_simp
                (try with_reducible rfl)
              try simp only [Act.put, List.getElem_toArray, List.getElem_cons_succ, List.getElem_cons_zero, List.setIfInBounds_toArray, List.set_cons_zero, List.set_cons_succ]
              refine wpAnyH_take (i := 15) (v := ?_) rfl (by kernel_rfl) (by kernel_rfl) (by kernel_rfl) (fun _ _ _ h => h) (Or.inl ⟨by kernel_rfl, ?_⟩) hHeld ?_
              rotate_left
              · intro w hSw
                (try dsimp only at hSw)
                go_split_ands
                go_simp
                (try with_reducible rfl)
              try simp only [Act.put, List.getElem_toArray, List.getElem_cons_succ, List.getElem_cons_zero, List.setIfInBounds_toArray, List.set_cons_zero, List.set_cons_succ]
              refine wpAnyH_ready (rs := [16]) (by kernel_rfl) (by simp) ?_
              refine AllReadyH.cons rfl (fun KK hK => ?_) AllReadyH.nil
              clear hHeld
              have t0 := B_9.out.cell 0
              have f0 := B_9.out.frozen 0
              go_simp
              clear t0 f0
              refine hK.out _ _ trivial (fun hHeld => ?_)
              clear hK KK
              try simp only [Act.put, List.getElem_toArray, List.getElem_cons_succ, List.getElem_cons_zero, List.setIfInBounds_toArray, List.set_cons_zero, List.set_cons_succ]
              refine wpAnyH_done (by kernel_rfl) ?_ _
              clear hHeld
              go_wp2_with fail
              go_meet
              exact ⟨_, HA2, HS2⟩
      case rest =>
        clear HA1 HX1 HAB
        obtain ⟨v2, HA1, HS1⟩ := hcut
        obtain ⟨D, hD⟩ : ∃ D : Nat, 2 ^ size = D := ⟨_, rfl⟩
        have hDl : D ≤ 4096 := by rw [← hD]; exact Nat.le_trans (Nat.pow_le_pow_right (by decide) hs) (by decide)
        have hDI := pow_int hD
        have HD := Lib.hid hD
        clear hD
        have hKl : K ≤ 4097 := by have e1 := HKK.out; have e3 := HM.out; have e4 := addW_len c L last x; rw [HR.out] at e4; omega
        have hK0 : 0 < K := by have e1 := HKK.out; omega
        obtain ⟨g2, cap2, rfl, hcap2, hgl2⟩ := ownsRow_some HA1.out.row hK0
        clear hcap2 hgl2
        have HZE : Hid (Z = if K = D ∧ size < 12 then size + 1 else size) := Lib.hid (by rw [← HZZ.out, ← HD.out, ← HKK.out]; rfl)
        have a0 := HA1.out.bk.cell 0
        have a1 := HA1.out.bk.cell 1
        have a2 := HA1.out.bk.cell 2
        have f1 := HA1.out.bk.frozen 1
        have f2 := HA1.out.bk.frozen 2
        have hw1 : IntKind.i64.wrap ((2 : Int) ^ size) = (D : Int) := by rw [hDI]; unfold IntKind.wrap; simp [IntKind.bits, IntKind.signed]; omega
        by_cases hg : K = D
        · have t1 : ((K : Int) == (D : Int)) = true := beq_iff_eq.2 (by omega)
          by_cases h12 : (size : Int) < 12
          · have HE : Hid (Z = size + 1) := Lib.hid (by rw [HZE.out]; exact if_pos ⟨hg, by omega⟩)
            have P1 := (HA1.out.set1 (.int .i64 ((size : Int) + 1)))
            have P2 := P1.1.set2 (.string x)
            have HP := Lib.hid P2.1
            have HQ := Lib.hid ((HS1.out.trans P1.2).trans P2.2)
            clear P1 P2 hg
            go_wp2_with fail
            go_quiet (fail)
            go_wp2_with fail
            go_ret2
            exact ⟨rfl, _, by rw [HE.out]; exact HP.out.same, HQ.out.same⟩
          · have HE : Hid (Z = size) := Lib.hid (by rw [HZE.out]; exact if_neg (fun h => by omega))
            clear hg
            have P2 := (HA1.out.set2 (.string x))
            have HP := Lib.hid P2.1
            have HQ := Lib.hid (HS1.out.trans P2.2)
            clear P2
            go_wp2_with fail
            go_quiet (fail)
            go_wp2_with fail
            go_ret2
            exact ⟨rfl, _, by rw [HE.out]; exact HP.out.same, HQ.out.same⟩
        · have t1 : ((K : Int) == (D : Int)) = false := beq_eq_false_iff_ne.2 (by omega)
          have HE : Hid (Z = size) := Lib.hid (by rw [HZE.out]; exact if_neg (fun h => hg h.1))
          clear hg
          have P2 := (HA1.out.set2 (.string x))
          have HP := Lib.hid P2.1
          have HQ := Lib.hid (HS1.out.trans P2.2)
          clear P2
          go_wp2_with fail
          go_quiet (fail)
          go_wp2_with fail
          go_ret2
          exact ⟨rfl, _, by rw [HE.out]; exact HP.out.same, HQ.out.same⟩
end Go.Proofs.YtdeiolagnheihaaDoor
namespace Go.Proofs.YtdeiolagnheihaaDoor
open Go.RowKit
set_option maxRecDepth 100000
theorem fits_calls (x : Nat) (width : Int) (w : World) (hw1 : -9223372036854775808 ≤ width) (hw2 : width ≤ 9223372036854775807) (hx : x < 4294967296) :
    Calls Tryd.prog 80 #[.int .u32 (x : Int), .int .i64 width] w fun e w' => e = .returned (.bool (decide (0 ≤ width ∧ width ≤ 32 ∧ x < 2 ^ width.toNat))) ∧ w = w' := by
  by_cases h1 : 0 ≤ width
  · by_cases h2 : width ≤ 32
    · obtain ⟨k, rfl⟩ : ∃ k : Nat, width = k := ⟨width.toNat, by omega⟩
      have hk : k ≤ 32 := by omega
      go_enter Tryd.func80, Tryd.ntmps80
      go_wp2
      go_ret
      refine ⟨ret_bool ?_, rfl⟩
      rw [Bool.eq_iff_iff, beq_iff_eq, decide_eq_true_iff]
      simp only [Int.toNat_natCast]
      rw [show ((x : Int) / 2 ^ k) = ((x / 2 ^ k : Nat) : Int) by simp]
      constructor
      · intro h
        have h' : x / 2 ^ k = 0 := by omega
        rcases (Nat.div_eq_zero_iff).1 h' with q | q
        · have := Nat.two_pow_pos k; omega
        · exact ⟨by omega, by omega, q⟩
      · intro h
        rw [Nat.div_eq_of_lt h.2.2]; rfl
    · go_enter Tryd.func80, Tryd.ntmps80
      go_wp2
      go_ret
      exact ⟨ret_bool (by symm; simp only [Bool.and_eq_false_iff, decide_eq_false_iff_not]; omega), rfl⟩
  · go_enter Tryd.func80, Tryd.ntmps80
    go_wp2
    go_ret
    exact ⟨ret_bool (by symm; simp only [Bool.and_eq_false_iff, decide_eq_false_iff_not]; omega), rfl⟩
theorem bit_and (x i : Nat) (hx : x / 2 ^ i < 4294967296) : bits BinOp.and IntKind.u32 ((x : Int) / 2 ^ i) 1 = ((x / 2 ^ i % 2 : Nat) : Int) := by
  rw [show (x : Int) / 2 ^ i = ((x / 2 ^ i : Nat) : Int) by simp, show (1 : Int) = ((1 : Nat) : Int) from rfl, u32_and_nat _ _ hx (by decide), Nat.and_one_is_mod]
theorem mod_next (x i : Nat) : x % 2 ^ (i + 1) = x % 2 ^ i + x / 2 ^ i % 2 * 2 ^ i := by
  rw [Nat.pow_succ, Nat.mod_mul, Nat.mul_comm (2 ^ i)]
theorem put_in (B o n V x k : Nat) (v : Value) (w : World) (hW : WAt w B o v V n) (hk : k ≤ 32) (hx : x < 2 ^ k) (hn : n + 32 < 1099511627776) :
    Calls Tryd.prog 69 #[.pointer (some ⟨B, o, none⟩), .int .u32 (x : Int), .int .i64 (k : Int)] w fun e w' => e = .returned .nilIface ∧ ∃ v', WAt w' B o v' (V + x * 2 ^ n) (n + k) ∧ WStep w w' B o v v' := by
  have hx32 : x < 4294967296 := Nat.lt_of_lt_of_le hx (Nat.pow_le_pow_right (n := 2) (by decide) hk)
  have hfit : decide (0 ≤ (k : Int) ∧ (k : Int) ≤ 32 ∧ x < 2 ^ (k : Int).toNat) = true := by rw [decide_eq_true_iff]; exact ⟨by omega, by omega, by simpa using hx⟩
  have HX := Lib.hid hx
  have HW := Lib.hid hW
  have HF := Lib.hid hfit
  clear hx hW hfit
  go_enter Tryd.func69, Tryd.ntmps69
  go_wp2_with fail
  refine (fits_calls x k _ (by omega) (by omega) hx32).mono ?_
  rintro e w1 ⟨he, rfl⟩
  rw [HF.out] at he
  subst he
  go_wp2_with fail
  go_loopw [7, 14] (fun _ c wr => ∃ (i : Nat) (u : Value), i ≤ k ∧ c = .int .i64 i ∧ Hid (WAt wr B o u (V + x % 2 ^ i * 2 ^ n) (n + i)) ∧ Hid (WStep w wr B o v u)) (fun _ c _ => k - (intOf c).toNat)
  case atStart =>
    refine ⟨0, v, by omega, rfl, ?_, Lib.hid (WStep.refl _ _ _ _)⟩
    have q := HW.out
    show WAt _ _ _ _ _ _
    simpa [Nat.mod_one] using q
  case round =>
    obtain ⟨i, u, hi, rfl, HA, HS⟩ := hrel
    by_cases hlt : i < k
    · go_wp2_with fail
      rw [bit_and x i (Nat.lt_of_le_of_lt (Nat.div_le_self _ _) hx32)]
      refine (one_calls B o (n + i) _ _ u _ HA.out (by omega) (by omega)).mono ?_
      rintro e w2 ⟨rfl, u2, hA2, hS2⟩
      have HA2 := Lib.hid hA2
      have HS2 := Lib.hid (HS.out.trans hS2)
      clear hA2 hS2 HA HS
      go_wp2_with fail
      go_roundw
      case rel =>
        refine ⟨i + 1, u2, by omega, by go_num, ?_, HS2⟩
        show WAt _ _ _ _ _ _
        have e1 : V + x % 2 ^ (i + 1) * 2 ^ n = V + x % 2 ^ i * 2 ^ n + x / 2 ^ i % 2 * 2 ^ (n + i) := by
          rw [mod_next, Nat.add_mul, Nat.pow_add, Nat.mul_assoc (x / 2 ^ i % 2), Nat.mul_comm (2 ^ i) (2 ^ n), Nat.add_assoc]
        rw [e1]; exact HA2.out
      case measure => simp [intOf]; omega
    · obtain rfl : i = k := by omega
      go_wp2_with fail
      go_ret
      refine ⟨rfl, u, ?_, HS.out⟩
      have q := HA.out
      rwa [Nat.mod_eq_of_lt HX.out] at q
theorem put_out (B o x : Nat) (width : Int) (E : Value) (w : World) (hE : w.cell? ⟨0, 0, none⟩ = some E) (hx : x < 4294967296) (hw1 : -9223372036854775808 ≤ width) (hw2 : width ≤ 9223372036854775807)
    (h : ¬ (0 ≤ width ∧ width ≤ 32 ∧ x < 2 ^ width.toNat)) :
    Calls Tryd.prog 69 #[.pointer (some ⟨B, o, none⟩), .int .u32 (x : Int), .int .i64 width] w fun e w' => e = .returned E ∧ w = w' := by
  have HF := Lib.hid (decide_eq_false h)
  clear h
  go_enter Tryd.func69, Tryd.ntmps69
  go_wp2_with fail
  refine (fits_calls x width _ (by omega) (by omega) hx).mono ?_
  rintro e w1 ⟨he, rfl⟩
  rw [HF.out] at he
  subst he
  go_wp2_with fail
  go_ret
  exact ⟨rfl, rfl⟩
theorem text_calls (B o n V : Nat) (v : Value) (w : World) (hW : WAt w B o v V n) :
    Calls Tryd.prog 43 #[.pointer (some ⟨B, o, none⟩)] w fun e w' => (∃ l : List UInt8, l.length = (n + 7) / 8 ∧ Crc.num l = V ∧ e = .returned (.string ⟨l.toArray⟩)) ∧ w = w' := by
  obtain ⟨c0, c1, f0, f1, ⟨l, hl, hV, hown⟩, hap, hlt⟩ := hW
  rcases ownsRow_slice hown with ⟨rfl, h0⟩ | ⟨g, cap, rfl⟩
  · have hcr : (convert 23 9 (.slice none 0 0)).run Tryd.prog w = .ok (.string ⟨l.toArray⟩) w := by
      obtain rfl := List.eq_nil_of_length_eq_zero h0
      rw [run_convert_bytes_string w 23 9 5 none 0 0 Tryd.underlying23 Tryd.underlying5 Tryd.underlying9]
      rfl
    have HL := Lib.hid hl
    have HV := Lib.hid hV
    clear hl hV h0
    go_enter Tryd.func43, Tryd.ntmps43
    go_wp2
    go_ret
    exact ⟨⟨l, HL.out, HV.out, rfl⟩, rfl⟩
  · have hcr : (convert 23 9 (.slice (some ⟨g, 0, none⟩) l.length cap)).run Tryd.prog w = .ok (.string ⟨l.toArray⟩) w := by
      refine run_convert_bytes_back (P := Tryd.prog) w 23 9 5 ⟨g, 0, none⟩ _ l Tryd.underlying23 Tryd.underlying5 Tryd.underlying9 (fun j hj => ?_)
      rw [add_plain, hown.cellAt _ (by omega), bytesV_get l _ hj]
    have HL := Lib.hid hl
    have HV := Lib.hid hV
    clear hl hV
    go_enter Tryd.func43, Tryd.ntmps43
    go_wp2
    go_ret
    exact ⟨⟨l, HL.out, HV.out, rfl⟩, rfl⟩
end Go.Proofs.YtdeiolagnheihaaDoor
