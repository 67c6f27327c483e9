/- lzw.Unpack. -/
import Derived.Test.YtdeiolagnheihaaDoorLzwL
import Derived.Lib.AppendStr
import Derived.Deep.LoopGhost
namespace Go.Proofs.YtdeiolagnheihaaDoor
open Go.RowKit
set_option maxRecDepth 100000
def UnlPost (w w' : World) (E : Nat → Addr) (r : Lz.Res) (e : Ending) : Prop :=
  Ext w w' ∧ match r with
    | .text => e = .returned (.tuple #[.string ⟨#[]⟩, .int .i64 0, .iface 180 (.pointer (some (E 0)))])
    | .bound => e = .returned (.tuple #[.string ⟨#[]⟩, .int .i64 0, .iface 180 (.pointer (some (E 1)))])
    | .ok out u => e = .returned (.tuple #[.string (tb out), .int .i64 (u : Int), .nilIface])
theorem unlp_text {w w' : World} {E : Nat → Addr} {r : Lz.Res} (hX : Ext w w') (h : r = .text) : UnlPost w w' E r (.returned (.tuple #[.string ⟨#[]⟩, .int .i64 0, .iface 180 (.pointer (some (E 0)))])) := by
  subst h; exact ⟨hX, rfl⟩
theorem unlp_bound {w w' : World} {E : Nat → Addr} {r : Lz.Res} (hX : Ext w w') (h : r = .bound) : UnlPost w w' E r (.returned (.tuple #[.string ⟨#[]⟩, .int .i64 0, .iface 180 (.pointer (some (E 1)))])) := by
  subst h; exact ⟨hX, rfl⟩
theorem unlp_ok {w w' : World} {E : Nat → Addr} {r : Lz.Res} {out : List UInt8} {u : Nat} {k : Int} (hX : Ext w w') (h : r = .ok out u) (hk : k = (u : Int)) : UnlPost w w' E r (.returned (.tuple #[.string (tb out), .int .i64 k, .nilIface])) := by
  subst h hk; exact ⟨hX, rfl⟩
theorem errs_cell0 {w : World} {E : Nat → Addr} (h : Er2 w E) : w.cell? ⟨2, 0, none⟩ = some (.iface 180 (.pointer (some (E 0)))) := h.c0
theorem errs_cell1 {w : World} {E : Nat → Addr} (h : Er2 w E) : w.cell? ⟨0, 0, none⟩ = some (.iface 180 (.pointer (some (E 1)))) := h.c1
theorem wrap_in {x : Int} (h0 : 0 ≤ x) (h1 : x ≤ 9000000000) : IntKind.i64.wrap x = x := by unfold IntKind.wrap; simp [IntKind.bits, IntKind.signed]; omega
theorem lbad_yes (x : Int) (w : World) (h : x < 2 ∨ 8 < x) : Calls Tryd.prog 39 #[.int .i64 x] w fun e w' => e = .returned (.bool true) ∧ w = w' := by
  by_cases h2 : x < 2
  · clear h
    go_enter Tryd.func39, Tryd.ntmps39
    go_wp2_with fail
    go_ret
    exact ⟨rfl, rfl⟩
  · have h8 : 8 < x := by omega
    clear h
    go_enter Tryd.func39, Tryd.ntmps39
    go_wp2_with fail
    go_ret
    exact ⟨rfl, rfl⟩
theorem lbad_no (x : Int) (w : World) (h2 : 2 ≤ x) (h8 : x ≤ 8) : Calls Tryd.prog 39 #[.int .i64 x] w fun e w' => e = .returned (.bool false) ∧ w = w' := by
  go_enter Tryd.func39, Tryd.ntmps39
  go_wp2_with fail
  go_ret
  exact ⟨ret_bool (by simp; omega), rfl⟩
set_option linter.unusedSimpArgs false in
set_option maxHeartbeats 4000000 in
theorem unpack_bad (s : ByteArray) (wd most : Int) (w : World) (E : Nat → Addr) (hE : Er2 w E) (hs : s.size ≤ maxLen) (h : (wd < 2 ∨ 8 < wd) ∨ most < 0 ∨ 300000 < most ∨ 300000 < s.size) :
    Calls Tryd.prog 13 #[.string s, .int .i64 wd, .int .i64 most] w fun e w' => UnlPost w w' E .bound e := by
  unfold maxLen at hs
  have hv := errs_cell1 hE
  clear hE
  by_cases hb : wd < 2 ∨ 8 < wd
  · clear h
    go_enter Tryd.func13, Tryd.ntmps13
    go_wp2_with fail
    refine (lbad_yes _ _ hb).mono ?_
    rintro e w9 ⟨rfl, rfl⟩
    go_wp2_with fail
    go_region
    all_goals
      (try go_wp2_with fail)
      go_ret3
      exact unlp_bound (show Ext w _ from Below.drew (Ext.refl _)) rfl
  · have h2 : 2 ≤ wd := by omega
    have h8 : wd ≤ 8 := by omega
    by_cases hm0 : most < 0
    · clear h hb
      go_enter Tryd.func13, Tryd.ntmps13
      go_wp2_with fail
      refine (lbad_no _ _ h2 h8).mono ?_
      rintro e w9 ⟨rfl, rfl⟩
      go_wp2_with fail
      go_region
      all_goals
        (try go_wp2_with fail)
        go_ret3
        exact unlp_bound (show Ext w _ from Below.drew (Ext.refl _)) rfl
    · by_cases hm1 : 300000 < most
      · clear h hb
        go_enter Tryd.func13, Tryd.ntmps13
        go_wp2_with fail
        refine (lbad_no _ _ h2 h8).mono ?_
        rintro e w9 ⟨rfl, rfl⟩
        go_wp2_with fail
        go_region
        all_goals
          (try go_wp2_with fail)
          go_ret3
          exact unlp_bound (show Ext w _ from Below.drew (Ext.refl _)) rfl
      · have hs3 : (300000 : Int) < (s.size : Int) := by omega
        clear h hb
        go_enter Tryd.func13, Tryd.ntmps13
        go_wp2_with fail
        refine (lbad_no _ _ h2 h8).mono ?_
        rintro e w9 ⟨rfl, rfl⟩
        go_wp2_with fail
        go_region
        all_goals
          (try go_wp2_with fail)
          go_ret3
          exact unlp_bound (show Ext w _ from Below.drew (Ext.refl _)) rfl
theorem word_no {c n : Nat} {L : List ByteArray} {last : ByteArray} (h : Lz.wordOf c L last n = none) (h1 : n ≠ c) (h2 : n ≠ c + 1) : c + 2 + L.length ≤ n ∧ (last.size ≠ 0 → n ≠ c + 2 + L.length) := by
  unfold Lz.wordOf at h
  split at h
  · cases h
  · split at h
    · rename_i q1 q2
      rw [List.getElem?_eq_getElem (by omega)] at h; cases h
    · split at h
      · cases h
      · rename_i q1 q2 q3
        exact ⟨by omega, fun hl e => q3 ⟨e, hl⟩⟩
set_option linter.unusedSimpArgs false in
set_option maxHeartbeats 4000000 in
theorem unpack_in (s : ByteArray) (wd most : Nat) (w : World) (E : Nat → Addr) (hE : Er2 w E) (hs : s.size ≤ 300000) (h2 : 2 ≤ wd) (h8 : wd ≤ 8) (hm : most ≤ 300000) :
    Calls Tryd.prog 13 #[.string s, .int .i64 (wd : Int), .int .i64 (most : Int)] w fun e w' => UnlPost w w' E (Lz.unl (Crc.num s.data.toList) (8 * s.size) (2 ^ wd) wd most [] (wd + 1) ByteArray.empty [] 0) e := by
  obtain ⟨i0, hi0, hz0, hz1, hz2⟩ := info_parts u8inf
  have HE := Lib.hid hE
  obtain ⟨c, hc⟩ : ∃ c : Nat, 2 ^ wd = c := ⟨_, rfl⟩
  have hcI := pow_int hc
  obtain ⟨hcl, hch⟩ := pow_bds hc h2 h8
  have HC := Lib.hid hc
  obtain ⟨N, hN⟩ : ∃ N, Crc.num s.data.toList = N := ⟨_, rfl⟩
  have HN := Lib.hid hN
  rw [hc, hN]
  obtain ⟨r, hr⟩ : ∃ r, Lz.unl N (8 * s.size) c wd most [] (wd + 1) ByteArray.empty [] 0 = r := ⟨_, rfl⟩
  have HRr := Lib.hid hr
  rw [hr]
  clear hE hN hr
  have hw2 : 2 ≤ (wd : Int) := by omega
  have hw8 : (wd : Int) ≤ 8 := by omega
  have hmI : ¬ (300000 : Int) < (most : Int) := by omega
  have hsI : ¬ (300000 : Int) < (s.size : Int) := by omega
  clear hc
  clear hcI
  go_enter Tryd.func13, Tryd.ntmps13
  go_wp2_with fail
  refine (lbad_no _ _ hw2 hw8).mono ?_
  rintro e w9 ⟨rfl, rfl⟩
  go_wp2_with fail
  refine (newReader_calls s _ (by omega)).mono ?_
  rintro e w1 ⟨rfl, hr1, hx1⟩
  have HR1 := Lib.hid hr1
  have HX1 := Lib.hid hx1
  have hz1 : w.heap.size < w1.heap.size := World.block_lt_of_cell? w1 _ hr1.c0
  clear hr1 hx1
  go_wp2_with fail
  refine calls_world (fun wz => Ext w1 wz ∧ Bk wz w1.heap.size #[.slice none 0 0, .int .i64 0, .string ⟨#[]⟩]) ⟨(Ext.refl _).alloc _, Bk.at rfl⟩ ?_
  rintro w2 ⟨hX, hB⟩
  refine (uclear_any w1.heap.size wd _ _ _ _ h2 h8 hB).mono ?_
  rintro e w3 ⟨rfl, v0, hA, hK, hn⟩
  have hz2 := hX.size
  have HS : Hid (LSt w w3 w.heap.size w1.heap.size s c wd most [] (wd + 1) ByteArray.empty [] 0 v0 (.slice none 0 0)) := Lib.hid (by
    rw [HC.out] at hA
    have hk2 : Ext w w2 := HX1.out.trans hX
    have hz := hX.size
    refine ⟨(HR1.out.keeps (hX.keeps (S := fun _ => False)) id).keeps hK (fun e => by omega), hA, World.ownsRow_nil _ _ _ _, Below.trans hk2 (hK.below hk2.size (fun k hk e => by omega)), Nat.le_refl _, (by omega), (by omega), (fun e => by have := hn _ e; omega), (fun k hk => by have := hn _ hk; omega), (fun e => by cases e), (fun e => by cases e), (fun k hk => by cases hk), Lz.Ok.fresh (by omega) h2 h8 (by simp), (by omega)⟩)
  clear hA hK hn hX hB hz1 HR1 HX1 hz2
  obtain ⟨U, hU⟩ : ∃ U, w1.heap.size = U := ⟨_, rfl⟩
  rw [hU] at HS ⊢
  clear hU
  go_wp2_with fail
  go_loopg [11] (8 * s.size) (fun k o wr => ∃ (L : List ByteArray) (size : Nat) (last : ByteArray) (out : List UInt8) (a : Nat) (v : Value), Hid (LSt w wr w.heap.size U s c wd most L size last out a v o) ∧ Hid (Lz.unl N (8 * s.size) c wd most L size last out a = r) ∧ Hid (k + a = 8 * s.size))
  case atStart => exact ⟨[], wd + 1, ByteArray.empty, [], 0, v0, HS, HRr, Lib.hid rfl⟩
  case round =>
    clear HS HRr
    obtain ⟨L, size, last, out, a, v, HS, HRr, HG⟩ := hrel
    have hok := HS.out.ok
    have hsz3 := hok.lo
    have hsz12 := hok.hi
    have hlen := hok.len
    have hout := hok.out
    have hlast := hok.last
    have HOK := Lib.hid hok
    clear hok
    obtain ⟨T, hT⟩ : ∃ T, out.length = T := ⟨_, rfl⟩
    have HT := Lib.hid hT
    have hro := HS.out.row
    rw [hT] at hro hout hlast
    obtain ⟨xo, co, rfl⟩ := lit_row hro
    clear hT hro
    have u1 := HS.out.ua.bk.cell 1
    go_wp2_with fail
    by_cases hin : 8 * s.size < a + size
    · refine (get_text2 _ _ _ size _ _ E (HE.out.ext HS.out.old) HS.out.rd (by omega) hin HS.out.le).mono ?_
      rintro e w4 ⟨rfl, h4⟩
      have HX4 := Lib.hid (HS.out.old.trans h4)
      have HQ : Hid (r = .text) := Lib.hid (by rw [← HRr.out]; exact Lz.unl_over hin)
      clear h4 u1
      unfold sentV
      go_wp2_with fail
      go_ret3
      exact unlp_text HX4.out HQ.out
    · refine (get_in _ _ _ size _ _ HS.out.rd (by omega) (by omega)).mono ?_
      rintro e w4 ⟨rfl, hr4, hs4⟩
      have HS4 := Lib.hid (HS.out.get hr4 hs4 (by omega))
      rw [HN.out]
      obtain ⟨n, hn⟩ : ∃ n, N / 2 ^ a % 2 ^ size = n := ⟨_, rfl⟩
      have hnl : n < 4096 := by rw [← hn]; exact Nat.lt_of_lt_of_le (Nat.mod_lt _ (Nat.two_pow_pos _)) (Nat.le_trans (Nat.pow_le_pow_right (by decide) hsz12) (by decide))
      rw [hn]
      have HNN := Lib.hid hn
      have hcI := pow_int HC.out
      have hal : a + size ≤ 8 * s.size := by omega
      have HAL := Lib.hid hal
      clear hn hr4 hs4 u1 HS hin
      by_cases hnc : n = c
      · have t1 : ((n : Int) == (c : Int)) = true := beq_iff_eq.2 (by omega)
        have HR2 := Lib.hid ((Lz.unl_clear (wd := wd) (most := most) (L := L) (last := last) (out := out) HAL.out (by omega) HNN.out hnc).symm.trans HRr.out)
        clear hnc
        go_wp2_with fail
        refine (uclear_any U wd _ _ _ _ h2 h8 HS4.out.ua.bk).mono ?_
        rintro e w5 ⟨rfl, v5, hA, hK, hn5⟩
        have HS5 := Lib.hid (HS4.out.clear (by omega) h2 h8 (by rw [HC.out] at hA; exact hA) hK hn5)
        clear hA hK hn5
        go_wp2_with fail
        go_roundg (8 * s.size - (a + size))
        case measure => have := HG.out; omega
        case rel => exact ⟨_, _, _, _, _, _, HS5, HR2, Lib.hid (by omega)⟩
      · have t1 : ((n : Int) == (c : Int)) = false := beq_eq_false_iff_ne.2 (by omega)
        by_cases hn1 : n = c + 1
        · have t2 : ((n : Int) == (c : Int) + 1) = true := beq_iff_eq.2 (by omega)
          have HQ : Hid (r = .ok out ((a + size + 7) / 8)) := Lib.hid (by rw [← HRr.out]; exact Lz.unl_end HAL.out (by omega) HNN.out hn1)
          clear hnc hn1
          have hal2 : a + size ≤ 2400000 := by have := HS4.out.le; omega
          have hw7 : IntKind.i64.wrap ((a : Int) + (size : Int) + 7) = (a : Int) + (size : Int) + 7 := by unfold IntKind.wrap; simp [IntKind.bits, IntKind.signed]; omega
          have hw8 : IntKind.i64.wrap (((a + size : Nat) : Int) + 7) = (a : Int) + (size : Int) + 7 := by unfold IntKind.wrap; simp [IntKind.bits, IntKind.signed]; omega
          go_wp2_with fail
          have H_0 := Lib.hid (HS4.out)
          refine wp_region_held_drew (S := fun w' => True) (by kernel_rfl) trivial (fun hHeld => ?_)
          clear hHeld
          refine anyH_world (fun wz => Ext w4 wz) (show Ext w4 w4.drew from Below.drew (Ext.refl w4)) ?_
          rintro w1 h
          have H_1 := Lib.hid (H_0.out.ext h)
          clear h H_0
          have hHeld : True := trivial
          refine wpAnyH_take (i := 0) (v := ?_) rfl (by kernel_rfl) (by kernel_rfl) (by kernel_rfl) (fun _ _ _ h => h) (Or.inl ⟨by kernel_rfl, ?_⟩) hHeld ?_
          rotate_left
          · intro w hSw
            (try dsimp only at hSw)
            go_split_ands
            go_simp
            (try with_reducible rfl)
          try simp only [Act.put, List.getElem_toArray, List.getElem_cons_succ, List.getElem_cons_zero, List.setIfInBounds_toArray, List.set_cons_zero, List.set_cons_succ]
          refine wpAnyH_take (i := 2) (v := ?_) rfl (by kernel_rfl) (by kernel_rfl) (by kernel_rfl) (fun _ _ _ h => h) (Or.inl ⟨by kernel_rfl, ?_⟩) hHeld ?_
          rotate_left
          · intro w hSw
            (try dsimp only at hSw)
            go_split_ands
            go_simp
            (try with_reducible rfl)
          try simp only [Act.put, List.getElem_toArray, List.getElem_cons_succ, List.getElem_cons_zero, List.setIfInBounds_toArray, List.set_cons_zero, List.set_cons_succ]
          refine wpAnyH_ready (rs := [1, 3]) (by kernel_rfl) (by simp) ?_
          refine AllReadyH.cons rfl (fun KK hK => ?_) (AllReadyH.cons rfl (fun KK hK => ?_) AllReadyH.nil)
          · clear hHeld
            have hro4 := H_1.out.row
            rw [HT.out] at hro4
            have hcr := conv_row HT.out hro4
            clear hro4
            go_simp
            refine hK.out _ _ trivial (fun hHeld => ?_)
            clear hK KK hcr
            try simp only [Act.put, List.getElem_toArray, List.getElem_cons_succ, List.getElem_cons_zero, List.setIfInBounds_toArray, List.set_cons_zero, List.set_cons_succ]
            refine wpAnyH_ready (rs := [3]) (by kernel_rfl) (by simp) ?_
            refine AllReadyH.cons rfl (fun KK hK => ?_) AllReadyH.nil
            clear hHeld
            go_simp
            refine (at_calls _ _ _ _ _ H_1.out.rd).mono ?_
            rintro e w9 ⟨rfl, rfl⟩
            go_simp
            refine hK.out _ _ trivial (fun hHeld => ?_)
            clear hK KK
            try simp only [Act.put, List.getElem_toArray, List.getElem_cons_succ, List.getElem_cons_zero, List.setIfInBounds_toArray, List.set_cons_zero, List.set_cons_succ]
            refine wpAnyH_take (i := 4) (v := ?_) rfl (by kernel_rfl) (by kernel_rfl) (by kernel_rfl) (fun _ _ _ h => h) (Or.inl ⟨by kernel_rfl, ?_⟩) hHeld ?_
            rotate_left
            · intro w hSw
              (try dsimp only at hSw)
              go_split_ands
              go_simp
              (try with_reducible rfl)
            try simp only [Act.put, List.getElem_toArray, List.getElem_cons_succ, List.getElem_cons_zero, List.setIfInBounds_toArray, List.set_cons_zero, List.set_cons_succ]
            refine wpAnyH_take (i := 5) (v := ?_) rfl (by kernel_rfl) (by kernel_rfl) (by kernel_rfl) (fun _ _ _ h => h) (Or.inl ⟨by kernel_rfl, ?_⟩) hHeld ?_
            rotate_left
            · intro w hSw
              (try dsimp only at hSw)
              go_split_ands
              go_simp
              (try with_reducible rfl)
            try simp only [Act.put, List.getElem_toArray, List.getElem_cons_succ, List.getElem_cons_zero, List.setIfInBounds_toArray, List.set_cons_zero, List.set_cons_succ]
            refine wpAnyH_take (i := 6) (v := ?_) rfl (by kernel_rfl) (by kernel_rfl) (by kernel_rfl) (fun _ _ _ h => h) (Or.inl ⟨by kernel_rfl, ?_⟩) hHeld ?_
            rotate_left
            · intro w hSw
              (try dsimp only at hSw)
              go_split_ands
              go_simp
              (try with_reducible rfl)
            try simp only [Act.put, List.getElem_toArray, List.getElem_cons_succ, List.getElem_cons_zero, List.setIfInBounds_toArray, List.set_cons_zero, List.set_cons_succ]
            refine wpAnyH_take (i := 7) (v := ?_) rfl (by kernel_rfl) (by kernel_rfl) (by kernel_rfl) (fun _ _ _ h => h) (Or.inl ⟨by kernel_rfl, ?_⟩) hHeld ?_
            rotate_left
            · intro w hSw
              (try dsimp only at hSw)
              go_split_ands
              go_simp
              (try with_reducible rfl)
            try simp only [Act.put, List.getElem_toArray, List.getElem_cons_succ, List.getElem_cons_zero, List.setIfInBounds_toArray, List.set_cons_zero, List.set_cons_succ]
            refine wpAnyH_take (i := 8) (v := ?_) rfl (by kernel_rfl) (by kernel_rfl) (by kernel_rfl) (fun _ _ _ h => h) (Or.inl ⟨by kernel_rfl, ?_⟩) hHeld ?_
            rotate_left
            · intro w hSw
              (try dsimp only at hSw)
              go_split_ands
              go_simp
              (try with_reducible rfl)
            try simp only [Act.put, List.getElem_toArray, List.getElem_cons_succ, List.getElem_cons_zero, List.setIfInBounds_toArray, List.set_cons_zero, List.set_cons_succ]
            refine wpAnyH_done (by kernel_rfl) ?_ _
            clear hHeld
            go_wp2_with fail
            go_ret3
            exact unlp_ok H_1.out.old HQ.out (by first | omega | (rw [Int.tdiv_eq_ediv_of_nonneg (by omega), wrap_in (by omega) (by omega)]; omega))
          · clear hHeld
            go_simp
            refine (at_calls _ _ _ _ _ H_1.out.rd).mono ?_
            rintro e w9 ⟨rfl, rfl⟩
            go_simp
            refine hK.out _ _ trivial (fun hHeld => ?_)
            clear hK KK
            try simp only [Act.put, List.getElem_toArray, List.getElem_cons_succ, List.getElem_cons_zero, List.setIfInBounds_toArray, List.set_cons_zero, List.set_cons_succ]
            refine wpAnyH_take (i := 4) (v := ?_) rfl (by kernel_rfl) (by kernel_rfl) (by kernel_rfl) (fun _ _ _ h => h) (Or.inl ⟨by kernel_rfl, ?_⟩) hHeld ?_
            rotate_left
            · intro w hSw
              (try dsimp only at hSw)
              go_split_ands
              go_simp
              (try with_reducible rfl)
            try simp only [Act.put, List.getElem_toArray, List.getElem_cons_succ, List.getElem_cons_zero, List.setIfInBounds_toArray, List.set_cons_zero, List.set_cons_succ]
            refine wpAnyH_take (i := 5) (v := ?_) rfl (by kernel_rfl) (by kernel_rfl) (by kernel_rfl) (fun _ _ _ h => h) (Or.inl ⟨by kernel_rfl, ?_⟩) hHeld ?_
            rotate_left
            · intro w hSw
              (try dsimp only at hSw)
              go_split_ands
              go_simp
              (try with_reducible rfl)
            try simp only [Act.put, List.getElem_toArray, List.getElem_cons_succ, List.getElem_cons_zero, List.setIfInBounds_toArray, List.set_cons_zero, List.set_cons_succ]
            refine wpAnyH_ready (rs := [1]) (by kernel_rfl) (by simp) ?_
            refine AllReadyH.cons rfl (fun KK hK => ?_) AllReadyH.nil
            clear hHeld
            have hro4 := H_1.out.row
            rw [HT.out] at hro4
            have hcr := conv_row HT.out hro4
            clear hro4
            go_simp
            refine hK.out _ _ trivial (fun hHeld => ?_)
            clear hK KK hcr
            try simp only [Act.put, List.getElem_toArray, List.getElem_cons_succ, List.getElem_cons_zero, List.setIfInBounds_toArray, List.set_cons_zero, List.set_cons_succ]
            refine wpAnyH_take (i := 6) (v := ?_) rfl (by kernel_rfl) (by kernel_rfl) (by kernel_rfl) (fun _ _ _ h => h) (Or.inl ⟨by kernel_rfl, ?_⟩) hHeld ?_
            rotate_left
            · intro w hSw
              (try dsimp only at hSw)
              go_split_ands
              go_simp
              (try with_reducible rfl)
            try simp only [Act.put, List.getElem_toArray, List.getElem_cons_succ, List.getElem_cons_zero, List.setIfInBounds_toArray, List.set_cons_zero, List.set_cons_succ]
            refine wpAnyH_take (i := 7) (v := ?_) rfl (by kernel_rfl) (by kernel_rfl) (by kernel_rfl) (fun _ _ _ h => h) (Or.inl ⟨by kernel_rfl, ?_⟩) hHeld ?_
            rotate_left
            · intro w hSw
              (try dsimp only at hSw)
              go_split_ands
              go_simp
              (try with_reducible rfl)
            try simp only [Act.put, List.getElem_toArray, List.getElem_cons_succ, List.getElem_cons_zero, List.setIfInBounds_toArray, List.set_cons_zero, List.set_cons_succ]
            refine wpAnyH_take (i := 8) (v := ?_) rfl (by kernel_rfl) (by kernel_rfl) (by kernel_rfl) (fun _ _ _ h => h) (Or.inl ⟨by kernel_rfl, ?_⟩) hHeld ?_
            rotate_left
            · intro w hSw
              (try dsimp only at hSw)
              go_split_ands
              go_simp
              (try with_reducible rfl)
            try simp only [Act.put, List.getElem_toArray, List.getElem_cons_succ, List.getElem_cons_zero, List.setIfInBounds_toArray, List.set_cons_zero, List.set_cons_succ]
            refine wpAnyH_done (by kernel_rfl) ?_ _
            clear hHeld
            go_wp2_with fail
            go_ret3
            exact unlp_ok H_1.out.old HQ.out (by first | omega | (rw [Int.tdiv_eq_ediv_of_nonneg (by omega), wrap_in (by omega) (by omega)]; omega))
        · have t2 : ((n : Int) == (c : Int) + 1) = false := beq_eq_false_iff_ne.2 (by omega)
          have hUA := HS4.out.ua
          cases hw : Lz.wordOf c L last n with
          | none =>
            have HQ : Hid (r = .text) := Lib.hid (by rw [← HRr.out]; exact Lz.unl_none HAL.out (by omega) HNN.out hnc hn1 hw)
            have HU := Lib.hid hUA
            obtain ⟨q1, q2⟩ := word_no hw hnc hn1
            have Q1 := Lib.hid q1
            have Q2 := Lib.hid q2
            clear hUA hw hnc hn1 q1 q2
            go_wp2_with fail
            refine (uword_none U c n size _ L last _ HU.out Q1.out Q2.out hlen (by omega)).mono ?_
            rintro e w9 ⟨rfl, rfl⟩
            have hv := errs_cell0 (HE.out.ext HS4.out.old)
            go_wp2_with fail
            go_region
            all_goals
              (try go_wp2_with fail)
              go_ret3
              exact unlp_text (show Ext w _ from Below.drew HS4.out.old) HQ.out
          | some x =>
            obtain ⟨hx0, hx1⟩ := Lz.word_pos HOK.out hw
            have HW := Lib.hid hw
            have HNE := Lib.hid (And.intro hnc hn1)
            have HU := Lib.hid hUA
            clear hUA hw hnc hn1
            go_wp2_with fail
            refine (uword_any U c n size _ L last x _ HU.out HNE.out.1 HNE.out.2 HW.out hlen hsz12 (by omega) (by omega) hx0).mono ?_
            rintro e w5 ⟨rfl, v5, hA5, hS5⟩
            have HA5 := Lib.hid hA5
            have HS5 := Lib.hid hS5
            have HP := Lib.hid (HS4.out.word hA5 hS5)
            clear hA5 hS5
            by_cases hb : most < out.length + x.size
            · have HQ : Hid (r = .bound) := Lib.hid (by rw [← HRr.out]; exact Lz.unl_bound HAL.out (by omega) HNN.out HNE.out.1 HNE.out.2 HW.out hb)
              have hv := errs_cell1 (HE.out.ext HP.out.2.2.1)
              have hbI : (most : Int) < (T : Int) + (x.size : Int) := by have := HT.out; omega
              clear hb
              go_wp2_with fail
              go_region
              all_goals
                (try go_wp2_with fail)
                go_ret3
                exact unlp_bound (show Ext w _ from Below.drew HP.out.2.2.1) HQ.out
            · have HR2 := Lib.hid ((Lz.unl_word (wd := wd) HAL.out (by omega) HNN.out HNE.out.1 HNE.out.2 HW.out hb).symm.trans HRr.out)
              have HOK2 := Lib.hid (HOK.out.step HW.out hb)
              have hbI : ¬ (most : Int) < (T : Int) + (x.size : Int) := by have := HT.out; omega
              have hro := HP.out.2.1
              rw [HT.out] at hro
              have HRO := Lib.hid hro
              clear hro hb
              have hsz : w.heap.size ≤ w5.heap.size := HP.out.2.2.1.size
              go_wp2_with (at_builtin; refine Lib.wpList_append_own_string _ rfl _ _ 23 9 rfl w.heap.size 5 i0 Tryd.underlying23 Tryd.underlying9 hi0 hz0 hz1 hz2 _ _ _ rfl HRO.out x rfl ?c3 ?c4 hsz ?_)
              case c3 => unfold maxLen; omega
              case c4 => omega
              intro o6 w6 hown hgrow _
              have HS6 := Lib.hid (HS4.out.push HA5.out HS5.out (by omega) hx0 HOK2.out hgrow (by rw [HT.out]; exact hown))
              clear hown hgrow
              go_wp2_with fail
              go_roundg (8 * s.size - (a + size))
              case measure => have := HG.out; omega
              case rel => exact ⟨_, _, _, _, _, _, HS6, HR2, Lib.hid (by omega)⟩
end Go.Proofs.YtdeiolagnheihaaDoor
