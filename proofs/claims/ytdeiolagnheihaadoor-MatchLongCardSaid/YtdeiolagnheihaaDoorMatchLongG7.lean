/-
  lzw.Unpack.
  match.Fewest.
  Tokens: what they mean, as lists; rows of tokens as they lie in memory; a row of bytes that grows. No function of the program is named.
  Tokens of a text: what they mean, as they grow. No function of the program is named.
-/
import Derived.Test.YtdeiolagnheihaaDoorMatchLongG6
import Derived.Lib.AppendStr
import Derived.Deep.LoopGhost
import Derived.Test.YtdeiolagnheihaaDoorMatchLongG1
import Derived.Test.YtdeiolagnheihaaDoorMatchLongG2
import Derived.Test.YtdeiolagnheihaaDoorMatchLongG3
import Derived.StillTailTactics
import Derived.Test.YtdeiolagnheihaaDoorMatchLongG4
namespace Go.Proofs.YtdeiolagnheihaaDoor
open Go.RowKit
set_option maxRecDepth 100000
def UnlPost (w w' : World) (E : Nat → Addr) (r : Lz.Res) (e : Ending) : Prop :=
  Ext w w' ∧ match r with
    | .text => e = .returned (.tuple #[.string ⟨#[]⟩, .int .i64 0, .iface 180 (.pointer (some (E 0)))])
    | .bound => e = .returned (.tuple #[.string ⟨#[]⟩, .int .i64 0, .iface 180 (.pointer (some (E 1)))])
    | .ok out u => e = .returned (.tuple #[.string (tb out), .int .i64 (u : Int), .nilIface])
theorem unlp_text {w w' : World} {E : Nat → Addr} {r : Lz.Res} (hX : Ext w w') (h : r = .text) : UnlPost w w' E r (.returned (.tuple #[.string ⟨#[]⟩, .int .i64 0, .iface 180 (.pointer (some (E 0)))])) := by
  subst h; exact ⟨hX, rfl⟩
theorem unlp_bound {w w' : World} {E : Nat → Addr} {r : Lz.Res} (hX : Ext w w') (h : r = .bound) : UnlPost w w' E r (.returned (.tuple #[.string ⟨#[]⟩, .int .i64 0, .iface 180 (.pointer (some (E 1)))])) := by
  subst h; exact ⟨hX, rfl⟩
theorem unlp_ok {w w' : World} {E : Nat → Addr} {r : Lz.Res} {out : List UInt8} {u : Nat} {k : Int} (hX : Ext w w') (h : r = .ok out u) (hk : k = (u : Int)) : UnlPost w w' E r (.returned (.tuple #[.string (tb out), .int .i64 k, .nilIface])) := by
  subst h hk; exact ⟨hX, rfl⟩
theorem errs_cell0 {w : World} {E : Nat → Addr} (h : Er2 w E) : w.cell? ⟨2, 0, none⟩ = some (.iface 180 (.pointer (some (E 0)))) := h.c0
theorem errs_cell1 {w : World} {E : Nat → Addr} (h : Er2 w E) : w.cell? ⟨0, 0, none⟩ = some (.iface 180 (.pointer (some (E 1)))) := h.c1
theorem wrap_in {x : Int} (h0 : 0 ≤ x) (h1 : x ≤ 9000000000) : IntKind.i64.wrap x = x := by unfold IntKind.wrap; simp [IntKind.bits, IntKind.signed]; omega
theorem lbad_yes (x : Int) (w : World) (h : x < 2 ∨ 8 < x) : Calls Tryd.prog 39 #[.int .i64 x] w fun e w' => e = .returned (.bool true) ∧ w = w' := by
  by_cases h2 : x < 2
  · clear h
    go_enter Tryd.func39, Tryd.ntmps39
    go_wp2_with fail
    go_ret
    exact ⟨rfl, rfl⟩
  · have h8 : 8 < x := by omega
    clear h
    go_enter Tryd.func39, Tryd.ntmps39
    go_wp2_with fail
    go_ret
    exact ⟨rfl, rfl⟩
theorem lbad_no (x : Int) (w : World) (h2 : 2 ≤ x) (h8 : x ≤ 8) : Calls Tryd.prog 39 #[.int .i64 x] w fun e w' => e = .returned (.bool false) ∧ w = w' := by
  go_enter Tryd.func39, Tryd.ntmps39
  go_wp2_with fail
  go_ret
  exact ⟨ret_bool (by simp; omega), rfl⟩
set_option linter.unusedSimpArgs false in
set_option maxHeartbeats 4000000 in
theorem unpack_bad (s : ByteArray) (wd most : Int) (w : World) (E : Nat → Addr) (hE : Er2 w E) (hs : s.size ≤ maxLen) (h : (wd < 2 ∨ 8 < wd) ∨ most < 0 ∨ 300000 < most ∨ 300000 < s.size) :
    Calls Tryd.prog 13 #[.string s, .int .i64 wd, .int .i64 most] w fun e w' => UnlPost w w' E .bound e := by
  unfold maxLen at hs
  have hv := errs_cell1 hE
  clear hE
  by_cases hb : wd < 2 ∨ 8 < wd
  · clear h
    go_enter Tryd.func13, Tryd.ntmps13
    go_wp2_with fail
    refine (lbad_yes _ _ hb).mono ?_
    rintro e w9 ⟨rfl, rfl⟩
    go_wp2_with fail
    go_region
    all_goals
      (try go_wp2_with fail)
      go_ret3
      exact unlp_bound (show Ext w _ from Below.drew (Ext.refl _)) rfl
  · have h2 : 2 ≤ wd := by omega
    have h8 : wd ≤ 8 := by omega
    by_cases hm0 : most < 0
    · clear h hb
      go_enter Tryd.func13, Tryd.ntmps13
      go_wp2_with fail
      refine (lbad_no _ _ h2 h8).mono ?_
      rintro e w9 ⟨rfl, rfl⟩
      go_wp2_with fail
      go_region
      all_goals
        (try go_wp2_with fail)
        go_ret3
        exact unlp_bound (show Ext w _ from Below.drew (Ext.refl _)) rfl
    · by_cases hm1 : 300000 < most
      · clear h hb
        go_enter Tryd.func13, Tryd.ntmps13
        go_wp2_with fail
        refine (lbad_no _ _ h2 h8).mono ?_
        rintro e w9 ⟨rfl, rfl⟩
        go_wp2_with fail
        go_region
        all_goals
          (try go_wp2_with fail)
          go_ret3
          exact unlp_bound (show Ext w _ from Below.drew (Ext.refl _)) rfl
      · have hs3 : (300000 : Int) < (s.size : Int) := by omega
        clear h hb
        go_enter Tryd.func13, Tryd.ntmps13
        go_wp2_with fail
        refine (lbad_no _ _ h2 h8).mono ?_
        rintro e w9 ⟨rfl, rfl⟩
        go_wp2_with fail
        go_region
        all_goals
          (try go_wp2_with fail)
          go_ret3
          exact unlp_bound (show Ext w _ from Below.drew (Ext.refl _)) rfl
theorem word_no {c n : Nat} {L : List ByteArray} {last : ByteArray} (h : Lz.wordOf c L last n = none) (h1 : n ≠ c) (h2 : n ≠ c + 1) : c + 2 + L.length ≤ n ∧ (last.size ≠ 0 → n ≠ c + 2 + L.length) := by
  unfold Lz.wordOf at h
  split at h
  · cases h
  · split at h
    · rename_i q1 q2
      rw [List.getElem?_eq_getElem (by omega)] at h; cases h
    · split at h
      · cases h
      · rename_i q1 q2 q3
        exact ⟨by omega, fun hl e => q3 ⟨e, hl⟩⟩
set_option linter.unusedSimpArgs false in
set_option maxHeartbeats 4000000 in
theorem unpack_in (s : ByteArray) (wd most : Nat) (w : World) (E : Nat → Addr) (hE : Er2 w E) (hs : s.size ≤ 300000) (h2 : 2 ≤ wd) (h8 : wd ≤ 8) (hm : most ≤ 300000) :
    Calls Tryd.prog 13 #[.string s, .int .i64 (wd : Int), .int .i64 (most : Int)] w fun e w' => UnlPost w w' E (Lz.unl (Crc.num s.data.toList) (8 * s.size) (2 ^ wd) wd most [] (wd + 1) ByteArray.empty [] 0) e := by
  obtain ⟨i0, hi0, hz0, hz1, hz2⟩ := info_parts u8inf
  have HE := Lib.hid hE
  obtain ⟨c, hc⟩ : ∃ c : Nat, 2 ^ wd = c := ⟨_, rfl⟩
  have hcI := pow_int hc
  obtain ⟨hcl, hch⟩ := pow_bds hc h2 h8
  have HC := Lib.hid hc
  obtain ⟨N, hN⟩ : ∃ N, Crc.num s.data.toList = N := ⟨_, rfl⟩
  have HN := Lib.hid hN
  rw [hc, hN]
  obtain ⟨r, hr⟩ : ∃ r, Lz.unl N (8 * s.size) c wd most [] (wd + 1) ByteArray.empty [] 0 = r := ⟨_, rfl⟩
  have HRr := Lib.hid hr
  rw [hr]
  clear hE hN hr
  have hw2 : 2 ≤ (wd : Int) := by omega
  have hw8 : (wd : Int) ≤ 8 := by omega
  have hmI : ¬ (300000 : Int) < (most : Int) := by omega
  have hsI : ¬ (300000 : Int) < (s.size : Int) := by omega
  clear hc
  clear hcI
  go_enter Tryd.func13, Tryd.ntmps13
  go_wp2_with fail
  refine (lbad_no _ _ hw2 hw8).mono ?_
  rintro e w9 ⟨rfl, rfl⟩
  go_wp2_with fail
  refine (newReader_calls s _ (by omega)).mono ?_
  rintro e w1 ⟨rfl, hr1, hx1⟩
  have HR1 := Lib.hid hr1
  have HX1 := Lib.hid hx1
  have hz1 : w.heap.size < w1.heap.size := World.block_lt_of_cell? w1 _ hr1.c0
  clear hr1 hx1
  go_wp2_with fail
  refine calls_world (fun wz => Ext w1 wz ∧ Bk wz w1.heap.size #[.slice none 0 0, .int .i64 0, .string ⟨#[]⟩]) ⟨(Ext.refl _).alloc _, Bk.at rfl⟩ ?_
  rintro w2 ⟨hX, hB⟩
  refine (uclear_any w1.heap.size wd _ _ _ _ h2 h8 hB).mono ?_
  rintro e w3 ⟨rfl, v0, hA, hK, hn⟩
  have hz2 := hX.size
  have HS : Hid (LSt w w3 w.heap.size w1.heap.size s c wd most [] (wd + 1) ByteArray.empty [] 0 v0 (.slice none 0 0)) := Lib.hid (by
    rw [HC.out] at hA
    have hk2 : Ext w w2 := HX1.out.trans hX
    have hz := hX.size
    refine ⟨(HR1.out.keeps (hX.keeps (S := fun _ => False)) id).keeps hK (fun e => by omega), hA, World.ownsRow_nil _ _ _ _, Below.trans hk2 (hK.below hk2.size (fun k hk e => by omega)), Nat.le_refl _, (by omega), (by omega), (fun e => by have := hn _ e; omega), (fun k hk => by have := hn _ hk; omega), (fun e => by cases e), (fun e => by cases e), (fun k hk => by cases hk), Lz.Ok.fresh (by omega) h2 h8 (by simp), (by omega)⟩)
  clear hA hK hn hX hB hz1 HR1 HX1 hz2
  obtain ⟨U, hU⟩ : ∃ U, w1.heap.size = U := ⟨_, rfl⟩
  rw [hU] at HS ⊢
  clear hU
  go_wp2_with fail
  go_loopg [11] (8 * s.size) (fun k o wr => ∃ (L : List ByteArray) (size : Nat) (last : ByteArray) (out : List UInt8) (a : Nat) (v : Value), Hid (LSt w wr w.heap.size U s c wd most L size last out a v o) ∧ Hid (Lz.unl N (8 * s.size) c wd most L size last out a = r) ∧ Hid (k + a = 8 * s.size))
  case atStart => exact ⟨[], wd + 1, ByteArray.empty, [], 0, v0, HS, HRr, Lib.hid rfl⟩
  case round =>
    clear HS HRr
    obtain ⟨L, size, last, out, a, v, HS, HRr, HG⟩ := hrel
    have hok := HS.out.ok
    have hsz3 := hok.lo
    have hsz12 := hok.hi
    have hlen := hok.len
    have hout := hok.out
    have hlast := hok.last
    have HOK := Lib.hid hok
    clear hok
    obtain ⟨T, hT⟩ : ∃ T, out.length = T := ⟨_, rfl⟩
    have HT := Lib.hid hT
    have hro := HS.out.row
    rw [hT] at hro hout hlast
    obtain ⟨xo, co, rfl⟩ := lit_row hro
    clear hT hro
    have u1 := HS.out.ua.bk.cell 1
    go_wp2_with fail
    by_cases hin : 8 * s.size < a + size
    · refine (get_text2 _ _ _ size _ _ E (HE.out.ext HS.out.old) HS.out.rd (by omega) hin HS.out.le).mono ?_
      rintro e w4 ⟨rfl, h4⟩
      have HX4 := Lib.hid (HS.out.old.trans h4)
      have HQ : Hid (r = .text) := Lib.hid (by rw [← HRr.out]; exact Lz.unl_over hin)
      clear h4 u1
      unfold sentV
      go_wp2_with fail
      go_ret3
      exact unlp_text HX4.out HQ.out
    · refine (get_in _ _ _ size _ _ HS.out.rd (by omega) (by omega)).mono ?_
      rintro e w4 ⟨rfl, hr4, hs4⟩
      have HS4 := Lib.hid (HS.out.get hr4 hs4 (by omega))
      rw [HN.out]
      obtain ⟨n, hn⟩ : ∃ n, N / 2 ^ a % 2 ^ size = n := ⟨_, rfl⟩
      have hnl : n < 4096 := by rw [← hn]; exact Nat.lt_of_lt_of_le (Nat.mod_lt _ (Nat.two_pow_pos _)) (Nat.le_trans (Nat.pow_le_pow_right (by decide) hsz12) (by decide))
      rw [hn]
      have HNN := Lib.hid hn
      have hcI := pow_int HC.out
      have hal : a + size ≤ 8 * s.size := by omega
      have HAL := Lib.hid hal
      clear hn hr4 hs4 u1 HS hin
      by_cases hnc : n = c
      · have t1 : ((n : Int) == (c : Int)) = true := beq_iff_eq.2 (by omega)
        have HR2 := Lib.hid ((Lz.unl_clear (wd := wd) (most := most) (L := L) (last := last) (out := out) HAL.out (by omega) HNN.out hnc).symm.trans HRr.out)
        clear hnc
        go_wp2_with fail
        refine (uclear_any U wd _ _ _ _ h2 h8 HS4.out.ua.bk).mono ?_
        rintro e w5 ⟨rfl, v5, hA, hK, hn5⟩
        have HS5 := Lib.hid (HS4.out.clear (by omega) h2 h8 (by rw [HC.out] at hA; exact hA) hK hn5)
        clear hA hK hn5
        go_wp2_with fail
        go_roundg (8 * s.size - (a + size))
        case measure => have := HG.out; omega
        case rel => exact ⟨_, _, _, _, _, _, HS5, HR2, Lib.hid (by omega)⟩
      · have t1 : ((n : Int) == (c : Int)) = false := beq_eq_false_iff_ne.2 (by omega)
        by_cases hn1 : n = c + 1
        · have t2 : ((n : Int) == (c : Int) + 1) = true := beq_iff_eq.2 (by omega)
          have HQ : Hid (r = .ok out ((a + size + 7) / 8)) := Lib.hid (by rw [← HRr.out]; exact Lz.unl_end HAL.out (by omega) HNN.out hn1)
          clear hnc hn1
          have hal2 : a + size ≤ 2400000 := by have := HS4.out.le; omega
          have hw7 : IntKind.i64.wrap ((a : Int) + (size : Int) + 7) = (a : Int) + (size : Int) + 7 := by unfold IntKind.wrap; simp [IntKind.bits, IntKind.signed]; omega
          have hw8 : IntKind.i64.wrap (((a + size : Nat) : Int) + 7) = (a : Int) + (size : Int) + 7 := by unfold IntKind.wrap; simp [IntKind.bits, IntKind.signed]; omega
          go_wp2_with fail
          have H_0 := Lib.hid (HS4.out)
          refine wp_region_held_drew (S := fun w' => True) (by kernel_rfl) trivial (fun hHeld => ?_)
          clear hHeld
          refine anyH_world (fun wz => Ext w4 wz) (show Ext w4 w4.drew from Below.drew (Ext.refl w4)) ?_
          rintro w1 h
          have H_1 := Lib.hid (H_0.out.ext h)
          clear h H_0
          have hHeld : True := trivial
          refine wpAnyH_take (i := 0) (v := ?_) rfl (by kernel_rfl) (by kernel_rfl) (by kernel_rfl) (fun _ _ _ h => h) (Or.inl ⟨by kernel_rfl, ?_⟩) hHeld ?_
          rotate_left
          · intro w hSw
            (try dsimp only at hSw)
            go_split_ands
            go_simp
            (try with_reducible rfl)
          try simp only [Act.put, List.getElem_toArray, List.getElem_cons_succ, List.getElem_cons_zero, List.setIfInBounds_toArray, List.set_cons_zero, List.set_cons_succ]
          refine wpAnyH_take (i := 2) (v := ?_) rfl (by kernel_rfl) (by kernel_rfl) (by kernel_rfl) (fun _ _ _ h => h) (Or.inl ⟨by kernel_rfl, ?_⟩) hHeld ?_
          rotate_left
          · intro w hSw
            (try dsimp only at hSw)
            go_split_ands
            go_simp
            (try with_reducible rfl)
          try simp only [Act.put, List.getElem_toArray, List.getElem_cons_succ, List.getElem_cons_zero, List.setIfInBounds_toArray, List.set_cons_zero, List.set_cons_succ]
          refine wpAnyH_ready (rs := [1, 3]) (by kernel_rfl) (by simp) ?_
          refine AllReadyH.cons rfl (fun KK hK => ?_) (AllReadyH.cons rfl (fun KK hK => ?_) AllReadyH.nil)
          · clear hHeld
            have hro4 := H_1.out.row
            rw [HT.out] at hro4
            have hcr := conv_row HT.out hro4
            clear hro4
            go_simp
            refine hK.out _ _ trivial (fun hHeld => ?_)
            clear hK KK hcr
            try simp only [Act.put, List.getElem_toArray, List.getElem_cons_succ, List.getElem_cons_zero, List.setIfInBounds_toArray, List.set_cons_zero, List.set_cons_succ]
            refine wpAnyH_ready (rs := [3]) (by kernel_rfl) (by simp) ?_
            refine AllReadyH.cons rfl (fun KK hK => ?_) AllReadyH.nil
            clear hHeld
            go_simp
            refine (at_calls _ _ _ _ _ H_1.out.rd).mono ?_
            rintro e w9 ⟨rfl, rfl⟩
            go_simp
            refine hK.out _ _ trivial (fun hHeld => ?_)
            clear hK KK
            try simp only [Act.put, List.getElem_toArray, List.getElem_cons_succ, List.getElem_cons_zero, List.setIfInBounds_toArray, List.set_cons_zero, List.set_cons_succ]
            refine wpAnyH_take (i := 4) (v := ?_) rfl (by kernel_rfl) (by kernel_rfl) (by kernel_rfl) (fun _ _ _ h => h) (Or.inl ⟨by kernel_rfl, ?_⟩) hHeld ?_
            rotate_left
            · intro w hSw
              (try dsimp only at hSw)
              go_split_ands
              go_simp
              (try with_reducible rfl)
            try simp only [Act.put, List.getElem_toArray, List.getElem_cons_succ, List.getElem_cons_zero, List.setIfInBounds_toArray, List.set_cons_zero, List.set_cons_succ]
            refine wpAnyH_take (i := 5) (v := ?_) rfl (by kernel_rfl) (by kernel_rfl) (by kernel_rfl) (fun _ _ _ h => h) (Or.inl ⟨by kernel_rfl, ?_⟩) hHeld ?_
            rotate_left
            · intro w hSw
              (try dsimp only at hSw)
              go_split_ands
              go_simp
              (try with_reducible rfl)
            try simp only [Act.put, List.getElem_toArray, List.getElem_cons_succ, List.getElem_cons_zero, List.setIfInBounds_toArray, List.set_cons_zero, List.set_cons_succ]
            refine wpAnyH_take (i := 6) (v := ?_) rfl (by kernel_rfl) (by kernel_rfl) (by kernel_rfl) (fun _ _ _ h => h) (Or.inl ⟨by kernel_rfl, ?_⟩) hHeld ?_
            rotate_left
            · intro w hSw
              (try dsimp only at hSw)
              go_split_ands
              go_simp
              (try with_reducible rfl)
            try simp only [Act.put, List.getElem_toArray, List.getElem_cons_succ, List.getElem_cons_zero, List.setIfInBounds_toArray, List.set_cons_zero, List.set_cons_succ]
            refine wpAnyH_take (i := 7) (v := ?_) rfl (by kernel_rfl) (by kernel_rfl) (by kernel_rfl) (fun _ _ _ h => h) (Or.inl ⟨by kernel_rfl, ?_⟩) hHeld ?_
            rotate_left
            · intro w hSw
              (try dsimp only at hSw)
              go_split_ands
              go_simp
              (try with_reducible rfl)
            try simp only [Act.put, List.getElem_toArray, List.getElem_cons_succ, List.getElem_cons_zero, List.setIfInBounds_toArray, List.set_cons_zero, List.set_cons_succ]
            refine wpAnyH_take (i := 8) (v := ?_) rfl (by kernel_rfl) (by kernel_rfl) (by kernel_rfl) (fun _ _ _ h => h) (Or.inl ⟨by kernel_rfl, ?_⟩) hHeld ?_
            rotate_left
            · intro w hSw
              (try dsimp only at hSw)
              go_split_ands
              go_simp
              (try with_reducible rfl)
            try simp only [Act.put, List.getElem_toArray, List.getElem_cons_succ, List.getElem_cons_zero, List.setIfInBounds_toArray, List.set_cons_zero, List.set_cons_succ]
            refine wpAnyH_done (by kernel_rfl) ?_ _
            clear hHeld
            go_wp2_with fail
            go_ret3
            exact unlp_ok H_1.out.old HQ.out (by first | omega | (rw [Int.tdiv_eq_ediv_of_nonneg (by omega), wrap_in (by omega) (by omega)]; omega))
          · clear hHeld
            go_simp
            refine (at_calls _ _ _ _ _ H_1.out.rd).mono ?_
            rintro e w9 ⟨rfl, rfl⟩
            go_simp
            refine hK.out _ _ trivial (fun hHeld => ?_)
            clear hK KK
            try simp only [Act.put, List.getElem_toArray, List.getElem_cons_succ, List.getElem_cons_zero, List.setIfInBounds_toArray, List.set_cons_zero, List.set_cons_succ]
            refine wpAnyH_take (i := 4) (v := ?_) rfl (by kernel_rfl) (by kernel_rfl) (by kernel_rfl) (fun _ _ _ h => h) (Or.inl ⟨by kernel_rfl, ?_⟩) hHeld ?_
            rotate_left
            · intro w hSw
              (try dsimp only at hSw)
              go_split_ands
              go_simp
              (try with_reducible rfl)
            try simp only [Act.put, List.getElem_toArray, List.getElem_cons_succ, List.getElem_cons_zero, List.setIfInBounds_toArray, List.set_cons_zero, List.set_cons_succ]
            refine wpAnyH_take (i := 5) (v := ?_) rfl (by kernel_rfl) (by kernel_rfl) (by kernel_rfl) (fun _ _ _ h => h) (Or.inl ⟨by kernel_rfl, ?_⟩) hHeld ?_
            rotate_left
            · intro w hSw
              (try dsimp only at hSw)
              go_split_ands
              go_simp
              (try with_reducible rfl)
            try simp only [Act.put, List.getElem_toArray, List.getElem_cons_succ, List.getElem_cons_zero, List.setIfInBounds_toArray, List.set_cons_zero, List.set_cons_succ]
            refine wpAnyH_ready (rs := [1]) (by kernel_rfl) (by simp) ?_
            refine AllReadyH.cons rfl (fun KK hK => ?_) AllReadyH.nil
            clear hHeld
            have hro4 := H_1.out.row
            rw [HT.out] at hro4
            have hcr := conv_row HT.out hro4
            clear hro4
            go_simp
            refine hK.out _ _ trivial (fun hHeld => ?_)
            clear hK KK hcr
            try simp only [Act.put, List.getElem_toArray, List.getElem_cons_succ, List.getElem_cons_zero, List.setIfInBounds_toArray, List.set_cons_zero, List.set_cons_succ]
            refine wpAnyH_take (i := 6) (v := ?_) rfl (by kernel_rfl) (by kernel_rfl) (by kernel_rfl) (fun _ _ _ h => h) (Or.inl ⟨by kernel_rfl, ?_⟩) hHeld ?_
            rotate_left
            · intro w hSw
              (try dsimp only at hSw)
              go_split_ands
              go_simp
              (try with_reducible rfl)
            try simp only [Act.put, List.getElem_toArray, List.getElem_cons_succ, List.getElem_cons_zero, List.setIfInBounds_toArray, List.set_cons_zero, List.set_cons_succ]
            refine wpAnyH_take (i := 7) (v := ?_) rfl (by kernel_rfl) (by kernel_rfl) (by kernel_rfl) (fun _ _ _ h => h) (Or.inl ⟨by kernel_rfl, ?_⟩) hHeld ?_
            rotate_left
            · intro w hSw
              (try dsimp only at hSw)
              go_split_ands
              go_simp
              (try with_reducible rfl)
            try simp only [Act.put, List.getElem_toArray, List.getElem_cons_succ, List.getElem_cons_zero, List.setIfInBounds_toArray, List.set_cons_zero, List.set_cons_succ]
            refine wpAnyH_take (i := 8) (v := ?_) rfl (by kernel_rfl) (by kernel_rfl) (by kernel_rfl) (fun _ _ _ h => h) (Or.inl ⟨by kernel_rfl, ?_⟩) hHeld ?_
            rotate_left
            · intro w hSw
              (try dsimp only at hSw)
              go_split_ands
              go_simp
              (try with_reducible rfl)
            try simp only [Act.put, List.getElem_toArray, List.getElem_cons_succ, List.getElem_cons_zero, List.setIfInBounds_toArray, List.set_cons_zero, List.set_cons_succ]
            refine wpAnyH_done (by kernel_rfl) ?_ _
            clear hHeld
            go_wp2_with fail
            go_ret3
            exact unlp_ok H_1.out.old HQ.out (by first | omega | (rw [Int.tdiv_eq_ediv_of_nonneg (by omega), wrap_in (by omega) (by omega)]; omega))
        · have t2 : ((n : Int) == (c : Int) + 1) = false := beq_eq_false_iff_ne.2 (by omega)
          have hUA := HS4.out.ua
          cases hw : Lz.wordOf c L last n with
          | none =>
            have HQ : Hid (r = .text) := Lib.hid (by rw [← HRr.out]; exact Lz.unl_none HAL.out (by omega) HNN.out hnc hn1 hw)
            have HU := Lib.hid hUA
            obtain ⟨q1, q2⟩ := word_no hw hnc hn1
            have Q1 := Lib.hid q1
            have Q2 := Lib.hid q2
            clear hUA hw hnc hn1 q1 q2
            go_wp2_with fail
            refine (uword_none U c n size _ L last _ HU.out Q1.out Q2.out hlen (by omega)).mono ?_
            rintro e w9 ⟨rfl, rfl⟩
            have hv := errs_cell0 (HE.out.ext HS4.out.old)
            go_wp2_with fail
            go_region
            all_goals
              (try go_wp2_with fail)
              go_ret3
              exact unlp_text (show Ext w _ from Below.drew HS4.out.old) HQ.out
          | some x =>
            obtain ⟨hx0, hx1⟩ := Lz.word_pos HOK.out hw
            have HW := Lib.hid hw
            have HNE := Lib.hid (And.intro hnc hn1)
            have HU := Lib.hid hUA
            clear hUA hw hnc hn1
            go_wp2_with fail
            refine (uword_any U c n size _ L last x _ HU.out HNE.out.1 HNE.out.2 HW.out hlen hsz12 (by omega) (by omega) hx0).mono ?_
            rintro e w5 ⟨rfl, v5, hA5, hS5⟩
            have HA5 := Lib.hid hA5
            have HS5 := Lib.hid hS5
            have HP := Lib.hid (HS4.out.word hA5 hS5)
            clear hA5 hS5
            by_cases hb : most < out.length + x.size
            · have HQ : Hid (r = .bound) := Lib.hid (by rw [← HRr.out]; exact Lz.unl_bound HAL.out (by omega) HNN.out HNE.out.1 HNE.out.2 HW.out hb)
              have hv := errs_cell1 (HE.out.ext HP.out.2.2.1)
              have hbI : (most : Int) < (T : Int) + (x.size : Int) := by have := HT.out; omega
              clear hb
              go_wp2_with fail
              go_region
              all_goals
                (try go_wp2_with fail)
                go_ret3
                exact unlp_bound (show Ext w _ from Below.drew HP.out.2.2.1) HQ.out
            · have HR2 := Lib.hid ((Lz.unl_word (wd := wd) HAL.out (by omega) HNN.out HNE.out.1 HNE.out.2 HW.out hb).symm.trans HRr.out)
              have HOK2 := Lib.hid (HOK.out.step HW.out hb)
              have hbI : ¬ (most : Int) < (T : Int) + (x.size : Int) := by have := HT.out; omega
              have hro := HP.out.2.1
              rw [HT.out] at hro
              have HRO := Lib.hid hro
              clear hro hb
              have hsz : w.heap.size ≤ w5.heap.size := HP.out.2.2.1.size
              go_wp2_with (at_builtin; refine Lib.wpList_append_own_string _ rfl _ _ 23 9 rfl w.heap.size 5 i0 Tryd.underlying23 Tryd.underlying9 hi0 hz0 hz1 hz2 _ _ _ rfl HRO.out x rfl ?c3 ?c4 hsz ?_)
              case c3 => unfold maxLen; omega
              case c4 => omega
              intro o6 w6 hown hgrow _
              have HS6 := Lib.hid (HS4.out.push HA5.out HS5.out (by omega) hx0 HOK2.out hgrow (by rw [HT.out]; exact hown))
              clear hown hgrow
              go_wp2_with fail
              go_roundg (8 * s.size - (a + size))
              case measure => have := HG.out; omega
              case rel => exact ⟨_, _, _, _, _, _, HS6, HR2, Lib.hid (by omega)⟩
end Go.Proofs.YtdeiolagnheihaaDoor
namespace Go.Proofs.YtdeiolagnheihaaDoor
open Go.RowKit
set_option maxRecDepth 100000
/-- what a call of Fewest has in memory -/
structure FB (w0 w : World) (B mp ab bb : Nat) (s : ByteArray) (W T : Nat) (q : Nat) (Bf : Nat → Nat) : Prop where
  ext : Ext w0 w
  st : FSt w B mp ab s (W : Int) (T : Int) q
  cv : Cv w bb (s.size + 1) (fun i => .int .i64 (Bf i : Int))
  b0 : w0.heap.size ≤ bb
  o1 : w0.heap.size ≤ B
  o2 : w0.heap.size ≤ mp
  o3 : w0.heap.size ≤ ab
  n1 : bb ≠ B
  n2 : bb ≠ mp
  n3 : bb ≠ ab
theorem FB.step {w0 w w' : World} {B mp ab bb W T q : Nat} {s : ByteArray} {Bf : Nat → Nat} (h : FB w0 w B mp ab bb s W T q Bf) (hE : Ext w w') : FB w0 w' B mp ab bb s W T q Bf :=
  ⟨h.ext.trans hE, h.st.ext hE, h.cv.ext hE, h.b0, h.o1, h.o2, h.o3, h.n1, h.n2, h.n3⟩
theorem FB.put {w0 w w' : World} {B mp ab bb W T q q' : Nat} {s : ByteArray} {Bf : Nat → Nat} (h : FB w0 w B mp ab bb s W T q Bf) (hs : FSt w' B mp ab s (W : Int) (T : Int) q') (hk : Keeps (fun k => k = mp ∨ k = ab) w w') : FB w0 w' B mp ab bb s W T q' Bf :=
  ⟨Below.trans h.ext (hk.below h.ext.size (fun k hk' e => by rcases e with e | e; (have := h.o2; omega); have := h.o3; omega)), hs, h.cv.keeps hk (fun e => by rcases e with e | e; exact h.n2 e; exact h.n3 e), h.b0, h.o1, h.o2, h.o3, h.n1, h.n2, h.n3⟩
theorem FB.set {w0 w : World} {B mp ab bb W T q : Nat} {s : ByteArray} {Bf : Nat → Nat} (h : FB w0 w B mp ab bb s W T q Bf) (i x : Nat) (hi : i < s.size + 1) : FB w0 (w.setCell ⟨bb, i, none⟩ (.int .i64 (x : Int))) B mp ab bb s W T q (Mt.upd Bf i x) := by
  have hk : Keeps (fun k => k = bb) w (w.setCell ⟨bb, i, none⟩ (.int .i64 (x : Int))) := (Keeps.refl (fun k => k = bb) w).setCell (.inl rfl) _
  refine ⟨Below.setCell h.ext (by exact h.b0) _, h.st.keeps hk (fun e => h.n1 e.symm) (fun e => h.n2 e.symm) (fun e => h.n3 e.symm), h.cv.put i _ _ hi (fun j hj => ?_), h.b0, h.o1, h.o2, h.o3, h.n1, h.n2, h.n3⟩
  unfold Mt.upd
  split <;> rfl
theorem FB.drew {w0 w : World} {B mp ab bb W T q : Nat} {s : ByteArray} {Bf : Nat → Nat} (h : FB w0 w B mp ab bb s W T q Bf) : FB w0 w.drew B mp ab bb s W T q Bf := h.step (Below.drew (Ext.refl _))
theorem FB.congr {w0 w : World} {B mp ab bb W T q : Nat} {s : ByteArray} {Bf Bg : Nat → Nat} (h : FB w0 w B mp ab bb s W T q Bf) (hb : ∀ i, i < s.size + 1 → Bg i = Bf i) : FB w0 w B mp ab bb s W T q Bg :=
  ⟨h.ext, h.st, h.cv.congr (fun i hi => by rw [hb i hi]), h.b0, h.o1, h.o2, h.o3, h.n1, h.n2, h.n3⟩
def lowN (x y : Nat) : Nat := if y + 1 < x then y + 1 else x
theorem low_at (Bf : Nat → Nat) (q p : Nat) : Mt.low Bf q p = lowN (Bf q) (Bf p) := rfl
theorem min_low (x y : Nat) : (if (y : Int) + 1 < (x : Int) then (y : Int) + 1 else (x : Int)) = ((lowN x y : Nat) : Int) := by
  unfold lowN
  by_cases h : y + 1 < x
  · rw [if_pos h, if_pos (by omega)]; simp
  · rw [if_neg h, if_neg (by omega)]
set_option linter.unusedSimpArgs false in
set_option maxHeartbeats 4000000 in
theorem fewest_bad (s : ByteArray) (wd : Int) (w : World) (E : Nat → Addr) (hE : Errs w E) (hs : s.size ≤ maxLen) (h : badB s wd = true ∨ 3000 < s.size) :
    Calls Tryd.prog 30 #[.string s, .int .i64 wd] w fun e w' => e = .returned (.tuple #[.int .i64 0, .iface 180 (.pointer (some (E 1)))]) ∧ Ext w w' := by
  unfold maxLen at hs
  have hv := errs_cell1 hE.er2
  clear hE
  obtain ⟨bb, hb⟩ : ∃ b, badB s wd = b := ⟨_, rfl⟩
  have HB := Lib.hid (mbad_any s wd w (by unfold maxLen; omega))
  rw [hb] at HB h
  cases bb
  · have h3 : 3000 < s.size := by rcases h with h | h; (cases h); exact h
    have t1 : (3000 : Int) < (s.size : Int) := by omega
    go_enter Tryd.func30, Tryd.ntmps30
    go_wp2_with fail
    refine HB.out.mono ?_
    rintro e w9 ⟨rfl, rfl⟩
    go_wp2_with fail
    go_region
    all_goals
      (try go_wp2_with fail)
      go_ret2
      exact ⟨rfl, (show Ext w9 _ from Below.drew (Ext.refl w9))⟩
  · go_enter Tryd.func30, Tryd.ntmps30
    go_wp2_with fail
    refine HB.out.mono ?_
    rintro e w9 ⟨rfl, rfl⟩
    go_wp2_with fail
    go_region
    all_goals
      (try go_wp2_with fail)
      go_ret2
      exact ⟨rfl, (show Ext w9 _ from Below.drew (Ext.refl w9))⟩
set_option linter.unusedSimpArgs false in
set_option maxHeartbeats 4000000 in
theorem fewest_good (s : ByteArray) (W : Nat) (w : World) (hs : s.size ≤ 3000) (h1 : 1 ≤ W) (h2 : W ≤ 32768) :
    Calls Tryd.prog 30 #[.string s, .int .i64 (W : Int)] w fun e w' => ∃ N : Nat, e = .returned (.tuple #[.int .i64 (N : Int), .nilIface]) ∧ Mt.Least (byt s) s.size W 0 s.size N ∧ N ≤ s.size ∧ Ext w w' := by
  have hb : badB s (W : Int) = false := by unfold badB; exact decide_eq_false (by omega)
  have HB := Lib.hid (fun wz => mbad_any s (W : Int) wz (by unfold maxLen; omega))
  rw [hb] at HB
  clear hb
  have t1 : decide ((3000 : Int) < (s.size : Int)) = false := decide_eq_false (by omega)
  have hmk := run_make_row' (P := Tryd.prog) 59 3 (.int .i64 0) 8 Tryd.underlying59 mi64info rfl .i64 .i64 (s.size + 1) (by omega) (by omega)
  obtain ⟨N1, hN1⟩ : ∃ N, s.size + 1 = N := ⟨_, rfl⟩
  have hNI : (s.size : Int) + 1 = (N1 : Int) := by omega
  rw [hN1] at hmk
  go_enter Tryd.func30, Tryd.ntmps30
  go_wp2_with fail
  refine (HB.out _).mono ?_
  rintro e w9 ⟨rfl, rfl⟩
  go_wp2_with fail
  refine (newFinder_any s (W : Int) (s.size : Int) _ (by omega)).mono ?_
  rintro e w1 ⟨B, mp, ab, rfl, hF, hX, q1, q2, q3⟩
  have F1 := Lib.hid hF
  have X1 := Lib.hid hX
  have Q1 := Lib.hid (And.intro q1 (And.intro q2 q3))
  clear hF hX q1 q2 q3 t1
  go_wp2_with fail
  have hZ : B < w1.heap.size ∧ mp < w1.heap.size ∧ ab < w1.heap.size := ⟨F1.out.bk.lt, F1.out.mm.lt, F1.out.al⟩
  have hC := Cv.made w1 N1 (.int .i64 0) 3
  refine wp_world (fun wz => Hid (FB w9 wz B mp ab w1.heap.size s W s.size 0 (fun i => if i < 0 then i else 0))) (Lib.hid ⟨X1.out.alloc _, F1.out.ext ((Ext.refl _).alloc _), (by rw [hN1]; exact hC.congr (fun i _ => rfl)), X1.out.size, Q1.out.1, Q1.out.2.1, Q1.out.2.2, by omega, by omega, by omega⟩) ?_
  obtain ⟨bb, hbb⟩ : ∃ z, w1.heap.size = z := ⟨_, rfl⟩
  rw [hbb]
  clear hbb hC hZ hmk X1 F1 Q1
  rintro w2 HF
  go_loopw [33] (fun k wr => ∃ kk : Nat, k = .int .i64 (kk : Int) ∧ kk ≤ N1 ∧ Hid (FB w9 wr B mp ab bb s W s.size 0 (fun i => if i < kk then i else 0))) (fun k _ => N1 - (intOf k).toNat)
  case atStart => exact ⟨0, rfl, by omega, HF⟩
  case round =>
    clear HF
    obtain ⟨kk, rfl, hk, HF⟩ := hrel
    by_cases hlt : kk < N1
    · obtain ⟨c0, f0⟩ := HF.out.cv kk (by omega)
      have HN := Lib.hid ((HF.out.set kk kk (by omega)).congr (Bg := fun i => if i < kk + 1 then i else 0) (fun i hi => by show (if i < kk + 1 then i else 0) = (if i = kk then kk else if i < kk then i else 0); split <;> split <;> (try split) <;> omega))
      go_wp2_with fail
      go_roundw
      case rel => exact ⟨kk + 1, by go_num, by omega, HN⟩
      case measure => simp [intOf]; omega
    · obtain rfl : kk = N1 := by omega
      have HF2 := Lib.hid (HF.out.congr (Bg := fun i => i) (fun i hi => by show i = (if i < kk then i else 0); rw [if_pos (by omega)]))
      clear HF
      go_wp2_with fail
      go_loopw [43] (fun k wr => ∃ (a : Nat) (Bf : Nat → Nat), k = .int .i64 (a : Int) ∧ a ≤ s.size ∧ Hid (FB w9 wr B mp ab bb s W s.size (min a (s.size - 2)) Bf) ∧ Hid (Mt.Row (byt s) s.size W a Bf)) (fun k _ => s.size - (intOf k).toNat)
      case atStart => exact ⟨0, fun i => i, rfl, by omega, by rw [Nat.zero_min]; exact HF2, Lib.hid (Mt.Row.start _ _ _)⟩
      case round =>
        clear HF2
        obtain ⟨a, Bf, rfl, ha, HF, HR⟩ := hrel
        by_cases hlt : a < s.size
        · have HLG : Hid (∀ wz, Ext wr wz → Calls Tryd.prog 57 #[.pointer (some ⟨B, 0, none⟩), .int .i64 (a : Int)] wz fun e w' => ∃ m d : Nat, e = .returned (.tuple #[.int .i64 (m : Int), .int .i64 (d : Int)]) ∧ Mt.Long (byt s) s.size W a m d ∧ Ext wz w') := Lib.hid (fun wz hz => by
            by_cases h3 : a + 3 ≤ s.size
            · have hq := (HF.out.st.ext hz)
              rw [show min a (s.size - 2) = a by omega] at hq
              refine (longest_yes B mp ab a W s.size s wz hq h3 (by omega) (by omega) (by omega)).mono ?_
              rintro e w5 ⟨m, d, rfl, _, hl, hx⟩
              exact ⟨m, d, rfl, hl (Nat.le_refl _), hx⟩
            · refine (longest_no B mp ab a _ s _ _ wz (HF.out.st.ext hz) (by omega) (by omega) (by omega)).mono ?_
              rintro e w5 ⟨rfl, rfl⟩
              exact ⟨0, 0, rfl, Mt.Long.edge _ _ _ _ (by omega), Ext.refl _⟩)
          go_wp2_with fail
          refine (HLG.out _ (Ext.refl _)).mono ?_
          rintro e w3 ⟨m, d, rfl, hl, hx⟩
          have HL := Lib.hid hl
          have HF3 := Lib.hid (HF.out.step hx)
          have hml : m ≤ 258 := by rcases Nat.eq_zero_or_pos m with q | q; (omega); exact (hl.one (by omega)).most
          have hmf : m ≠ 0 → a + m ≤ s.size := fun q => (hl.one q).fits
          have hm3 : m ≠ 0 → 3 ≤ m := fun q => (hl.one q).three
          have HMF := Lib.hid (And.intro hmf hm3)
          clear hl hx HF HLG hmf hm3
          have HR1 := Lib.hid (HR.out.lit (L := m) hlt)
          rw [low_at] at HR1
          have b0 := HR.out.le a (by omega)
          have b1 := HR.out.le (a + 1) (by omega)
          obtain ⟨X0, hX0⟩ : ∃ z, Bf a = z := ⟨_, rfl⟩
          obtain ⟨X1, hX1⟩ : ∃ z, Bf (a + 1) = z := ⟨_, rfl⟩
          obtain ⟨A1, hA1⟩ : ∃ z, a + 1 = z := ⟨_, rfl⟩
          have HXA := Lib.hid (And.intro hX0 (And.intro hX1 hA1))
          rw [hX0] at b0
          rw [hX1] at b1
          obtain ⟨c0, f0⟩ := HF3.out.cv a (by omega)
          obtain ⟨c1, f1⟩ := HF3.out.cv (a + 1) (by omega)
          simp only [hX0] at c0
          simp only [hX1] at c1
          rw [hA1] at c1 f1
          have d1 : (a : Int) + 1 = (A1 : Int) := by omega
          have e1 : A1 < kk := by omega
          have e0 : a < kk := by omega
          have HS := Lib.hid (HF3.out.set A1 (lowN X1 X0) (by omega))
          rw [hX1, hX0, hA1] at HR1
          have HML := min_low X1 X0
          clear hX0 hX1 hA1
          obtain ⟨wa1, wa2⟩ : IntKind.i64.wrap (A1 : Int) = (A1 : Int) ∧ IntKind.i64.wrap ((X0 : Int) + 1) = (X0 : Int) + 1 := ⟨wrapi (by omega) (by omega), wrapi (by omega) (by omega)⟩
          go_wp2_with fail
          refine wp_region_still_tail 15 (by kernel_rfl) (by kernel_rfl) ?_
          simp only [List.take_succ_cons, List.take_zero, List.drop_succ_cons, List.drop_zero]
          repeat still_step
          refine wpStill_nil ?_
          change wpList _ _ _ _ _ w3.drew
          go_wp2_with fail
          clear wa1 wa2 HML c0 c1 f0 f1 e0 e1 d1
          refine wp_world (fun wz => Hid (FB w9 wz B mp ab bb s W s.size (min a (s.size - 2)) (Mt.upd Bf A1 (lowN X1 X0)))) (Lib.hid HS.out.drew) ?_
          rintro w4 HF
          clear HS HF3 HR HXA b0 b1
          have HL := HL
          go_loopw [12] (fun k wr => ∃ (k0 : Nat) (Bg : Nat → Nat), k = .int .i64 (k0 : Int) ∧ 3 ≤ k0 ∧ k0 ≤ 3 + m ∧ Hid (FB w9 wr B mp ab bb s W s.size (min a (s.size - 2)) Bg) ∧ Hid (Mt.RowIn (byt s) s.size W a k0 m Bg)) (fun k _ => m + 1 - (intOf k).toNat)
          case atStart => exact ⟨3, _, rfl, by omega, by omega, HF, HR1⟩
          case round =>
            clear HF HR1
            obtain ⟨k0, Bg, rfl, hk3, hkm, HF, HRI⟩ := hrel
            by_cases hle : k0 ≤ m
            · have hn1 := HMF.out.1 (by omega)
              have HR2 := Lib.hid (HRI.out.more hlt hk3 (HL.out.one (by omega)) hle)
              rw [low_at] at HR2
              have b0 := HRI.out.le a (by omega)
              have b1 := HRI.out.le (a + k0) (by omega)
              obtain ⟨X0, hX0⟩ : ∃ z, Bg a = z := ⟨_, rfl⟩
              obtain ⟨X1, hX1⟩ : ∃ z, Bg (a + k0) = z := ⟨_, rfl⟩
              obtain ⟨A1, hA1⟩ : ∃ z, a + k0 = z := ⟨_, rfl⟩
              rw [hX0] at b0
              rw [hX1] at b1
              obtain ⟨c0, f0⟩ := HF.out.cv a (by omega)
              obtain ⟨c1, f1⟩ := HF.out.cv (a + k0) (by omega)
              simp only [hX0] at c0
              simp only [hX1] at c1
              rw [hA1] at c1 f1
              have d1 : (a : Int) + (k0 : Int) = (A1 : Int) := by omega
              have e1 : A1 < kk := by omega
              have e0 : a < kk := by omega
              have t3 : (k0 : Int) ≤ (m : Int) := by omega
              have HS := Lib.hid (HF.out.set A1 (lowN X1 X0) (by omega))
              rw [hX1, hX0, hA1] at HR2
              have HML := min_low X1 X0
              clear hX0 hX1 hA1 hn1
              obtain ⟨wa1, wa2⟩ : IntKind.i64.wrap (A1 : Int) = (A1 : Int) ∧ IntKind.i64.wrap ((X0 : Int) + 1) = (X0 : Int) + 1 := ⟨wrapi (by omega) (by omega), wrapi (by omega) (by omega)⟩
              go_wp2_with fail
              refine wp_region_still_tail 17 (by kernel_rfl) (by kernel_rfl) ?_
              simp only [List.take_succ_cons, List.take_zero, List.drop_succ_cons, List.drop_zero]
              repeat still_step
              refine wpStill_nil ?_
              change wpList _ _ _ _ _ wr.drew
              go_wp2_with fail
              clear wa1 wa2 HML c0 c1 f0 f1 e0 e1 d1
              go_roundw
              case rel => exact ⟨k0 + 1, _, by go_num, by omega, by omega, Lib.hid HS.out.drew, HR2⟩
              case measure => simp [intOf]; omega
            · have t3 : ¬ (k0 : Int) ≤ (m : Int) := by omega
              have HRN := Lib.hid (HRI.out.next HL.out (by omega))
              have HPT : Hid (∀ wz, Ext wr wz → Calls Tryd.prog 58 #[.pointer (some ⟨B, 0, none⟩), .int .i64 (a : Int)] wz fun e w' => e = .returned (.tuple #[]) ∧ FSt w' B mp ab s (W : Int) (s.size : Int) (min (a + 1) (s.size - 2)) ∧ Keeps (fun k => k = mp ∨ k = ab) wz w') := Lib.hid (fun wz hz => by
                by_cases h3 : a + 3 ≤ s.size
                · have hq := (HF.out.st.ext hz)
                  rw [show min a (s.size - 2) = a by omega] at hq
                  rw [show min (a + 1) (s.size - 2) = a + 1 by omega]
                  exact put_yes B mp ab a s _ _ wz hq h3 (by omega)
                · refine (put_no B mp ab a _ s _ _ wz (HF.out.st.ext hz) (by omega) (by omega) (by omega)).mono ?_
                  rintro e w5 ⟨rfl, rfl⟩
                  refine ⟨rfl, ?_, Keeps.refl _ _⟩
                  have hq := (HF.out.st.ext hz)
                  rwa [show min a (s.size - 2) = min (a + 1) (s.size - 2) by omega] at hq)
              go_wp2_with fail
              refine (HPT.out _ (Ext.refl _)).mono ?_
              rintro e w5 ⟨rfl, hq1, hq2⟩
              have HFN := Lib.hid (HF.out.put hq1 hq2)
              clear hq1 hq2 HPT HF
              go_wp2_with fail
              go_roundw
              case rel => exact ⟨a + 1, Bg, by go_num, by omega, HFN, HRN⟩
              case measure => simp [intOf]; omega
        · obtain rfl : a = s.size := by omega
          have HLe := Lib.hid (HR.out.here (Nat.le_refl _) (Nat.le_refl _))
          have hb := HR.out.le s.size (Nat.le_refl _)
          obtain ⟨X0, hX0⟩ : ∃ z, Bf s.size = z := ⟨_, rfl⟩
          obtain ⟨c0, f0⟩ := HF.out.cv s.size (by omega)
          simp only [hX0] at c0
          rw [hX0] at HLe hb
          have e0 : s.size < kk := by omega
          clear hX0 HR
          go_wp2_with fail
          go_ret2
          exact ⟨X0, rfl, HLe.out, hb, HF.out.ext⟩
end Go.Proofs.YtdeiolagnheihaaDoor
namespace Go.Proofs.YtdeiolagnheihaaDoor
open Go.RowKit
structure Tk where
  b : UInt8
  l : Int
  d : Int
structure Tk.Ok (t : Tk) : Prop where
  l : -9223372036854775808 ≤ t.l ∧ t.l ≤ 9223372036854775807
  d : -9223372036854775808 ≤ t.d ∧ t.d ≤ 9223372036854775807
/-- a row of tokens, wherever it lies -/
def Toks (w : World) (x : Option Addr) (n : Nat) (tk : Nat → Tk) : Prop :=
  (x = none → n = 0) ∧ ∀ a, x = some a → ∀ i, i < n →
    w.cell? (a.add (i * 3)) = some (.int .u8 ((tk i).b.toNat : Int)) ∧ w.cell? ⟨(a.add (i * 3)).block, (a.add (i * 3)).off + 1, none⟩ = some (.int .i64 (tk i).l) ∧
    w.cell? ⟨(a.add (i * 3)).block, (a.add (i * 3)).off + 2, none⟩ = some (.int .i64 (tk i).d) ∧ (tk i).Ok
theorem add_block3 (a : Addr) (k : Nat) : (a.add k).block = a.block := by unfold Addr.add; split <;> rfl
theorem Toks.keeps {S : Nat → Prop} {w w' : World} {x : Option Addr} {n : Nat} {tk : Nat → Tk} (h : Toks w x n tk) (hk : Keeps S w w') (hS : ∀ a, x = some a → ¬ S a.block) : Toks w' x n tk := by
  refine ⟨h.1, fun a ha i hi => ?_⟩
  obtain ⟨c0, c1, c2, ok⟩ := h.2 a ha i hi
  have hs : ¬ S (a.add (i * 3)).block := by rw [add_block3]; exact hS a ha
  have hl : (a.add (i * 3)).block < w.heap.size := World.block_lt_of_cell? w _ c0
  exact ⟨(hk.cell hl hs).trans c0, (hk.cell (p := ⟨_, _, none⟩) hl hs).trans c1, (hk.cell (p := ⟨_, _, none⟩) hl hs).trans c2, ok⟩
theorem Toks.ext {w w' : World} {x : Option Addr} {n : Nat} {tk : Nat → Tk} (h : Toks w x n tk) (hE : Ext w w') : Toks w' x n tk := h.keeps (S := fun _ => False) hE.keeps (fun _ _ => id)
theorem Toks.isSome {w : World} {x : Option Addr} {n : Nat} {tk : Nat → Tk} (h : Toks w x n tk) {i : Nat} (hi : i < n) : ∃ a, x = some a := by
  cases x with
  | none => have := h.1 rfl; omega
  | some a => exact ⟨a, rfl⟩
/-- the text behind k bytes more, each one from d back -/
def copyL (out : List UInt8) (d : Nat) : Nat → List UInt8
  | 0 => out
  | k + 1 => copyL out d k ++ [(copyL out d k).getD ((copyL out d k).length - d) 0]
theorem copyL_length (out : List UInt8) (d : Nat) : ∀ k, (copyL out d k).length = out.length + k := by
  intro k
  induction k with
  | zero => rfl
  | succ k ih => simp only [copyL, List.length_append, ih]; simp; omega
/-- what tokens mean: a text, or an error's number and place -/
inductive XRes where
  | ok (out : List UInt8)
  | bad (c i : Nat)
def litP (t : Tk) : Prop := t.l = 0 ∧ t.d = 0
def badP (t : Tk) (n : Nat) : Prop := t.b ≠ 0 ∨ t.l < 3 ∨ 258 < t.l ∨ t.d < 1 ∨ 32768 < t.d ∨ (n : Int) < t.d
instance (t : Tk) : Decidable (litP t) := by unfold litP; infer_instance
instance (t : Tk) (n : Nat) : Decidable (badP t n) := by unfold badP; infer_instance
def stepX (t : Tk) (k : Nat) (out : List UInt8) : XRes :=
  if litP t then (if 300000 < out.length + 1 then .bad 1 k else .ok (out ++ [t.b]))
  else if badP t out.length then .bad 2 k
  else if 300000 < out.length + t.l.toNat then .bad 1 k else .ok (copyL out t.d.toNat t.l.toNat)
def expL (tk : Nat → Tk) : Nat → XRes
  | 0 => .ok []
  | k + 1 => match expL tk k with
    | .ok out => stepX (tk k) k out
    | .bad c i => .bad c i
theorem expL_succ {tk : Nat → Tk} {k : Nat} {out : List UInt8} (h : expL tk k = .ok out) : expL tk (k + 1) = stepX (tk k) k out := by
  simp only [expL, h]
theorem expL_more {tk : Nat → Tk} {k c i : Nat} (h : expL tk k = .bad c i) : ∀ d, expL tk (k + d) = .bad c i := by
  intro d
  induction d with
  | zero => exact h
  | succ d ih => show expL tk (k + d + 1) = _; simp only [expL, ih]
theorem expL_bad {tk : Nat → Tk} {n k c : Nat} {out : List UInt8} (h : expL tk k = .ok out) (hs : stepX (tk k) k out = .bad c k) (hk : k < n) : expL tk n = .bad c k := by
  have h1 : expL tk (k + 1) = .bad c k := (expL_succ h).trans hs
  have := expL_more h1 (n - (k + 1))
  rwa [show k + 1 + (n - (k + 1)) = n by omega] at this
theorem stepX_lit {t : Tk} {k : Nat} {out : List UInt8} (h : litP t) (hb : out.length + 1 ≤ 300000) : stepX t k out = .ok (out ++ [t.b]) := by
  unfold stepX; rw [if_pos h, if_neg (by omega)]
theorem stepX_lit_no {t : Tk} {k : Nat} {out : List UInt8} (h : litP t) (hb : 300000 < out.length + 1) : stepX t k out = .bad 1 k := by
  unfold stepX; rw [if_pos h, if_pos hb]
theorem stepX_bad {t : Tk} {k : Nat} {out : List UInt8} (h : ¬ litP t) (hb : badP t out.length) : stepX t k out = .bad 2 k := by
  unfold stepX; rw [if_neg h, if_pos hb]
theorem stepX_copy {t : Tk} {k l d : Nat} {out : List UInt8} (h : ¬ litP t) (h2 : ¬ badP t out.length) (hl : t.l = l) (hd : t.d = d) (hb : out.length + l ≤ 300000) : stepX t k out = .ok (copyL out d l) := by
  unfold stepX; rw [if_neg h, if_neg h2, hl, hd, Int.toNat_natCast, Int.toNat_natCast, if_neg (by omega)]
theorem stepX_copy_no {t : Tk} {k l : Nat} {out : List UInt8} (h : ¬ litP t) (h2 : ¬ badP t out.length) (hl : t.l = l) (hb : 300000 < out.length + l) : stepX t k out = .bad 1 k := by
  unfold stepX; rw [if_neg h, if_neg h2, hl, Int.toNat_natCast, if_pos hb]
theorem stepX_len {t : Tk} {k : Nat} {out o : List UInt8} (h : stepX t k out = .ok o) : o.length ≤ 300000 := by
  unfold stepX at h
  split at h
  · split at h
    · cases h
    · injection h with h; subst h; simp; omega
  · split at h
    · cases h
    · split at h
      · cases h
      · injection h with h; subst h; rw [copyL_length]; omega
theorem expL_len {tk : Nat → Tk} : ∀ {n : Nat} {out : List UInt8}, expL tk n = .ok out → out.length ≤ 300000 := by
  intro n
  induction n with
  | zero => intro out h; injection h with h; subst h; simp
  | succ n ih =>
    intro out h
    simp only [expL] at h
    split at h
    · exact stepX_len h
    · cases h
/-- a row of bytes that grew by one -/
theorem row_push {w0 wr w1 : World} {v v' : Value} {l : List UInt8} {b : UInt8} (hE : Ext w0 wr) (hR : wr.ownsRow w0.heap.size 5 1 v l.length (bytesV l)) (hg : wr.grownBy w1 v.ownBlock)
    (ho : w1.ownsRow w0.heap.size 5 1 v' (l.length + 1) (bytesV l ++ [.int .u8 (b.toNat : Int)])) : w1.ownsRow w0.heap.size 5 1 v' (l ++ [b]).length (bytesV (l ++ [b])) ∧ Ext w0 w1 := by
  refine ⟨?_, Below.trans hE ((Keeps.grown hg).below hE.size (fun k hk e => by have := (hR.lt k e).1; omega))⟩
  have e : bytesV (l ++ [b]) = bytesV l ++ [.int .u8 (b.toNat : Int)] := by simp [bytesV]
  rw [e, List.length_append]
  exact ho
theorem row_conv {w : World} {base : Nat} {v : Value} {l : List UInt8} (h : w.ownsRow base 5 1 v l.length (bytesV l)) : (convert 23 9 v).run Tryd.prog w = .ok (.string ⟨l.toArray⟩) w := by
  rcases ownsRow_slice h with ⟨rfl, h0⟩ | ⟨g, cap, rfl⟩
  · rw [run_convert_bytes_string w 23 9 5 none 0 0 Tryd.underlying23 Tryd.underlying5 Tryd.underlying9, List.eq_nil_of_length_eq_zero h0]; rfl
  · refine run_convert_bytes_back (P := Tryd.prog) w 23 9 5 ⟨g, 0, none⟩ cap l Tryd.underlying23 Tryd.underlying5 Tryd.underlying9 (fun j hj => ?_)
    rw [add_plain, h.cellAt j (by omega), bytesV_get _ j hj]
theorem byteinf : (Tryd.prog.info? 5).map (fun i => (i.zero, i.size, i.bytes)) = some (some (.int .u8 0), 1, 1) := by kernel_rfl
end Go.Proofs.YtdeiolagnheihaaDoor
namespace Go.Proofs.YtdeiolagnheihaaDoor
open Go.RowKit
set_option maxRecDepth 100000
def tkl (l : List Tk) (i : Nat) : Tk := l.getD i ⟨0, 0, 0⟩
theorem tkl_old (l : List Tk) (t : Tk) {i : Nat} (h : i < l.length) : tkl (l ++ [t]) i = tkl l i := by
  unfold tkl; rw [List.getD, List.getD, List.getElem?_append_left h]
theorem tkl_new (l : List Tk) (t : Tk) : tkl (l ++ [t]) l.length = t := by
  unfold tkl; rw [List.getD, List.getElem?_append_right (Nat.le_refl _), Nat.sub_self]; rfl
theorem expL_congr {tk tk' : Nat → Tk} : ∀ {n : Nat}, (∀ i, i < n → tk i = tk' i) → expL tk n = expL tk' n := by
  intro n
  induction n with
  | zero => intro _; rfl
  | succ n ih => intro h; simp only [expL]; rw [ih (fun i hi => h i (by omega)), h n (by omega)]
theorem expL_push {l : List Tk} {t : Tk} {out o : List UInt8} (h : expL (tkl l) l.length = .ok out) (hs : stepX t l.length out = .ok o) : expL (tkl (l ++ [t])) (l ++ [t]).length = .ok o := by
  have h1 : expL (tkl (l ++ [t])) l.length = .ok out := by rw [← h]; exact expL_congr (fun i hi => tkl_old l t hi)
  rw [List.length_append, List.length_singleton, expL_succ h1, tkl_new]
  exact hs
/-- the text's first a bytes -/
def pre (s : ByteArray) (a : Nat) : List UInt8 := s.data.toList.take a
theorem list_len (s : ByteArray) : s.data.toList.length = s.size := by simp
theorem pre_len (s : ByteArray) {a : Nat} (h : a ≤ s.size) : (pre s a).length = a := by unfold pre; rw [List.length_take, list_len]; omega
theorem pre_zero (s : ByteArray) : pre s 0 = [] := rfl
theorem pre_all (s : ByteArray) : pre s s.size = s.data.toList := by unfold pre; rw [← list_len]; exact List.take_length
theorem pre_succ (s : ByteArray) {a : Nat} (h : a < s.size) : pre s (a + 1) = pre s a ++ [s.data.toList.getD a 0] := by
  have h' : a < s.data.toList.length := by rw [list_len]; exact h
  unfold pre
  rw [List.take_add_one, List.getElem?_eq_getElem h', List.getD, List.getElem?_eq_getElem h']
  rfl
theorem pre_get (s : ByteArray) {a i : Nat} (h : i < a) : (pre s a).getD i 0 = s.data.toList.getD i 0 := by
  unfold pre; rw [List.getD, List.getD, List.getElem?_take_of_lt h]
theorem byt_inj {s : ByteArray} {i j : Nat} (h : byt s i = byt s j) : s.data.toList.getD i 0 = s.data.toList.getD j 0 := UInt8.toNat_inj.1 h
theorem copy_pre (s : ByteArray) {a d : Nat} (hd : 1 ≤ d) (hda : d ≤ a) : ∀ m, a + m ≤ s.size → (∀ j, j < m → byt s (a - d + j) = byt s (a + j)) → copyL (pre s a) d m = pre s (a + m) := by
  intro m
  induction m with
  | zero => intro _ _; rfl
  | succ m ih =>
    intro hm hj
    have e := ih (by omega) (fun j h => hj j (by omega))
    simp only [copyL]
    rw [e, pre_len s (by omega), pre_get s (by omega), show a + (m + 1) = a + m + 1 by omega, pre_succ s (by omega)]
    congr 2
    have := byt_inj (hj m (by omega))
    rw [← this]; congr 1; omega
/-- a row of tokens that grows -/
structure TL (s : ByteArray) (W T a : Nat) (l : List Tk) : Prop where
  means : expL (tkl l) l.length = .ok (pre s a)
  le : a ≤ s.size
  few : l.length ≤ a
  win : ∀ t ∈ l, t.d ≤ (W : Int)
  ok : ∀ t ∈ l, t.Ok
  greed : s.size ≤ T → ∀ g, Mt.Greed (byt s) s.size W a g → Mt.Greed (byt s) s.size W 0 (l.length + g)
theorem TL.nil (s : ByteArray) (W T : Nat) : TL s W T 0 [] := ⟨by rw [pre_zero]; rfl, Nat.zero_le _, Nat.le_refl _, by simp, by simp, fun _ g h => by simpa using h⟩
theorem TL.lit {s : ByteArray} {W T a : Nat} {l : List Tk} (h : TL s W T a l) (ha : a < s.size) (hs : s.size ≤ 300000) (hL : s.size ≤ T → ∃ d, Mt.Long (byt s) s.size W a 0 d) : TL s W T (a + 1) (l ++ [⟨s.data.toList.getD a 0, 0, 0⟩]) := by
  refine ⟨?_, by omega, by rw [List.length_append, List.length_singleton]; have := h.few; omega, ?_, ?_, ?_⟩
  · refine expL_push h.means ?_
    rw [pre_succ s ha]
    exact stepX_lit ⟨rfl, rfl⟩ (by rw [pre_len s h.le]; omega)
  · intro t ht
    rcases List.mem_append.1 ht with ht | ht
    · exact h.win t ht
    · rw [List.mem_singleton.1 ht]; show (0 : Int) ≤ W; omega
  · intro t ht
    rcases List.mem_append.1 ht with ht | ht
    · exact h.ok t ht
    · rw [List.mem_singleton.1 ht]; exact ⟨⟨(by show (-9223372036854775808 : Int) ≤ 0; decide), (by show (0 : Int) ≤ 9223372036854775807; decide)⟩, ⟨(by show (-9223372036854775808 : Int) ≤ 0; decide), (by show (0 : Int) ≤ 9223372036854775807; decide)⟩⟩
  · intro hT g hg
    obtain ⟨d, hd⟩ := hL hT
    have := h.greed hT (g + 1) (.lit ha hd hg)
    rw [List.length_append, List.length_singleton, show l.length + 1 + g = l.length + (g + 1) by omega]
    exact this
theorem TL.mat {s : ByteArray} {W T a m d : Nat} {l : List Tk} (h : TL s W T a l) (hM : Mt.Mat (byt s) s.size W a m d) (hs : s.size ≤ 300000) (hW : W ≤ 32768) (hL : s.size ≤ T → Mt.Long (byt s) s.size W a m d) : TL s W T (a + m) (l ++ [⟨0, m, d⟩]) := by
  obtain ⟨h1, h2, h3, h4, h5, h6, h7⟩ := hM
  refine ⟨?_, h3, by rw [List.length_append, List.length_singleton]; have := h.few; omega, ?_, ?_, ?_⟩
  · refine expL_push h.means ?_
    rw [← copy_pre s h4 h6 m h3 h7]
    have hb : ¬ badP ⟨0, (m : Int), (d : Int)⟩ (pre s a).length := by
      rw [pre_len s h.le]
      rintro (q | q | q | q | q | q)
      · exact q rfl
      · have : (m : Int) < 3 := q; omega
      · have : (258 : Int) < m := q; omega
      · have : (d : Int) < 1 := q; omega
      · have : (32768 : Int) < d := q; omega
      · have : (a : Int) < d := q; omega
    exact stepX_copy (fun q => by have : (m : Int) = 0 := q.1; omega) hb rfl rfl (by rw [pre_len s h.le]; omega)
  · intro t ht
    rcases List.mem_append.1 ht with ht | ht
    · exact h.win t ht
    · rw [List.mem_singleton.1 ht]; show (d : Int) ≤ W; omega
  · intro t ht
    rcases List.mem_append.1 ht with ht | ht
    · exact h.ok t ht
    · rw [List.mem_singleton.1 ht]; exact ⟨⟨by show (-9223372036854775808 : Int) ≤ m; omega, by show (m : Int) ≤ 9223372036854775807; omega⟩, ⟨by show (-9223372036854775808 : Int) ≤ d; omega, by show (d : Int) ≤ 9223372036854775807; omega⟩⟩
  · intro hT g hg
    have := h.greed hT (g + 1) (.mat (by omega) (hL hT) hg)
    rw [List.length_append, List.length_singleton, show l.length + 1 + g = l.length + (g + 1) by omega]
    exact this
/-- all tokens: a way, and no more than twice as many as must be -/
theorem TL.greedy {s : ByteArray} {W T : Nat} {l : List Tk} (h : TL s W T s.size l) (hT : s.size ≤ T) : Mt.Greed (byt s) s.size W 0 l.length := h.greed hT 0 (.nil _ (Nat.le_refl _))
theorem TL.bounds {s : ByteArray} {W T x : Nat} {l : List Tk} (h : TL s W T s.size l) (hT : s.size ≤ T) (hx : Mt.Least (byt s) s.size W 0 s.size x) : x ≤ l.length ∧ l.length ≤ 2 * x := by
  have hg := h.greedy hT
  exact ⟨hx.least _ (hg.way (Nat.zero_le _)), hg.few hx.way⟩
end Go.Proofs.YtdeiolagnheihaaDoor
