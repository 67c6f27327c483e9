/- The document's LzwOf. -/
import Derived.Test.YtdeiolagnheihaaDoorLzwVs
import Derived.Test.YtdeiolagnheihaaDoorLzwC
import Derived.Test.YtdeiolagnheihaaDoorRefPacked
import Derived.Deep.AppendLies
import Derived.Deep.LoopGhost
import Derived.Deep.DeepCutAuto
import Derived.Deep.CutBlock
namespace Go.Proofs.YtdeiolagnheihaaDoor
open Go.RowKit
set_option maxRecDepth 100000
theorem low_i (x k : Nat) (X K : Int) (hX : X = (x : Int)) (hK : K = (k : Int)) (hx : x < 4294967296) (hk : k ≤ 64) (w : World) : Calls Tryd.prog 50 #[.int .u32 X, .int .i64 K] w fun e w' => e = .returned (.string (bs (Bts.low x k))) ∧ Ext w w' := by
  subst hX hK; exact low_any x k hx hk w
theorem wrap_j {x : Int} (h0 : 0 ≤ x) (h1 : x ≤ 9000000000) : IntKind.i64.wrap x = x := by unfold IntKind.wrap; simp [IntKind.bits, IntKind.signed]; omega
theorem byte_get (s : ByteArray) (i : Nat) (h : i < s.size) : s.data.toList.getD i 0 = s[i] := by
  have h' : i < s.data.toList.length := by rw [list_size]; exact h
  rw [List.getD, List.getElem?_eq_getElem h']; simp; rfl
theorem tb_bs (L : List Bool) : tb (Bts.str L) = bs L := bts_ext (by rw [tb_list, bs_list])
set_option linter.unusedSimpArgs false in
set_option maxHeartbeats 6000000 in
theorem lzwOf_any (s : ByteArray) (wd : Nat) (w : World) (hs : s.size ≤ 30000) (h2 : 2 ≤ wd) (h8 : wd ≤ 8) (hgood : ∀ j, j < s.size → (s.data.toList.getD j 0).toNat < 2 ^ wd) (hlen : (Lz.pk (2 ^ wd) wd s [] (wd + 1) 0 (Bts.low (2 ^ wd) (wd + 1))).length ≤ 1000000) :
    Calls Tryd.prog 17 #[.string s, .int .i64 (wd : Int)] w fun e w' => (∃ l : List UInt8, l.length = ((Lz.pk (2 ^ wd) wd s [] (wd + 1) 0 (Bts.low (2 ^ wd) (wd + 1))).length + 7) / 8 ∧ Crc.num l = Bts.val (Lz.pk (2 ^ wd) wd s [] (wd + 1) 0 (Bts.low (2 ^ wd) (wd + 1))) ∧ e = .returned (.string ⟨l.toArray⟩)) ∧ Ext w w' := by
  obtain ⟨i0, hi0, hz0, hz1, hz2⟩ := info_parts u8inf
  obtain ⟨j0, hj0, hj1, hj2, hj3⟩ := info_parts listinfo
  obtain ⟨c, hc⟩ : ∃ c : Nat, 2 ^ wd = c := ⟨_, rfl⟩
  obtain ⟨hcl, hch⟩ := pow_bds hc h2 h8
  have hcI := pow_int hc
  have HC := Lib.hid hc
  rw [hc] at hgood
  have HGd := Lib.hid hgood
  obtain ⟨P, hP⟩ : ∃ P, Lz.pk c wd s [] (wd + 1) 0 (Bts.low c (wd + 1)) = P := ⟨_, rfl⟩
  rw [hc, hP] at hlen ⊢
  have HPP := Lib.hid hP
  have HLen := Lib.hid hlen
  clear hc hgood hP hlen
  go_enter Tryd.func17, Tryd.ntmps17
  go_wp2_with fail
  refine (low_i c (wd + 1) _ _ (by first | rfl | omega | (simp; omega)) (by omega) (by omega) (by omega) _).mono ?_
  rintro e w1 ⟨rfl, h1⟩
  have HX1 := Lib.hid h1
  clear h1
  obtain ⟨v2, w2, hcv, hrow, hx2⟩ := MRow.made w1 (bs (Bts.low c (wd + 1))) (by rw [bs_size, Bts.low_length]; unfold maxLen; omega)
  rw [bs_list] at hrow
  have HS : Hid (VSt w w2 v2 (.slice none 0 0) (Bts.low c (wd + 1)) s c (wd + 1) []) := Lib.hid (by
    obtain ⟨g, cap, cur, fr, q1, q2, q3⟩ := hrow
    exact VSt.clear (size := wd + 1) (L := []) ⟨⟨g, cap, cur, fr, q1, Nat.le_trans HX1.out.size q2, q3⟩, World.ownsRow_nil _ _ _ _, HX1.out.trans hx2, (fun _ _ e => by cases e), Lz.Wl.nil (by omega), by rw [Nat.pow_succ, HC.out]; simp; omega, by omega, by simp⟩ HC.out h2 h8 ⟨hcl, hch⟩)
  clear hrow hx2 HX1
  go_upto_block 0 with fail
  go_cut [5, 6] (fun s5 s6 wx => ∃ (size : Nat) (Bits : List Bool) (lv : Value) (L : List ByteArray), s5 = .int .i64 (size : Int) ∧ Hid (VSt w wx s6 lv Bits s c size L) ∧ Hid (P = Bits ++ Bts.low (c + 1) size) ∧ Hid (c + 1 < 2 ^ size))
  case first =>
    clear hcv
    go_wp2_with fail
    go_loopw [5, 6, 7, 8, 9] (fun sz bv lv nx at_ wr => ∃ (a : Nat) (L : List ByteArray) (size : Nat) (Bits : List Bool), sz = .int .i64 (size : Int) ∧ nx = .int .i64 ((c + 2 + L.length : Nat) : Int) ∧ at_ = .int .i64 (a : Int) ∧ a ≤ s.size ∧ Hid (VSt w wr bv lv Bits s c size L) ∧ Hid (Lz.pk c wd s L size a Bits = P) ∧ Hid (a < s.size ∨ s.size = 0) ∧ Hid (c + 1 < 2 ^ size)) (fun _ _ _ _ at_ _ => s.size - (intOf at_).toNat)
    case atStart => exact ⟨0, [], wd + 1, _, by go_num, by go_num, rfl, by omega, HS, HPP, Lib.hid (by omega), Lib.hid (by rw [Nat.pow_succ, HC.out]; omega)⟩
    case round =>
      clear HS HPP
      obtain ⟨a, L, size, Bits, rfl, rfl, rfl, ha, HS, HPk, HZ, HC1⟩ := hrel
      obtain ⟨K, hK⟩ : ∃ K, L.length = K := ⟨_, rfl⟩
      have HK := Lib.hid hK
      rw [hK]
      have hwl := HS.out.wl.len
      have hhi := HS.out.hi
      have hcI := pow_int HC.out
      rw [hK] at hwl
      clear hK
      by_cases hlt : a < s.size
      · obtain ⟨y, hy⟩ : ∃ y, s[a].toNat = y := ⟨_, rfl⟩
        have hgy : (s.data.toList.getD a 0).toNat = y := by rw [byte_get s a hlt, hy]
        have hkI : ((s[a].toNat : Nat) : Int) = (y : Int) := by rw [hy]
        have hy256 : y < 256 := by rw [← hy]; exact UInt8.toNat_lt _
        have HY := Lib.hid hgy
        have HYc : Hid ((s.data.toList.getD a 0).toNat < c) := Lib.hid (HGd.out a hlt)
        clear hy hgy
        obtain ⟨xl, cl, hlv⟩ := lit_row HS.out.rl
        subst hlv
        rw [HK.out]
        have hai : (a : Int) < (s.size : Int) := by omega
        have ha1 : (a : Int) + 1 ≤ (s.size : Int) := by omega
        have hw1 := wrap_j (x := (a : Int) + 1) (by omega) (by omega)
        have hwy := wrap_j (x := (y : Int)) (by omega) (by omega)
        have hnat : ((a : Int) + 1).toNat = a + 1 := by omega
        have hp1 : (0 : Int) ≤ (a : Int) + 1 := by omega
        have hp2 : (a : Int) ≤ (a : Int) + 1 := by omega
        go_wp2_with fail
        have X_0 := Lib.hid (HS.out.old)
        have S_0 := Lib.hid (HS.out)
        have Y_0 := Lib.hid (Ext.refl wr)
        refine wp_region_held_drew (S := fun w' => True) (by kernel_rfl) trivial (fun hHeld => ?_)
        clear hHeld
        refine anyH_world (fun wz => Ext wr wz) (show Ext wr wr.drew from Below.drew (Ext.refl wr)) ?_
        rintro w1 h
        have X_1 := Lib.hid (X_0.out.trans h)
        have S_1 := Lib.hid (S_0.out.ext h)
        have Y_1 := Lib.hid (Y_0.out.trans h)
        clear h X_0 S_0 Y_0
        have hHeld : True := trivial
        refine wpAnyH_take (i := 0) (v := ?_) rfl (by kernel_rfl) (by kernel_rfl) (by kernel_rfl) (fun _ _ _ h => h) (Or.inl ⟨by kernel_rfl, ?_⟩) hHeld ?_
        rotate_left
        · intro w hSw
          (try dsimp only at hSw)
          go_split_ands
          go_simp
          (try with_reducible rfl)
        try simp only [Act.put, List.getElem_toArray, List.getElem_cons_succ, List.getElem_cons_zero, List.setIfInBounds_toArray, List.set_cons_zero, List.set_cons_succ]
        refine wpAnyH_take (i := 1) (v := ?_) rfl (by kernel_rfl) (by kernel_rfl) (by kernel_rfl) (fun _ _ _ h => h) (Or.inl ⟨by kernel_rfl, ?_⟩) hHeld ?_
        rotate_left
        · intro w hSw
          (try dsimp only at hSw)
          go_split_ands
          go_simp
          (try with_reducible rfl)
        try simp only [Act.put, List.getElem_toArray, List.getElem_cons_succ, List.getElem_cons_zero, List.setIfInBounds_toArray, List.set_cons_zero, List.set_cons_succ]
        refine wpAnyH_take (i := 2) (v := ?_) rfl (by kernel_rfl) (by kernel_rfl) (by kernel_rfl) (fun _ _ _ h => h) (Or.inl ⟨by kernel_rfl, ?_⟩) hHeld ?_
        rotate_left
        · intro w hSw
          (try dsimp only at hSw)
          go_split_ands
          go_simp
          (try with_reducible rfl)
        try simp only [Act.put, List.getElem_toArray, List.getElem_cons_succ, List.getElem_cons_zero, List.setIfInBounds_toArray, List.set_cons_zero, List.set_cons_succ]
        refine wpAnyH_take (i := 3) (v := ?_) rfl (by kernel_rfl) (by kernel_rfl) (by kernel_rfl) (fun _ _ _ h => h) (Or.inl ⟨by kernel_rfl, ?_⟩) hHeld ?_
        rotate_left
        · intro w hSw
          (try dsimp only at hSw)
          go_split_ands
          go_simp
          (try with_reducible rfl)
        try simp only [Act.put, List.getElem_toArray, List.getElem_cons_succ, List.getElem_cons_zero, List.setIfInBounds_toArray, List.set_cons_zero, List.set_cons_succ]
        refine wpAnyH_take (i := 4) (v := ?_) rfl (by kernel_rfl) (by kernel_rfl) (by kernel_rfl) (fun _ _ _ h => h) (Or.inl ⟨by kernel_rfl, ?_⟩) hHeld ?_
        rotate_left
        · intro w hSw
          (try dsimp only at hSw)
          go_split_ands
          go_simp
          (try with_reducible rfl)
        try simp only [Act.put, List.getElem_toArray, List.getElem_cons_succ, List.getElem_cons_zero, List.setIfInBounds_toArray, List.set_cons_zero, List.set_cons_succ]
        refine wpAnyH_take (i := 5) (v := ?_) rfl (by kernel_rfl) (by kernel_rfl) (by kernel_rfl) (fun _ _ _ h => h) (Or.inl ⟨by kernel_rfl, ?_⟩) hHeld ?_
        rotate_left
        · intro w hSw
          (try dsimp only at hSw)
          go_split_ands
          go_simp
          (try with_reducible rfl)
        try simp only [Act.put, List.getElem_toArray, List.getElem_cons_succ, List.getElem_cons_zero, List.setIfInBounds_toArray, List.set_cons_zero, List.set_cons_succ]
        refine wpAnyH_take (i := 6) (v := ?_) rfl (by kernel_rfl) (by kernel_rfl) (by kernel_rfl) (fun _ _ _ h => h) (Or.inl ⟨by kernel_rfl, ?_⟩) hHeld ?_
        rotate_left
        · intro w hSw
          (try dsimp only at hSw)
          go_split_ands
          go_simp
          (try with_reducible rfl)
        try simp only [Act.put, List.getElem_toArray, List.getElem_cons_succ, List.getElem_cons_zero, List.setIfInBounds_toArray, List.set_cons_zero, List.set_cons_succ]
        refine wpAnyH_take (i := 7) (v := ?_) rfl (by kernel_rfl) (by kernel_rfl) (by kernel_rfl) (fun _ _ _ h => h) (Or.inl ⟨by kernel_rfl, ?_⟩) hHeld ?_
        rotate_left
        · intro w hSw
          (try dsimp only at hSw)
          go_split_ands
          go_simp
          (try with_reducible rfl)
        try simp only [Act.put, List.getElem_toArray, List.getElem_cons_succ, List.getElem_cons_zero, List.setIfInBounds_toArray, List.set_cons_zero, List.set_cons_succ]
        refine wpAnyH_take (i := 8) (v := ?_) rfl (by kernel_rfl) (by kernel_rfl) (by kernel_rfl) (fun _ _ _ h => h) (Or.inl ⟨by kernel_rfl, ?_⟩) hHeld ?_
        rotate_left
        · intro w hSw
          (try dsimp only at hSw)
          go_split_ands
          go_simp
          (try with_reducible rfl)
        try simp only [Act.put, List.getElem_toArray, List.getElem_cons_succ, List.getElem_cons_zero, List.setIfInBounds_toArray, List.set_cons_zero, List.set_cons_succ]
        refine wpAnyH_take (i := 9) (v := ?_) rfl (by kernel_rfl) (by kernel_rfl) (by kernel_rfl) (fun _ _ _ h => h) (Or.inl ⟨by kernel_rfl, ?_⟩) hHeld ?_
        rotate_left
        · intro w hSw
          (try dsimp only at hSw)
          go_split_ands
          go_simp
          (try with_reducible rfl)
        try simp only [Act.put, List.getElem_toArray, List.getElem_cons_succ, List.getElem_cons_zero, List.setIfInBounds_toArray, List.set_cons_zero, List.set_cons_succ]
        refine wpAnyH_ready (rs := [10]) (by kernel_rfl) (by simp) ?_
        refine AllReadyH.cons rfl (fun KK hK => ?_) AllReadyH.nil
        clear hHeld
        have hgT : w.heap.size ≤ w1.heap.size := X_1.out.size
        skip
        have HT1 := Lib.hid (fun k (hk : u6.ownBlock = some k) => (S_1.out.rb.own hk).2)
        have HT2 := Lib.hid (fun k (hk : (Value.slice xl L.length cl).ownBlock = some k) => (S_1.out.rl.lt k hk).2)
        obtain ⟨T, hTe⟩ : ∃ T, w1.heap.size = T := ⟨_, rfl⟩
        have HTe := Lib.hid hTe
        clear hTe
        go_simp
        refine hK.out _ _ trivial (fun hHeld => ?_)
        clear hK KK hHeld
        try simp only [Act.put, List.getElem_toArray, List.getElem_cons_succ, List.getElem_cons_zero, List.setIfInBounds_toArray, List.set_cons_zero, List.set_cons_succ]
        refine anyH_world (fun wz => Ext w1 wz ∧ Bk wz w1.heap.size #[.string ⟨#[]⟩, .int .i64 0]) ⟨Ext.alloc (Ext.refl _) _, Bk.at rfl⟩ ?_
        rintro w2 ⟨h, hB⟩
        have X_2 := Lib.hid (X_1.out.trans h)
        have S_2 := Lib.hid (S_1.out.ext h)
        have Y_2 := Lib.hid (Y_1.out.trans h)
        clear h X_1 S_1 Y_1
        have T_2 := Lib.hid (hB)
        clear hB
        have hHeld : True := trivial
        refine wpAnyH_ready (rs := [11]) (by kernel_rfl) (by simp) ?_
        refine AllReadyH.cons rfl (fun KK hK => ?_) AllReadyH.nil
        clear hHeld
        have t0 := T_2.out.cell 0
        have t1 := T_2.out.cell 1
        have f0 := T_2.out.frozen 0
        have f1 := T_2.out.frozen 1
        have SF := Lib.hid (set2_all (x' := .string (s.extract a (a + 1))) (y' := .int .i64 (y : Int)) X_2.out hgT T_2.out)
        go_simp
        clear t0 t1 f0 f1
        refine hK.out _ _ trivial (fun hHeld => ?_)
        clear hK KK
        try simp only [Act.put, List.getElem_toArray, List.getElem_cons_succ, List.getElem_cons_zero, List.setIfInBounds_toArray, List.set_cons_zero, List.set_cons_succ]
        refine wpAnyH_done (by kernel_rfl) ?_ _
        clear hHeld
        have HS5 := Lib.hid (S_2.out.keeps SF.out.2.2 (fun k hk e => by have := HT1.out k hk; omega) (fun k hk e => by have := HT2.out k hk; omega) SF.out.1)
        have HB5 := Lib.hid SF.out.2.1
        have hT0 := HTe.out
        rw [hT0] at HB5 hgT
        have HNT := Lib.hid (And.intro (fun k (hk : u6.ownBlock = some k) => (hT0 ▸ HT1.out k hk : k < T)) (fun k (hk : (Value.slice xl L.length cl).ownBlock = some k) => (hT0 ▸ HT2.out k hk : k < T)))
        clear X_2 S_2 Y_2 T_2 HS SF HT1 HT2
        go_wp2_with fail
        rw [hT0] at HS5 ⊢
        clear hT0 HTe
        go_loopw [11] (fun i wr => ∃ (k : Nat), k ≤ K ∧ i = .int .i64 (k : Int) ∧ Hid (VSt w wr u6 (.slice xl L.length cl) Bits s c size L) ∧ Hid (Bk wr T #[.string (s.extract a (a + (Lz.bst c L s a k).1)), .int .i64 ((Lz.bst c L s a k).2 : Int)])) (fun i _ => K - (intOf i).toNat)
        case atStart => exact ⟨0, by omega, rfl, HS5, by rw [show Lz.bst c L s a 0 = (1, y) by rw [← HY.out]; rfl]; exact HB5⟩
        case round =>
          clear HS5 HB5
          obtain ⟨k, hk, rfl, HS5, HB5⟩ := hrel
          obtain ⟨m, e, hb⟩ : ∃ m e, Lz.bst c L s a k = (m, e) := ⟨_, _, rfl⟩
          have hmle := bst_le c L s a hlt k
          have hecl := bst_code c L s a HYc.out k
          have hm1 := Lz.bst_pos c L s a k
          rw [hb] at HB5 hmle hecl hm1
          simp only at HB5 hmle hecl hm1
          have HB := Lib.hid hb
          clear hb
          obtain ⟨TX, hTX⟩ : ∃ TX, s.extract a (a + m) = TX := ⟨_, rfl⟩
          have hTXs : TX.size = m := by rw [← hTX, ByteArray.size_extract]; omega
          rw [hTX] at HB5
          have HTX := Lib.hid hTX
          clear hTX
          by_cases hkK : k < K
          · obtain ⟨x, hx⟩ : ∃ x, L.getD k ByteArray.empty = x := ⟨_, rfl⟩
            have HXe := Lib.hid hx
            have hrl := HS5.out.rl
            obtain ⟨gl, cap, hv, _, _⟩ := ownsRow_some hrl (by rw [HK.out]; omega)
            injection hv with hv1 hv2 hv3
            subst hv1
            obtain ⟨hg1, hg2⟩ := lsV_get c L L.length k (by rw [HK.out]; omega)
            rw [hx] at hg1
            have hc1 : wr.cell? ⟨gl, k * 2, none⟩ = some (.string x) := by rw [hrl.cellAt (k * 2) (by rw [HK.out]; omega)]; exact hg1
            have hc2 : wr.cell? ⟨gl, k * 2 + 1, none⟩ = some (.int .i64 ((c + 2 + k : Nat) : Int)) := by rw [hrl.cellAt (k * 2 + 1) (by rw [HK.out]; omega)]; exact hg2
            have hxin : x ∈ L := by rw [← hx, List.getD, List.getElem?_eq_getElem (by rw [HK.out]; exact hkK)]; exact List.getElem_mem _
            have hxs := HS5.out.big x hxin
            have hkKi : (k : Int) < (K : Int) := by omega
            have b0 := HB5.out.cell 0
            have d0 := HB5.out.frozen 0
            have d1 := HB5.out.frozen 1
            have b1 := HB5.out.cell 1
            clear hx hrl hg1 hg2 hv2 hv3 hxin
            by_cases q1 : m < x.size
            · have u1 : (m : Int) < (x.size : Int) := by omega
              have u1b : decide (m < x.size) = true := decide_eq_true q1
              have u1c : decide ((m : Int) < (x.size : Int)) = true := decide_eq_true u1
              by_cases q2 : a + x.size ≤ s.size
              · have u2 : (a : Int) + (x.size : Int) ≤ (s.size : Int) := by omega
                obtain ⟨Z, hZ⟩ : ∃ Z, s.extract a (a + x.size) = Z := ⟨_, rfl⟩
                have hnz : ((a : Int) + (x.size : Int)).toNat = a + x.size := by omega
                have u3 : (0 : Int) ≤ (a : Int) + (x.size : Int) := by omega
                have u4 : (a : Int) ≤ (a : Int) + (x.size : Int) := by omega
                have HZe := Lib.hid hZ
                by_cases q3 : Z = x
                · have HB2 := Lib.hid (bst_yes HB.out HXe.out q1 q2 (HZe.out.trans q3))
                  subst q3
                  have HNT2 := Lib.hid HNT.out
                  have SF := Lib.hid (set2_all (x' := .string Z) (y' := .int .i64 ((c + 2 + k : Nat) : Int)) HS5.out.old hgT HB5.out)
                  clear q1 q2
                  go_wp2_with fail
                  go_roundw
                  case rel => exact ⟨k + 1, by omega, by go_num, Lib.hid (HS5.out.keeps SF.out.2.2 (fun j hj e => by have := HNT.out.1 j hj; omega) (fun j hj e => by have := HNT.out.2 j hj; omega) SF.out.1), by rw [HB2.out, HZe.out]; exact Lib.hid SF.out.2.1⟩
                  case measure => simp [intOf]; omega
                · have t3 : (Z.toList == x.toList) = false := by rw [ByteArray.toList_eq, ByteArray.toList_eq]; exact beq_eq_false_iff_ne.2 (fun e => q3 (bts_ext e))
                  have HB2 := Lib.hid (bst_no HB.out HXe.out (fun h => q3 (HZe.out.symm.trans h.2.2)))
                  skip
                  go_wp2_with fail
                  go_roundw
                  case rel => exact ⟨k + 1, by omega, by go_num, HS5, by rw [HB2.out, HTX.out]; exact HB5⟩
                  case measure => simp [intOf]; omega
              · have u2 : decide ((a : Int) + (x.size : Int) ≤ (s.size : Int)) = false := decide_eq_false (by omega)
                have u2b : decide (a + x.size ≤ s.size) = false := decide_eq_false q2
                have HQ2 := Lib.hid q2
                clear q2
                have HB2 := Lib.hid (bst_no HB.out HXe.out (fun h => HQ2.out h.2.1))
                skip
                go_wp2_with fail
                go_roundw
                case rel => exact ⟨k + 1, by omega, by go_num, HS5, by rw [HB2.out, HTX.out]; exact HB5⟩
                case measure => simp [intOf]; omega
            · have u1 : decide ((m : Int) < (x.size : Int)) = false := decide_eq_false (by omega)
              have u1b : decide (m < x.size) = false := decide_eq_false q1
              have HQ1 := Lib.hid q1
              clear q1
              have HB2 := Lib.hid (bst_no HB.out HXe.out (fun h => HQ1.out h.1))
              skip
              go_wp2_with fail
              go_roundw
              case rel => exact ⟨k + 1, by omega, by go_num, HS5, by rw [HB2.out, HTX.out]; exact HB5⟩
              case measure => simp [intOf]; omega
          · obtain rfl : K = k := by omega
            have HBs : Hid (Lz.best c L s a = (m, e)) := Lib.hid (by unfold Lz.best; rw [HK.out]; exact HB.out)
            have HGr := Lib.hid (best_gr HS5.out.wl hlt HBs.out)
            have HBL : Hid (Bits.length ≤ 1000000) := Lib.hid (by obtain ⟨R, hR⟩ := Lz.pk_pre c wd s _ a L size Bits (Nat.le_refl _); have q := HLen.out; rw [← HPk.out, hR, List.length_append] at q; omega)
            have b0 := HB5.out.cell 0
            have b1 := HB5.out.cell 1
            have hel : (e : Int) ≤ 5000 := by omega
            have hs1 : size ≤ 12 := hhi
            go_wp2_with fail
            refine (low_i e size _ _ (by first | rfl | omega | (simp; omega)) rfl (by omega) (by omega) _).mono ?_
            rintro ee w3 ⟨rfl, h3⟩
            have HS6 := Lib.hid (HS5.out.ext h3)
            have HB6 := Lib.hid (HB5.out.ext h3)
            have hTl := HB6.out.lt
            clear h3 b0 b1 HS5 HB5
            have hzb : w.heap.size ≤ w3.heap.size := HS6.out.old.size
            have hbz : (bs (Bts.low e size)).size = size := by rw [bs_size, Bts.low_length]
            have HBZ := Lib.hid hbz
            clear hbz
            go_wp2_with (at_builtin; refine wpList_append_mrow rfl _ _ rfl w.heap.size i0 hi0 hz0 hz1 hz2 _ (Bts.str Bits) rfl HS6.out.rb (bs (Bts.low e size)) rfl ?c3 ?c4 hzb ?_)
            case c3 => rw [HBZ.out, Bts.str_length]; have := HBL.out; unfold maxLen; omega
            case c4 => rw [HBZ.out, Bts.str_length]; have := HBL.out; omega
            intro v4 w4 hr4 hg4 hat4
            have HS7 := Lib.hid (HS6.out.bits hr4 hg4 hat4)
            have HB7 := Lib.hid (HB6.out.keeps (Keeps.grown hg4) (fun q => by have := HNT.out.1 T q; omega))
            clear hr4 hg4 hat4 HS6 HB6 hTl hzb
            obtain ⟨A, hA⟩ : ∃ A, a + m = A := ⟨_, rfl⟩
            have hAI : (a : Int) + (m : Int) = (A : Int) := by omega
            rw [hA] at hmle
            have haA : a < A := by omega
            have HA := Lib.hid hA
            clear hA
            obtain ⟨Nn, hN⟩ : ∃ Nn, c + 2 + K = Nn := ⟨_, rfl⟩
            have hNI : (c : Int) + 2 + (K : Int) = (Nn : Int) := by omega
            have HN := Lib.hid hN
            obtain ⟨Dd, hD⟩ : ∃ Dd : Nat, 2 ^ size = Dd := ⟨_, rfl⟩
            have hDI := pow_int hD
            have hDl : Dd ≤ 4096 := by rw [← hD]; exact Nat.le_trans (Nat.pow_le_pow_right (by decide) hhi) (by decide)
            have HD := Lib.hid hD
            clear hN hD
            obtain ⟨gb, hgb⟩ : ∃ gb, decide (Nn = Dd ∧ size < 12) = gb := ⟨_, rfl⟩
            have HGB := Lib.hid hgb
            obtain ⟨Z, hZz⟩ : ∃ Z, Lz.grow c L size = Z := ⟨_, rfl⟩
            have HZz := Lib.hid hZz
            have HZE : Hid (Z = if gb = true then size + 1 else size) := Lib.hid (by rw [← hZz, ← hgb]; unfold Lz.grow; rw [HK.out, HN.out, HD.out]; simp)
            clear hgb hZz
            have b0 := HB7.out.cell 0
            rw [hNI]
            go_upto_region 16 with fail
            go_cut [97] (fun s97 wx => s97 = .bool gb ∧ Hid (VSt w wx v4 (.slice xl L.length cl) (Bits ++ Bts.low e size) s c size L) ∧ Hid (Bk wx T #[.string TX, .int .i64 (e : Int)]))
            case first =>
              by_cases hgq : Nn = Dd
              · have t5 : ((Nn : Int) == (Dd : Int)) = true := beq_iff_eq.2 (by omega)
                by_cases h12 : (size : Int) < 12
                · have h12b : decide ((size : Int) < 12) = true := decide_eq_true h12
                  have HF : Hid (gb = true) := Lib.hid (by rw [← HGB.out]; exact decide_eq_true ⟨hgq, by omega⟩)
                  subst hgq
                  go_wp2_with fail
                  go_meet
                  exact ⟨by rw [HF.out], HS7, HB7⟩
                · have h12b : decide ((size : Int) < 12) = false := decide_eq_false h12
                  have HF : Hid (gb = false) := Lib.hid (by rw [← HGB.out]; exact decide_eq_false (fun h => by omega))
                  subst hgq
                  go_wp2_with fail
                  go_meet
                  exact ⟨by rw [HF.out], HS7, HB7⟩
              · have t5 : ((Nn : Int) == (Dd : Int)) = false := beq_eq_false_iff_ne.2 (by omega)
                have HF : Hid (gb = false) := Lib.hid (by rw [← HGB.out]; exact decide_eq_false (fun h => hgq h.1))
                clear hgq
                go_wp2_with fail
                go_meet
                exact ⟨by rw [HF.out], HS7, HB7⟩
            case rest =>
              clear HS7 HB7 b0
              obtain ⟨rfl, HS7, HB7⟩ := hcut
              go_upto_if 97 with fail
              go_cut [5] (fun s5 wx => s5 = .int .i64 (Z : Int) ∧ Hid (VSt w wx v4 (.slice xl L.length cl) (Bits ++ Bts.low e size) s c size L) ∧ Hid (Bk wx T #[.string TX, .int .i64 (e : Int)]))
              case first =>
                cases gb
                · have HF : Hid (Z = size) := Lib.hid (by rw [HZE.out]; simp)
                  go_wp2_with fail
                  go_meet
                  exact ⟨by rw [HF.out], HS7, HB7⟩
                · have HF : Hid (Z = size + 1) := Lib.hid (by rw [HZE.out]; simp)
                  go_wp2_with fail
                  go_meet
                  exact ⟨by rw [HF.out]; exact val_int (by omega), HS7, HB7⟩
              case rest =>
                clear HS7 HB7
                obtain ⟨rfl, HS7, HB7⟩ := hcut
                obtain ⟨gr1, gr2, gr3⟩ := Lz.grow_bds HS7.out.sz hhi (by rw [HK.out]; exact hwl)
                rw [HZz.out] at gr1 gr2 gr3
                have GR1 := Lib.hid gr1
                rw [HK.out] at gr1
                have HC2 : Hid (c + 1 < 2 ^ Z) := Lib.hid (by omega)
                have b0 := HB7.out.cell 0
                clear gr1
                by_cases hAs : A = s.size
                · have HPe : Hid (P = (Bits ++ Bts.low e size) ++ Bts.low (c + 1) Z) := Lib.hid (by rw [← HPk.out, Lz.pk_last hlt HBs.out (by have := HA.out; omega), HZz.out])
                  subst hAs
                  have HS8 := Lib.hid (HS7.out.size' gr3 gr2)
                  go_wp2_with fail
                  go_meet
                  exact ⟨Z, _, _, L, rfl, HS8, HPe, HC2⟩
                · have hAlt : A < s.size := by omega
                  have t6 : ((A : Int) == (s.size : Int)) = false := beq_eq_false_iff_ne.2 (by omega)
                  have hsub : (A : Int) - (m : Int) = (a : Int) := by omega
                  have hn1 : ((A : Int) + 1).toNat = A + 1 := by omega
                  have hp1 : (0 : Int) ≤ (A : Int) + 1 := by omega
                  have hp2 : (a : Int) ≤ (A : Int) + 1 := by omega
                  have hp3 : (A : Int) + 1 ≤ (s.size : Int) := by omega
                  obtain ⟨Yx, hYx⟩ : ∃ Yx, s.extract a (A + 1) = Yx := ⟨_, rfl⟩
                  have HYx := Lib.hid hYx
                  have HYs : Hid (Yx.size ≤ s.size) := Lib.hid (by rw [← hYx, ByteArray.size_extract]; omega)
                  have HYn : Hid (s.extract a (a + m + 1) ∉ L) := Lib.hid (HGr.out.2.elim (fun q => by have := HA.out; omega) id)
                  have hrl := HS7.out.rl
                  rw [HK.out] at hrl
                  have HRL := Lib.hid hrl
                  have hzc : w.heap.size ≤ wc.heap.size := HS7.out.old.size
                  clear hrl hAs
                  go_wp2_with (at_builtin; refine wpList_append_own_at _ rfl _ _ 98 rfl w.heap.size 100 j0 (.agg #[.string ⟨#[]⟩, .int .i64 0]) 2 24 Tryd.underlying98 hj0 hj1 hj2 hj3 rfl (by decide) _ _ _ rfl (HRL.out.alloc _) ⟨wc.heap.size, 0, none⟩ 1 1 [.string Yx, .int .i64 (Nn : Int)] rfl rfl ?d1 ?d2 ?d3 ?d4 ?d5 ?_)
                  case d1 =>
                    intro j u hu
                    rw [add_plain]
                    exact (Bk.at (w := wc) rfl).cell j |>.trans (by simpa using hu)
                  case d2 => intro u hu; simp at hu; rcases hu with hu | hu <;> (subst hu; rfl)
                  case d3 => unfold maxLen; omega
                  case d4 => omega
                  case d5 => rw [World.size_alloc]; omega
                  intro lv2 w6 hown hgrow _ hat
                  have hgrow2 := hgrow
                  have hat2 := hat
                  rw [← HK.out] at hgrow2 hat2
                  clear hgrow hat
                  by_cases hfull : Nn = 4095
                  · have HPk2 := Lib.hid ((Lz.pk_full hlt HBs.out (by have := HA.out; omega) (by rw [HK.out, HN.out]; omega)).symm.trans HPk.out)
                    rw [HZz.out, HA.out] at HPk2
                    have HS8 := Lib.hid (HS7.out.word0 ((Ext.refl wc).alloc _) hgrow2 HC.out h2 h8 ⟨hcl, hch⟩)
                    have t7 : ((Nn : Int) + 1 == 4096) = true := beq_iff_eq.2 (by omega)
                    clear hown hgrow2 hat2 hfull
                    go_wp2_with fail
                    refine (low_i c Z _ _ (by first | rfl | omega | (simp; omega)) rfl (by omega) (by omega) _).mono ?_
                    rintro ee w7 ⟨rfl, h7⟩
                    have HS9 := Lib.hid (HS8.out.ext h7)
                    clear h7
                    have hzb : w.heap.size ≤ w7.heap.size := HS9.out.old.size
                    have hbz : (bs (Bts.low c Z)).size = Z := by rw [bs_size, Bts.low_length]
                    have HBZ2 := Lib.hid hbz
                    have HBL2 : Hid ((Bts.str (Bits ++ Bts.low e size)).length ≤ 1000012) := Lib.hid (by rw [Bts.str_length, List.length_append, Bts.low_length]; have := HBL.out; omega)
                    clear hbz
                    go_wp2_with (at_builtin; refine wpList_append_mrow rfl _ _ rfl w.heap.size i0 hi0 hz0 hz1 hz2 _ (Bts.str (Bits ++ Bts.low e size)) rfl HS9.out.rb (bs (Bts.low c Z)) rfl ?f3 ?f4 hzb ?_)
                    case f3 => rw [HBZ2.out]; have := HBL2.out; unfold maxLen; omega
                    case f4 => rw [HBZ2.out]; have := HBL2.out; omega
                    intro v8 w8 hr8 hg8 hat8
                    have HS10 := Lib.hid (HS9.out.bits hr8 hg8 hat8)
                    clear hr8 hg8 hat8
                    go_wp2_with fail
                    go_roundw
                    case rel => exact ⟨A, [], wd + 1, _, by go_num, by go_num, by rfl, by omega, HS10, HPk2, Lib.hid (.inl hAlt), Lib.hid (by rw [Nat.pow_succ, HC.out]; omega)⟩
                    case measure => simp [intOf]; omega
                  · have HPk2 := Lib.hid ((Lz.pk_more hlt HBs.out (by have := HA.out; omega) (by rw [HK.out, HN.out]; omega)).symm.trans HPk.out)
                    rw [HZz.out, HA.out, HYx.out] at HPk2
                    have hwl2 := HS7.out.wl.add HGr.out.1 (by have := HA.out; omega) HYn.out (by rw [HK.out, HN.out]; omega)
                    rw [HA.out, HYx.out] at hwl2
                    have hN2 : (Nn : Int) = ((c + 2 + L.length : Nat) : Int) := by rw [HK.out, HN.out]
                    have hown2 := hown
                    rw [hN2, ← HK.out] at hown2
                    have HS8 := Lib.hid (HS7.out.word (size' := Z) ((Ext.refl wc).alloc _) hgrow2 (by rw [World.size_alloc]; exact hat2) hown2 hwl2 (by have := GR1.out; omega) gr2 HYs.out)
                    have hlen2 : (L ++ [Yx]).length = K + 1 := by rw [List.length_append, List.length_singleton, HK.out]
                    have HLN2 := Lib.hid hlen2
                    have t7 : ((Nn : Int) + 1 == 4096) = false := beq_eq_false_iff_ne.2 (by omega)
                    clear hown hgrow2 hat2 hfull hown2 hN2 hwl2 hlen2
                    go_wp2_with fail
                    go_roundw
                    case rel => exact ⟨A, L ++ [Yx], Z, _, rfl, by rw [HLN2.out]; have := HN.out; exact val_int (by omega), rfl, by omega, HS8, HPk2, Lib.hid (.inl hAlt), HC2⟩
                    case measure => simp [intOf]; omega
      · have h0 : s.size = 0 := by have := HZ.out; omega
        obtain rfl : a = s.size := by omega
        have HPe : Hid (P = Bits ++ Bts.low (c + 1) size) := Lib.hid (by rw [← HPk.out, Lz.pk_none (Nat.le_refl _)])
        clear h0
        go_wp2_with fail
        go_meet
        exact ⟨size, Bits, _, L, rfl, HS, HPe, HC1⟩
  case rest =>
    clear hcv HS HPP
    obtain ⟨size, Bits, lv, L, rfl, HS, HPe, HC1⟩ := hcut
    have hhi := HS.out.hi
    have hcI := pow_int HC.out
    have HLN : Hid ((Bts.str Bits).length + size ≤ 1000000) := Lib.hid (by have q := HLen.out; rw [HPe.out, List.length_append, Bts.low_length] at q; rw [Bts.str_length]; exact q)
    go_wp2_with fail
    refine (low_i (c + 1) size _ _ (by first | rfl | omega | (simp; omega)) rfl (by omega) (by omega) _).mono ?_
    rintro e w3 ⟨rfl, h3⟩
    have HS3 := Lib.hid (HS.out.ext h3)
    clear h3
    have hzb : w.heap.size ≤ w3.heap.size := HS3.out.old.size
    have hbz : (bs (Bts.low (c + 1) size)).size = size := by rw [bs_size, Bts.low_length]
    have HBZ := Lib.hid hbz
    clear hbz
    go_wp2_with (at_builtin; refine wpList_append_mrow rfl _ _ rfl w.heap.size i0 hi0 hz0 hz1 hz2 _ (Bts.str Bits) rfl HS3.out.rb (bs (Bts.low (c + 1) size)) rfl ?c3 ?c4 hzb ?_)
    case c3 => rw [HBZ.out]; have := HLN.out; unfold maxLen; omega
    case c4 => rw [HBZ.out]; have := HLN.out; omega
    intro v4 w4 hr4 hg4 hat4
    have HS4 := Lib.hid (HS3.out.bits hr4 hg4 hat4)
    rw [← HPe.out] at HS4
    clear hr4 hg4 hat4
    have hcr := HS4.out.rb.conv
    rw [tb_bs] at hcr
    go_wp2_with fail
    refine (packed_any P HLen.out _).mono ?_
    rintro e w5 ⟨⟨l, hl1, hl2, rfl⟩, h5⟩
    have HL := Lib.hid (And.intro hl1 hl2)
    have HX5 := Lib.hid (HS4.out.old.trans h5)
    clear hl1 hl2 h5 hcr
    go_wp2_with fail
    go_ret
    exact ⟨⟨l, HL.out.1, HL.out.2, rfl⟩, HX5.out⟩
end Go.Proofs.YtdeiolagnheihaaDoor
