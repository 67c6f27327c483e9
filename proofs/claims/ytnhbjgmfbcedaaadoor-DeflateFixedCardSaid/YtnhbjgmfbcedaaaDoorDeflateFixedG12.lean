/-
  The document's FixedOf.
-/
import Derived.Test.YtnhbjgmfbcedaaaDoorDeflateFixedG11
import Derived.Test.YtnhbjgmfbcedaaaDoorDeflateFixedG8
import Derived.Test.YtnhbjgmfbcedaaaDoorDeflateFixedG10
import Derived.Lib.SlBytesConst
namespace Go.Proofs.YtnhbjgmfbcedaaaDoor
open Go.RowKit
set_option linter.unusedSimpArgs false
set_option linter.unusedVariables false
set_option maxRecDepth 100000
set_option linter.unusedSimpArgs false in
set_option maxHeartbeats 8000000 in
theorem fixedOf_any (x : Option Addr) (n cap : Nat) (tk : Nat → Tk) (w : World) (hT : Toks w x n tk) (hn : n ≤ 310000)
  (hok : ∀ i, i < n → (tk i).l = 0 ∨ (3 ≤ (tk i).l ∧ (tk i).l ≤ 258 ∧ 1 ≤ (tk i).d ∧ (tk i).d ≤ 32768)) (hlen : (Bts.low 3 3 ++ (Dfl.toksB Inf.fixF 288 Inf.fiveF 32 ((List.range n).map tk) ++ Dfl.wordB Inf.fixF 288 256)).length ≤ 1000000) :
  Calls Tryd.prog 27 #[.slice x n cap] w fun e w' => (∃ l : List UInt8, l.length = ((Bts.low 3 3 ++ (Dfl.toksB Inf.fixF 288 Inf.fiveF 32 ((List.range n).map tk) ++ Dfl.wordB Inf.fixF 288 256)).length + 7) / 8 ∧ Crc.num l = Bts.val (Bts.low 3 3 ++ (Dfl.toksB Inf.fixF 288 Inf.fiveF 32 ((List.range n).map tk) ++ Dfl.wordB Inf.fixF 288 256)) ∧ e = .returned (.string ⟨l.toArray⟩)) ∧ Ext w w' := by
 have HT := Lib.hid hT
 have HOK := Lib.hid hok
 obtain ⟨P, hP⟩ : ∃ P, (Bts.low 3 3 ++ (Dfl.toksB Inf.fixF 288 Inf.fiveF 32 ((List.range n).map tk) ++ Dfl.wordB Inf.fixF 288 256)) = P := ⟨_, rfl⟩
 rw [hP] at hlen ⊢
 have HP := Lib.hid hP
 have HLen := Lib.hid hlen
 clear hT hok hP hlen
 obtain ⟨i0, hi0, hz0, hz1, hz2⟩ : ∃ i, Tryd.prog.info? 5 = some i ∧ i.zero = some (.int .u8 0) ∧ i.size = 1 ∧ i.bytes = 1 := ⟨_, rfl, rfl, rfl, rfl⟩
 go_enter Tryd.func27, Tryd.ntmps27
 go_wp2_with fail
 refine (qfixed_any w).mono ?_
 rintro e w1 ⟨C0, rfl, hC0, hI, hX⟩
 have HX1 := Lib.hid hX
 have HI := Lib.hid hI
 clear hX hI hC0
 go_wp2_with fail
 refine (codesOf_any _ 288 288 Inf.fixF w1 HI.out Inf.good_fix.1 Inf.good_fix.2).mono ?_
 rintro e w2 ⟨⟨C, hC, rfl, hcv⟩, hX⟩
 have HX2 := Lib.hid (HX1.out.trans hX)
 have HC2 := Lib.hid hcv
 clear hX hcv hC HX1 HI
 have kcv := fun (w : World) (C : Array Value) (n c : Nat) => Lib.run_convert_bytes_const (P := Tryd.prog) w 61 5 C n c Tryd.underlying61 Tryd.underlying5
 go_wp2_with fail
 clear kcv
 have HS0 : Hid (FxS w (w2.alloc (.cells #[.int .u8 49, .int .u8 49, .int .u8 48] 5 (3, 4))) C (.slice (some ⟨w2.heap.size, 0, none⟩) 3 3) (Bts.low 3 3)) := Lib.hid (by
  obtain ⟨g, cap, cur, fr, q1, q2, q3⟩ := MRow.three w2 49 49 48
  refine ⟨⟨g, cap, cur, fr, q1, Nat.le_trans HX2.out.size q2, q3⟩, HX2.out.trans ((Ext.refl _).alloc _), HC2.out.ext ((Ext.refl _).alloc _), fun e => ?_⟩
  have hlt : C < w2.heap.size := World.block_lt_of_cell? w2 _ (HC2.out 0 (by decide)).1
  have e : w2.heap.size = C := Option.some.inj e
  omega)
 clear HX2 HC2
 go_loopw [4, 5] (fun ov iv wr => ∃ i : Nat, iv = .int .i64 (i : Int) ∧ i ≤ n ∧ Hid (FxS w wr C ov (Bts.low 3 3 ++ Dfl.toksB Inf.fixF 288 Inf.fiveF 32 ((List.range i).map tk))) ∧ Hid ((Bts.low 3 3 ++ Dfl.toksB Inf.fixF 288 Inf.fiveF 32 ((List.range i).map tk)).length ≤ 3 + 100 * i)) (fun _ iv _ => n - (intOf iv).toNat)
 case atStart => exact ⟨0, rfl, by omega, HS0, Lib.hid (by simp [Dfl.toksB, Bts.low_length])⟩
 case round =>
  clear HS0
  obtain ⟨i, rfl, hi, HS, HBL⟩ := hrel
  by_cases hlt : i < n
  ·have HFX := Lib.hid (HS.out.old)
   have hbase := HT.out.ext HS.out.old
   obtain ⟨a, rfl⟩ := hbase.isSome hlt
   obtain ⟨k0, k1, k2, hok2⟩ := hbase.2 a rfl i hlt
   obtain ⟨t, ht⟩ : ∃ t, tk i = t := ⟨_, rfl⟩
   rw [ht] at k0 k1 k2
   have HTK := Lib.hid ht
   have HOK2 := Lib.hid (HOK.out i hlt)
   rw [ht] at HOK2
   clear ht hok2 hbase
   obtain ⟨b, hb⟩ : ∃ b, t.b.toNat = b := ⟨_, rfl⟩
   have hb256 : b < 256 := by rw [← hb]; exact UInt8.toNat_lt _
   rw [hb] at k0
   have HB := Lib.hid hb
   clear hb
   have wi : IntKind.i64.wrap ((i : Int) + 1) = ((i + 1 : Nat) : Int) := by rw [IntKind.wrap_i64]; omega
   have t0 : decide ((i : Int) < (n : Int)) = true := decide_eq_true (by omega)
   obtain ⟨vl, hvl⟩ : ∃ n : Nat, t.l = (n : Int) := ⟨t.l.toNat, by have := HOK2.out; omega⟩
   obtain ⟨dd, hdd⟩ : ∃ d : Int, t.d = d := ⟨_, rfl⟩
   rw [hvl] at k1
   rw [hdd] at k2
   have HVL := Lib.hid hvl
   have HDD := Lib.hid hdd
   obtain ⟨Bits, hBits⟩ : ∃ B, Bts.low 3 3 ++ Dfl.toksB Inf.fixF 288 Inf.fiveF 32 ((List.range i).map tk) = B := ⟨_, rfl⟩
   rw [hBits] at HS HBL
   have HBits := Lib.hid hBits
   clear hBits hdd
   have H0 := Lib.hid (FxT.new HS.out b (vl : Int) dd 84)
   by_cases hl0 : vl = 0
   ·subst hl0
    go_upto_region 7 with fail
    refine wp_world (fun wz => FxT w wz C u4 Bits wr.heap.size b ((0 : Nat) : Int) dd) H0.out ?_
    rintro w3 h3
    obtain ⟨T, hT⟩ : ∃ T, wr.heap.size = T := ⟨_, rfl⟩
    rw [hT] at h3 ⊢
    clear H0 k0 k1 k2 HS
    have S_0 := Lib.hid h3
    have HL_0 := Lib.hid HBL.out
    clear h3 hT
    obtain ⟨M, hM⟩ : ∃ M, Dfl.wordB Inf.fixF 288 b = M := ⟨_, rfl⟩
    have kc : w3.cell? ⟨C, b, none⟩ = some (.string (bs M)) := by rw [← hM]; exact (S_0.out.st.cv b (by omega)).1
    have hML : M.length ≤ 9 := by rw [← hM]; exact fxw_len b (by omega)
    have HM := Lib.hid hM
    clear hM
    have b0 := S_0.out.bx.cell 0
    have b1 := S_0.out.bx.cell 1
    simp only [List.getElem?_toArray, List.getElem?_cons_succ, List.getElem?_cons_zero] at b0 b1
    have hbi : (b : Int) < 288 := by omega
    have hbj : (0 : Int) ≤ (b : Int) := by omega
    have hzb : w.heap.size ≤ w3.heap.size := S_0.out.st.old.size
    have hbz : (bs M).size ≤ 20 := by rw [bs_size]; omega
    have HBZ := Lib.hid hbz
    clear hbz
    go_wp2_with (at_builtin; refine wpList_append_mrow rfl _ _ rfl w.heap.size i0 hi0 hz0 hz1 hz2 _ _ rfl S_0.out.st.rb (bs M) rfl ?c3 ?c4 hzb ?_)
    case c3 => rw [Bts.str_length]; have := HBZ.out; have := HL_0.out; unfold maxLen; omega
    case c4 => rw [Bts.str_length]; have := HBZ.out; have := HL_0.out; omega
    intro ov1 v1 hr4 hg4 hat4
    have S_1 := Lib.hid (S_0.out.bits hr4 hg4 hat4)
    have HL_1 := Lib.hid (show (_ ++ M : List Bool).length ≤ _ from by rw [List.length_append]; exact Nat.add_le_add HL_0.out (by rw [← bs_size]; exact HBZ.out))
    clear hr4 hg4 hat4 hzb HBZ S_0 HL_0
    obtain ⟨B1, hB⟩ : ∃ B, Bits ++ M = B := ⟨_, rfl⟩
    rw [hB] at S_1 HL_1
    have HB1 := Lib.hid hB
    clear hB
    clear kc b0 b1
    go_wp2_with fail
    have HR := Lib.hid (show Bts.low 3 3 ++ Dfl.toksB Inf.fixF 288 Inf.fiveF 32 ((List.range (i + 1)).map tk) = B1 by rw [fx_toks, HTK.out, fx_tok0 t (by rw [HVL.out]; rfl), HB.out, HM.out, ← List.append_assoc, HBits.out, HB1.out])
    refine ⟨⟨i + 1, by simp, by omega, by rw [HR.out]; exact Lib.hid S_1.out.st, by rw [HR.out]; exact Lib.hid (by have := HL_1.out; omega)⟩, by simp [intOf]; omega⟩
   ·have hm2 : 3 ≤ vl ∧ vl ≤ 258 ∧ 1 ≤ dd ∧ dd ≤ 32768 := by have := HOK2.out; have := HVL.out; have := HDD.out; omega
    obtain ⟨vd, hvd⟩ : ∃ n : Nat, dd = (n : Int) := ⟨dd.toNat, by omega⟩
    subst hvd
    have HT0 : Hid (t.l ≠ 0) := Lib.hid (by rw [HVL.out]; omega)
    obtain ⟨p1, p2, p3⟩ := Dfl.plc_lens (v := vl) (by omega) (by omega)
    obtain ⟨d1, d2, d3⟩ := Dfl.plc_dists (v := vd) (by omega) (by omega)
    have hv0Lens : 3 ≤ vl := by omega
    have hv0Dists : 1 ≤ vd := by omega
    have hvlb : vl ≤ 258 := by omega
    have hvdb : vd ≤ 32768 := by omega
    clear hm2
    obtain ⟨k, hk⟩ : ∃ k, Dfl.plc Inf.lensL vl = k := ⟨_, rfl⟩
    obtain ⟨d, hd⟩ : ∃ k, Dfl.plc Inf.distsL vd = k := ⟨_, rfl⟩
    rw [hk] at p1 p2 p3
    rw [hd] at d1 d2 d3
    have HK := Lib.hid hk
    have HD := Lib.hid hd
    clear hk hd
    have hk29 : k < 29 := p1
    have hd30 : d < 30 := d1
    have hk29i : (k : Int) < 29 := by omega
    have hd30i : (d : Int) < 30 := by omega
    have hk0i : (0 : Int) ≤ (k : Int) := by omega
    have hd0i : (0 : Int) ≤ (d : Int) := by omega
    obtain ⟨lk, hlk⟩ : ∃ n, Inf.lensL.getD k 0 = n := ⟨_, rfl⟩
    obtain ⟨bl, hbl⟩ : ∃ n, Inf.lensB.getD k 0 = n := ⟨_, rfl⟩
    obtain ⟨ld, hld⟩ : ∃ n, Inf.distsL.getD d 0 = n := ⟨_, rfl⟩
    obtain ⟨bd, hbd⟩ : ∃ n, Inf.distsB.getD d 0 = n := ⟨_, rfl⟩
    have hbl5 : bl ≤ 5 := by rw [← hbl]; exact (by decide : ∀ k, k < 29 → Inf.lensB.getD k 0 ≤ 5) k hk29
    have hbd13 : bd ≤ 13 := by rw [← hbd]; exact (by decide : ∀ k, k < 30 → Inf.distsB.getD k 0 ≤ 13) d hd30
    rw [hlk] at p2
    rw [hld] at d2
    obtain ⟨xl, hxl⟩ : ∃ n, vl - lk = n := ⟨_, rfl⟩
    obtain ⟨xd, hxd⟩ : ∃ n, vd - ld = n := ⟨_, rfl⟩
    have el : (vl : Int) - (lk : Int) = (xl : Int) := by omega
    have ed : (vd : Int) - (ld : Int) = (xd : Int) := by omega
    obtain ⟨sk, hsk⟩ : ∃ s, 257 + k = s := ⟨_, rfl⟩
    have ek : (257 : Int) + (k : Int) = (sk : Int) := by omega
    have HSK := Lib.hid hsk
    have hsk2 : sk < 288 := by omega
    have hski : (sk : Int) < 288 := by omega
    have hskj : (0 : Int) ≤ (sk : Int) := by omega
    have wl : IntKind.i64.wrap (xl : Int) = (xl : Int) := by rw [IntKind.wrap_i64]; omega
    have wd : IntKind.i64.wrap (xd : Int) = (xd : Int) := by rw [IntKind.wrap_i64]; omega
    have wl2 : IntKind.u32.wrap (xl : Int) = (xl : Int) := by rw [IntKind.wrap_u32]; omega
    have wd2 : IntKind.u32.wrap (xd : Int) = (xd : Int) := by rw [IntKind.wrap_u32]; omega
    have wdd : IntKind.u32.wrap (d : Int) = (d : Int) := by rw [IntKind.wrap_u32]; omega
    have wk : IntKind.i64.wrap (sk : Int) = (sk : Int) := by rw [IntKind.wrap_i64]; omega
    have HTB := Lib.hid (show Dfl.tokB Inf.fixF 288 Inf.fiveF 32 t = Dfl.wordB Inf.fixF 288 sk ++ (Bts.low xl bl ++ (Bts.high d 5 ++ Bts.low xd bd)) by
     rw [fx_tok1 t HT0.out k d (by rw [HVL.out, Int.toNat_natCast]; exact HK.out) (by rw [HDD.out, Int.toNat_natCast]; exact HD.out) hd30, HVL.out, HDD.out, Int.toNat_natCast, Int.toNat_natCast, hlk, hbl, hld, hbd, hxl, hxd, hsk])
    have HLK := Lib.hid hlk
    have HBK := Lib.hid hbl
    have HLD := Lib.hid hld
    have HBD := Lib.hid hbd
    have t1 : ((vl : Int) == 0) = false := beq_eq_false_iff_ne.2 (by omega)
    clear hlk hbl hld hbd hxl hxd hsk p1 p2 p3 d1 d2 d3 hl0
    go_upto_region 7 with fail
    refine wp_world (fun wz => FxT w wz C u4 Bits wr.heap.size b (vl : Int) (vd : Int)) H0.out ?_
    rintro w3 h3
    obtain ⟨T, hT⟩ : ∃ T, wr.heap.size = T := ⟨_, rfl⟩
    rw [hT] at h3 ⊢
    clear H0 k0 k1 k2 HS
    have S_0 := Lib.hid h3
    have HL_0 := Lib.hid HBL.out
    clear h3 hT
    obtain ⟨M, hM⟩ : ∃ M, Dfl.wordB Inf.fixF 288 sk = M := ⟨_, rfl⟩
    have hML : M.length ≤ 9 := by rw [← hM]; exact fxw_len sk (by omega)
    have HM := Lib.hid hM
    clear hM
    have b1 := S_0.out.bx.cell 1
    have b2 := S_0.out.bx.cell 2
    simp only [List.getElem?_toArray, List.getElem?_cons_succ, List.getElem?_cons_zero] at b1 b2
    go_wp2_with fail
    clear b1 b2
    refine wp_region_held_drew (S := fun w' => w'.cell? ⟨T, 1, none⟩ = some (.int .i64 (vl : Int))) (by kernel_rfl) (S_0.out.bx.cell 1) (fun hHeld => ?_)
    clear hHeld
    refine anyH_world (fun wz => Ext w3 wz) (show Ext w3 w3.drew from Below.drew (Ext.refl w3)) ?_
    rintro v1 h
    have S_1 := Lib.hid (S_0.out.ext h)
    clear h S_0
    have hHeld : v1.cell? ⟨T, 1, none⟩ = some (.int .i64 (vl : Int)) := (S_1.out.bx.cell 1)
    refine wpAnyH_take (i := 1) (v := ?_) rfl (by kernel_rfl) (by kernel_rfl) (by kernel_rfl) (fun _ _ _ h => h) (Or.inl ⟨by kernel_rfl, ?_⟩) hHeld ?_
    rotate_left
    ·intro w hSw
     (try dsimp only at hSw)
     go_split_ands
     go_simp
     (try with_reducible rfl)
    try simp only [Act.put, List.getElem_toArray, List.getElem_cons_succ, List.getElem_cons_zero, List.setIfInBounds_toArray, List.set_cons_zero, List.set_cons_succ]
    refine wpAnyH_take (i := 2) (v := ?_) rfl (by kernel_rfl) (by kernel_rfl) (by kernel_rfl) (fun _ _ _ h => h) (Or.inl ⟨by kernel_rfl, ?_⟩) hHeld ?_
    rotate_left
    ·intro w hSw
     (try dsimp only at hSw)
     go_split_ands
     go_simp
     (try with_reducible rfl)
    try simp only [Act.put, List.getElem_toArray, List.getElem_cons_succ, List.getElem_cons_zero, List.setIfInBounds_toArray, List.set_cons_zero, List.set_cons_succ]
    refine wpAnyH_ready (rs := [0]) (by kernel_rfl) (by simp) ?_
    refine AllReadyH.cons rfl (fun KK hK => ?_) AllReadyH.nil
    clear hHeld
    go_simp
    refine (qlens_any v1).mono ?_
    rintro e v2 ⟨Cl, rfl, hge, hcs, h⟩
    have S_2 := Lib.hid (S_1.out.ext h)
    clear h hge S_1
    have L_2 := Lib.hid (hcs.ext (Ext.refl _))
    go_simp
    refine hK.out _ _ (S_2.out.bx.cell 1) (fun hHeld => ?_)
    clear hK KK
    try simp only [Act.put, List.getElem_toArray, List.getElem_cons_succ, List.getElem_cons_zero, List.setIfInBounds_toArray, List.set_cons_zero, List.set_cons_succ]
    clear hcs
    refine wpAnyH_ready (rs := [3]) (by kernel_rfl) (by simp) ?_
    refine AllReadyH.cons rfl (fun KK hK => ?_) AllReadyH.nil
    clear hHeld
    have hq := placeIn_any Cl 29 vl Inf.lensL v2 rfl (by decide) (by decide) L_2.out lensL_inc hv0Lens (by omega)
    rw [HK.out] at hq
    go_simp
    refine hq.mono ?_
    clear hq
    rintro e w9 ⟨rfl, hw⟩
    have hw2 := hw.symm
    clear hw
    subst hw2
    go_simp
    refine hK.out _ _ (S_2.out.bx.cell 1) (fun hHeld => ?_)
    clear hK KK
    try simp only [Act.put, List.getElem_toArray, List.getElem_cons_succ, List.getElem_cons_zero, List.setIfInBounds_toArray, List.set_cons_zero, List.set_cons_succ]
    refine wpAnyH_take (i := 4) (v := ?_) rfl (by kernel_rfl) (by kernel_rfl) (by kernel_rfl) (fun _ _ _ h => h) (Or.inl ⟨by kernel_rfl, ?_⟩) hHeld ?_
    rotate_left
    ·intro w hSw
     (try dsimp only at hSw)
     go_split_ands
     go_simp
     (try with_reducible rfl)
    try simp only [Act.put, List.getElem_toArray, List.getElem_cons_succ, List.getElem_cons_zero, List.setIfInBounds_toArray, List.set_cons_zero, List.set_cons_succ]
    refine wpAnyH_done (by kernel_rfl) ?_ _
    clear hHeld
    clear L_2
    go_wp2_with fail
    refine wp_region_held_drew (S := fun w' => w'.cell? ⟨T, 2, none⟩ = some (.int .i64 (vd : Int))) (by kernel_rfl) (S_2.out.bx.cell 2) (fun hHeld => ?_)
    clear hHeld
    refine anyH_world (fun wz => Ext v2 wz) (show Ext v2 v2.drew from Below.drew (Ext.refl v2)) ?_
    rintro v3 h
    have S_3 := Lib.hid (S_2.out.ext h)
    clear h S_2
    have hHeld : v3.cell? ⟨T, 2, none⟩ = some (.int .i64 (vd : Int)) := (S_3.out.bx.cell 2)
    refine wpAnyH_take (i := 1) (v := ?_) rfl (by kernel_rfl) (by kernel_rfl) (by kernel_rfl) (fun _ _ _ h => h) (Or.inl ⟨by kernel_rfl, ?_⟩) hHeld ?_
    rotate_left
    ·intro w hSw
     (try dsimp only at hSw)
     go_split_ands
     go_simp
     (try with_reducible rfl)
    try simp only [Act.put, List.getElem_toArray, List.getElem_cons_succ, List.getElem_cons_zero, List.setIfInBounds_toArray, List.set_cons_zero, List.set_cons_succ]
    refine wpAnyH_take (i := 2) (v := ?_) rfl (by kernel_rfl) (by kernel_rfl) (by kernel_rfl) (fun _ _ _ h => h) (Or.inl ⟨by kernel_rfl, ?_⟩) hHeld ?_
    rotate_left
    ·intro w hSw
     (try dsimp only at hSw)
     go_split_ands
     go_simp
     (try with_reducible rfl)
    try simp only [Act.put, List.getElem_toArray, List.getElem_cons_succ, List.getElem_cons_zero, List.setIfInBounds_toArray, List.set_cons_zero, List.set_cons_succ]
    refine wpAnyH_ready (rs := [0]) (by kernel_rfl) (by simp) ?_
    refine AllReadyH.cons rfl (fun KK hK => ?_) AllReadyH.nil
    clear hHeld
    go_simp
    refine (qdists_any v3).mono ?_
    rintro e v4 ⟨Cd, rfl, hge, hcs, h⟩
    have S_4 := Lib.hid (S_3.out.ext h)
    clear h hge S_3
    have L_4 := Lib.hid (hcs.ext (Ext.refl _))
    go_simp
    refine hK.out _ _ (S_4.out.bx.cell 2) (fun hHeld => ?_)
    clear hK KK
    try simp only [Act.put, List.getElem_toArray, List.getElem_cons_succ, List.getElem_cons_zero, List.setIfInBounds_toArray, List.set_cons_zero, List.set_cons_succ]
    clear hcs
    refine wpAnyH_ready (rs := [3]) (by kernel_rfl) (by simp) ?_
    refine AllReadyH.cons rfl (fun KK hK => ?_) AllReadyH.nil
    clear hHeld
    have hq := placeIn_any Cd 30 vd Inf.distsL v4 rfl (by decide) (by decide) L_4.out distsL_inc hv0Dists (by omega)
    rw [HD.out] at hq
    go_simp
    refine hq.mono ?_
    clear hq
    rintro e w9 ⟨rfl, hw⟩
    have hw2 := hw.symm
    clear hw
    subst hw2
    go_simp
    refine hK.out _ _ (S_4.out.bx.cell 2) (fun hHeld => ?_)
    clear hK KK
    try simp only [Act.put, List.getElem_toArray, List.getElem_cons_succ, List.getElem_cons_zero, List.setIfInBounds_toArray, List.set_cons_zero, List.set_cons_succ]
    refine wpAnyH_take (i := 4) (v := ?_) rfl (by kernel_rfl) (by kernel_rfl) (by kernel_rfl) (fun _ _ _ h => h) (Or.inl ⟨by kernel_rfl, ?_⟩) hHeld ?_
    rotate_left
    ·intro w hSw
     (try dsimp only at hSw)
     go_split_ands
     go_simp
     (try with_reducible rfl)
    try simp only [Act.put, List.getElem_toArray, List.getElem_cons_succ, List.getElem_cons_zero, List.setIfInBounds_toArray, List.set_cons_zero, List.set_cons_succ]
    refine wpAnyH_done (by kernel_rfl) ?_ _
    clear hHeld
    clear L_4
    have kc : v4.cell? ⟨C, sk, none⟩ = some (.string (bs M)) := by rw [← HM.out]; exact (S_4.out.st.cv sk (by omega)).1
    have HL_4 := Lib.hid HL_0.out
    clear HL_0
    have hzb : w.heap.size ≤ v4.heap.size := S_4.out.st.old.size
    have hbz : (bs M).size ≤ 20 := by rw [bs_size]; omega
    have HBZ := Lib.hid hbz
    clear hbz
    go_wp2_with (at_builtin; refine wpList_append_mrow rfl _ _ rfl w.heap.size i0 hi0 hz0 hz1 hz2 _ _ rfl S_4.out.st.rb (bs M) rfl ?c3 ?c4 hzb ?_)
    case c3 => rw [Bts.str_length]; have := HBZ.out; have := HL_4.out; unfold maxLen; omega
    case c4 => rw [Bts.str_length]; have := HBZ.out; have := HL_4.out; omega
    intro ov5 v5 hr4 hg4 hat4
    have S_5 := Lib.hid (S_4.out.bits hr4 hg4 hat4)
    have HL_5 := Lib.hid (show (_ ++ M : List Bool).length ≤ _ from by rw [List.length_append]; exact Nat.add_le_add HL_4.out (by rw [← bs_size]; exact HBZ.out))
    clear hr4 hg4 hat4 hzb HBZ S_4 HL_4
    obtain ⟨B1, hB⟩ : ∃ B, Bits ++ M = B := ⟨_, rfl⟩
    rw [hB] at S_5 HL_5
    have HB1 := Lib.hid hB
    clear hB
    clear kc
    go_wp2_with fail
    have HL_0 := Lib.hid HL_5.out
    clear HL_5
    refine wp_region_held_drew (S := fun w' => w'.cell? ⟨T, 1, none⟩ = some (.int .i64 (vl : Int))) (by kernel_rfl) (S_5.out.bx.cell 1) (fun hHeld => ?_)
    clear hHeld
    refine anyH_world (fun wz => Ext v5 wz) (show Ext v5 v5.drew from Below.drew (Ext.refl v5)) ?_
    rintro v6 h
    have S_6 := Lib.hid (S_5.out.ext h)
    clear h S_5
    have hHeld : v6.cell? ⟨T, 1, none⟩ = some (.int .i64 (vl : Int)) := (S_6.out.bx.cell 1)
    refine wpAnyH_take (i := 0) (v := ?_) rfl (by kernel_rfl) (by kernel_rfl) (by kernel_rfl) (fun _ _ _ h => h) (Or.inl ⟨by kernel_rfl, ?_⟩) hHeld ?_
    rotate_left
    ·intro w hSw
     (try dsimp only at hSw)
     go_split_ands
     go_simp
     (try with_reducible rfl)
    try simp only [Act.put, List.getElem_toArray, List.getElem_cons_succ, List.getElem_cons_zero, List.setIfInBounds_toArray, List.set_cons_zero, List.set_cons_succ]
    refine wpAnyH_take (i := 1) (v := ?_) rfl (by kernel_rfl) (by kernel_rfl) (by kernel_rfl) (fun _ _ _ h => h) (Or.inl ⟨by kernel_rfl, ?_⟩) hHeld ?_
    rotate_left
    ·intro w hSw
     (try dsimp only at hSw)
     go_split_ands
     go_simp
     (try with_reducible rfl)
    try simp only [Act.put, List.getElem_toArray, List.getElem_cons_succ, List.getElem_cons_zero, List.setIfInBounds_toArray, List.set_cons_zero, List.set_cons_succ]
    refine wpAnyH_take (i := 2) (v := ?_) rfl (by kernel_rfl) (by kernel_rfl) (by kernel_rfl) (fun _ _ _ h => h) (Or.inl ⟨by kernel_rfl, ?_⟩) hHeld ?_
    rotate_left
    ·intro w hSw
     (try dsimp only at hSw)
     go_split_ands
     go_simp
     (try with_reducible rfl)
    try simp only [Act.put, List.getElem_toArray, List.getElem_cons_succ, List.getElem_cons_zero, List.setIfInBounds_toArray, List.set_cons_zero, List.set_cons_succ]
    refine wpAnyH_take (i := 4) (v := ?_) rfl (by kernel_rfl) (by kernel_rfl) (by kernel_rfl) (fun _ _ _ h => h) (Or.inl ⟨by kernel_rfl, ?_⟩) hHeld ?_
    rotate_left
    ·intro w hSw
     (try dsimp only at hSw)
     go_split_ands
     go_simp
     (try with_reducible rfl)
    try simp only [Act.put, List.getElem_toArray, List.getElem_cons_succ, List.getElem_cons_zero, List.setIfInBounds_toArray, List.set_cons_zero, List.set_cons_succ]
    refine wpAnyH_take (i := 9) (v := ?_) rfl (by kernel_rfl) (by kernel_rfl) (by kernel_rfl) (fun _ _ _ h => h) (Or.inl ⟨by kernel_rfl, ?_⟩) hHeld ?_
    rotate_left
    ·intro w hSw
     (try dsimp only at hSw)
     go_split_ands
     go_simp
     (try with_reducible rfl)
    try simp only [Act.put, List.getElem_toArray, List.getElem_cons_succ, List.getElem_cons_zero, List.setIfInBounds_toArray, List.set_cons_zero, List.set_cons_succ]
    refine wpAnyH_ready (rs := [3]) (by kernel_rfl) (by simp) ?_
    refine AllReadyH.cons rfl (fun KK hK => ?_) AllReadyH.nil
    clear hHeld
    go_simp
    refine (qlens_any v6).mono ?_
    rintro e v7 ⟨Cl, rfl, hge, hcs, h⟩
    have S_7 := Lib.hid (S_6.out.ext h)
    clear h hge S_6
    have L_7 := Lib.hid (hcs.ext (Ext.refl _))
    go_simp
    refine hK.out _ _ (S_7.out.bx.cell 1) (fun hHeld => ?_)
    clear hK KK
    try simp only [Act.put, List.getElem_toArray, List.getElem_cons_succ, List.getElem_cons_zero, List.setIfInBounds_toArray, List.set_cons_zero, List.set_cons_succ]
    clear hcs
    refine wpAnyH_take (i := 5) (v := ?_) rfl (by kernel_rfl) (by kernel_rfl) (by kernel_rfl) (fun _ _ _ h => h) (Or.inl ⟨by kernel_rfl, ?_⟩) hHeld ?_
    rotate_left
    ·intro w hSw
     (try dsimp only at hSw)
     go_split_ands
     go_simp
     (try with_reducible rfl)
    try simp only [Act.put, List.getElem_toArray, List.getElem_cons_succ, List.getElem_cons_zero, List.setIfInBounds_toArray, List.set_cons_zero, List.set_cons_succ]
    refine wpAnyH_ready (rs := [6, 10]) (by kernel_rfl) (by simp) ?_
    refine AllReadyH.cons rfl (fun KK hK => ?_) (AllReadyH.cons rfl (fun KK hK => ?_) AllReadyH.nil)
    ·clear hHeld
     have kl : v7.cell? ⟨Cl, k, none⟩ = some (.int .i64 ((lk : Nat) : Int)) := by rw [← HLK.out]; exact (L_7.out k hk29).1
     go_simp
     refine hK.out _ _ (S_7.out.bx.cell 1) (fun hHeld => ?_)
     clear hK KK kl
     try simp only [Act.put, List.getElem_toArray, List.getElem_cons_succ, List.getElem_cons_zero, List.setIfInBounds_toArray, List.set_cons_zero, List.set_cons_succ]
     refine wpAnyH_take (i := 7) (v := ?_) rfl (by kernel_rfl) (by kernel_rfl) (by kernel_rfl) (fun _ _ _ h => h) (Or.inl ⟨by kernel_rfl, ?_⟩) hHeld ?_
     rotate_left
     ·intro w hSw
      (try dsimp only at hSw)
      go_split_ands
      go_simp
      (try with_reducible rfl)
     try simp only [Act.put, List.getElem_toArray, List.getElem_cons_succ, List.getElem_cons_zero, List.setIfInBounds_toArray, List.set_cons_zero, List.set_cons_succ]
     refine wpAnyH_take (i := 8) (v := ?_) rfl (by kernel_rfl) (by kernel_rfl) (by kernel_rfl) (fun _ _ _ h => h) (Or.inl ⟨by kernel_rfl, ?_⟩) hHeld ?_
     rotate_left
     ·intro w hSw
      (try dsimp only at hSw)
      go_split_ands
      go_simp
      (try with_reducible rfl)
     try simp only [Act.put, List.getElem_toArray, List.getElem_cons_succ, List.getElem_cons_zero, List.setIfInBounds_toArray, List.set_cons_zero, List.set_cons_succ]
     refine wpAnyH_ready (rs := [10]) (by kernel_rfl) (by simp) ?_
     refine AllReadyH.cons rfl (fun KK hK => ?_) AllReadyH.nil
     clear hHeld
     have hq := qlenBits_any k hk29 v7
     rw [HBK.out] at hq
     go_simp
     refine hq.mono ?_
     clear hq
     rintro e w9 ⟨rfl, hw⟩
     have hw2 := hw.symm
     clear hw
     subst hw2
     go_simp
     refine hK.out _ _ (S_7.out.bx.cell 1) (fun hHeld => ?_)
     clear hK KK
     try simp only [Act.put, List.getElem_toArray, List.getElem_cons_succ, List.getElem_cons_zero, List.setIfInBounds_toArray, List.set_cons_zero, List.set_cons_succ]
     refine wpAnyH_ready (rs := [11]) (by kernel_rfl) (by simp) ?_
     refine AllReadyH.cons rfl (fun KK hK => ?_) AllReadyH.nil
     clear hHeld
     go_simp
     refine (low_any xl bl (by omega) (by omega) v7).mono ?_
     rintro e v8 ⟨rfl, h⟩
     have S_8 := Lib.hid (S_7.out.ext h)
     have L_8 := Lib.hid (L_7.out.ext h)
     clear h S_7 L_7
     go_simp
     refine hK.out _ _ (S_8.out.bx.cell 1) (fun hHeld => ?_)
     clear hK KK
     try simp only [Act.put, List.getElem_toArray, List.getElem_cons_succ, List.getElem_cons_zero, List.setIfInBounds_toArray, List.set_cons_zero, List.set_cons_succ]
     refine wpAnyH_ready (rs := [12]) (by kernel_rfl) (by simp) ?_
     refine AllReadyH.cons rfl (fun KK hK => ?_) AllReadyH.nil
     clear hHeld
     have hbz : (bs (Bts.low xl bl)).size ≤ 20 := by rw [bs_size]; rw [Bts.low_length]; omega
     have HBZ := Lib.hid hbz
     clear hbz
     obtain ⟨ov9, v9, hr, h2, h3, h5⟩ := run_append_mrow (w := v8) w.heap.size i0 61 hi0 hz0 hz1 hz2 _ _ S_8.out.st.rb (bs (Bts.low xl bl)) (by rw [Bts.str_length]; have := HBZ.out; have := HL_0.out; unfold maxLen; omega) (by rw [Bts.str_length]; have := HBZ.out; have := HL_0.out; omega) S_8.out.st.old.size
     have S_9 := Lib.hid (S_8.out.bits h2 h3 h5)
     have HL_1 := Lib.hid (show (_ ++ Bts.low xl bl : List Bool).length ≤ _ from by rw [List.length_append]; exact Nat.add_le_add HL_0.out (by rw [← bs_size]; exact HBZ.out))
     rw [if_pos (show _ = true by kernel_rfl)]
     unfold Oper.wp execOp
     simp only [resolve, invoke, builtin, Sem.run_bind, Sem.run_pure, Result.andThen_ok, List.map_toArray, List.map_cons, List.map_nil, Act.eval, List.getElem_toArray, List.getElem_cons_succ, List.getElem_cons_zero]
     simp only [Array.getD_eq_getD_getElem?, List.getElem?_toArray, List.getElem?_cons_succ, List.getElem?_cons_zero, Option.getD_some, hr, Result.andThen_ok, Oper.upon]
     clear S_8 L_8 HL_0 HBZ h2 h3 h5
     refine hK.out _ _ (S_9.out.bx.cell 1) (fun hHeld => ?_)
     clear hK KK hr
     try simp only [Act.put, List.getElem_toArray, List.getElem_cons_succ, List.getElem_cons_zero, List.setIfInBounds_toArray, List.set_cons_zero, List.set_cons_succ]
     have HL_0 := Lib.hid HL_1.out
     clear HL_1
     obtain ⟨B2, hB⟩ : ∃ B, B1 ++ Bts.low xl bl = B := ⟨_, rfl⟩
     rw [hB] at S_9 HL_0
     have HB2 := Lib.hid hB
     clear hB
     refine wpAnyH_take (i := 13) (v := ?_) rfl (by kernel_rfl) (by kernel_rfl) (by kernel_rfl) (fun _ _ _ h => h) (Or.inl ⟨by kernel_rfl, ?_⟩) hHeld ?_
     rotate_left
     ·intro w hSw
      (try dsimp only at hSw)
      go_split_ands
      go_simp
      (try with_reducible rfl)
     try simp only [Act.put, List.getElem_toArray, List.getElem_cons_succ, List.getElem_cons_zero, List.setIfInBounds_toArray, List.set_cons_zero, List.set_cons_succ]
     refine wpAnyH_done (by kernel_rfl) ?_ _
     clear hHeld
     go_wp2_with fail
     refine (high_any d 5 (by omega) (by decide) _).mono ?_
     rintro e v10 ⟨rfl, h⟩
     have S_10 := Lib.hid (S_9.out.ext h)
     clear h S_9
     have HL_10 := Lib.hid HL_0.out
     clear HL_0
     have hzb : w.heap.size ≤ v10.heap.size := S_10.out.st.old.size
     have hbz : (bs (Bts.high d 5)).size ≤ 20 := by rw [bs_size]; rw [Bts.high_length]; omega
     have HBZ := Lib.hid hbz
     clear hbz
     go_wp2_with (at_builtin; refine wpList_append_mrow rfl _ _ rfl w.heap.size i0 hi0 hz0 hz1 hz2 _ _ rfl S_10.out.st.rb (bs (Bts.high d 5)) rfl ?c3 ?c4 hzb ?_)
     case c3 => rw [Bts.str_length]; have := HBZ.out; have := HL_10.out; unfold maxLen; omega
     case c4 => rw [Bts.str_length]; have := HBZ.out; have := HL_10.out; omega
     intro ov11 v11 hr4 hg4 hat4
     have S_11 := Lib.hid (S_10.out.bits hr4 hg4 hat4)
     have HL_11 := Lib.hid (show (_ ++ (Bts.high d 5) : List Bool).length ≤ _ from by rw [List.length_append]; exact Nat.add_le_add HL_10.out (by rw [← bs_size]; exact HBZ.out))
     clear hr4 hg4 hat4 hzb HBZ S_10 HL_10
     obtain ⟨B3, hB⟩ : ∃ B, B2 ++ (Bts.high d 5) = B := ⟨_, rfl⟩
     rw [hB] at S_11 HL_11
     have HB3 := Lib.hid hB
     clear hB
     go_wp2_with fail
     have HL_0 := Lib.hid HL_11.out
     clear HL_11
     refine wp_region_held_drew (S := fun w' => w'.cell? ⟨T, 2, none⟩ = some (.int .i64 (vd : Int))) (by kernel_rfl) (S_11.out.bx.cell 2) (fun hHeld => ?_)
     clear hHeld
     refine anyH_world (fun wz => Ext v11 wz) (show Ext v11 v11.drew from Below.drew (Ext.refl v11)) ?_
     rintro v12 h
     have S_12 := Lib.hid (S_11.out.ext h)
     clear h S_11
     have hHeld : v12.cell? ⟨T, 2, none⟩ = some (.int .i64 (vd : Int)) := (S_12.out.bx.cell 2)
     refine wpAnyH_take (i := 0) (v := ?_) rfl (by kernel_rfl) (by kernel_rfl) (by kernel_rfl) (fun _ _ _ h => h) (Or.inl ⟨by kernel_rfl, ?_⟩) hHeld ?_
     rotate_left
     ·intro w hSw
      (try dsimp only at hSw)
      go_split_ands
      go_simp
      (try with_reducible rfl)
     try simp only [Act.put, List.getElem_toArray, List.getElem_cons_succ, List.getElem_cons_zero, List.setIfInBounds_toArray, List.set_cons_zero, List.set_cons_succ]
     refine wpAnyH_take (i := 1) (v := ?_) rfl (by kernel_rfl) (by kernel_rfl) (by kernel_rfl) (fun _ _ _ h => h) (Or.inl ⟨by kernel_rfl, ?_⟩) hHeld ?_
     rotate_left
     ·intro w hSw
      (try dsimp only at hSw)
      go_split_ands
      go_simp
      (try with_reducible rfl)
     try simp only [Act.put, List.getElem_toArray, List.getElem_cons_succ, List.getElem_cons_zero, List.setIfInBounds_toArray, List.set_cons_zero, List.set_cons_succ]
     refine wpAnyH_take (i := 2) (v := ?_) rfl (by kernel_rfl) (by kernel_rfl) (by kernel_rfl) (fun _ _ _ h => h) (Or.inl ⟨by kernel_rfl, ?_⟩) hHeld ?_
     rotate_left
     ·intro w hSw
      (try dsimp only at hSw)
      go_split_ands
      go_simp
      (try with_reducible rfl)
     try simp only [Act.put, List.getElem_toArray, List.getElem_cons_succ, List.getElem_cons_zero, List.setIfInBounds_toArray, List.set_cons_zero, List.set_cons_succ]
     refine wpAnyH_take (i := 4) (v := ?_) rfl (by kernel_rfl) (by kernel_rfl) (by kernel_rfl) (fun _ _ _ h => h) (Or.inl ⟨by kernel_rfl, ?_⟩) hHeld ?_
     rotate_left
     ·intro w hSw
      (try dsimp only at hSw)
      go_split_ands
      go_simp
      (try with_reducible rfl)
     try simp only [Act.put, List.getElem_toArray, List.getElem_cons_succ, List.getElem_cons_zero, List.setIfInBounds_toArray, List.set_cons_zero, List.set_cons_succ]
     refine wpAnyH_take (i := 9) (v := ?_) rfl (by kernel_rfl) (by kernel_rfl) (by kernel_rfl) (fun _ _ _ h => h) (Or.inl ⟨by kernel_rfl, ?_⟩) hHeld ?_
     rotate_left
     ·intro w hSw
      (try dsimp only at hSw)
      go_split_ands
      go_simp
      (try with_reducible rfl)
     try simp only [Act.put, List.getElem_toArray, List.getElem_cons_succ, List.getElem_cons_zero, List.setIfInBounds_toArray, List.set_cons_zero, List.set_cons_succ]
     refine wpAnyH_ready (rs := [3]) (by kernel_rfl) (by simp) ?_
     refine AllReadyH.cons rfl (fun KK hK => ?_) AllReadyH.nil
     clear hHeld
     go_simp
     refine (qdists_any v12).mono ?_
     rintro e v13 ⟨Cd, rfl, hge, hcs, h⟩
     have S_13 := Lib.hid (S_12.out.ext h)
     clear h hge S_12
     have L_13 := Lib.hid (hcs.ext (Ext.refl _))
     go_simp
     refine hK.out _ _ (S_13.out.bx.cell 2) (fun hHeld => ?_)
     clear hK KK
     try simp only [Act.put, List.getElem_toArray, List.getElem_cons_succ, List.getElem_cons_zero, List.setIfInBounds_toArray, List.set_cons_zero, List.set_cons_succ]
     clear hcs
     refine wpAnyH_take (i := 5) (v := ?_) rfl (by kernel_rfl) (by kernel_rfl) (by kernel_rfl) (fun _ _ _ h => h) (Or.inl ⟨by kernel_rfl, ?_⟩) hHeld ?_
     rotate_left
     ·intro w hSw
      (try dsimp only at hSw)
      go_split_ands
      go_simp
      (try with_reducible rfl)
     try simp only [Act.put, List.getElem_toArray, List.getElem_cons_succ, List.getElem_cons_zero, List.setIfInBounds_toArray, List.set_cons_zero, List.set_cons_succ]
     refine wpAnyH_ready (rs := [6, 10]) (by kernel_rfl) (by simp) ?_
     refine AllReadyH.cons rfl (fun KK hK => ?_) (AllReadyH.cons rfl (fun KK hK => ?_) AllReadyH.nil)
     ·clear hHeld
      have kl : v13.cell? ⟨Cd, d, none⟩ = some (.int .i64 ((ld : Nat) : Int)) := by rw [← HLD.out]; exact (L_13.out d hd30).1
      go_simp
      refine hK.out _ _ (S_13.out.bx.cell 2) (fun hHeld => ?_)
      clear hK KK kl
      try simp only [Act.put, List.getElem_toArray, List.getElem_cons_succ, List.getElem_cons_zero, List.setIfInBounds_toArray, List.set_cons_zero, List.set_cons_succ]
      refine wpAnyH_take (i := 7) (v := ?_) rfl (by kernel_rfl) (by kernel_rfl) (by kernel_rfl) (fun _ _ _ h => h) (Or.inl ⟨by kernel_rfl, ?_⟩) hHeld ?_
      rotate_left
      ·intro w hSw
       (try dsimp only at hSw)
       go_split_ands
       go_simp
       (try with_reducible rfl)
      try simp only [Act.put, List.getElem_toArray, List.getElem_cons_succ, List.getElem_cons_zero, List.setIfInBounds_toArray, List.set_cons_zero, List.set_cons_succ]
      refine wpAnyH_take (i := 8) (v := ?_) rfl (by kernel_rfl) (by kernel_rfl) (by kernel_rfl) (fun _ _ _ h => h) (Or.inl ⟨by kernel_rfl, ?_⟩) hHeld ?_
      rotate_left
      ·intro w hSw
       (try dsimp only at hSw)
       go_split_ands
       go_simp
       (try with_reducible rfl)
      try simp only [Act.put, List.getElem_toArray, List.getElem_cons_succ, List.getElem_cons_zero, List.setIfInBounds_toArray, List.set_cons_zero, List.set_cons_succ]
      refine wpAnyH_ready (rs := [10]) (by kernel_rfl) (by simp) ?_
      refine AllReadyH.cons rfl (fun KK hK => ?_) AllReadyH.nil
      clear hHeld
      have hq := qdistBits_any d hd30 v13
      rw [HBD.out] at hq
      go_simp
      refine hq.mono ?_
      clear hq
      rintro e w9 ⟨rfl, hw⟩
      have hw2 := hw.symm
      clear hw
      subst hw2
      go_simp
      refine hK.out _ _ (S_13.out.bx.cell 2) (fun hHeld => ?_)
      clear hK KK
      try simp only [Act.put, List.getElem_toArray, List.getElem_cons_succ, List.getElem_cons_zero, List.setIfInBounds_toArray, List.set_cons_zero, List.set_cons_succ]
      refine wpAnyH_ready (rs := [11]) (by kernel_rfl) (by simp) ?_
      refine AllReadyH.cons rfl (fun KK hK => ?_) AllReadyH.nil
      clear hHeld
      go_simp
      refine (low_any xd bd (by omega) (by omega) v13).mono ?_
      rintro e v14 ⟨rfl, h⟩
      have S_14 := Lib.hid (S_13.out.ext h)
      have L_14 := Lib.hid (L_13.out.ext h)
      clear h S_13 L_13
      go_simp
      refine hK.out _ _ (S_14.out.bx.cell 2) (fun hHeld => ?_)
      clear hK KK
      try simp only [Act.put, List.getElem_toArray, List.getElem_cons_succ, List.getElem_cons_zero, List.setIfInBounds_toArray, List.set_cons_zero, List.set_cons_succ]
      refine wpAnyH_ready (rs := [12]) (by kernel_rfl) (by simp) ?_
      refine AllReadyH.cons rfl (fun KK hK => ?_) AllReadyH.nil
      clear hHeld
      have hbz : (bs (Bts.low xd bd)).size ≤ 20 := by rw [bs_size]; rw [Bts.low_length]; omega
      have HBZ := Lib.hid hbz
      clear hbz
      obtain ⟨ov15, v15, hr, h2, h3, h5⟩ := run_append_mrow (w := v14) w.heap.size i0 61 hi0 hz0 hz1 hz2 _ _ S_14.out.st.rb (bs (Bts.low xd bd)) (by rw [Bts.str_length]; have := HBZ.out; have := HL_0.out; unfold maxLen; omega) (by rw [Bts.str_length]; have := HBZ.out; have := HL_0.out; omega) S_14.out.st.old.size
      have S_15 := Lib.hid (S_14.out.bits h2 h3 h5)
      have HL_1 := Lib.hid (show (_ ++ Bts.low xd bd : List Bool).length ≤ _ from by rw [List.length_append]; exact Nat.add_le_add HL_0.out (by rw [← bs_size]; exact HBZ.out))
      rw [if_pos (show _ = true by kernel_rfl)]
      unfold Oper.wp execOp
      simp only [resolve, invoke, builtin, Sem.run_bind, Sem.run_pure, Result.andThen_ok, List.map_toArray, List.map_cons, List.map_nil, Act.eval, List.getElem_toArray, List.getElem_cons_succ, List.getElem_cons_zero]
      simp only [Array.getD_eq_getD_getElem?, List.getElem?_toArray, List.getElem?_cons_succ, List.getElem?_cons_zero, Option.getD_some, hr, Result.andThen_ok, Oper.upon]
      clear S_14 L_14 HL_0 HBZ h2 h3 h5
      refine hK.out _ _ (S_15.out.bx.cell 2) (fun hHeld => ?_)
      clear hK KK hr
      try simp only [Act.put, List.getElem_toArray, List.getElem_cons_succ, List.getElem_cons_zero, List.setIfInBounds_toArray, List.set_cons_zero, List.set_cons_succ]
      have HL_0 := Lib.hid HL_1.out
      clear HL_1
      obtain ⟨B4, hB⟩ : ∃ B, B3 ++ Bts.low xd bd = B := ⟨_, rfl⟩
      rw [hB] at S_15 HL_0
      have HB4 := Lib.hid hB
      clear hB
      refine wpAnyH_take (i := 13) (v := ?_) rfl (by kernel_rfl) (by kernel_rfl) (by kernel_rfl) (fun _ _ _ h => h) (Or.inl ⟨by kernel_rfl, ?_⟩) hHeld ?_
      rotate_left
      ·intro w hSw
       (try dsimp only at hSw)
       go_split_ands
       go_simp
       (try with_reducible rfl)
      try simp only [Act.put, List.getElem_toArray, List.getElem_cons_succ, List.getElem_cons_zero, List.setIfInBounds_toArray, List.set_cons_zero, List.set_cons_succ]
      refine wpAnyH_done (by kernel_rfl) ?_ _
      clear hHeld
      go_wp2_with fail
      have HR := Lib.hid (show Bts.low 3 3 ++ Dfl.toksB Inf.fixF 288 Inf.fiveF 32 ((List.range (i + 1)).map tk) = B4 by rw [← HB4.out, ← HB3.out, ← HB2.out, ← HB1.out, fx_toks, HTK.out, HTB.out, HM.out, ← List.append_assoc, HBits.out]; simp only [List.append_assoc])
      refine ⟨⟨i + 1, by simp, by omega, by rw [HR.out]; exact Lib.hid S_15.out.st, by rw [HR.out]; exact Lib.hid (by have := HL_0.out; omega)⟩, by simp [intOf]; omega⟩
     ·clear hHeld
      have hq := qdistBits_any d hd30 v13
      rw [HBD.out] at hq
      go_simp
      refine hq.mono ?_
      clear hq
      rintro e w9 ⟨rfl, hw⟩
      have hw2 := hw.symm
      clear hw
      subst hw2
      go_simp
      refine hK.out _ _ (S_13.out.bx.cell 2) (fun hHeld => ?_)
      clear hK KK
      try simp only [Act.put, List.getElem_toArray, List.getElem_cons_succ, List.getElem_cons_zero, List.setIfInBounds_toArray, List.set_cons_zero, List.set_cons_succ]
      refine wpAnyH_ready (rs := [6]) (by kernel_rfl) (by simp) ?_
      refine AllReadyH.cons rfl (fun KK hK => ?_) AllReadyH.nil
      clear hHeld
      have kl : v13.cell? ⟨Cd, d, none⟩ = some (.int .i64 ((ld : Nat) : Int)) := by rw [← HLD.out]; exact (L_13.out d hd30).1
      go_simp
      refine hK.out _ _ (S_13.out.bx.cell 2) (fun hHeld => ?_)
      clear hK KK kl
      try simp only [Act.put, List.getElem_toArray, List.getElem_cons_succ, List.getElem_cons_zero, List.setIfInBounds_toArray, List.set_cons_zero, List.set_cons_succ]
      refine wpAnyH_take (i := 7) (v := ?_) rfl (by kernel_rfl) (by kernel_rfl) (by kernel_rfl) (fun _ _ _ h => h) (Or.inl ⟨by kernel_rfl, ?_⟩) hHeld ?_
      rotate_left
      ·intro w hSw
       (try dsimp only at hSw)
       go_split_ands
       go_simp
       (try with_reducible rfl)
      try simp only [Act.put, List.getElem_toArray, List.getElem_cons_succ, List.getElem_cons_zero, List.setIfInBounds_toArray, List.set_cons_zero, List.set_cons_succ]
      refine wpAnyH_take (i := 8) (v := ?_) rfl (by kernel_rfl) (by kernel_rfl) (by kernel_rfl) (fun _ _ _ h => h) (Or.inl ⟨by kernel_rfl, ?_⟩) hHeld ?_
      rotate_left
      ·intro w hSw
       (try dsimp only at hSw)
       go_split_ands
       go_simp
       (try with_reducible rfl)
      try simp only [Act.put, List.getElem_toArray, List.getElem_cons_succ, List.getElem_cons_zero, List.setIfInBounds_toArray, List.set_cons_zero, List.set_cons_succ]
      refine wpAnyH_ready (rs := [11]) (by kernel_rfl) (by simp) ?_
      refine AllReadyH.cons rfl (fun KK hK => ?_) AllReadyH.nil
      clear hHeld
      go_simp
      refine (low_any xd bd (by omega) (by omega) v13).mono ?_
      rintro e v14 ⟨rfl, h⟩
      have S_14 := Lib.hid (S_13.out.ext h)
      have L_14 := Lib.hid (L_13.out.ext h)
      clear h S_13 L_13
      go_simp
      refine hK.out _ _ (S_14.out.bx.cell 2) (fun hHeld => ?_)
      clear hK KK
      try simp only [Act.put, List.getElem_toArray, List.getElem_cons_succ, List.getElem_cons_zero, List.setIfInBounds_toArray, List.set_cons_zero, List.set_cons_succ]
      refine wpAnyH_ready (rs := [12]) (by kernel_rfl) (by simp) ?_
      refine AllReadyH.cons rfl (fun KK hK => ?_) AllReadyH.nil
      clear hHeld
      have hbz : (bs (Bts.low xd bd)).size ≤ 20 := by rw [bs_size]; rw [Bts.low_length]; omega
      have HBZ := Lib.hid hbz
      clear hbz
      obtain ⟨ov15, v15, hr, h2, h3, h5⟩ := run_append_mrow (w := v14) w.heap.size i0 61 hi0 hz0 hz1 hz2 _ _ S_14.out.st.rb (bs (Bts.low xd bd)) (by rw [Bts.str_length]; have := HBZ.out; have := HL_0.out; unfold maxLen; omega) (by rw [Bts.str_length]; have := HBZ.out; have := HL_0.out; omega) S_14.out.st.old.size
      have S_15 := Lib.hid (S_14.out.bits h2 h3 h5)
      have HL_1 := Lib.hid (show (_ ++ Bts.low xd bd : List Bool).length ≤ _ from by rw [List.length_append]; exact Nat.add_le_add HL_0.out (by rw [← bs_size]; exact HBZ.out))
      rw [if_pos (show _ = true by kernel_rfl)]
      unfold Oper.wp execOp
      simp only [resolve, invoke, builtin, Sem.run_bind, Sem.run_pure, Result.andThen_ok, List.map_toArray, List.map_cons, List.map_nil, Act.eval, List.getElem_toArray, List.getElem_cons_succ, List.getElem_cons_zero]
      simp only [Array.getD_eq_getD_getElem?, List.getElem?_toArray, List.getElem?_cons_succ, List.getElem?_cons_zero, Option.getD_some, hr, Result.andThen_ok, Oper.upon]
      clear S_14 L_14 HL_0 HBZ h2 h3 h5
      refine hK.out _ _ (S_15.out.bx.cell 2) (fun hHeld => ?_)
      clear hK KK hr
      try simp only [Act.put, List.getElem_toArray, List.getElem_cons_succ, List.getElem_cons_zero, List.setIfInBounds_toArray, List.set_cons_zero, List.set_cons_succ]
      have HL_0 := Lib.hid HL_1.out
      clear HL_1
      obtain ⟨B4, hB⟩ : ∃ B, B3 ++ Bts.low xd bd = B := ⟨_, rfl⟩
      rw [hB] at S_15 HL_0
      have HB4 := Lib.hid hB
      clear hB
      refine wpAnyH_take (i := 13) (v := ?_) rfl (by kernel_rfl) (by kernel_rfl) (by kernel_rfl) (fun _ _ _ h => h) (Or.inl ⟨by kernel_rfl, ?_⟩) hHeld ?_
      rotate_left
      ·intro w hSw
       (try dsimp only at hSw)
       go_split_ands
       go_simp
       (try with_reducible rfl)
      try simp only [Act.put, List.getElem_toArray, List.getElem_cons_succ, List.getElem_cons_zero, List.setIfInBounds_toArray, List.set_cons_zero, List.set_cons_succ]
      refine wpAnyH_done (by kernel_rfl) ?_ _
      clear hHeld
      go_wp2_with fail
      have HR := Lib.hid (show Bts.low 3 3 ++ Dfl.toksB Inf.fixF 288 Inf.fiveF 32 ((List.range (i + 1)).map tk) = B4 by rw [← HB4.out, ← HB3.out, ← HB2.out, ← HB1.out, fx_toks, HTK.out, HTB.out, HM.out, ← List.append_assoc, HBits.out]; simp only [List.append_assoc])
      refine ⟨⟨i + 1, by simp, by omega, by rw [HR.out]; exact Lib.hid S_15.out.st, by rw [HR.out]; exact Lib.hid (by have := HL_0.out; omega)⟩, by simp [intOf]; omega⟩
    ·clear hHeld
     have hq := qlenBits_any k hk29 v7
     rw [HBK.out] at hq
     go_simp
     refine hq.mono ?_
     clear hq
     rintro e w9 ⟨rfl, hw⟩
     have hw2 := hw.symm
     clear hw
     subst hw2
     go_simp
     refine hK.out _ _ (S_7.out.bx.cell 1) (fun hHeld => ?_)
     clear hK KK
     try simp only [Act.put, List.getElem_toArray, List.getElem_cons_succ, List.getElem_cons_zero, List.setIfInBounds_toArray, List.set_cons_zero, List.set_cons_succ]
     refine wpAnyH_ready (rs := [6]) (by kernel_rfl) (by simp) ?_
     refine AllReadyH.cons rfl (fun KK hK => ?_) AllReadyH.nil
     clear hHeld
     have kl : v7.cell? ⟨Cl, k, none⟩ = some (.int .i64 ((lk : Nat) : Int)) := by rw [← HLK.out]; exact (L_7.out k hk29).1
     go_simp
     refine hK.out _ _ (S_7.out.bx.cell 1) (fun hHeld => ?_)
     clear hK KK kl
     try simp only [Act.put, List.getElem_toArray, List.getElem_cons_succ, List.getElem_cons_zero, List.setIfInBounds_toArray, List.set_cons_zero, List.set_cons_succ]
     refine wpAnyH_take (i := 7) (v := ?_) rfl (by kernel_rfl) (by kernel_rfl) (by kernel_rfl) (fun _ _ _ h => h) (Or.inl ⟨by kernel_rfl, ?_⟩) hHeld ?_
     rotate_left
     ·intro w hSw
      (try dsimp only at hSw)
      go_split_ands
      go_simp
      (try with_reducible rfl)
     try simp only [Act.put, List.getElem_toArray, List.getElem_cons_succ, List.getElem_cons_zero, List.setIfInBounds_toArray, List.set_cons_zero, List.set_cons_succ]
     refine wpAnyH_take (i := 8) (v := ?_) rfl (by kernel_rfl) (by kernel_rfl) (by kernel_rfl) (fun _ _ _ h => h) (Or.inl ⟨by kernel_rfl, ?_⟩) hHeld ?_
     rotate_left
     ·intro w hSw
      (try dsimp only at hSw)
      go_split_ands
      go_simp
      (try with_reducible rfl)
     try simp only [Act.put, List.getElem_toArray, List.getElem_cons_succ, List.getElem_cons_zero, List.setIfInBounds_toArray, List.set_cons_zero, List.set_cons_succ]
     refine wpAnyH_ready (rs := [11]) (by kernel_rfl) (by simp) ?_
     refine AllReadyH.cons rfl (fun KK hK => ?_) AllReadyH.nil
     clear hHeld
     go_simp
     refine (low_any xl bl (by omega) (by omega) v7).mono ?_
     rintro e v8 ⟨rfl, h⟩
     have S_8 := Lib.hid (S_7.out.ext h)
     have L_8 := Lib.hid (L_7.out.ext h)
     clear h S_7 L_7
     go_simp
     refine hK.out _ _ (S_8.out.bx.cell 1) (fun hHeld => ?_)
     clear hK KK
     try simp only [Act.put, List.getElem_toArray, List.getElem_cons_succ, List.getElem_cons_zero, List.setIfInBounds_toArray, List.set_cons_zero, List.set_cons_succ]
     refine wpAnyH_ready (rs := [12]) (by kernel_rfl) (by simp) ?_
     refine AllReadyH.cons rfl (fun KK hK => ?_) AllReadyH.nil
     clear hHeld
     have hbz : (bs (Bts.low xl bl)).size ≤ 20 := by rw [bs_size]; rw [Bts.low_length]; omega
     have HBZ := Lib.hid hbz
     clear hbz
     obtain ⟨ov9, v9, hr, h2, h3, h5⟩ := run_append_mrow (w := v8) w.heap.size i0 61 hi0 hz0 hz1 hz2 _ _ S_8.out.st.rb (bs (Bts.low xl bl)) (by rw [Bts.str_length]; have := HBZ.out; have := HL_0.out; unfold maxLen; omega) (by rw [Bts.str_length]; have := HBZ.out; have := HL_0.out; omega) S_8.out.st.old.size
     have S_9 := Lib.hid (S_8.out.bits h2 h3 h5)
     have HL_1 := Lib.hid (show (_ ++ Bts.low xl bl : List Bool).length ≤ _ from by rw [List.length_append]; exact Nat.add_le_add HL_0.out (by rw [← bs_size]; exact HBZ.out))
     rw [if_pos (show _ = true by kernel_rfl)]
     unfold Oper.wp execOp
     simp only [resolve, invoke, builtin, Sem.run_bind, Sem.run_pure, Result.andThen_ok, List.map_toArray, List.map_cons, List.map_nil, Act.eval, List.getElem_toArray, List.getElem_cons_succ, List.getElem_cons_zero]
     simp only [Array.getD_eq_getD_getElem?, List.getElem?_toArray, List.getElem?_cons_succ, List.getElem?_cons_zero, Option.getD_some, hr, Result.andThen_ok, Oper.upon]
     clear S_8 L_8 HL_0 HBZ h2 h3 h5
     refine hK.out _ _ (S_9.out.bx.cell 1) (fun hHeld => ?_)
     clear hK KK hr
     try simp only [Act.put, List.getElem_toArray, List.getElem_cons_succ, List.getElem_cons_zero, List.setIfInBounds_toArray, List.set_cons_zero, List.set_cons_succ]
     have HL_0 := Lib.hid HL_1.out
     clear HL_1
     obtain ⟨B2, hB⟩ : ∃ B, B1 ++ Bts.low xl bl = B := ⟨_, rfl⟩
     rw [hB] at S_9 HL_0
     have HB2 := Lib.hid hB
     clear hB
     refine wpAnyH_take (i := 13) (v := ?_) rfl (by kernel_rfl) (by kernel_rfl) (by kernel_rfl) (fun _ _ _ h => h) (Or.inl ⟨by kernel_rfl, ?_⟩) hHeld ?_
     rotate_left
     ·intro w hSw
      (try dsimp only at hSw)
      go_split_ands
      go_simp
      (try with_reducible rfl)
     try simp only [Act.put, List.getElem_toArray, List.getElem_cons_succ, List.getElem_cons_zero, List.setIfInBounds_toArray, List.set_cons_zero, List.set_cons_succ]
     refine wpAnyH_done (by kernel_rfl) ?_ _
     clear hHeld
     go_wp2_with fail
     refine (high_any d 5 (by omega) (by decide) _).mono ?_
     rintro e v10 ⟨rfl, h⟩
     have S_10 := Lib.hid (S_9.out.ext h)
     clear h S_9
     have HL_10 := Lib.hid HL_0.out
     clear HL_0
     have hzb : w.heap.size ≤ v10.heap.size := S_10.out.st.old.size
     have hbz : (bs (Bts.high d 5)).size ≤ 20 := by rw [bs_size]; rw [Bts.high_length]; omega
     have HBZ := Lib.hid hbz
     clear hbz
     go_wp2_with (at_builtin; refine wpList_append_mrow rfl _ _ rfl w.heap.size i0 hi0 hz0 hz1 hz2 _ _ rfl S_10.out.st.rb (bs (Bts.high d 5)) rfl ?c3 ?c4 hzb ?_)
     case c3 => rw [Bts.str_length]; have := HBZ.out; have := HL_10.out; unfold maxLen; omega
     case c4 => rw [Bts.str_length]; have := HBZ.out; have := HL_10.out; omega
     intro ov11 v11 hr4 hg4 hat4
     have S_11 := Lib.hid (S_10.out.bits hr4 hg4 hat4)
     have HL_11 := Lib.hid (show (_ ++ (Bts.high d 5) : List Bool).length ≤ _ from by rw [List.length_append]; exact Nat.add_le_add HL_10.out (by rw [← bs_size]; exact HBZ.out))
     clear hr4 hg4 hat4 hzb HBZ S_10 HL_10
     obtain ⟨B3, hB⟩ : ∃ B, B2 ++ (Bts.high d 5) = B := ⟨_, rfl⟩
     rw [hB] at S_11 HL_11
     have HB3 := Lib.hid hB
     clear hB
     go_wp2_with fail
     have HL_0 := Lib.hid HL_11.out
     clear HL_11
     refine wp_region_held_drew (S := fun w' => w'.cell? ⟨T, 2, none⟩ = some (.int .i64 (vd : Int))) (by kernel_rfl) (S_11.out.bx.cell 2) (fun hHeld => ?_)
     clear hHeld
     refine anyH_world (fun wz => Ext v11 wz) (show Ext v11 v11.drew from Below.drew (Ext.refl v11)) ?_
     rintro v12 h
     have S_12 := Lib.hid (S_11.out.ext h)
     clear h S_11
     have hHeld : v12.cell? ⟨T, 2, none⟩ = some (.int .i64 (vd : Int)) := (S_12.out.bx.cell 2)
     refine wpAnyH_take (i := 0) (v := ?_) rfl (by kernel_rfl) (by kernel_rfl) (by kernel_rfl) (fun _ _ _ h => h) (Or.inl ⟨by kernel_rfl, ?_⟩) hHeld ?_
     rotate_left
     ·intro w hSw
      (try dsimp only at hSw)
      go_split_ands
      go_simp
      (try with_reducible rfl)
     try simp only [Act.put, List.getElem_toArray, List.getElem_cons_succ, List.getElem_cons_zero, List.setIfInBounds_toArray, List.set_cons_zero, List.set_cons_succ]
     refine wpAnyH_take (i := 1) (v := ?_) rfl (by kernel_rfl) (by kernel_rfl) (by kernel_rfl) (fun _ _ _ h => h) (Or.inl ⟨by kernel_rfl, ?_⟩) hHeld ?_
     rotate_left
     ·intro w hSw
      (try dsimp only at hSw)
      go_split_ands
      go_simp
      (try with_reducible rfl)
     try simp only [Act.put, List.getElem_toArray, List.getElem_cons_succ, List.getElem_cons_zero, List.setIfInBounds_toArray, List.set_cons_zero, List.set_cons_succ]
     refine wpAnyH_take (i := 2) (v := ?_) rfl (by kernel_rfl) (by kernel_rfl) (by kernel_rfl) (fun _ _ _ h => h) (Or.inl ⟨by kernel_rfl, ?_⟩) hHeld ?_
     rotate_left
     ·intro w hSw
      (try dsimp only at hSw)
      go_split_ands
      go_simp
      (try with_reducible rfl)
     try simp only [Act.put, List.getElem_toArray, List.getElem_cons_succ, List.getElem_cons_zero, List.setIfInBounds_toArray, List.set_cons_zero, List.set_cons_succ]
     refine wpAnyH_take (i := 4) (v := ?_) rfl (by kernel_rfl) (by kernel_rfl) (by kernel_rfl) (fun _ _ _ h => h) (Or.inl ⟨by kernel_rfl, ?_⟩) hHeld ?_
     rotate_left
     ·intro w hSw
      (try dsimp only at hSw)
      go_split_ands
      go_simp
      (try with_reducible rfl)
     try simp only [Act.put, List.getElem_toArray, List.getElem_cons_succ, List.getElem_cons_zero, List.setIfInBounds_toArray, List.set_cons_zero, List.set_cons_succ]
     refine wpAnyH_take (i := 9) (v := ?_) rfl (by kernel_rfl) (by kernel_rfl) (by kernel_rfl) (fun _ _ _ h => h) (Or.inl ⟨by kernel_rfl, ?_⟩) hHeld ?_
     rotate_left
     ·intro w hSw
      (try dsimp only at hSw)
      go_split_ands
      go_simp
      (try with_reducible rfl)
     try simp only [Act.put, List.getElem_toArray, List.getElem_cons_succ, List.getElem_cons_zero, List.setIfInBounds_toArray, List.set_cons_zero, List.set_cons_succ]
     refine wpAnyH_ready (rs := [3]) (by kernel_rfl) (by simp) ?_
     refine AllReadyH.cons rfl (fun KK hK => ?_) AllReadyH.nil
     clear hHeld
     go_simp
     refine (qdists_any v12).mono ?_
     rintro e v13 ⟨Cd, rfl, hge, hcs, h⟩
     have S_13 := Lib.hid (S_12.out.ext h)
     clear h hge S_12
     have L_13 := Lib.hid (hcs.ext (Ext.refl _))
     go_simp
     refine hK.out _ _ (S_13.out.bx.cell 2) (fun hHeld => ?_)
     clear hK KK
     try simp only [Act.put, List.getElem_toArray, List.getElem_cons_succ, List.getElem_cons_zero, List.setIfInBounds_toArray, List.set_cons_zero, List.set_cons_succ]
     clear hcs
     refine wpAnyH_take (i := 5) (v := ?_) rfl (by kernel_rfl) (by kernel_rfl) (by kernel_rfl) (fun _ _ _ h => h) (Or.inl ⟨by kernel_rfl, ?_⟩) hHeld ?_
     rotate_left
     ·intro w hSw
      (try dsimp only at hSw)
      go_split_ands
      go_simp
      (try with_reducible rfl)
     try simp only [Act.put, List.getElem_toArray, List.getElem_cons_succ, List.getElem_cons_zero, List.setIfInBounds_toArray, List.set_cons_zero, List.set_cons_succ]
     refine wpAnyH_ready (rs := [6, 10]) (by kernel_rfl) (by simp) ?_
     refine AllReadyH.cons rfl (fun KK hK => ?_) (AllReadyH.cons rfl (fun KK hK => ?_) AllReadyH.nil)
     ·clear hHeld
      have kl : v13.cell? ⟨Cd, d, none⟩ = some (.int .i64 ((ld : Nat) : Int)) := by rw [← HLD.out]; exact (L_13.out d hd30).1
      go_simp
      refine hK.out _ _ (S_13.out.bx.cell 2) (fun hHeld => ?_)
      clear hK KK kl
      try simp only [Act.put, List.getElem_toArray, List.getElem_cons_succ, List.getElem_cons_zero, List.setIfInBounds_toArray, List.set_cons_zero, List.set_cons_succ]
      refine wpAnyH_take (i := 7) (v := ?_) rfl (by kernel_rfl) (by kernel_rfl) (by kernel_rfl) (fun _ _ _ h => h) (Or.inl ⟨by kernel_rfl, ?_⟩) hHeld ?_
      rotate_left
      ·intro w hSw
       (try dsimp only at hSw)
       go_split_ands
       go_simp
       (try with_reducible rfl)
      try simp only [Act.put, List.getElem_toArray, List.getElem_cons_succ, List.getElem_cons_zero, List.setIfInBounds_toArray, List.set_cons_zero, List.set_cons_succ]
      refine wpAnyH_take (i := 8) (v := ?_) rfl (by kernel_rfl) (by kernel_rfl) (by kernel_rfl) (fun _ _ _ h => h) (Or.inl ⟨by kernel_rfl, ?_⟩) hHeld ?_
      rotate_left
      ·intro w hSw
       (try dsimp only at hSw)
       go_split_ands
       go_simp
       (try with_reducible rfl)
      try simp only [Act.put, List.getElem_toArray, List.getElem_cons_succ, List.getElem_cons_zero, List.setIfInBounds_toArray, List.set_cons_zero, List.set_cons_succ]
      refine wpAnyH_ready (rs := [10]) (by kernel_rfl) (by simp) ?_
      refine AllReadyH.cons rfl (fun KK hK => ?_) AllReadyH.nil
      clear hHeld
      have hq := qdistBits_any d hd30 v13
      rw [HBD.out] at hq
      go_simp
      refine hq.mono ?_
      clear hq
      rintro e w9 ⟨rfl, hw⟩
      have hw2 := hw.symm
      clear hw
      subst hw2
      go_simp
      refine hK.out _ _ (S_13.out.bx.cell 2) (fun hHeld => ?_)
      clear hK KK
      try simp only [Act.put, List.getElem_toArray, List.getElem_cons_succ, List.getElem_cons_zero, List.setIfInBounds_toArray, List.set_cons_zero, List.set_cons_succ]
      refine wpAnyH_ready (rs := [11]) (by kernel_rfl) (by simp) ?_
      refine AllReadyH.cons rfl (fun KK hK => ?_) AllReadyH.nil
      clear hHeld
      go_simp
      refine (low_any xd bd (by omega) (by omega) v13).mono ?_
      rintro e v14 ⟨rfl, h⟩
      have S_14 := Lib.hid (S_13.out.ext h)
      have L_14 := Lib.hid (L_13.out.ext h)
      clear h S_13 L_13
      go_simp
      refine hK.out _ _ (S_14.out.bx.cell 2) (fun hHeld => ?_)
      clear hK KK
      try simp only [Act.put, List.getElem_toArray, List.getElem_cons_succ, List.getElem_cons_zero, List.setIfInBounds_toArray, List.set_cons_zero, List.set_cons_succ]
      refine wpAnyH_ready (rs := [12]) (by kernel_rfl) (by simp) ?_
      refine AllReadyH.cons rfl (fun KK hK => ?_) AllReadyH.nil
      clear hHeld
      have hbz : (bs (Bts.low xd bd)).size ≤ 20 := by rw [bs_size]; rw [Bts.low_length]; omega
      have HBZ := Lib.hid hbz
      clear hbz
      obtain ⟨ov15, v15, hr, h2, h3, h5⟩ := run_append_mrow (w := v14) w.heap.size i0 61 hi0 hz0 hz1 hz2 _ _ S_14.out.st.rb (bs (Bts.low xd bd)) (by rw [Bts.str_length]; have := HBZ.out; have := HL_0.out; unfold maxLen; omega) (by rw [Bts.str_length]; have := HBZ.out; have := HL_0.out; omega) S_14.out.st.old.size
      have S_15 := Lib.hid (S_14.out.bits h2 h3 h5)
      have HL_1 := Lib.hid (show (_ ++ Bts.low xd bd : List Bool).length ≤ _ from by rw [List.length_append]; exact Nat.add_le_add HL_0.out (by rw [← bs_size]; exact HBZ.out))
      rw [if_pos (show _ = true by kernel_rfl)]
      unfold Oper.wp execOp
      simp only [resolve, invoke, builtin, Sem.run_bind, Sem.run_pure, Result.andThen_ok, List.map_toArray, List.map_cons, List.map_nil, Act.eval, List.getElem_toArray, List.getElem_cons_succ, List.getElem_cons_zero]
      simp only [Array.getD_eq_getD_getElem?, List.getElem?_toArray, List.getElem?_cons_succ, List.getElem?_cons_zero, Option.getD_some, hr, Result.andThen_ok, Oper.upon]
      clear S_14 L_14 HL_0 HBZ h2 h3 h5
      refine hK.out _ _ (S_15.out.bx.cell 2) (fun hHeld => ?_)
      clear hK KK hr
      try simp only [Act.put, List.getElem_toArray, List.getElem_cons_succ, List.getElem_cons_zero, List.setIfInBounds_toArray, List.set_cons_zero, List.set_cons_succ]
      have HL_0 := Lib.hid HL_1.out
      clear HL_1
      obtain ⟨B4, hB⟩ : ∃ B, B3 ++ Bts.low xd bd = B := ⟨_, rfl⟩
      rw [hB] at S_15 HL_0
      have HB4 := Lib.hid hB
      clear hB
      refine wpAnyH_take (i := 13) (v := ?_) rfl (by kernel_rfl) (by kernel_rfl) (by kernel_rfl) (fun _ _ _ h => h) (Or.inl ⟨by kernel_rfl, ?_⟩) hHeld ?_
      rotate_left
      ·intro w hSw
       (try dsimp only at hSw)
       go_split_ands
       go_simp
       (try with_reducible rfl)
      try simp only [Act.put, List.getElem_toArray, List.getElem_cons_succ, List.getElem_cons_zero, List.setIfInBounds_toArray, List.set_cons_zero, List.set_cons_succ]
      refine wpAnyH_done (by kernel_rfl) ?_ _
      clear hHeld
      go_wp2_with fail
      have HR := Lib.hid (show Bts.low 3 3 ++ Dfl.toksB Inf.fixF 288 Inf.fiveF 32 ((List.range (i + 1)).map tk) = B4 by rw [← HB4.out, ← HB3.out, ← HB2.out, ← HB1.out, fx_toks, HTK.out, HTB.out, HM.out, ← List.append_assoc, HBits.out]; simp only [List.append_assoc])
      refine ⟨⟨i + 1, by simp, by omega, by rw [HR.out]; exact Lib.hid S_15.out.st, by rw [HR.out]; exact Lib.hid (by have := HL_0.out; omega)⟩, by simp [intOf]; omega⟩
     ·clear hHeld
      have hq := qdistBits_any d hd30 v13
      rw [HBD.out] at hq
      go_simp
      refine hq.mono ?_
      clear hq
      rintro e w9 ⟨rfl, hw⟩
      have hw2 := hw.symm
      clear hw
      subst hw2
      go_simp
      refine hK.out _ _ (S_13.out.bx.cell 2) (fun hHeld => ?_)
      clear hK KK
      try simp only [Act.put, List.getElem_toArray, List.getElem_cons_succ, List.getElem_cons_zero, List.setIfInBounds_toArray, List.set_cons_zero, List.set_cons_succ]
      refine wpAnyH_ready (rs := [6]) (by kernel_rfl) (by simp) ?_
      refine AllReadyH.cons rfl (fun KK hK => ?_) AllReadyH.nil
      clear hHeld
      have kl : v13.cell? ⟨Cd, d, none⟩ = some (.int .i64 ((ld : Nat) : Int)) := by rw [← HLD.out]; exact (L_13.out d hd30).1
      go_simp
      refine hK.out _ _ (S_13.out.bx.cell 2) (fun hHeld => ?_)
      clear hK KK kl
      try simp only [Act.put, List.getElem_toArray, List.getElem_cons_succ, List.getElem_cons_zero, List.setIfInBounds_toArray, List.set_cons_zero, List.set_cons_succ]
      refine wpAnyH_take (i := 7) (v := ?_) rfl (by kernel_rfl) (by kernel_rfl) (by kernel_rfl) (fun _ _ _ h => h) (Or.inl ⟨by kernel_rfl, ?_⟩) hHeld ?_
      rotate_left
      ·intro w hSw
       (try dsimp only at hSw)
       go_split_ands
       go_simp
       (try with_reducible rfl)
      try simp only [Act.put, List.getElem_toArray, List.getElem_cons_succ, List.getElem_cons_zero, List.setIfInBounds_toArray, List.set_cons_zero, List.set_cons_succ]
      refine wpAnyH_take (i := 8) (v := ?_) rfl (by kernel_rfl) (by kernel_rfl) (by kernel_rfl) (fun _ _ _ h => h) (Or.inl ⟨by kernel_rfl, ?_⟩) hHeld ?_
      rotate_left
      ·intro w hSw
       (try dsimp only at hSw)
       go_split_ands
       go_simp
       (try with_reducible rfl)
      try simp only [Act.put, List.getElem_toArray, List.getElem_cons_succ, List.getElem_cons_zero, List.setIfInBounds_toArray, List.set_cons_zero, List.set_cons_succ]
      refine wpAnyH_ready (rs := [11]) (by kernel_rfl) (by simp) ?_
      refine AllReadyH.cons rfl (fun KK hK => ?_) AllReadyH.nil
      clear hHeld
      go_simp
      refine (low_any xd bd (by omega) (by omega) v13).mono ?_
      rintro e v14 ⟨rfl, h⟩
      have S_14 := Lib.hid (S_13.out.ext h)
      have L_14 := Lib.hid (L_13.out.ext h)
      clear h S_13 L_13
      go_simp
      refine hK.out _ _ (S_14.out.bx.cell 2) (fun hHeld => ?_)
      clear hK KK
      try simp only [Act.put, List.getElem_toArray, List.getElem_cons_succ, List.getElem_cons_zero, List.setIfInBounds_toArray, List.set_cons_zero, List.set_cons_succ]
      refine wpAnyH_ready (rs := [12]) (by kernel_rfl) (by simp) ?_
      refine AllReadyH.cons rfl (fun KK hK => ?_) AllReadyH.nil
      clear hHeld
      have hbz : (bs (Bts.low xd bd)).size ≤ 20 := by rw [bs_size]; rw [Bts.low_length]; omega
      have HBZ := Lib.hid hbz
      clear hbz
      obtain ⟨ov15, v15, hr, h2, h3, h5⟩ := run_append_mrow (w := v14) w.heap.size i0 61 hi0 hz0 hz1 hz2 _ _ S_14.out.st.rb (bs (Bts.low xd bd)) (by rw [Bts.str_length]; have := HBZ.out; have := HL_0.out; unfold maxLen; omega) (by rw [Bts.str_length]; have := HBZ.out; have := HL_0.out; omega) S_14.out.st.old.size
      have S_15 := Lib.hid (S_14.out.bits h2 h3 h5)
      have HL_1 := Lib.hid (show (_ ++ Bts.low xd bd : List Bool).length ≤ _ from by rw [List.length_append]; exact Nat.add_le_add HL_0.out (by rw [← bs_size]; exact HBZ.out))
      rw [if_pos (show _ = true by kernel_rfl)]
      unfold Oper.wp execOp
      simp only [resolve, invoke, builtin, Sem.run_bind, Sem.run_pure, Result.andThen_ok, List.map_toArray, List.map_cons, List.map_nil, Act.eval, List.getElem_toArray, List.getElem_cons_succ, List.getElem_cons_zero]
      simp only [Array.getD_eq_getD_getElem?, List.getElem?_toArray, List.getElem?_cons_succ, List.getElem?_cons_zero, Option.getD_some, hr, Result.andThen_ok, Oper.upon]
      clear S_14 L_14 HL_0 HBZ h2 h3 h5
      refine hK.out _ _ (S_15.out.bx.cell 2) (fun hHeld => ?_)
      clear hK KK hr
      try simp only [Act.put, List.getElem_toArray, List.getElem_cons_succ, List.getElem_cons_zero, List.setIfInBounds_toArray, List.set_cons_zero, List.set_cons_succ]
      have HL_0 := Lib.hid HL_1.out
      clear HL_1
      obtain ⟨B4, hB⟩ : ∃ B, B3 ++ Bts.low xd bd = B := ⟨_, rfl⟩
      rw [hB] at S_15 HL_0
      have HB4 := Lib.hid hB
      clear hB
      refine wpAnyH_take (i := 13) (v := ?_) rfl (by kernel_rfl) (by kernel_rfl) (by kernel_rfl) (fun _ _ _ h => h) (Or.inl ⟨by kernel_rfl, ?_⟩) hHeld ?_
      rotate_left
      ·intro w hSw
       (try dsimp only at hSw)
       go_split_ands
       go_simp
       (try with_reducible rfl)
      try simp only [Act.put, List.getElem_toArray, List.getElem_cons_succ, List.getElem_cons_zero, List.setIfInBounds_toArray, List.set_cons_zero, List.set_cons_succ]
      refine wpAnyH_done (by kernel_rfl) ?_ _
      clear hHeld
      go_wp2_with fail
      have HR := Lib.hid (show Bts.low 3 3 ++ Dfl.toksB Inf.fixF 288 Inf.fiveF 32 ((List.range (i + 1)).map tk) = B4 by rw [← HB4.out, ← HB3.out, ← HB2.out, ← HB1.out, fx_toks, HTK.out, HTB.out, HM.out, ← List.append_assoc, HBits.out]; simp only [List.append_assoc])
      refine ⟨⟨i + 1, by simp, by omega, by rw [HR.out]; exact Lib.hid S_15.out.st, by rw [HR.out]; exact Lib.hid (by have := HL_0.out; omega)⟩, by simp [intOf]; omega⟩
  ·obtain rfl : i = n := by omega
   have t0 : decide ((i : Int) < (i : Int)) = false := decide_eq_false (by omega)
   obtain ⟨Bits, hBits⟩ : ∃ B, Bts.low 3 3 ++ Dfl.toksB Inf.fixF 288 Inf.fiveF 32 ((List.range i).map tk) = B := ⟨_, rfl⟩
   rw [hBits] at HS HBL
   have HBits := Lib.hid hBits
   clear hBits
   obtain ⟨M, hM⟩ : ∃ M, Dfl.wordB Inf.fixF 288 256 = M := ⟨_, rfl⟩
   have kc : wr.cell? ⟨C, 256, none⟩ = some (.string (bs M)) := by rw [← hM]; exact (HS.out.cv 256 (by decide)).1
   have hML : M.length ≤ 9 := by rw [← hM]; exact fxw_len 256 (by decide)
   have HPe : Hid (P = Bits ++ M) := Lib.hid (by rw [← HP.out, ← List.append_assoc, HBits.out, hM])
   clear hM
   have hzb : w.heap.size ≤ wr.heap.size := HS.out.old.size
   have hbz : (bs M).size ≤ 20 := by rw [bs_size]; omega
   have HBZ := Lib.hid hbz
   clear hbz
   go_wp2_with (at_builtin; refine wpList_append_mrow rfl _ _ rfl w.heap.size i0 hi0 hz0 hz1 hz2 _ _ rfl HS.out.rb (bs M) rfl ?c3 ?c4 hzb ?_)
   case c3 => rw [Bts.str_length]; have := HBZ.out; have := HBL.out; unfold maxLen; omega
   case c4 => rw [Bts.str_length]; have := HBZ.out; have := HBL.out; omega
   intro ov4 w4 hr4 hg4 hat4
   have HS4 := Lib.hid (HS.out.bits hr4 hg4 hat4)
   rw [← HPe.out] at HS4
   clear hr4 hg4 hat4 kc HS
   have hcr := HS4.out.rb.conv
   rw [fx_tb_bs] at hcr
   go_wp2_with fail
   refine (packed_any P HLen.out _).mono ?_
   rintro e w5 ⟨⟨l, hl1, hl2, rfl⟩, h5⟩
   have HL := Lib.hid (And.intro hl1 hl2)
   have HX5 := Lib.hid (HS4.out.old.trans h5)
   clear hl1 hl2 h5 hcr
   go_wp2_with fail
   go_ret
   exact ⟨⟨l, HL.out.1, HL.out.2, rfl⟩, HX5.out⟩
end Go.Proofs.YtnhbjgmfbcedaaaDoor
