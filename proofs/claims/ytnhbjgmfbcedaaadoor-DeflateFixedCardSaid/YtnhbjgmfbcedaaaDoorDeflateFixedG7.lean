/-
  A writer of a block: its tokens.
  Rows of cells of whatever values. No function of the program is named.
  slices.Grow of no row, slices.Concat of rows of whole numbers.
  math/bits.Mul at 1.
  slices.Repeat of one whole number.
  inflate.FixedLengths.
  The world of a region that draws its order, under a name. No function of the program is named.
  inflate: a dynamic block's lengths: the plain machine's steps, what stands beside a reader.
-/
import Derived.Test.YtnhbjgmfbcedaaaDoorDeflateFixedG6
import Derived.Deep.DeepCutAuto
import Derived.Deep.CutBlock
import Derived.Test.YtnhbjgmfbcedaaaDoorDeflateFixedG1
import Derived.Test.YtnhbjgmfbcedaaaDoorDeflateFixedG4
import Derived.Test.YtnhbjgmfbcedaaaDoorDeflateFixedG5
import Derived.Lib.Mul64
import Derived.Laws.Bits64b
import Derived.Lib.SliceRun
import Derived.Laws.CopyOwn
import Derived.Deep.LoopGhost
import Derived.Deep.RegionLaw
import Derived.Deep.OwnRows
import Derived.Shelf.RegionOpenPlain
import Derived.Lib.OthersKept
import Derived.Deep.Onto
import Derived.Deep.RegionHeld3
import Derived.RegionTactic
namespace Go.Proofs.YtnhbjgmfbcedaaaDoor
open Go.RowKit
set_option linter.unusedSimpArgs false
set_option linter.unusedVariables false
set_option maxRecDepth 100000
/-- what a call that writes a block rests on: it stays wherever but the writer's memory has turned -/
structure Base (w : World) (D Wb : Nat) (la da ca ea : Addr) (ln lc dn dc cc ec : Nat) (f g : Nat → Int) (x : Option Addr) (n : Nat) (tk : Nat → Tk) : Prop where
  df : DF w D Wb la da ca ea ln lc dn dc cc ec f g
  toks : Toks w x n tk
  tabs : Tabs w
theorem WStep.redrew {w w' : World} {B o : Nat} {v v' : Value} (h : WStep w w' B o v v') : WStep w w'.drew B o v v' := ⟨⟨h.keeps.os, h.keeps.tape, h.keeps.output, h.keeps.size, h.keeps.block⟩, h.cells, h.marks, h.new⟩
theorem wordB_len {f : Nat → Int} {ln k : Nat} (hf : ∀ k, k < ln → 0 ≤ f k ∧ f k ≤ 15) (hk : k < ln) : (Dfl.wordB f ln k).length ≤ 15 := by
  unfold Dfl.wordB
  rw [Bts.high_length]
  have := hf k hk
  omega
/-- the state of a call that writes tokens: the one at hand lies in T -/
structure TSt (w1 w : World) (Wb T : Nat) (u1 u : Value) (L : List Bool) (t : Tk) : Prop where
  wb : WB w Wb u L
  st : WStep w1 w Wb 0 u1 u
  bk : Bk w T #[.int .u8 (t.b.toNat : Int), .int .i64 t.l, .int .i64 t.d]
  o1 : u.ownBlock ≠ some T
  o2 : T ≠ Wb
theorem TSt.new {w1 w : World} {Wb : Nat} {u1 u : Value} {L : List Bool} {t : Tk} (hW : WB w Wb u L) (hS : WStep w1 w Wb 0 u1 u) (ty : TypeId) : TSt w1 (w.alloc (.cells #[.int .u8 (t.b.toNat : Int), .int .i64 t.l, .int .i64 t.d] ty)) Wb w.heap.size u1 u L t := by
  have hb := World.block_lt_of_cell? w _ hW.c0
  refine ⟨hW.ext ((Ext.refl w).alloc _), hS.ext ((Ext.refl w).alloc _) hb, Bk.at rfl, ?_, fun e => by have : Wb < w.heap.size := hb; omega⟩
  intro e
  obtain ⟨l, _, _, h3⟩ := hW.row
  exact Nat.lt_irrefl _ (ownsRow_lt h3 e)
theorem TSt.drew {w1 w : World} {Wb T : Nat} {u1 u : Value} {L : List Bool} {t : Tk} (h : TSt w1 w Wb T u1 u L t) : TSt w1 w.drew Wb T u1 u L t := ⟨h.wb.drew, h.st.redrew, h.bk.drew, h.o1, h.o2⟩
theorem TSt.step {w1 w w' : World} {Wb T : Nat} {u1 u u' : Value} {L L' : List Bool} {t : Tk} (h : TSt w1 w Wb T u1 u L t) (hS : WStep w w' Wb 0 u u') (hW : WB w' Wb u' L') : TSt w1 w' Wb T u1 u' L' t := by
  refine ⟨hW, h.st.trans hS, h.bk.keeps hS.keeps (by rintro (e | e); exact h.o2 e; exact h.o1 e), fun e => ?_, h.o2⟩
  rcases hS.new T e with q | q
  · exact h.o1 q
  · have := h.bk.lt; omega
set_option maxHeartbeats 8000000 in
theorem writeToks_any (D Wb : Nat) (la da ca ea : Addr) (ln lc dn dc cc ec : Nat) (f g : Nat → Int) (x : Option Addr) (n cap : Nat) (tk : Nat → Tk) (u1 : Value) (L0 : List Bool) (w1 : World)
    (hB : ∀ w, Keeps (fun k => k = Wb ∨ u1.ownBlock = some k) w1 w → Base w D Wb la da ca ea ln lc dn dc cc ec f g x n tk) (hW : WB w1 Wb u1 L0) (hcf : complete f ln) (hcg : complete g dn) (hl1 : 286 ≤ ln) (hl2 : ln ≤ 300) (hd1 : 30 ≤ dn) (hd2 : dn ≤ 300)
    (hf : ∀ k, k < ln → 0 ≤ f k ∧ f k ≤ 15) (hg : ∀ k, k < dn → 0 ≤ g k ∧ g k ≤ 15) (hn : n ≤ 310000) (hL : L0.length ≤ 1000000)
    (hok : ∀ i, i < n → (tk i).l = 0 ∨ (3 ≤ (tk i).l ∧ (tk i).l ≤ 258 ∧ 1 ≤ (tk i).d ∧ (tk i).d ≤ 32768)) :
    Calls Tryd.prog 92 #[.pointer (some ⟨D, 0, none⟩), .slice x n cap] w1 fun e w' => e = .returned (.tuple #[]) ∧ ∃ u', WB w' Wb u' (L0 ++ (Dfl.toksB f ln g dn ((List.range n).map tk) ++ Dfl.wordB f ln 256)) ∧ WStep w1 w' Wb 0 u1 u' := by
  have HB := Lib.hid hB
  have HW := Lib.hid hW
  have HF := Lib.hid hf
  have HG := Lib.hid hg
  have HOK := Lib.hid hok
  have HC := Lib.hid (And.intro hcf hcg)
  clear hB hW hf hg hok hcf hcg
  go_enter Tryd.func92, Tryd.ntmps92
  go_wp2_with fail
  go_loopw [10] (fun c wr => ∃ i : Nat, c = .int .i64 i ∧ i ≤ n ∧ Hid (∃ u B, B = Dfl.toksB f ln g dn ((List.range i).map tk) ∧ WB wr Wb u (L0 ++ B) ∧ WStep w1 wr Wb 0 u1 u ∧ B.length ≤ 100 * i)) (fun c _ => n - (intOf c).toNat)
  case atStart => exact ⟨0, rfl, by omega, Lib.hid ⟨u1, [], rfl, by simpa using HW.out, WStep.refl _ _ _ _, by simp⟩⟩
  case round =>
    obtain ⟨i, rfl, hi, HS⟩ := hrel
    by_cases hlt : i < n
    · have t0 : decide ((i : Int) < (n : Int)) = true := decide_eq_true (by omega)
      obtain ⟨u, B, hBB, hw, hst, hbl⟩ := HS.out
      have hbase := HB.out wr hst.keeps
      obtain ⟨a, rfl⟩ := hbase.toks.isSome hlt
      obtain ⟨k0, k1, k2, hok2⟩ := hbase.toks.2 a rfl i hlt
      obtain ⟨t, ht⟩ : ∃ t, tk i = t := ⟨_, rfl⟩
      rw [ht] at k0 k1 k2 hok2
      have HT := Lib.hid (TSt.new (t := t) hw hst 84)
      have HBN := Lib.hid (show Dfl.toksB f ln g dn ((List.range (i + 1)).map tk) = B ++ Dfl.tokB f ln g dn t by
        rw [List.range_succ, List.map_append, hBB]
        simp [Dfl.toksB, ht])
      have HTK := Lib.hid ht
      have HBL := Lib.hid hbl
      clear hBB hbl hst hw HS
      have wi : ∀ z, z = ((i + 1 : Nat) : Int) → IntKind.i64.wrap z = z := by intro z hz; rw [IntKind.wrap_i64]; omega
      have wb : ∀ z, z = ((t.b.toNat : Nat) : Int) → IntKind.i64.wrap z = z := by intro z hz; rw [IntKind.wrap_i64]; have := t.b.toNat_lt; omega
      by_cases hl0 : t.l = 0
      · have t1 : (t.l == 0) = true := beq_iff_eq.2 hl0
        have HL0 := Lib.hid hl0
        clear hl0
        go_wp2_with fail
        have hb256 := t.b.toNat_lt
        refine (symbol_any D Wb la da ca ea ln lc dn dc cc ec f g t.b.toNat u (L0 ++ B) _ (HB.out _ HT.out.st.keeps).df HT.out.wb HC.out.1 (by omega) (HF.out _ (by omega)) (by have := HBL.out; rw [List.length_append]; omega)).mono ?_
        rintro e w3 ⟨rfl, u3, hw, hst⟩
        have H3 := Lib.hid (HT.out.step hst hw)
        clear hw hst HT
        go_wp2_with fail
        have hwl := wordB_len HF.out (show t.b.toNat < ln by omega)
        refine ⟨⟨i + 1, by simp, by omega, Lib.hid ⟨u3, B ++ Dfl.wordB f ln t.b.toNat, by rw [HBN.out]; unfold Dfl.tokB; rw [if_pos HL0.out], by have := H3.out.wb; rw [List.append_assoc] at this; exact this, H3.out.st, by have := HBL.out; rw [List.length_append]; omega⟩⟩, by simp [intOf]; omega⟩
      · have hm := HOK.out i hlt
        rw [HTK.out] at hm
        have hm2 : 3 ≤ t.l ∧ t.l ≤ 258 ∧ 1 ≤ t.d ∧ t.d ≤ 32768 := by rcases hm with q | q; exact absurd q hl0; exact q
        obtain ⟨vl, hvl⟩ : ∃ n : Nat, t.l = (n : Int) := ⟨t.l.toNat, by omega⟩
        obtain ⟨vd, hvd⟩ : ∃ n : Nat, t.d = (n : Int) := ⟨t.d.toNat, by omega⟩
        have t1 : (t.l == 0) = false := beq_eq_false_iff_ne.2 hl0
        obtain ⟨p1, p2, p3⟩ := Dfl.plc_lens (v := vl) (by omega) (by omega)
        obtain ⟨d1, d2, d3⟩ := Dfl.plc_dists (v := vd) (by omega) (by omega)
        have hv0Lens : 3 ≤ vl := by omega
        have hv0Dists : 1 ≤ vd := by omega
        have hvlb : vl ≤ 258 := by omega
        have hvdb : vd ≤ 32768 := by omega
        obtain ⟨k, hk⟩ : ∃ k, Dfl.plc Inf.lensL vl = k := ⟨_, rfl⟩
        obtain ⟨d, hd⟩ : ∃ k, Dfl.plc Inf.distsL vd = k := ⟨_, rfl⟩
        rw [hk] at p1 p2 p3
        rw [hd] at d1 d2 d3
        have HK := Lib.hid hk
        have HD := Lib.hid hd
        have hk29 : k < 29 := p1
        have hd30 : d < 30 := d1
        have hk29i : (k : Int) < 29 := by omega
        have hd30i : (d : Int) < 30 := by omega
        have hk0i : (0 : Int) ≤ (k : Int) := by omega
        have hd0i : (0 : Int) ≤ (d : Int) := by omega
        have hddn : (d : Int) < (dn : Int) := by omega
        obtain ⟨lk, hlk⟩ : ∃ n, Inf.lensL.getD k 0 = n := ⟨_, rfl⟩
        obtain ⟨bl, hbl⟩ : ∃ n, Inf.lensB.getD k 0 = n := ⟨_, rfl⟩
        obtain ⟨ld, hld⟩ : ∃ n, Inf.distsL.getD d 0 = n := ⟨_, rfl⟩
        obtain ⟨bd, hbd⟩ : ∃ n, Inf.distsB.getD d 0 = n := ⟨_, rfl⟩
        have hbl5 : bl ≤ 5 := by rw [← hbl]; exact (by decide : ∀ k, k < 29 → Inf.lensB.getD k 0 ≤ 5) k hk29
        have hbd13 : bd ≤ 13 := by rw [← hbd]; exact (by decide : ∀ k, k < 30 → Inf.distsB.getD k 0 ≤ 13) d hd30
        rw [hlk] at p2 p3
        rw [hbl] at p3
        rw [hld] at d2 d3
        rw [hbd] at d3
        obtain ⟨xl, hxl⟩ : ∃ n, vl - lk = n := ⟨_, rfl⟩
        obtain ⟨xd, hxd⟩ : ∃ n, vd - ld = n := ⟨_, rfl⟩
        rw [hxl] at p3
        rw [hxd] at d3
        have el : (vl : Int) - (lk : Int) = (xl : Int) := by omega
        have ed : (vd : Int) - (ld : Int) = (xd : Int) := by omega
        obtain ⟨sk, hsk⟩ : ∃ s, 257 + k = s := ⟨_, rfl⟩
        have ek : (257 : Int) + (k : Int) = (sk : Int) := by omega
        have HSK := Lib.hid hsk
        have hsk2 : sk < ln := by omega
        have wl : ∀ z, z = (xl : Int) → IntKind.i64.wrap z = z := by intro z hz; rw [IntKind.wrap_i64]; omega
        have wd : ∀ z, z = (xd : Int) → IntKind.i64.wrap z = z := by intro z hz; rw [IntKind.wrap_i64]; omega
        have wl2 : ∀ z, z = (xl : Int) → IntKind.u32.wrap z = z := by intro z hz; rw [IntKind.wrap_u32]; omega
        have wd2 : ∀ z, z = (xd : Int) → IntKind.u32.wrap z = z := by intro z hz; rw [IntKind.wrap_u32]; omega
        have wk : ∀ z, z = (sk : Int) → IntKind.i64.wrap z = z := by intro z hz; rw [IntKind.wrap_i64]; omega
        have HLK := Lib.hid hlk
        have HBK := Lib.hid hbl
        have HLD := Lib.hid hld
        have HBD := Lib.hid hbd
        have HXL := Lib.hid p3
        have HXD := Lib.hid d3
        have hgd := HG.out d (by omega)
        obtain ⟨md, hmd⟩ : ∃ n : Nat, g d = (n : Int) := ⟨(g d).toNat, by omega⟩
        obtain ⟨zd, hzd⟩ : ∃ n, word g dn d = n := ⟨_, rfl⟩
        have HWD := Lib.hid (show word g dn d = zd ∧ g d = (md : Int) ∧ md ≤ 15 ∧ zd < 2 ^ md ∧ Dfl.wordB g dn d = Bts.high zd md from ⟨hzd, hmd, by omega, by rw [← hzd]; exact word_fits HC.out.2 (by omega) hmd (by omega), by unfold Dfl.wordB; rw [hmd, hzd]; rfl⟩)
        have HTB := Lib.hid (show Dfl.tokB f ln g dn t = Dfl.wordB f ln sk ++ (Bts.low xl bl ++ (Bts.high zd md ++ Bts.low xd bd)) by
          unfold Dfl.tokB
          rw [if_neg hl0, hvl, hvd, Int.toNat_natCast, Int.toNat_natCast, hk, hd, hlk, hbl, hld, hbd, hxl, hxd, hsk, HWD.out.2.2.2.2])
        have HLB := Lib.hid (show (L0 ++ B).length + 32 < 1099511627776 ∧ (L0 ++ B).length + 1000 < 1099511627776 ∧ True from by have := HBL.out; rw [List.length_append]; exact ⟨by omega, by omega, trivial⟩)
        have HVV := Lib.hid (And.intro hvl hvd)
        rw [hvl] at k1 t1
        rw [hvd] at k2
        obtain ⟨T, hT⟩ : ∃ T, wr.heap.size = T := ⟨_, rfl⟩
        rw [hT, hvl, hvd] at HT
        have HTT := Lib.hid hT
        clear hsk p1 p2 p3 d1 d2 d3 hk hd hlk hbl hld hbd hxl hxd hgd hmd hzd hl0 hm hm2 hok2
        go_upto_region 5 with fail
        refine wp_world (fun wz => TSt w1 wz Wb T u1 u ((L0 ++ B)) t) HT.out ?_
        rintro w3 hT3
        have H3 := Lib.hid hT3
        clear hT3 HT
        have k1 := H3.out.bk.cell 1
        have k2 := H3.out.bk.cell 2
        simp only [List.getElem?_toArray, List.getElem?_cons_succ, List.getElem?_cons_zero] at k1 k2
        go_wp2_with fail
        have hp := still_of (place_any ⟨10, 0, none⟩ 29 29 vl Inf.lensL w3.drew rfl (by decide) (by decide) (fun k hk => by rw [add_plain]; exact (HB.out w3 H3.out.st.keeps).tabs.lens k hk) (Nat.le_trans (by decide : Inf.lensL.getD 0 0 ≤ 3) hv0Lens) (by omega))
        rw [HK.out] at hp
        have HP := Lib.hid hp
        clear hp
        refine wp_regionQ (by kernel_rfl) (by kernel_rfl) ?_
        refine wpQ_yes (by kernel_rfl) (fun K hK => ?_)
        go_simp
        refine hK _ ?_
        clear hK K
        refine wpQ_yes (by kernel_rfl) (fun K hK => ?_)
        go_simp
        refine hK _ ?_
        clear hK K
        refine wpQ_yes (by kernel_rfl) (fun K hK => ?_)
        go_simp
        refine hK _ ?_
        clear hK K
        refine wpQ_yes (by kernel_rfl) (fun K hK => ?_)
        go_simp
        refine ⟨_, HP.out, hK _ ?_⟩
        clear hK K
        refine wpQ_yes (by kernel_rfl) (fun K hK => ?_)
        go_simp
        refine hK _ ?_
        clear hK K
        refine wpQ_nil ?_
        clear k1 k2 HP
        go_wp2_with fail
        refine (symbol_any D Wb la da ca ea ln lc dn dc cc ec f g sk u ((L0 ++ B)) w3.drew (HB.out w3 H3.out.st.keeps).df.drew H3.out.wb.drew HC.out.1 hsk2 (HF.out _ hsk2) HLB.out.1).mono ?_
        rintro e w4 ⟨rfl, u104, hw, hst⟩
        have H4 := Lib.hid (H3.out.drew.step hst hw)
        clear hw hst H3
        go_wp2_with fail
        have k1 := H4.out.bk.cell 1
        have k2 := H4.out.bk.cell 2
        simp only [List.getElem?_toArray, List.getElem?_cons_succ, List.getElem?_cons_zero] at k1 k2
        have k0 := (HB.out w4 H4.out.st.keeps).df.c0
        have k3 := (HB.out w4 H4.out.st.keeps).tabs.lens k hk29
        have k4 := (HB.out w4 H4.out.st.keeps).tabs.lenB k hk29
        rw [HLK.out] at k3
        rw [HBK.out] at k4
        refine wp_region_still_tail 14 (by kernel_rfl) (by kernel_rfl) ?_
        simp only [List.take_succ_cons, List.take_zero, List.drop_succ_cons, List.drop_zero]
        repeat still_step
        refine wpStill_nil ?_
        change wpList _ _ _ _ _ w4.drew
        go_wp2_with fail
        clear k0 k1 k2 k3 k4
        refine (putB_any Wb xl bl u104 ((L0 ++ B) ++ Dfl.wordB f ln sk) w4.drew H4.out.wb.drew (by omega) HXL.out (by have := HLB.out.2.1; simp only [List.length_append] at this ⊢; have := wordB_len HF.out hsk2; omega)).mono ?_
        rintro e w5 ⟨rfl, u105, hw, hst⟩
        have H5 := Lib.hid (H4.out.drew.step hst hw)
        clear hw hst H4
        go_wp2_with fail
        refine wp_world (fun wz => TSt w1 wz Wb T u1 u105 ((L0 ++ B) ++ Dfl.wordB f ln sk ++ Bts.low xl bl) t) H5.out ?_
        rintro w6 hT6
        have H6 := Lib.hid hT6
        clear hT6 H5
        have k1 := H6.out.bk.cell 1
        have k2 := H6.out.bk.cell 2
        simp only [List.getElem?_toArray, List.getElem?_cons_succ, List.getElem?_cons_zero] at k1 k2
        have hp := still_of (place_any ⟨12, 0, none⟩ 30 30 vd Inf.distsL w6.drew rfl (by decide) (by decide) (fun k hk => by rw [add_plain]; exact (HB.out w6 H6.out.st.keeps).tabs.dists k hk) (Nat.le_trans (by decide : Inf.distsL.getD 0 0 ≤ 1) hv0Dists) (by omega))
        rw [HD.out] at hp
        have HP := Lib.hid hp
        clear hp
        refine wp_regionQ (by kernel_rfl) (by kernel_rfl) ?_
        refine wpQ_yes (by kernel_rfl) (fun K hK => ?_)
        go_simp
        refine hK _ ?_
        clear hK K
        refine wpQ_yes (by kernel_rfl) (fun K hK => ?_)
        go_simp
        refine hK _ ?_
        clear hK K
        refine wpQ_yes (by kernel_rfl) (fun K hK => ?_)
        go_simp
        refine hK _ ?_
        clear hK K
        refine wpQ_yes (by kernel_rfl) (fun K hK => ?_)
        go_simp
        refine ⟨_, HP.out, hK _ ?_⟩
        clear hK K
        refine wpQ_yes (by kernel_rfl) (fun K hK => ?_)
        go_simp
        refine hK _ ?_
        clear hK K
        refine wpQ_nil ?_
        clear k1 k2 HP
        go_wp2_with fail
        have H6d := Lib.hid H6.out.drew
        clear H6
        refine wp_world (fun wz => TSt w1 wz Wb T u1 u105 ((L0 ++ B) ++ Dfl.wordB f ln sk ++ Bts.low xl bl) t) H6d.out ?_
        rintro w7 hT7
        have H7 := Lib.hid hT7
        clear hT7 H6d
        have k0 := (HB.out w7 H7.out.st.keeps).df.c0
        have k5 := (HB.out w7 H7.out.st.keeps).df.c4
        have k6 := (HB.out w7 H7.out.st.keeps).df.c2
        have k7 := (HB.out w7 H7.out.st.keeps).df.dw.2 ea rfl d (by omega)
        have k8 := ((HB.out w7 H7.out.st.keeps).df.di.2 da rfl d (by omega)).1
        rw [HWD.out.1] at k7
        rw [HWD.out.2.1] at k8
        refine wp_region_still_tail 18 (by kernel_rfl) (by kernel_rfl) ?_
        simp only [List.take_succ_cons, List.take_zero, List.drop_succ_cons, List.drop_zero]
        repeat still_step
        refine wpStill_nil ?_
        change wpList _ _ _ _ _ w7.drew
        go_wp2_with fail
        clear k0 k5 k6 k7 k8
        refine (turnedB_any Wb zd md u105 ((L0 ++ B) ++ Dfl.wordB f ln sk ++ Bts.low xl bl) w7.drew H7.out.wb.drew (by have := HWD.out.2.2.1; omega) HWD.out.2.2.2.1 (by have := HLB.out.2.1; simp only [List.length_append, Bts.low_length] at this ⊢; have := wordB_len HF.out hsk2; omega)).mono ?_
        rintro e w8 ⟨rfl, u108, hw, hst⟩
        have H8 := Lib.hid (H7.out.drew.step hst hw)
        clear hw hst H7
        go_wp2_with fail
        have k1 := H8.out.bk.cell 1
        have k2 := H8.out.bk.cell 2
        simp only [List.getElem?_toArray, List.getElem?_cons_succ, List.getElem?_cons_zero] at k1 k2
        have k0 := (HB.out w8 H8.out.st.keeps).df.c0
        have k3 := (HB.out w8 H8.out.st.keeps).tabs.dists d hd30
        have k4 := (HB.out w8 H8.out.st.keeps).tabs.distB d hd30
        rw [HLD.out] at k3
        rw [HBD.out] at k4
        refine wp_region_still_tail 14 (by kernel_rfl) (by kernel_rfl) ?_
        simp only [List.take_succ_cons, List.take_zero, List.drop_succ_cons, List.drop_zero]
        repeat still_step
        refine wpStill_nil ?_
        change wpList _ _ _ _ _ w8.drew
        go_wp2_with fail
        clear k0 k1 k2 k3 k4
        refine (putB_any Wb xd bd u108 ((L0 ++ B) ++ Dfl.wordB f ln sk ++ Bts.low xl bl ++ Bts.high zd md) w8.drew H8.out.wb.drew (by omega) HXD.out (by have := HLB.out.2.1; simp only [List.length_append, Bts.low_length, Bts.high_length] at this ⊢; have := wordB_len HF.out hsk2; have := HWD.out.2.2.1; omega)).mono ?_
        rintro e w9 ⟨rfl, u109, hw, hst⟩
        have H9 := Lib.hid (H8.out.drew.step hst hw)
        clear hw hst H8
        go_wp2_with fail
        have hwl := wordB_len HF.out hsk2
        refine ⟨⟨i + 1, by simp, by omega, Lib.hid ⟨u109, B ++ (Dfl.wordB f ln sk ++ (Bts.low xl bl ++ (Bts.high zd md ++ Bts.low xd bd))), by rw [HBN.out, HTB.out], by have := H9.out.wb; simp only [List.append_assoc] at this ⊢; exact this, H9.out.st, by have := HBL.out; have := HWD.out.2.2.1; simp only [List.length_append, Bts.low_length, Bts.high_length]; omega⟩⟩, by simp [intOf]; omega⟩
    · have t0 : decide ((i : Int) < (n : Int)) = false := decide_eq_false (by omega)
      obtain rfl : i = n := by omega
      obtain ⟨u, B, hBB, hw, hst, hbl⟩ := HS.out
      have HE := Lib.hid (symbol_any D Wb la da ca ea ln lc dn dc cc ec f g 256 u (L0 ++ B) wr (HB.out wr hst.keeps).df hw HC.out.1 (by omega) (HF.out _ (by omega)) (by rw [List.length_append]; omega))
      have HST := Lib.hid hst
      have HBB := Lib.hid hBB
      clear hBB hw hst hbl HS
      go_wp2_with fail
      refine HE.out.mono ?_
      rintro e w9 ⟨rfl, u9, hw9, hs9⟩
      go_wp2_with fail
      go_end0
      exact ⟨rfl, u9, by rw [← HBB.out, ← List.append_assoc]; exact hw9, HST.out.trans hs9⟩
end Go.Proofs.YtnhbjgmfbcedaaaDoor
namespace Go.Proofs.YtnhbjgmfbcedaaaDoor
open Go.RowKit
set_option linter.unusedSimpArgs false
set_option linter.unusedVariables false
/-- a row of cells, none frozen -/
def Cv (w : World) (B n : Nat) (g : Nat → Value) : Prop := ∀ i, i < n → w.cell? ⟨B, i, none⟩ = some (g i) ∧ w.frozen? ⟨B, i, none⟩ = false
theorem Cv.congr {w : World} {B n : Nat} {g g' : Nat → Value} (h : Cv w B n g) (hg : ∀ i, i < n → g' i = g i) : Cv w B n g' := by
  intro i hi; rw [hg i hi]; exact h i hi
theorem Cv.put {w : World} {B n : Nat} {g : Nat → Value} (h : Cv w B n g) (j : Nat) (x : Value) (g' : Nat → Value) (hj : j < n) (hg : ∀ i, i < n → g' i = if i = j then x else g i) : Cv (w.setCell ⟨B, j, none⟩ x) B n g' := by
  intro i hi
  obtain ⟨h1, h2⟩ := h i hi
  rw [hg i hi, World.frozen?_setCell]
  refine ⟨?_, h2⟩
  by_cases e : i = j
  · subst e; rw [if_pos rfl]; exact World.cell?_setCell_same _ _ _ h1
  · rw [if_neg e]; exact (World.cell?_setCell_other _ _ _ _ (by intro q; injection q with _ q2; exact e q2.symm)).trans h1
theorem Cv.keeps {w w' : World} {B n : Nat} {g : Nat → Value} {S : Nat → Prop} (h : Cv w B n g) (hk : Keeps S w w') (hB : ¬ S B) : Cv w' B n g := by
  intro i hi
  obtain ⟨h1, h2⟩ := h i hi
  have hlt : B < w.heap.size := World.block_lt_of_cell? w _ h1
  exact ⟨(hk.cell (p := ⟨B, i, none⟩) hlt hB).trans h1, (hk.frozen (p := ⟨B, i, none⟩) hlt hB).trans h2⟩
theorem Cv.ext {w w' : World} {B n : Nat} {g : Nat → Value} (h : Cv w B n g) (hE : Ext w w') : Cv w' B n g := h.keeps (S := fun _ => False) hE.keeps id
theorem Cv.drew {w : World} {B n : Nat} {g : Nat → Value} (h : Cv w B n g) : Cv w.drew B n g := h
theorem Cv.drewN {w : World} {B n : Nat} {g : Nat → Value} (h : Cv w B n g) (m : Nat) : Cv (w.drewN m) B n g := h
theorem Cv.made (w : World) (n : Nat) (z : Value) (t : TypeId) : Cv (w.alloc (.cells (madeCells #[z] n) t)) w.heap.size n (fun _ => z) := by
  intro i hi
  rw [World.cell?_alloc_at _ _ _ _ rfl, World.frozen?_alloc_at _ _ _ _ rfl]
  refine ⟨?_, rfl⟩
  have hs : i < (madeCells #[z] n).size := by rw [size_madeCells]; simpa using hi
  rw [Array.getElem?_eq_getElem hs]
  simp [madeCells, Nat.mod_one]
theorem Cv.of_cs {w : World} {B n : Nat} {k : IntKind} {g : Nat → Int} (h : Cs w B n k g) : Cv w B n (fun i => .int k (g i)) := h
end Go.Proofs.YtnhbjgmfbcedaaaDoor
namespace Go.Proofs.YtnhbjgmfbcedaaaDoor
open Go.RowKit
set_option linter.unusedSimpArgs false
set_option linter.unusedVariables false
set_option maxRecDepth 100000
theorem run_append_zeros {P : Program} (w : World) (t u ty e : TypeId) (i : TypeInfo) (z : Value) (k : IntKind) (ht : P.underlying t = some (.slice e)) (hu : P.underlying u = some (.int k)) (hi : P.info? e = some i) (hz : i.zero = some z)
    (n : Nat) (h0 : 0 < n) (h63 : n ≤ 1000000) (hby : i.bytes ≤ 64) (hsz : 0 < i.size) :
    (Builtin.append_ #[t, u] ty #[.slice none 0 0, .int .i64 (n : Int)]).run P w =
      .ok (.slice (some ⟨w.heap.size, 0, none⟩) n (grownCap w n 0 e)) (w.drew.alloc (.cells (Builtin.zeroCells z.cells n ++ Builtin.zeroCells z.cells (grownCap w n 0 e - n)) e)) := by
  have hn : n ≠ 0 := by omega
  have hw : IntKind.i64.wrap (n : Int) = (n : Int) := by rw [IntKind.wrap_i64]; omega
  have h0' : ¬ ((n : Int) < 0) := by omega
  have h63' : ¬ (9223372036854775807 < (n : Int)) := by omega
  have hmul : n * i.bytes ≤ 64000000 := by
    have := Nat.mul_le_mul h63 hby
    omega
  have hb : ¬ (281474976710656 < (n : Int) * (i.bytes : Int)) := by
    have : (n : Int) * (i.bytes : Int) = ((n * i.bytes : Nat) : Int) := by simp
    omega
  have h48' : ¬ (281474976710656 < Builtin.nextslicecap n 0 * i.bytes) := by rw [nextslicecap_zero h0]; omega
  simp [Builtin.append_, run_underlying ht, run_underlying hu, sizeOf, typeInfo, zeroValue, hi, hz, asInt, asIntOf, hw, h0', hb, hn, h63', h48', Question.forced, run_firstCells_none, newRow, grownCap]
  intro h; exact absurd h (by have := Nat.mul_pos h0 hsz; omega)
theorem wpList_app_zeros {P : Program} {w : World} {ops : Array Oper} {rest : List Oper} {o : Oper} {a : Act} {Q : Exit → Act → World → Prop} (hgd : o.guard = none) (sl x : Operand) (t u : TypeId)
    (ho : o.op = .call { callee := .builtin .append, args := #[sl, x], argTypes := #[t, u] }) (e : TypeId) (i : TypeInfo) (z : Value) (k : IntKind) (ht : P.underlying t = some (.slice e)) (hu : P.underlying u = some (.int k)) (hi : P.info? e = some i) (hz : i.zero = some z)
    (hzs : z.cells.size = i.size) (n : Nat) (hs : a.eval sl = .slice none 0 0) (hx : a.eval x = .int .i64 (n : Int)) (h0 : 0 < n) (h63 : n ≤ 1000000) (hby : i.bytes ≤ 64) (hsz : 0 < i.size)
    (h : ∀ C cs, n ≤ C → C ≤ maxLen → cs.size = C * i.size → wpList P ops Q rest (a.put o.dst (.slice (some ⟨w.heap.size, 0, none⟩) n C)) (w.drew.alloc (.cells cs e))) : wpList P ops Q (o :: rest) a w := by
  refine wpList_plain hgd fun K hK => ?_
  have hr := run_append_zeros (P := P) w t u o.type e i z k ht hu hi hz n h0 h63 hby hsz
  have hge := grownCap_ge w n 0 e
  unfold Oper.wp execOp
  simp only [ho, resolve, invoke, builtin, Sem.run_bind, Sem.run_pure, Result.andThen_ok, List.map_toArray, List.map_cons, List.map_nil, hs, hx, hr]
  refine hK _ _ (h _ _ hge (grownCap_le_maxLen w n 0 e (by unfold maxLen; omega)) ?_)
  rw [Array.size_append, size_zeroCells, size_zeroCells, ← Nat.add_mul, hzs]
  congr 1; omega
/-- rows, one behind the other -/
def concL (ls : Nat → List Int) : Nat → List Int
  | 0 => []
  | m + 1 => concL ls m ++ ls m
theorem concL_mono (ls : Nat → List Int) (m : Nat) : ∀ d, (concL ls m).length ≤ (concL ls (m + d)).length
  | 0 => Nat.le_refl _
  | d + 1 => by
    have := concL_mono ls m d
    show _ ≤ (concL ls (m + d) ++ ls (m + d)).length
    rw [List.length_append]; omega
def i64V (l : List Int) : List Value := l.map (fun x => Value.int .i64 x)
/-- a row of whole numbers, not empty -/
def Ir (w : World) (v : Value) (l : List Int) : Prop := 0 < l.length ∧ ∃ g c, v = .slice (some ⟨g, 0, none⟩) l.length c ∧ ∀ j, j < l.length → w.cell? ⟨g, j, none⟩ = (i64V l)[j]?
theorem Ir.ext {w w' : World} {v : Value} {l : List Int} (h : Ir w v l) (hE : Ext w w') : Ir w' v l := by
  obtain ⟨h0, g, c, rfl, h1⟩ := h
  refine ⟨h0, g, c, rfl, fun j hj => ?_⟩
  have hl : g < w.heap.size := by
    have := h1 0 h0
    rw [List.getElem?_eq_getElem (by simpa [i64V] using h0)] at this
    exact World.block_lt_of_cell? w _ this
  exact (Below.cell hE (p := ⟨g, j, none⟩) hl).trans (h1 j hj)
theorem grow_nil (n : Nat) (w : World) (h0 : 0 < n) (hn : n ≤ 100000) :
    Calls Tryd.prog 125 #[.slice none 0 0, .int .i64 (n : Int)] w fun e w' => (∃ c, e = .returned (.slice (some ⟨w.heap.size, 0, none⟩) 0 c) ∧ w'.ownsRow w.heap.size 3 1 (.slice (some ⟨w.heap.size, 0, none⟩) 0 c) 0 []) ∧ Ext w w' := by
  obtain ⟨i0, hi0, hz0, hz1, hz2⟩ := info_parts i64info
  have n1 : ¬ (n : Int) < 0 := by omega
  have n2 : decide ((0 : Int) < (n : Int)) = true := decide_eq_true (by omega)
  have wn : ∀ z, z = (n : Int) → IntKind.i64.wrap z = z := by rintro _ rfl; rw [IntKind.wrap_i64]; omega
  go_enter Tryd.func125, Tryd.ntmps125
  go_wp2_with (at_builtin; refine wpList_app_zeros rfl _ _ 31 3 rfl 3 i0 (.int .i64 0) .i64 Tryd.underlying31 Tryd.underlying3 hi0 hz0 (by rw [hz1]; rfl) n rfl rfl h0 (by omega) (by omega) (by omega) ?_)
  intro C cs hC1 hC2 hcs
  have hne : ¬ C = 0 := by omega
  go_wp2_with fail
  go_ret
  refine ⟨⟨C, rfl, by simp, .inr ⟨w.heap.size, C, cs, rfl, Nat.le_refl _, heap_alloc_new w.drew _, Nat.zero_le _, hC2, by omega, by simp⟩⟩, (show Ext w w.drew from Below.drew (Ext.refl _)).alloc _⟩
set_option maxHeartbeats 2000000 in
theorem concat_any (S m c : Nat) (vs : Nat → Value) (ls : Nat → List Int) (w : World) (hm : 1 ≤ m) (hmm : m ≤ 1000) (hS : ∀ i, i < m → w.cell? ⟨S, i, none⟩ = some (vs i)) (hr : ∀ i, i < m → Ir w (vs i) (ls i)) (htot : (concL ls m).length ≤ 100000) :
    Calls Tryd.prog 101 #[.slice (some ⟨S, 0, none⟩) m c] w fun e w' => (∃ v, e = .returned v ∧ w'.ownsRow w.heap.size 3 1 v (concL ls m).length (i64V (concL ls m))) ∧ Ext w w' := by
  obtain ⟨i0, hi0, hz0, hz1, hz2⟩ := info_parts i64info
  have HS := Lib.hid hS
  have HR := Lib.hid hr
  have hpos : 0 < (concL ls m).length := by
    have h1 := concL_mono ls 1 (m - 1)
    rw [show 1 + (m - 1) = m by omega] at h1
    have h2 := (hr 0 (by omega)).1
    have h3 : (concL ls 1).length = (ls 0).length := by simp [concL]
    omega
  have hle : ∀ i, i ≤ m → (concL ls i).length ≤ 100000 := fun i hi => by
    have := concL_mono ls i (m - i)
    rw [show i + (m - i) = m by omega] at this
    omega
  have HL := Lib.hid hle
  clear hS hr hle
  go_enter Tryd.func101, Tryd.ntmps101
  go_wp2_with fail
  go_loopw [3, 11] (fun z x wr => ∃ i : Nat, i ≤ m ∧ x = .int .i64 i ∧ z = .int .i64 ((concL ls i).length : Int) ∧ wr = w) (fun _ x _ => m - (intOf x).toNat)
  case atStart => exact ⟨0, by omega, rfl, by first | rfl | trivial, by first | rfl | trivial⟩
  case round =>
    obtain ⟨i, hi, rfl, rfl, hw⟩ := hrel
    have hw2 := hw.symm
    clear hw
    subst hw2
    by_cases hlt : i < m
    · obtain ⟨h0, g, cc, hv, hc⟩ := HR.out i hlt
      have hs := HS.out i hlt
      rw [hv] at hs
      have hb := HL.out (i + 1) (by omega)
      have e : (concL ls (i + 1)).length = (concL ls i).length + (ls i).length := by simp [concL]
      have wi : ∀ z, z = (i : Int) + 1 → IntKind.i64.wrap z = z := by rintro _ rfl; rw [IntKind.wrap_i64]; omega
      obtain ⟨P, hP⟩ : ∃ P, (concL ls i).length = P := ⟨_, rfl⟩
      obtain ⟨Q, hQ⟩ : ∃ Q, (concL ls (i + 1)).length = Q := ⟨_, rfl⟩
      have HQ := Lib.hid hQ
      rw [hP] at e ⊢
      rw [hQ] at e hb
      have hPQ : (P : Int) + ((ls i).length : Int) = (Q : Int) := by omega
      have wq : ∀ z, z = (Q : Int) → IntKind.i64.wrap z = z := by rintro _ rfl; rw [IntKind.wrap_i64]; omega
      have hq0 : ¬ (Q : Int) < 0 := by omega
      clear hP hQ hv hc e
      go_wp2_with fail
      go_roundw
      case rel => exact ⟨i + 1, by omega, by go_num, by rw [HQ.out], by first | rfl | trivial⟩
      case measure => simp [intOf]; omega
    · obtain rfl : i = m := by omega
      obtain ⟨T, hT⟩ : ∃ T, (concL ls i).length = T := ⟨_, rfl⟩
      have HT := Lib.hid hT
      rw [hT] at hpos htot ⊢
      clear hT
      go_wp2_with fail
      refine (grow_nil T w hpos htot).mono ?_
      rintro e w1 ⟨⟨C, rfl, ho⟩, hX⟩
      have HX := Lib.hid hX
      have HO : Hid (w1.ownsRow w.heap.size 3 1 (.slice (some ⟨w.heap.size, 0, none⟩) 0 C) (concL ls 0).length (i64V (concL ls 0))) := Lib.hid ho
      clear ho hX
      go_wp2_with fail
      go_loopw [6, 27] (fun z x wz => ∃ k : Nat, k ≤ i ∧ x = .int .i64 k ∧ Hid (wz.ownsRow w.heap.size 3 1 z (concL ls k).length (i64V (concL ls k))) ∧ Hid (Ext w wz)) (fun _ x _ => i - (intOf x).toNat)
      case atStart => exact ⟨0, by omega, rfl, HO, HX⟩
      case round =>
        clear HO HX
        obtain ⟨k, hk, rfl, HO, HX⟩ := hrel
        by_cases hlt : k < i
        · obtain ⟨h0, g, cc, hv, hc⟩ := HR.out k hlt
          have hs := ext_cell HX.out (HS.out k hlt)
          rw [hv] at hs
          have hb := HL.out (k + 1) (by omega)
          have e : (concL ls (k + 1)).length = (concL ls k).length + (ls k).length := by simp [concL]
          have wi : ∀ z, z = (k : Int) + 1 → IntKind.i64.wrap z = z := by rintro _ rfl; rw [IntKind.wrap_i64]; omega
          obtain ⟨P, hP⟩ : ∃ P, (concL ls k).length = P := ⟨_, rfl⟩
          obtain ⟨Q, hQ⟩ : ∃ Q, (concL ls (k + 1)).length = Q := ⟨_, rfl⟩
          have HQ := Lib.hid hQ
          obtain ⟨N, hN⟩ : ∃ N, (ls k).length = N := ⟨_, rfl⟩
          have ho := HO.out
          rw [hP] at e ho
          rw [hQ] at e hb
          rw [hN] at e hs hc h0
          obtain ⟨xo, co, rfl⟩ := lit_row ho
          have HO2 := Lib.hid ho
          have HC := Lib.hid hc
          have HN := Lib.hid hN
          have hzz := HX.out.size
          have HEq := Lib.hid e
          clear hP hQ hv hc ho hN HO e
          go_wp2_with (at_builtin; refine wpList_append_own_at _ rfl _ _ 31 rfl w.heap.size 3 i0 (.int .i64 0) 1 8 Tryd.underlying31 hi0 hz0 hz1 hz2 rfl (by decide) _ _ _ rfl HO2.out ⟨g, 0, none⟩ N cc (i64V (ls k)) rfl ?c1 ?c2 ?c6 ?c3 ?c4 hzz ?_)
          case c1 => simp [i64V, HN.out]
          case c2 =>
            intro j u hj
            have hj1 := (List.getElem?_eq_some_iff.1 hj).1
            simp only [i64V, List.length_map, HN.out] at hj1
            rw [add_plain, ext_cell HX.out ((HC.out j hj1).trans hj)]
          case c6 => intro u hu; obtain ⟨x, _, rfl⟩ := List.mem_map.1 hu; rfl
          case c3 => have := HEq.out; unfold maxLen; omega
          case c4 => have := HEq.out; omega
          intro v' w2 hown hgrow _ _
          have HO3 : Hid (w2.ownsRow w.heap.size 3 1 v' (concL ls (k + 1)).length (i64V (concL ls (k + 1)))) := Lib.hid (by
            rw [HQ.out, HEq.out, show i64V (concL ls (k + 1)) = i64V (concL ls k) ++ i64V (ls k) by simp [i64V, concL]]; exact hown)
          have HX3 := Lib.hid (Below.trans HX.out ((Keeps.grown hgrow).below hzz (fun q hq e => by have := (HO2.out.lt q e).1; omega)))
          clear hown hgrow
          go_wp2_with fail
          go_roundw
          case rel => exact ⟨k + 1, by omega, by go_num, HO3, HX3⟩
          case measure => simp [intOf]; omega
        · obtain rfl : k = i := by omega
          go_wp2_with fail
          go_ret
          have h1 := HO.out
          rw [HT.out] at h1
          first | exact ⟨⟨_, rfl, HO.out⟩, HX.out⟩ | exact ⟨⟨_, rfl, by rw [HT.out]; exact h1⟩, HX.out⟩
end Go.Proofs.YtnhbjgmfbcedaaaDoor
namespace Go.Proofs.YtnhbjgmfbcedaaaDoor
open Go.RowKit
set_option linter.unusedSimpArgs false
set_option linter.unusedVariables false
set_option maxRecDepth 100000
theorem mulMask (a : Nat) (ha : a < 18446744073709551616) : bits .and .u64 (a : Int) 4294967295 = ((a % 4294967296 : Nat) : Int) := by
  have h := bits_and_u64_nat a 4294967295 ha (by omega)
  rw [show a &&& 4294967295 = a % 4294967296 from Nat.and_two_pow_sub_one_eq_mod a 32] at h
  exact h
theorem mul64_one (c : Nat) (hc : c ≤ 10000) (w : World) : Calls Tryd.prog 136 #[.int .u64 1, .int .u64 (c : Int)] w fun e w' => e = .returned (.tuple #[.int .u64 0, .int .u64 (c : Int)]) ∧ w' = w := by
  have m1 : bits .and .u64 1 4294967295 = 1 := by decide
  have m0 : bits .and .u64 0 4294967295 = 0 := by decide
  have mc : bits .and .u64 (c : Int) 4294967295 = (c : Int) := by rw [mulMask c (by omega)]; congr 1; omega
  have dc : (c : Int) / 4294967296 = 0 := by omega
  have wc_ : IntKind.u64.wrap (c : Int) = (c : Int) := by rw [IntKind.wrap_u64]; omega
  have w0_ : IntKind.u64.wrap 0 = 0 := by decide
  go_enter Tryd.func136, Tryd.ntmps136
  go_wp2
  go_ret2
  exact ⟨rfl, rfl⟩
theorem mul_one (c : Nat) (hc : c ≤ 10000) (w : World) : Calls Tryd.prog 128 #[.int .u64 1, .int .u64 (c : Int)] w fun e w' => e = .returned (.tuple #[.int .u64 0, .int .u64 (c : Int)]) ∧ w' = w := by
  go_enter Tryd.func128, Tryd.ntmps128
  go_wp2_with fail
  refine (mul64_one c hc w).mono ?_
  rintro e w2 ⟨rfl, rfl⟩
  go_wp2_with fail
  go_ret2
  exact ⟨rfl, rfl⟩
end Go.Proofs.YtnhbjgmfbcedaaaDoor
namespace Go.Proofs.YtnhbjgmfbcedaaaDoor
open Go.RowKit
set_option linter.unusedSimpArgs false
set_option linter.unusedVariables false
set_option maxRecDepth 100000
theorem i64Sz : (Tryd.prog.info? 3).map (·.size) = some 1 := by kernel_rfl
def repI (c q : Nat) (s : Int) : List Value := List.replicate q (.int .i64 s) ++ List.replicate (c - q) (.int .i64 0)
theorem repI_step (c q k : Nat) (s : Int) (h : q + k ≤ c) : ((repI c q s).take q ++ List.replicate k (.int .i64 s) ++ (repI c q s).drop (q + k)) = repI c (q + k) s := by
  unfold repI
  rw [List.take_left' (by simp), List.drop_append, List.drop_of_length_le (by simp), List.nil_append, List.length_replicate, List.drop_replicate, List.replicate_append_replicate]
  congr 2
  omega
theorem repI_len (c q : Nat) (s : Int) (h : q ≤ c) : (repI c q s).length = c := by unfold repI; simp; omega
theorem repI_made (c : Nat) (s : Int) : (madeCells #[Value.int .i64 0] c).toList = repI c 0 s := by
  unfold repI
  apply List.ext_getElem
  · simp [madeCells]
  · intro i h1 h2
    simp [madeCells, Nat.mod_one]
set_option linter.unusedSimpArgs false in
set_option maxHeartbeats 4000000 in
theorem repi_any (x c : Nat) (s : Int) (w : World) (hx : w.cell? ⟨x, 0, none⟩ = some (.int .i64 s)) (hc1 : 1 ≤ c) (hc : c ≤ 10000) :
    Calls Tryd.prog 109 #[.slice (some ⟨x, 0, none⟩) 1 1, .int .i64 (c : Int)] w fun e w' => (∃ g' c', e = .returned (.slice (some ⟨g', 0, none⟩) c c') ∧ Cv w' g' c (fun _ => .int .i64 s) ∧ w.heap.size ≤ g' ∧ g' < w'.heap.size) ∧ Ext w w' := by
  have hmk := run_make_row' (P := Tryd.prog) 31 3 (.int .i64 0) 8 Tryd.underlying31 i64info rfl .i64 .i64 c (by omega) (by omega)
  have n2 : ¬ (c : Int) < 0 := by omega
  have wu : IntKind.u64.wrap (c : Int) = (c : Int) := by rw [IntKind.wrap_u64]; omega
  have wi : IntKind.i64.wrap (c : Int) = (c : Int) := by rw [IntKind.wrap_i64]; omega
  have n3 : ¬ (9223372036854775807 : Int) < (c : Int) := by omega
  have HX := Lib.hid hx
  clear hx
  go_enter Tryd.func109, Tryd.ntmps109
  go_wp2_with fail
  refine (mul_one c (by omega) w).mono ?_
  rintro e w2 ⟨rfl, rfl⟩
  go_upto_region 7 with fail
  clear hmk n2 wu wi n3
  have hg : (w2.alloc (.cells (madeCells #[.int .i64 0] c) 3)).heap[w2.heap.size]? = some (.cells (repI c 0 s).toArray 3 (0, 0)) := by
    rw [← repI_made, Array.toArray_toList]
    exact heap_alloc_new w2 _
  refine wp_world (fun wz => Hid (wz.heap[w2.heap.size]? = some (.cells (repI c 0 s).toArray 3 (0, 0))) ∧ Hid (Ext w2 wz) ∧ Hid (wz.cell? ⟨x, 0, none⟩ = some (.int .i64 s))) ⟨Lib.hid hg, Lib.hid (Ext.alloc (Ext.refl _) _), Lib.hid ((((Ext.refl w2).alloc _).keeps (S := fun _ => False) |>.cell (p := ⟨x, 0, none⟩) (World.block_lt_of_cell? w2 _ HX.out) id).trans HX.out)⟩ ?_
  clear hg HX
  obtain ⟨G, hG⟩ : ∃ G, w2.heap.size = G := ⟨_, rfl⟩
  rw [hG]
  have HG := Lib.hid hG
  clear hG
  rintro w3 ⟨HW, HE, HC⟩
  have hcp := run_copy_row (P := Tryd.prog) w3 31 31 3 3 G 0 c c ⟨x, 0, none⟩ 1 1 (repI c 0 s).toArray 3 (List.replicate 1 (.int .i64 s)) Tryd.underlying31 i64Sz HW.out (by simp [Nat.min_def]; omega) (by
    intro j v hj
    have : j = 0 := by have := (List.getElem?_eq_some_iff.1 hj).1; simp at this; omega
    subst this
    simp at hj
    subst hj
    rw [add_plain]; exact HC.out) (by rw [List.size_toArray, repI_len c 0 s (by omega)]; simp; omega) (by simp [Value.oneCell'])
  have hst := repI_step c 0 1 s (by omega)
  rw [Nat.zero_add] at hst
  rw [List.length_replicate, Nat.zero_add] at hcp
  rw [show (repI c 0 s).toArray.toList = repI c 0 s from rfl, hst] at hcp
  have HS3 := Lib.hid (setRow_heap w3 G (repI c 0 s).toArray (repI c 1 s).toArray 3 (0, 0) HW.out)
  have HE3 := Lib.hid (below_setRow (B := G) (w0 := w2) (by rw [← HG.out]; exact HE.out) (Nat.le_refl G) (repI c 1 s).toArray)
  clear hst HW HE HC
  go_wp2_with fail
  clear hcp
  refine wp_world (fun wz => Hid (wz.heap[G]? = some (.cells (repI c 1 s).toArray 3 (0, 0))) ∧ Hid (Below G w2 wz)) ⟨HS3, HE3⟩ ?_
  clear HS3 HE3
  rintro w4 ⟨HS, HE⟩
  go_loopg [8] (c - 1) (fun k cc wr => ∃ q : Nat, 1 ≤ q ∧ q + k = c ∧ cc = .int .i64 (q : Int) ∧ Hid (wr.heap[G]? = some (.cells (repI c q s).toArray 3 (0, 0))) ∧ Hid (Below G w2 wr))
  case atStart => exact ⟨1, Nat.le_refl _, by omega, rfl, HS, HE⟩
  case round =>
    clear HS HE
    obtain ⟨q, hq1, hqk, rfl, HS, HE⟩ := hrel
    by_cases hlt : q < c
    · obtain ⟨D, hD⟩ : ∃ D, c - q = D := ⟨_, rfl⟩
      obtain ⟨k, hk⟩ : ∃ k, Nat.min q D = k := ⟨_, rfl⟩
      have hk1 : 1 ≤ k ∧ q + k ≤ c ∧ k ≤ q ∧ k ≤ D := by have e : Nat.min q D = min q D := rfl; rw [e] at hk; omega
      have hcp := run_copy_row (P := Tryd.prog) wr.drew 31 31 3 3 G q D D ⟨G, 0, none⟩ q c (repI c q s).toArray 3 (List.replicate k (.int .i64 s)) Tryd.underlying31 i64Sz HS.out (by rw [List.length_replicate]; exact hk.symm) (by
        intro j v hj
        have hj1 : j < k := by have := (List.getElem?_eq_some_iff.1 hj).1; simpa using this
        rw [List.getElem?_replicate, if_pos hj1] at hj
        rw [add_plain]
        have h1 : wr.drew.cell? ⟨G, j, none⟩ = (repI c q s).toArray[j]? := by
          have h2 : wr.drew.heap[G]? = some (.cells (repI c q s).toArray 3 (0, 0)) := HS.out
          rw [Lib.cell_of_heap h2]
        rw [h1, List.getElem?_toArray]
        unfold repI
        rw [List.getElem?_append_left (by simp; omega), List.getElem?_replicate, if_pos (by omega)]
        exact hj) (by rw [List.size_toArray, repI_len c q s (by omega), List.length_replicate]; omega) (by intro v hv; rw [List.eq_of_mem_replicate hv]; rfl)
      rw [List.length_replicate, show (repI c q s).toArray.toList = repI c q s from rfl, repI_step c q k s hk1.2.1] at hcp
      obtain ⟨Q2, hQ2⟩ : ∃ z, q + k = z := ⟨_, rfl⟩
      rw [hQ2] at hcp
      have HS2 := Lib.hid (setRow_heap wr G (repI c q s).toArray (repI c Q2 s).toArray 3 (0, 0) HS.out)
      have HE2 := Lib.hid (below_setRow (B := G) (w0 := w2) (Below.drew HE.out) (Nat.le_refl G) (repI c Q2 s).toArray)
      have hDI : (c : Int) - (q : Int) = (D : Int) := by omega
      have hql : q ≤ c := by omega
      have hqk2 : (q : Int) + (k : Int) = (Q2 : Int) := by omega
      have HK := Lib.hid (And.intro hk1 (And.intro hD hQ2))
      have wq_ : ∀ z, z = (Q2 : Int) → IntKind.i64.wrap z = z := by rintro _ rfl; rw [IntKind.wrap_i64]; omega
      clear hk HS HE hk1 hQ2
      have mixed : Tryd.prog.follows .mixedOrders = true := by kernel_rfl
      go_wp2_with fail
      go_region_o
      all_goals (go_wp2_with fail)
      all_goals (go_roundg (c - Q2))
      all_goals first
        | (have := HK.out; omega)
        | exact ⟨Q2, by have := HK.out; omega, by have := HK.out; omega, rfl, HS2, HE2⟩
    · obtain rfl : q = c := by omega
      go_wp2_with fail
      go_ret
      refine ⟨⟨G, q, rfl, fun i hi => ?_, by rw [HG.out]; exact Nat.le_refl _, lt_of_block HS.out⟩, by have := HE.out; rw [← HG.out] at this; exact this⟩
      have h2 := HS.out
      refine ⟨?_, by simp [World.frozen?, h2]⟩
      rw [Lib.cell_of_heap h2, List.getElem?_toArray]
      unfold repI
      rw [List.getElem?_append_left (by simp; omega), List.getElem?_replicate, if_pos hi]
end Go.Proofs.YtnhbjgmfbcedaaaDoor
namespace Go.Proofs.YtnhbjgmfbcedaaaDoor
open Go.RowKit
set_option linter.unusedSimpArgs false
set_option linter.unusedVariables false
set_option maxRecDepth 100000
theorem Ir.rep {w : World} {g n c : Nat} {x : Int} (h0 : 0 < n) (h : Cv w g n (fun _ => .int .i64 x)) : Ir w (.slice (some ⟨g, 0, none⟩) n c) (List.replicate n x) := by
  refine ⟨by simpa using h0, g, c, by simp, fun j hj => ?_⟩
  have hj1 : j < n := by simpa using hj
  rw [(h j hj1).1]
  simp [i64V, hj1]
def fixLs : Nat → List Int
  | 0 => List.replicate 144 8
  | 1 => List.replicate 112 9
  | 2 => List.replicate 24 7
  | _ => List.replicate 8 8
theorem fixLs_eq : concL fixLs 4 = (List.range 288).map Inf.fixF := by decide +kernel
theorem ints_of_i64V {w : World} {base : Nat} {v : Value} {n : Nat} {f : Nat → Int} (h : w.ownsRow base 3 1 v n (i64V ((List.range n).map f))) (hb : ∀ i, i < n → -9223372036854775808 ≤ f i ∧ f i ≤ 9223372036854775807) :
    ∃ x cap, v = .slice x n cap ∧ Ints w x n f := by
  refine Ints.of_own (base := base) ?_ hb
  have e : i64V ((List.range n).map f) = intsV n f := by simp [i64V, intsV]
  rw [← e]; exact h
set_option maxHeartbeats 1000000 in
theorem fixed_any (w : World) : Calls Tryd.prog 80 #[] w fun e w' => (∃ x c, e = .returned (.slice x 288 c) ∧ Ints w' x 288 Inf.fixF ∧ w'.ownsRow w.heap.size 3 1 (.slice x 288 c) 288 (intsV 288 Inf.fixF)) ∧ Ext w w' := by
  go_enter Tryd.func80, Tryd.ntmps80
  go_wp2_with fail
  refine (repi_any w.heap.size 144 8 _ (by simp) (by decide) (by decide)).mono ?_
  rintro e w1 ⟨⟨g1, c1, rfl, hc1, _, _⟩, hX1⟩
  have HC1 := Lib.hid (Ir.rep (c := c1) (by decide) hc1)
  have HX1 := Lib.hid (Ext.trans ((Ext.refl w).alloc _) hX1)
  clear hc1 hX1
  go_wp2_with fail
  refine (repi_any w1.heap.size 112 9 _ (by simp) (by decide) (by decide)).mono ?_
  rintro e w2 ⟨⟨g2, c2, rfl, hc2, _, _⟩, hX2⟩
  have hX := Ext.trans ((Ext.refl w1).alloc _) hX2
  have HC2 := Lib.hid (Ir.rep (c := c2) (by decide) hc2)
  have HD1 := Lib.hid (HC1.out.ext hX)
  have HX2 := Lib.hid (HX1.out.trans hX)
  clear hc2 hX2 HC1 HX1 hX
  go_wp2_with fail
  refine (repi_any w2.heap.size 24 7 _ (by simp) (by decide) (by decide)).mono ?_
  rintro e w3 ⟨⟨g3, c3, rfl, hc3, _, _⟩, hX3⟩
  have hX := Ext.trans ((Ext.refl w2).alloc _) hX3
  have HC3 := Lib.hid (Ir.rep (c := c3) (by decide) hc3)
  have HE1 := Lib.hid (HD1.out.ext hX)
  have HE2 := Lib.hid (HC2.out.ext hX)
  have HX3 := Lib.hid (HX2.out.trans hX)
  clear hc3 hX3 HD1 HC2 HX2 hX
  go_wp2_with fail
  refine (repi_any w3.heap.size 8 8 _ (by simp) (by decide) (by decide)).mono ?_
  rintro e w4 ⟨⟨g4, c4, rfl, hc4, _, _⟩, hX4⟩
  have hX := Ext.trans ((Ext.refl w3).alloc _) hX4
  have HC4 := Lib.hid (Ir.rep (c := c4) (by decide) hc4)
  have HF1 := Lib.hid (HE1.out.ext hX)
  have HF2 := Lib.hid (HE2.out.ext hX)
  have HF3 := Lib.hid (HC3.out.ext hX)
  have HX4 := Lib.hid (HX3.out.trans hX)
  clear hc4 hX4 HE1 HE2 HC3 HX3 hX
  go_wp2_with fail
  refine calls_world (fun wz => Ext w4 wz ∧ Bk wz w4.heap.size #[.slice (some ⟨g1, 0, none⟩) 144 c1, .slice (some ⟨g2, 0, none⟩) 112 c2, .slice (some ⟨g3, 0, none⟩) 24 c3, .slice (some ⟨g4, 0, none⟩) 8 c4]) ⟨(Ext.refl _).alloc _, Bk.at rfl⟩ ?_
  rintro w5 ⟨hX, hB⟩
  have HB := Lib.hid hB
  have HX5 := Lib.hid (HX4.out.trans hX)
  have HG1 := Lib.hid (HF1.out.ext hX)
  have HG2 := Lib.hid (HF2.out.ext hX)
  have HG3 := Lib.hid (HF3.out.ext hX)
  have HG4 := Lib.hid (HC4.out.ext hX)
  clear hX hB HF1 HF2 HF3 HC4 HX4
  refine (concat_any w4.heap.size 4 4 (fun i => (#[Value.slice (some ⟨g1, 0, none⟩) 144 c1, .slice (some ⟨g2, 0, none⟩) 112 c2, .slice (some ⟨g3, 0, none⟩) 24 c3, .slice (some ⟨g4, 0, none⟩) 8 c4]).getD i undef) fixLs w5 (by decide) (by decide) ?_ ?_ (by rw [fixLs_eq]; simp)).mono ?_
  · intro i hi
    rw [HB.out.cell i]
    simp [hi]
  · intro i hi
    rcases (show i = 0 ∨ i = 1 ∨ i = 2 ∨ i = 3 by omega) with rfl | rfl | rfl | rfl
    · exact HG1.out
    · exact HG2.out
    · exact HG3.out
    · exact HG4.out
  rintro e w6 ⟨⟨v, rfl, ho⟩, hX⟩
  rw [fixLs_eq] at ho
  rw [List.length_map, List.length_range] at ho
  have hb : ∀ i, i < 288 → -9223372036854775808 ≤ Inf.fixF i ∧ Inf.fixF i ≤ 9223372036854775807 := by
    intro i _; unfold Inf.fixF; split <;> (try split) <;> (try split) <;> omega
  obtain ⟨x, c, rfl, hI⟩ := ints_of_i64V ho hb
  have HI := Lib.hid hI
  have e : i64V ((List.range 288).map Inf.fixF) = intsV 288 Inf.fixF := by simp [i64V, intsV]
  rw [e] at ho
  have HO : Hid (w6.ownsRow w.heap.size 3 1 (.slice x 288 c) 288 (intsV 288 Inf.fixF)) := Lib.hid (ho.mono HX5.out.size)
  have HX6 := Lib.hid (HX5.out.trans hX)
  clear ho hX hI hb e
  go_wp2_with fail
  go_ret
  exact ⟨⟨x, c, rfl, HI.out, HO.out⟩, HX6.out⟩
end Go.Proofs.YtnhbjgmfbcedaaaDoor
namespace Go.Proofs.YtnhbjgmfbcedaaaDoor
open Go.RowKit
set_option linter.unusedSimpArgs false
set_option linter.unusedVariables false
theorem anyH_world {P : Program} {md : Region.Mode} {ops : Array Oper} {Q : Exit → Act → World → Prop} {S : World → Prop} {fuel : Nat} {listed : Array Bool} {a : Act} {W : World} (F : World → Prop) (h1 : F W) (h2 : ∀ wz, F wz → wpAnyH P md ops Q S fuel listed a wz) : wpAnyH P md ops Q S fuel listed a W := h2 W h1
end Go.Proofs.YtnhbjgmfbcedaaaDoor
namespace Go.Proofs.YtnhbjgmfbcedaaaDoor
open Go.RowKit
set_option linter.unusedSimpArgs false
set_option linter.unusedVariables false
set_option maxRecDepth 100000
namespace Inf
open Classical in
noncomputable def dynFin (many far : Nat) (rl : Except Nat (List Nat × Nat)) : Except Nat (List Nat × List Nat × Nat) :=
  match rl with
  | .error c => .error c
  | .ok (l, a5) =>
    if ¬ good (fn (l.take many)) many then .error 0
    else if ¬ good (fn (l.drop many)) far then .error 0
    else if l.getD 256 0 = 0 then .error 0
    else .ok (l.take many, l.drop many, a5)
open Classical in
noncomputable def dynMid (L : List UInt8) (many far : Nat) (rs : Except Nat ((Nat → Int) × Nat)) : Except Nat (List Nat × List Nat × Nat) :=
  match rs with
  | .error c => .error c
  | .ok (f, a4) => if ¬ good f 19 then .error 0 else dynFin many far (lens L f (many + far) (many + far + 1) a4 [])
open Classical in
theorem dyn_eq (L : List UInt8) (a : Nat) : dyn L a = match get L 5 a with
    | .error c => .error c
    | .ok (m, a1) =>
      match get L 5 a1 with
      | .error c => .error c
      | .ok (r, a2) =>
        match get L 4 a2 with
        | .error c => .error c
        | .ok (w, a3) => if 286 < m + 257 ∨ 30 < r + 1 then .error 0 else dynMid L (m + 257) (r + 1) (smalls L (w + 4) 0 a3 (fun _ => 0)) := by
  rfl
section
variable {L : List UInt8} {many far : Nat} {r : Except Nat (List Nat × List Nat × Nat)} {c : Nat}
theorem mid_err {rs : Except Nat ((Nat → Int) × Nat)} (h : dynMid L many far rs = r) (e : rs = .error c) : .error c = r := by subst e; exact h
theorem mid_bad {f : Nat → Int} {a : Nat} {rs : Except Nat ((Nat → Int) × Nat)} (h : dynMid L many far rs = r) (e : rs = .ok (f, a)) (hg : ¬ good f 19) : .error 0 = r := by
  subst e; simp only [dynMid] at h; rw [if_pos hg] at h; exact h
theorem mid_go {f : Nat → Int} {a : Nat} {rs : Except Nat ((Nat → Int) × Nat)} (h : dynMid L many far rs = r) (e : rs = .ok (f, a)) (hg : good f 19) : dynFin many far (lens L f (many + far) (many + far + 1) a []) = r := by
  subst e; simp only [dynMid] at h; rw [if_neg (fun q => q hg)] at h; exact h
theorem fin_err {rl : Except Nat (List Nat × Nat)} (h : dynFin many far rl = r) (e : rl = .error c) : .error c = r := by subst e; exact h
theorem fin_bad1 {l : List Nat} {a : Nat} {rl : Except Nat (List Nat × Nat)} (h : dynFin many far rl = r) (e : rl = .ok (l, a)) (h1 : ¬ good (fn (l.take many)) many) : .error 0 = r := by
  subst e; simp only [dynFin] at h; rw [if_pos h1] at h; exact h
theorem fin_bad2 {l : List Nat} {a : Nat} {rl : Except Nat (List Nat × Nat)} (h : dynFin many far rl = r) (e : rl = .ok (l, a)) (h1 : good (fn (l.take many)) many) (h2 : ¬ good (fn (l.drop many)) far) : .error 0 = r := by
  subst e; simp only [dynFin] at h; rw [if_neg (fun q => q h1), if_pos h2] at h; exact h
theorem fin_bad3 {l : List Nat} {a : Nat} {rl : Except Nat (List Nat × Nat)} (h : dynFin many far rl = r) (e : rl = .ok (l, a)) (h1 : good (fn (l.take many)) many) (h2 : good (fn (l.drop many)) far) (h3 : l.getD 256 0 = 0) : .error 0 = r := by
  subst e; simp only [dynFin] at h; rw [if_neg (fun q => q h1), if_neg (fun q => q h2), if_pos h3] at h; exact h
theorem fin_ok {l : List Nat} {a : Nat} {rl : Except Nat (List Nat × Nat)} (h : dynFin many far rl = r) (e : rl = .ok (l, a)) (h1 : good (fn (l.take many)) many) (h2 : good (fn (l.drop many)) far) (h3 : l.getD 256 0 ≠ 0) : .ok (l.take many, l.drop many, a) = r := by
  subst e; simp only [dynFin] at h; rw [if_neg (fun q => q h1), if_neg (fun q => q h2), if_neg h3] at h; exact h
theorem smalls_err {n i a : Nat} {f : Nat → Int} {rs : Except Nat ((Nat → Int) × Nat)} (h : smalls L (n + 1) i a f = rs) (e : get L 3 a = .error c) : rs = .error c := by simp only [smalls, e] at h; exact h.symm
theorem smalls_go {n i a x a' : Nat} {f : Nat → Int} {rs : Except Nat ((Nat → Int) × Nat)} (h : smalls L (n + 1) i a f = rs) (e : get L 3 a = .ok (x, a')) : smalls L n (i + 1) a' (upd f (orderL.getD i 0) x) = rs := by simp only [smalls, e] at h; exact h
variable {f : Nat → Int} {want F a : Nat} {l : List Nat} {rl : Except Nat (List Nat × Nat)}
theorem lens_done (hF : 0 < F) (h : lens L f want F a l = rl) (hl : want ≤ l.length) : rl = .ok (l, a) := by
  cases F with
  | zero => omega
  | succ F => simp only [lens, if_pos hl] at h; exact h.symm
theorem lens_nx (hF : 0 < F) (h : lens L f want F a l = rl) (hl : ¬ want ≤ l.length) (e : nxt L f 19 a = .error c) : rl = .error c := by
  cases F with
  | zero => omega
  | succ F => simp only [lens, if_neg hl, e] at h; exact h.symm
theorem lens_rep {k a1 : Nat} (hF : 0 < F) (h : lens L f want F a l = rl) (hl : ¬ want ≤ l.length) (e : nxt L f 19 a = .ok (k, a1)) (e2 : rep L k a1 l = .error c) : rl = .error c := by
  cases F with
  | zero => omega
  | succ F => simp only [lens, if_neg hl, e, e2] at h; exact h.symm
theorem lens_over {k a1 a2 t what : Nat} (hF : 0 < F) (h : lens L f want F a l = rl) (hl : ¬ want ≤ l.length) (e : nxt L f 19 a = .ok (k, a1)) (e2 : rep L k a1 l = .ok (t, what, a2)) (ho : want < l.length + t) : rl = .error 0 := by
  cases F with
  | zero => omega
  | succ F => simp only [lens, if_neg hl, e, e2, if_pos ho] at h; exact h.symm
theorem lens_go {k a1 a2 t what : Nat} (hF : 0 < F) (h : lens L f want F a l = rl) (hl : ¬ want ≤ l.length) (e : nxt L f 19 a = .ok (k, a1)) (e2 : rep L k a1 l = .ok (t, what, a2)) (ho : ¬ want < l.length + t) : ∃ F', F = F' + 1 ∧ lens L f want F' a2 (l ++ List.replicate t what) = rl := by
  cases F with
  | zero => omega
  | succ F => simp only [lens, if_neg hl, e, e2, if_neg ho] at h; exact ⟨F, rfl, h⟩
theorem rep_nil : rep L 16 a [] = .error 0 := by unfold rep; rw [if_pos rfl, if_pos rfl]
theorem rep_16e (hl : l ≠ []) (e : get L 2 a = .error c) : rep L 16 a l = .error c := by unfold rep; rw [if_pos rfl, if_neg hl, e]
theorem rep_16 {x a' : Nat} (hl : l ≠ []) (e : get L 2 a = .ok (x, a')) : rep L 16 a l = .ok (3 + x, l.getD (l.length - 1) 0, a') := by unfold rep; rw [if_pos rfl, if_neg hl, e]
theorem rep_17e (e : get L 3 a = .error c) : rep L 17 a l = .error c := by unfold rep; rw [if_neg (by decide), if_pos rfl, e]
theorem rep_17 {x a' : Nat} (e : get L 3 a = .ok (x, a')) : rep L 17 a l = .ok (3 + x, 0, a') := by unfold rep; rw [if_neg (by decide), if_pos rfl, e]
theorem rep_18e (e : get L 7 a = .error c) : rep L 18 a l = .error c := by unfold rep; rw [if_neg (by decide), if_neg (by decide), if_pos rfl, e]
theorem rep_18 {x a' : Nat} (e : get L 7 a = .ok (x, a')) : rep L 18 a l = .ok (11 + x, 0, a') := by unfold rep; rw [if_neg (by decide), if_neg (by decide), if_pos rfl, e]
theorem rep_else {k : Nat} (h1 : k ≠ 16) (h2 : k ≠ 17) (h3 : k ≠ 18) : rep L k a l = .ok (1, k, a) := by unfold rep; rw [if_neg h1, if_neg h2, if_neg h3]
end
theorem orderL_lt : ∀ i, i < 19 → orderL.getD i 0 < 19 := by decide
end Inf
theorem IGo.keepS {w0 w wr w' : World} {R B a most : Nat} {s : ByteArray} {v0 v : Value} {out : List UInt8} {S : Nat → Prop} (h : IGo w0 w wr R B s a v0 v out most) (hk : Keeps S wr w') (hS : ∀ k, S k → w.heap.size ≤ k) (hw : w0.heap.size ≤ w.heap.size) (hR : ¬ S R) (hB : ¬ S B) (hv : ∀ k, v.ownBlock = some k → ¬ S k) : IGo w0 w w' R B s a v0 v out most :=
  ⟨⟨h.st.at_.keep hk hR hB hv, Below.trans h.st.old (hk.below h.st.old.size (fun k hk q => by have := hS k q; omega)), h.st.hR, h.st.hB, h.st.hv, h.st.le⟩,
    ⟨h.step.keeps.trans hk (fun i hi q => by have := hS i q; omega), h.step.new⟩⟩
theorem IGo.lts {w0 w wr : World} {R B a most : Nat} {s : ByteArray} {v0 v : Value} {out : List UInt8} (h : IGo w0 w wr R B s a v0 v out most) : R < wr.heap.size ∧ B < wr.heap.size ∧ ∀ k, v.ownBlock = some k → k < wr.heap.size :=
  ⟨h.bk.lt, h.st.at_.rd.lt, fun _ q => ownsRow_lt h.row q⟩
theorem gtree_yes (R B a most len cap : Nat) (x : Option Addr) (f : Nat → Int) (s : ByteArray) (v0 v : Value) (out : List UInt8) (w0 w wr : World) (E : Nat → Addr) (hE : Errs w0 E) (hI : IGo w0 w wr R B s a v0 v out most) (hx : Ints wr x len f) (hg : Inf.good f len) :
    Calls Tryd.prog 79 #[.pointer (some ⟨R, 0, none⟩), .slice x len cap] wr fun e w' => ∃ T, e = .returned (.pointer (some ⟨T, 0, none⟩)) ∧ Tr w' T f len R B v ∧ Ext wr w' := by
  obtain ⟨l1, l2, l3⟩ := hI.lts
  refine (rtree_yes R len cap x f w0 wr E hE hI.old hx hg).mono ?_
  rintro e w' ⟨⟨T, u, h1, h2, rfl, h3⟩, h4⟩
  exact ⟨T, rfl, ⟨⟨u, h3, fun k q => ⟨by have := h2 k q; omega, by have := h2 k q; omega, fun e => by have := h2 k q; have := l3 k e; omega⟩⟩, hg, by omega, by omega, fun e => by have := l3 T e; omega⟩, h4⟩
theorem gtree_no (R B a most len cap : Nat) (x : Option Addr) (f : Nat → Int) (s : ByteArray) (v0 v : Value) (out : List UInt8) (w0 w wr : World) (E : Nat → Addr) (hE : Errs w0 E) (hI : IGo w0 w wr R B s a v0 v out most) (hx : Ints wr x len f) (hl : len ≤ maxLen) (hg : ¬ Inf.good f len) :
    Calls Tryd.prog 79 #[.pointer (some ⟨R, 0, none⟩), .slice x len cap] wr fun e w' => e = thrown (E 0) ∧ Ext w0 w' := by
  refine (rtree_no R len cap x f w0 wr E hE hI.old hx hl hg).mono ?_
  rintro e w' ⟨rfl, h4⟩
  exact ⟨rfl, hI.st.gone (IStep.ext h4)⟩
/-- with the row of small lengths -/
structure SGo (w0 w wr : World) (R B : Nat) (s : ByteArray) (a : Nat) (v : Value) (out : List UInt8) (most G : Nat) (f : Nat → Int) : Prop where
  go : IGo w0 w wr R B s a v v out most
  cs : Cs wr G 19 .i64 f
  hG : w.heap.size ≤ G
  lt : R < w.heap.size ∧ B < w.heap.size ∧ ∀ k, v.ownBlock = some k → k < w.heap.size
  hw : w0.heap.size ≤ w.heap.size
theorem cs_keeps {w w' : World} {B n : Nat} {k : IntKind} {g : Nat → Int} {S : Nat → Prop} (h : Cs w B n k g) (hk : Keeps S w w') (hB : ¬ S B) : Cs w' B n k g := Cv.keeps (g := fun i => .int k (g i)) h hk hB
section
variable {w0 w wr w' : World} {R B a a' most G : Nat} {f f' : Nat → Int} {s : ByteArray} {v : Value} {out : List UInt8}
theorem SGo.old (h : SGo w0 w wr R B s a v out most G f) : Ext w0 wr := h.go.old
theorem SGo.bk (h : SGo w0 w wr R B s a v out most G f) : Bk wr R #[.pointer (some ⟨B, 0, none⟩), v, .int .i64 (most : Int)] := h.go.bk
theorem SGo.ext (h : SGo w0 w wr R B s a v out most G f) (hE : Ext wr w') : SGo w0 w w' R B s a v out most G f := ⟨h.go.ext hE, cs_keeps (S := fun _ => False) h.cs hE.keeps id, h.hG, h.lt, h.hw⟩
theorem SGo.rd (h : SGo w0 w wr R B s a v out most G f) (hG : IGo w0 w w' R B s a' v v out most) (hS : RStep wr w' B 0) : SGo w0 w w' R B s a' v out most G f :=
  ⟨hG, cs_keeps h.cs hS.keeps (fun e => by have := h.hG; have := h.lt.2.1; omega), h.hG, h.lt, h.hw⟩
theorem SGo.put (h : SGo w0 w wr R B s a v out most G f) (j : Nat) (x : Int) (hj : j < 19) : SGo w0 w (wr.setCell ⟨G, j, none⟩ (.int .i64 x)) R B s a v out most G (Inf.upd f j x) := by
  have hGl := h.hG
  have hlt := h.lt
  refine ⟨h.go.keepS (S := fun k => k = G) ((Keeps.refl (fun k => k = G) _).setCell (p := ⟨G, j, none⟩) (.inl rfl) _) (fun k q => by omega) h.hw (fun q => by omega) (fun q => by omega) (fun k q e => by have := hlt.2.2 k q; omega), h.cs.put j x _ hj (fun i _ => rfl), h.hG, h.lt, h.hw⟩
theorem SGo.ints (h : SGo w0 w wr R B s a v out most G f) (hb : ∀ i, 0 ≤ f i ∧ f i ≤ 7) : Ints wr (some ⟨G, 0, none⟩) 19 f := by
  refine ⟨fun e => (by cases e), fun p hp i hi => ?_⟩
  injection hp with hp; subst hp
  rw [add_plain]
  have := hb i
  exact ⟨(h.cs i hi).1, by omega, by omega⟩
end
theorem intsV_append (l m : List Nat) : intsV (l ++ m).length (Inf.fn (l ++ m)) = intsV l.length (Inf.fn l) ++ intsV m.length (Inf.fn m) := by
  unfold intsV Inf.fn
  apply List.ext_getElem
  · simp
  · intro i h1 h2
    by_cases hi : i < l.length
    · rw [List.getElem_append_left (by simpa using hi)]
      simp [List.getD, hi, List.getElem?_append_left]
    · rw [List.getElem_append_right (by simp; omega)]
      simp [List.getD, List.getElem?_append_right (Nat.le_of_not_lt hi)]
theorem intsV_rep (t what : Nat) : intsV (List.replicate t what).length (Inf.fn (List.replicate t what)) = List.replicate t (.int .i64 (what : Int)) := by
  unfold intsV Inf.fn
  apply List.ext_getElem
  · simp
  · intro i h1 h2
    have : i < t := by simpa using h2
    simp [List.getD, this]
/-- with the row of lengths as far as it goes -/
structure LGo (w0 w w5 wr : World) (R B : Nat) (s : ByteArray) (a : Nat) (v : Value) (out : List UInt8) (most : Nat) (vl : Value) (l : List Nat) : Prop where
  go : IGo w0 w wr R B s a v v out most
  st : IStep w5 wr R B v v
  row : wr.ownsRow w5.heap.size 3 1 vl l.length (intsV l.length (Inf.fn l))
  lt : R < w5.heap.size ∧ B < w5.heap.size ∧ ∀ k, v.ownBlock = some k → k < w5.heap.size
  hw : w0.heap.size ≤ w.heap.size ∧ w.heap.size ≤ w5.heap.size
  bd : ∀ x ∈ l, x ≤ 18
section
variable {w0 w w5 wr w' : World} {R B a a' most g n c : Nat} {s : ByteArray} {v vl vl' : Value} {out : List UInt8} {l : List Nat}
theorem LGo.old (h : LGo w0 w w5 wr R B s a v out most vl l) : Ext w0 wr := h.go.old
theorem LGo.bk (h : LGo w0 w w5 wr R B s a v out most vl l) : Bk wr R #[.pointer (some ⟨B, 0, none⟩), v, .int .i64 (most : Int)] := h.go.bk
theorem LGo.keepS (h : LGo w0 w w5 wr R B s a v out most vl l) {S : Nat → Prop} (hk : Keeps S wr w') (hS : ∀ k, S k → w5.heap.size ≤ k) : IGo w0 w w' R B s a v v out most ∧ IStep w5 w' R B v v :=
  ⟨h.go.keepS hk (fun k q => by have := hS k q; have := h.hw; omega) h.hw.1 (fun q => by have := hS _ q; have := h.lt; omega) (fun q => by have := hS _ q; have := h.lt; omega) (fun k q e => by have := hS _ e; have := h.lt.2.2 k q; omega),
    ⟨h.st.keeps.trans hk (fun i hi q => by have := hS _ q; omega), h.st.new⟩⟩
theorem LGo.ext (h : LGo w0 w w5 wr R B s a v out most vl l) (hE : Ext wr w') : LGo w0 w w5 w' R B s a v out most vl l :=
  ⟨h.go.ext hE, h.st.trans (IStep.ext hE), ownsRow_kept (S := fun _ => False) h.row hE.keeps (fun _ _ q => q), h.lt, h.hw, h.bd⟩
theorem LGo.rd (h : LGo w0 w w5 wr R B s a v out most vl l) (hG : IGo w0 w w' R B s a' v v out most) (hS : RStep wr w' B 0) : LGo w0 w w5 w' R B s a' v out most vl l :=
  ⟨hG, h.st.trans (IStep.rd hS), ownsRow_kept h.row hS.keeps (fun k q e => by have := (h.row.lt k q).1; have := h.lt.2.1; omega), h.lt, h.hw, h.bd⟩
theorem LGo.grow (h : LGo w0 w w5 wr R B s a v out most vl l) {n t what : Nat} (hn : l.length = n) (hg : wr.grownBy w' vl.ownBlock) (ho : w'.ownsRow w5.heap.size 3 1 vl' (n + t) (intsV n (Inf.fn l) ++ List.replicate t (.int .i64 (what : Int)))) (hx : what ≤ 18) :
    LGo w0 w w5 w' R B s a v out most vl' (l ++ List.replicate t what) := by
  have hk := Keeps.grown hg
  have q := h.keepS hk (fun k e => (h.row.lt k e).1)
  refine ⟨q.1, q.2, ?_, h.lt, h.hw, ?_⟩
  · rw [intsV_append, intsV_rep, List.length_append, List.length_replicate, hn]; exact ho
  · intro x hx'
    rcases List.mem_append.1 hx' with e | e
    · exact h.bd x e
    · rw [List.eq_of_mem_replicate e]; exact hx
theorem fn_le (hb : ∀ x ∈ l, x ≤ 18) (i : Nat) : 0 ≤ Inf.fn l i ∧ Inf.fn l i ≤ 18 := by
  unfold Inf.fn
  by_cases hi : i < l.length
  · have := hb l[i] (List.getElem_mem hi)
    simp [List.getD, hi]; omega
  · simp [List.getD, List.getElem?_eq_none (Nat.le_of_not_lt hi)]
theorem LGo.cell (h : LGo w0 w w5 wr R B s a v out most (.slice (some ⟨g, 0, none⟩) n c) l) (hn : l.length = n) (i : Nat) (hi : i < n) : wr.cell? ⟨g, i, none⟩ = some (.int .i64 ((l.getD i 0 : Nat) : Int)) := by
  have q := h.row
  rw [hn] at q
  rw [q.cellAt i (by omega), intsV_get _ _ i hi]; rfl
theorem LGo.take (h : LGo w0 w w5 wr R B s a v out most (.slice (some ⟨g, 0, none⟩) n c) l) (hn : l.length = n) (m : Nat) (hm : m ≤ n) : Ints wr (some ⟨g, 0, none⟩) m (Inf.fn (l.take m)) := by
  refine ⟨fun e => (by cases e), fun p hp i hi => ?_⟩
  injection hp with hp; subst hp
  rw [add_plain]
  have e : Inf.fn (l.take m) i = Inf.fn l i := by unfold Inf.fn; simp [List.getD, hi]
  have := fn_le h.bd i
  rw [e]
  exact ⟨h.cell hn i (by omega), by omega, by omega⟩
theorem LGo.drop (h : LGo w0 w w5 wr R B s a v out most (.slice (some ⟨g, 0, none⟩) n c) l) (hn : l.length = n) (m k : Nat) (hm : m + k = n) : Ints wr (some ⟨g, m, none⟩) k (Inf.fn (l.drop m)) := by
  refine ⟨fun e => (by cases e), fun p hp i hi => ?_⟩
  injection hp with hp; subst hp
  have e : Inf.fn (l.drop m) i = Inf.fn l (m + i) := by unfold Inf.fn; simp [List.getD, List.getElem?_drop]
  have := fn_le h.bd (m + i)
  rw [e, show (⟨g, m, none⟩ : Addr).add i = ⟨g, m + i, none⟩ by unfold Addr.add; split <;> simp_all]
  exact ⟨h.cell hn (m + i) (by omega), by omega, by omega⟩
end
theorem order_slice (few : Nat) (h : few ≤ 19) (w : World) : (Instr.sliceAt 129 (.pointer (some ⟨9, 0, none⟩)) none (some (.int .i64 (few : Int))) none).run Tryd.prog w = .ok (.slice (some ⟨9, 0, none⟩) few 19) w := by
  have hl : Tryd.prog.arrayLen 129 = 19 := by kernel_rfl
  rw [run_sliceAt_array_h (P := Tryd.prog) w 129 _ Tryd.underlying129 .i64 (few : Int) (by omega) (by rw [hl]; omega), hl]
  have hs : (sizeOf (Tryd.prog.elem 129)).run Tryd.prog w = .ok 1 w := by kernel_rfl
  rw [hs]
  simp [Result.andThen, slicedAt, add_plain]
def DPost (w0 w : World) (R B : Nat) (s : ByteArray) (most : Nat) (v : Value) (out : List UInt8) (E : Nat → Addr) (r : Except Nat (List Nat × List Nat × Nat)) (e : Ending) (w' : World) : Prop :=
  match r with
  | .ok (l, d, a) => ∃ T U, e = .returned (.tuple #[.pointer (some ⟨T, 0, none⟩), .pointer (some ⟨U, 0, none⟩)]) ∧ IGo w0 w w' R B s a v v out most ∧ Tr w' T (Inf.fn l) l.length R B v ∧ Tr w' U (Inf.fn d) d.length R B v
  | .error c => e = thrown (E c) ∧ Ext w0 w'
theorem dpost_error {w0 w w' : World} {R B c most : Nat} {s : ByteArray} {v : Value} {out : List UInt8} {E : Nat → Addr} {r : Except Nat (List Nat × List Nat × Nat)} (hr : .error c = r) (h : Ext w0 w') : DPost w0 w R B s most v out E r (thrown (E c)) w' := by
  subst hr; exact ⟨rfl, h⟩
theorem dpost_ok {w0 w w' : World} {R B a most T U : Nat} {s : ByteArray} {v : Value} {out : List UInt8} {E : Nat → Addr} {l d : List Nat} {r : Except Nat (List Nat × List Nat × Nat)} (hr : .ok (l, d, a) = r) (h : IGo w0 w w' R B s a v v out most) (hT : Tr w' T (Inf.fn l) l.length R B v) (hU : Tr w' U (Inf.fn d) d.length R B v) :
    DPost w0 w R B s most v out E r (.returned (.tuple #[.pointer (some ⟨T, 0, none⟩), .pointer (some ⟨U, 0, none⟩)])) w' := by
  subst hr; exact ⟨T, U, rfl, h, hT, hU⟩
end Go.Proofs.YtnhbjgmfbcedaaaDoor
