/-
  the document's reader: a block's words.
-/
import Derived.Test.YtnhbjgmfbcedaaaDoorUnzipTellsG16
import Derived.Test.YtnhbjgmfbcedaaaDoorUnzipTellsG6
import Derived.Deep.DeepCutAuto
import Derived.Deep.CutBlock
import Derived.Deep.AppendLies
namespace Go.Proofs.YtnhbjgmfbcedaaaDoor
open Go.RowKit
set_option linter.unusedSimpArgs false
set_option maxRecDepth 100000
theorem Cw.far {w w' : World} {Q : Nat} {v v0 t0 : Value} {f : Nat → Int} {len : Nat} (h : Cw w Q v f len) (hA : ∀ C l c, v = .slice (some ⟨C, 0, none⟩) l c → v0.ownBlock ≠ some C ∧ t0.ownBlock ≠ some C) (hk : Keeps (fun k => k = Q ∨ v0.ownBlock = some k ∨ t0.ownBlock = some k) w w') : Cw w' Q v f len := by
 obtain ⟨h0, C, c, h1, h2, h3⟩ := h
 refine ⟨h0, C, c, h1, h2, h3.keeps hk ?_⟩
 rintro (q | q | q)
 ·exact h2 q
 ·exact (hA C _ _ h1).1 q
 ·exact (hA C _ _ h1).2 q
namespace Inf
section
variable {L : List UInt8} {most : Nat} {f : Nat → Int} {len : Nat} {g : Nat → Int} {gen F a : Nat} {out : List UInt8} {tr : List Ev} {r : TRes}
theorem toks_e1 {c : Nat} (hF : 0 < F) (h : toks L most f len g gen F a out tr = r) (hn : nxt L f len a = .error c) : .error c = r := by
 cases F with
 | zero => omega
 | succ F => simp only [toks, hn] at h; exact h
theorem toks_f {a1 : Nat} (hF : 0 < F) (h : toks L most f len g gen F a out tr = r) (hn : nxt L f len a = .ok (256, a1)) : .ok (a1, out, tr ++ [⟨256, 0, 0, 0⟩]) = r := by
 cases F with
 | zero => omega
 | succ F => simp only [toks, hn, if_pos] at h; exact h
theorem toks_e2 {k a1 c : Nat} (hF : 0 < F) (h : toks L most f len g gen F a out tr = r) (hn : nxt L f len a = .ok (k, a1)) (hk : k ≠ 256) (ht : tok L most g gen k a1 out = .error c) : .error c = r := by
 cases F with
 | zero => omega
 | succ F => simp only [toks, hn, if_neg hk, ht] at h; exact h
end
end Inf
/-- how far the words of a block were read -/
def WSt (L : List UInt8) (most : Nat) (f : Nat → Int) (len : Nat) (g : Nat → Int) (gen : Nat) (rr : Inf.TRes) (tks0 : List Tk) (a e F : Nat) (out : List UInt8) (tr : List Inf.Ev) (tks : List Tk) (f7 f8 : Nat → Int) : Prop :=
 (e = 0 ∧ Inf.toks L most f len g gen F a out tr = rr ∧ (a ≤ 8 * L.length ∧ 8 * L.length - a < F ∧ out.length ≤ most ∧ tr.length ≤ a) ∧ tks = tks0 ++ Inf.tksOf tr ∧ f7 = Inf.use7 tr ∧ f8 = Inf.use8 tr) ∨ ∃ c, e = c + 1 ∧ .error c = rr ∧ F = 0
def WPost (w : World) (Q : Nat) (T : ByteArray) (x : Nat → Value) (v0 t0 : Value) (tks : List Tk) (r : Inf.TRes) (e : Ending) (w' : World) : Prop :=
 e = .returned (.tuple #[]) ∧ match r with
 | .ok (a, out, tr) => ∃ B7 B8 vo vt, WGo w w' Q B7 B8 T a 0 x v0 t0 vo vt out (tks ++ Inf.tksOf tr) (Inf.use7 tr) (Inf.use8 tr)
 | .error c => ∃ a B7 B8 vo vt out tks' f7 f8, WGo w w' Q B7 B8 T a (c + 1) x v0 t0 vo vt out tks' f7 f8
section
variable {w w' : World} {Q B7 B8 a e c : Nat} {T : ByteArray} {x : Nat → Value} {v0 t0 vo vt : Value} {out : List UInt8} {tr : List Inf.Ev} {tks tks' : List Tk} {f7 f8 : Nat → Int} {r : Inf.TRes}
theorem wpost_error (hr : .error c = r) (he : e = c + 1) (h : WGo w w' Q B7 B8 T a e x v0 t0 vo vt out tks' f7 f8) : WPost w Q T x v0 t0 tks r (.returned (.tuple #[])) w' := by
 subst hr he; exact ⟨rfl, a, B7, B8, vo, vt, out, tks', f7, f8, h⟩
theorem wpost_ok (hr : .ok (a, out, tr) = r) (h : WGo w w' Q B7 B8 T a 0 x v0 t0 vo vt out tks' f7 f8) (h1 : tks' = tks ++ Inf.tksOf tr) (h7 : f7 = Inf.use7 tr) (h8 : f8 = Inf.use8 tr) : WPost w Q T x v0 t0 tks r (.returned (.tuple #[])) w' := by
 subst hr h1 h7 h8; exact ⟨rfl, B7, B8, vo, vt, h⟩
theorem WIn.make {t : TypeId} (h : WIn w Q T a x vo vt out tks) : WGo w ((((w.setCell ⟨Q, 7, none⟩ (.slice (some ⟨w.heap.size, 0, none⟩) 300 300)).setCell ⟨Q, 8, none⟩ (.slice (some ⟨w.heap.size + 1, 0, none⟩) 40 40)).alloc (.cells (madeCells #[Value.int .i64 0] 300) t)).alloc (.cells (madeCells #[Value.int .i64 0] 40) t)) Q w.heap.size (w.heap.size + 1) T a 0 x vo vt vo vt out tks (fun _ => 0) (fun _ => 0) := by
 have K : Keeps (fun k => k = Q) w ((((w.setCell ⟨Q, 7, none⟩ (.slice (some ⟨w.heap.size, 0, none⟩) 300 300)).setCell ⟨Q, 8, none⟩ (.slice (some ⟨w.heap.size + 1, 0, none⟩) 40 40)).alloc (.cells (madeCells #[Value.int .i64 0] 300) t)).alloc (.cells (madeCells #[Value.int .i64 0] 40) t)) :=
  ((((Keeps.refl (fun k => k = Q) w).setCell (p := ⟨Q, 7, none⟩) (.inl rfl) _).setCell (p := ⟨Q, 8, none⟩) (.inl rfl) _).alloc _).alloc _
 obtain ⟨w2, hw2⟩ : ∃ w2, (w.setCell ⟨Q, 7, none⟩ (.slice (some ⟨w.heap.size, 0, none⟩) 300 300)).setCell ⟨Q, 8, none⟩ (.slice (some ⟨w.heap.size + 1, 0, none⟩) 40 40) = w2 := ⟨_, rfl⟩
 have hs2 : w2.heap.size = w.heap.size := by rw [← hw2]; simp
 refine h.start ?_ K ?_ ?_ (Nat.le_refl _) (Nat.lt_succ_self _)
 ·have b1 := h.bk.putx 7 (by simp) (.slice (some ⟨w.heap.size, 0, none⟩) 300 300)
  have b2 := b1.putx 8 (by simp) (.slice (some ⟨w.heap.size + 1, 0, none⟩) 40 40)
  rw [qc_congr (y := qx x w.heap.size (w.heap.size + 1) vo vt) (fun i _ => by
   unfold xset qx
   by_cases i8 : i = 8
   ·subst i8; rfl
   ·rw [if_neg i8]
    by_cases i7 : i = 7
    ·subst i7; rfl
    ·rw [if_neg i7]
     by_cases i2 : i = 2
     ·subst i2; exact h.x2
     ·rw [if_neg i2, if_neg i7, if_neg i8]
      by_cases i11 : i = 11
      ·subst i11; exact h.x11
      ·rw [if_neg i11])] at b2
  exact (b2.old (o := .cells (madeCells #[Value.int .i64 0] 300) t)).old (o := .cells (madeCells #[Value.int .i64 0] 40) t)
 ·rw [hw2, made_eq, ← hs2]
  exact (Cs.born w2 .i64 300 _ t).alloc (by simp) _
 ·rw [hw2, made_eq (n := 40), ← hs2]
  have c1 := Cs.born (w2.alloc (.cells (madeCells #[Value.int .i64 0] 300) t)) .i64 40 (fun _ => 0) t
  rw [World.size_alloc] at c1
  exact c1
end
theorem lensL_ge : ∀ k, k < 29 → 3 ≤ Inf.lensL.getD k 0 := by decide
set_option linter.unusedSimpArgs false in
set_option maxHeartbeats 8000000 in
theorem qwords_any (Q a len gen most : Nat) (f g : Nat → Int) (L : List UInt8) (x : Nat → Value) (vs vd v0 t0 : Value) (out0 : List UInt8) (tks0 : List Tk) (w : World) (hI : WIn w Q (bs (Bts.allB L)) a x v0 t0 out0 tks0) (hx3 : x 3 = .int .i64 (most : Int)) (hS : Cw w Q vs f len) (hD : Cw w Q vd g gen) (hA : ∀ C l c, (vs = .slice (some ⟨C, 0, none⟩) l c ∨ vd = .slice (some ⟨C, 0, none⟩) l c) → v0.ownBlock ≠ some C ∧ t0.ownBlock ≠ some C) (ha : a ≤ 8 * L.length) (hL : L.length ≤ 300000) (hmost : most ≤ 300000) (hout : out0.length ≤ most) (htk : tks0.length ≤ 8 * L.length) :
  Calls Tryd.prog 45 #[.pointer (some ⟨Q, 0, none⟩), vs, vd] w fun r w' => WPost w Q (bs (Bts.allB L)) x v0 t0 tks0 (Inf.toks L most f len g gen (8 * L.length + 1) a out0 []) r w' := by
 have HX3 : Hid (x 3 = .int .i64 (most : Int)) := Lib.hid hx3
 have HCS := Lib.hid (fun wz hk => hS.far (w' := wz) (fun C l c q => hA C l c (.inl q)) hk)
 have HCD := Lib.hid (fun wz hk => hD.far (w' := wz) (fun C l c q => hA C l c (.inr q)) hk)
 have hlen : len ≤ 300 := hS.1.1.1
 obtain ⟨i0, hi0, hz0, hz1, hz2⟩ := info_parts u8inf
 obtain ⟨j0, hj0, hy0, hy1, hy2⟩ := info_parts tokinfo
 obtain ⟨rr, hr⟩ : ∃ rr, Inf.toks L most f len g gen (8 * L.length + 1) a out0 [] = rr := ⟨_, rfl⟩
 rw [hr]
 have HR := Lib.hid hr
 have HI := Lib.hid hI
 clear hS hD hA hr hx3
 have hmk300 := fun w => run_make_row' (P := Tryd.prog) 31 3 (.int .i64 0) 8 Tryd.underlying31 i64info rfl .i64 .i64 300 (by omega) (by omega) w
 simp only [show ((300 : Nat) : Int) = 300 from rfl] at hmk300
 have hmk40 := fun w => run_make_row' (P := Tryd.prog) 31 3 (.int .i64 0) 8 Tryd.underlying31 i64info rfl .i64 .i64 40 (by omega) (by omega) w
 simp only [show ((40 : Nat) : Int) = 40 from rfl] at hmk40
 have c7 := hI.bk.cell 7
 have f7 := hI.bk.frozen 7
 have c8 := hI.bk.cell 8
 have f8 := hI.bk.frozen 8
 simp only [qc] at c7 c8
 have hQl := hI.bk.lt
 clear hI
 go_enter Tryd.func45, Tryd.ntmps45
 go_upto_block 0 with fail
 clear hmk300 hmk40 c7 f7 c8 f8
 refine wp_world (fun wz => Hid (WGo w wz Q w.heap.size (w.heap.size + 1) (bs (Bts.allB L)) a 0 x v0 t0 v0 t0 out0 tks0 (fun _ => 0) (fun _ => 0))) (Lib.hid HI.out.make) ?_
 rintro w_1 H_0
 generalize w.heap.size + 1 = B8 at H_0
 generalize w.heap.size = B7 at H_0
 clear HI hQl
 go_wp2_with fail
 go_loopg [] (8 * L.length + 1) (fun k wr => ∃ (a e F : Nat) (vo vt : Value) (out : List UInt8) (tr : List Inf.Ev) (tks : List Tk) (f7 f8 : Nat → Int), Hid (WGo w wr Q B7 B8 (bs (Bts.allB L)) a e x v0 t0 vo vt out tks f7 f8) ∧ Hid (WSt L most f len g gen rr tks0 a e F out tr tks f7 f8) ∧ Hid (F = k))
 case atStart => exact ⟨a, 0, 8 * L.length + 1, _, _, out0, [], _, _, _, H_0, Lib.hid (.inl ⟨rfl, HR.out, ⟨ha, by omega, hout, Nat.zero_le _⟩, by simp [Inf.tksOf], rfl, rfl⟩), Lib.hid rfl⟩
 case round =>
  clear H_0 HR ha hout
  obtain ⟨a, e, F, vo, vt, out, tr, tks, f7, f8, H_0, HST, HK⟩ := hrel
  rcases HST.out with ⟨he, hq, ⟨hb1, hb2, hb3, hb4⟩, ht, h7, h8⟩ | ⟨c, he, hq, hF⟩
  ·subst he ht h7 h8
   have HT := Lib.hid hq
   have HF0 : Hid (0 < F) := Lib.hid (by omega)
   clear hq HST
   have hal := hb1
   have HB := Lib.hid (And.intro hb2 (And.intro hb3 hb4))
   have htl : tr.length ≤ 2400000 := by omega
   clear hb2 hb3 hb4
   go_wp2_with fail
   refine (rok_any Q a 0 (bs (Bts.allB L)) (qx x B7 B8 vo vt) _ H_0.out.bk).mono ?_
   rintro r w9 ⟨rfl, h9⟩
   have h9s := h9.symm
   clear h9
   subst h9s
   rw [show decide (0 = 0) = true from rfl]
   go_wp2_with fail
   cases hn : Inf.nxt L f len a with
   | error c =>
    obtain rfl := Inf.nxt_error hn
    have HQ := Lib.hid (Inf.toks_e1 HF0.out HT.out hn)
    refine (qword_any Q a 0 len f vs L (qx x B7 B8 vo vt) _ H_0.out.bk (HCS.out _ H_0.out.keeps) (by omega) hL).mono ?_
    rintro r w_2 ⟨hK, hP⟩
    rw [if_pos rfl, hn] at hP
    obtain ⟨rfl, hB⟩ := hP
    have H_1 := Lib.hid (H_0.out.quiet hK hB)
    clear H_0
    clear hK hB
    clear hn
    go_wp2_with fail
    refine (rok_any Q a (0 + 1) (bs (Bts.allB L)) (qx x B7 B8 vo vt) _ H_1.out.bk).mono ?_
    rintro r w9 ⟨rfl, h9⟩
    have h9s := h9.symm
    clear h9
    subst h9s
    rw [show decide ((0 + 1) = 0) = false from decide_eq_false (by omega)]
    go_wp2_with fail
    go_end0
    exact wpost_error HQ.out rfl H_1.out
   | ok q =>
    obtain ⟨k, a1⟩ := q
    have hx1 := Inf.nxt_le hn
    obtain ⟨ha1, hal1, hkl⟩ := hx1
    have HN := Lib.hid hn
    refine (qword_any Q a 0 len f vs L (qx x B7 B8 vo vt) _ H_0.out.bk (HCS.out _ H_0.out.keeps) (by omega) hL).mono ?_
    rintro r w_3 ⟨hK, hP⟩
    rw [if_pos rfl, hn] at hP
    obtain ⟨rfl, hB⟩ := hP
    have H_1 := Lib.hid (H_0.out.quiet hK hB)
    clear H_0
    clear hK hB
    clear hn
    have HA1 : Hid (a < a1) := Lib.hid ha1
    clear ha1
    go_wp2_with fail
    refine (rok_any Q a1 0 (bs (Bts.allB L)) (qx x B7 B8 vo vt) _ H_1.out.bk).mono ?_
    rintro r w9 ⟨rfl, h9⟩
    have h9s := h9.symm
    clear h9
    subst h9s
    rw [show decide (0 = 0) = true from rfl]
    obtain ⟨z, hz⟩ : ∃ z, Inf.use7 tr k = z := ⟨_, rfl⟩
    have hzb := Inf.use7_bd tr k
    rw [hz] at hzb
    have wz : ∀ y, y = z + 1 → IntKind.i64.wrap y = y := by rintro _ rfl; rw [IntKind.wrap_i64]; omega
    have HZ := Lib.hid hz
    have hk300 : k < 300 := by omega
    have hk0 : (0 : Int) ≤ (k : Int) := by omega
    have hkI : (k : Int) < 300 := by omega
    have hkt : ((k : Nat) : Int).toNat = k := by omega
    have c7 : w_3.cell? ⟨Q, 7, none⟩ = some (.slice (some ⟨B7, 0, none⟩) 300 300) := H_1.out.bk.cell 7
    have cu := (H_1.out.c7 k hk300).1
    have fu := (H_1.out.c7 k hk300).2
    rw [hz] at cu
    clear hz hzb
    go_upto_region 6 with fail
    clear c7 cu fu wz
    refine wp_world (fun wz => Hid (WGo w wz Q B7 B8 (bs (Bts.allB L)) a1 0 x v0 t0 vo vt out (tks0 ++ Inf.tksOf tr) (Inf.upd (Inf.use7 tr) k (z + 1)) (Inf.use8 tr))) (Lib.hid (H_1.out.use7 k (z + 1) hk300)) ?_
    rintro w_4 H_2
    clear H_1
    by_cases hk : k = 256
    ·subst hk
     go_wp2_with fail
     go_end0
     exact wpost_ok (Inf.toks_f HF0.out HT.out HN.out) H_2.out (by rw [Inf.tksOf_push]; simp [Inf.tkOf]) (by rw [Inf.use7_push, ← HZ.out]) (by rw [Inf.use8_low _ _ (by simp)])
    ·have t1 : ((k : Int) == 256) = false := beq_eq_false_iff_ne.2 (by omega)
     have HKN := Lib.hid hk
     by_cases hk2 : k < 256
     ·as_aux_lemma =>
       have t2 : decide ((k : Int) < 256) = true := decide_eq_true (by omega)
       clear hk
       obtain ⟨Lo, hLo⟩ : ∃ Lo, out.length = Lo := ⟨_, rfl⟩
       have HL := Lib.hid hLo
       have hro := H_2.out.row
       rw [hLo] at hro
       obtain ⟨xo, co, rfl⟩ := lit_row hro
       have HLo : Hid (Lo ≤ most) := Lib.hid (by rw [← hLo]; exact HB.out.2.1)
       clear hLo hro
       go_wp2_with fail
       have c2 : w_4.cell? ⟨Q, 2, none⟩ = some (.slice xo Lo co) := H_2.out.bk.cell 2
       have c3 : w_4.cell? ⟨Q, 3, none⟩ = some (.int .i64 (most : Int)) := (H_2.out.bk.cell 3).trans (congrArg some HX3.out)
       by_cases hm : Lo < most
       ·as_aux_lemma =>
         have t3 : decide ((most : Int) ≤ (Lo : Int)) = false := decide_eq_false (by omega)
         have n3 : ¬ most ≤ Lo := by omega
         have HQ := Lib.hid (Inf.toks_go HF0.out HT.out HN.out HKN.out (Inf.tok_lit (L := L) (g := g) (gen := gen) (a := a1) (out := out) (most := most) hk2 (by rw [HL.out]; omega)))
         refine wp_regionQ (by kernel_rfl) (by kernel_rfl) ?_
         refine wpQ_yes (by kernel_rfl) (fun K hK => ?_)
         go_simp
         refine hK _ ?_
         clear hK K
         refine wpQ_yes (by kernel_rfl) (fun K hK => ?_)
         go_simp
         refine hK _ ?_
         clear hK K
         refine wpQ_yes (by kernel_rfl) (fun K hK => ?_)
         go_simp
         refine hK _ ?_
         clear hK K
         refine wpQ_yes (by kernel_rfl) (fun K hK => ?_)
         go_simp
         refine hK _ ?_
         clear hK K
         refine wpQ_yes (by kernel_rfl) (fun K hK => ?_)
         go_simp
         refine hK _ ?_
         clear hK K
         refine wpQ_yes (by kernel_rfl) (fun K hK => ?_)
         go_simp
         refine hK _ ?_
         clear hK K
         refine wpQ_yes (by kernel_rfl) (fun K hK => ?_)
         go_simp
         refine hK _ ?_
         clear hK K
         refine wpQ_yes (by kernel_rfl) (fun K hK => ?_)
         go_simp
         refine hK _ ?_
         clear hK K
         refine wpQ_yes (by kernel_rfl) (fun K hK => ?_)
         go_simp
         refine hK _ ?_
         clear hK K
         refine wpQ_yes (by kernel_rfl) (fun K hK => ?_)
         go_simp
         refine hK _ ?_
         clear hK K
         refine wpQ_nil ?_
         have H_3 := Lib.hid (H_2.out.ext (show Ext w_4 w_4.drew from Below.drew (Ext.refl _)))
         clear H_2
         clear c2 c3 t1 t2 t3 n3
         have wk : ∀ z, z = (k : Int) → IntKind.u8.wrap z = z := by rintro _ rfl; unfold IntKind.wrap; simp [IntKind.bits, IntKind.signed]; omega
         have hro := H_3.out.row
         rw [HL.out] at hro
         have HO := Lib.hid hro
         clear hro
         have hky : (((UInt8.ofNat k).toNat : Nat) : Int) = (k : Int) := by rw [UInt8.toNat_ofNat', Nat.mod_eq_of_lt (by omega)]
         have HKY := Lib.hid hky
         have hkm : (k : Int) % 256 = (k : Int) := by omega
         have hmo : Lo < 300000 := by omega
         clear hky
         have c2 : w_4.drew.cell? ⟨Q, 2, none⟩ = some (.slice xo Lo co) := H_3.out.bk.cell 2
         go_wp2_with (at_builtin; refine wpList_append_own_at _ rfl _ _ 61 rfl 0 5 i0 (.int .u8 0) 1 1 Tryd.underlying61 hi0 hz0 hz1 hz2 rfl (by decide) _ _ _ rfl (HO.out.alloc _) ⟨w_4.drew.heap.size, 0, none⟩ 1 1 [.int .u8 (k : Int)] rfl rfl ?c1 (one8 _) ?c3 ?c4 ?c5 ?_)
         case c1 => exact (cell_one_new _ _ _)
         case c3 => unfold maxLen; omega
         case c4 => omega
         case c5 => omega
         intro v' w4 hown hgrow _ hat
         obtain ⟨x4, c4, rfl⟩ := lit_row hown
         have P := H_3.out.byte (y := UInt8.ofNat k) HL.out ((Ext.refl _).alloc _) hgrow (by rw [HKY.out]; exact hown) (by rcases hat with q | q; exact .inl q; exact .inr (by rw [q]; simp))
         have b1 : w4.cell? ⟨Q, 2, none⟩ = some (.slice xo Lo co) := P.1.cell 2
         have fb := P.1.frozen 2
         have HP := Lib.hid P.2
         clear P hown hgrow hat c2 HO
         go_upto_region 11 with fail
         clear b1 fb
         refine wp_world (fun wz => Hid (WGo w wz Q B7 B8 (bs (Bts.allB L)) a1 0 x v0 t0 (.slice x4 (Lo + 1) c4) vt (out ++ [UInt8.ofNat k]) (tks0 ++ Inf.tksOf tr) (Inf.upd (Inf.use7 tr) k (z + 1)) (Inf.use8 tr))) HP ?_
         rintro w_5 H_4
         clear H_3
         clear HP
         obtain ⟨M, hM⟩ : ∃ M, (tks0 ++ Inf.tksOf tr).length = M := ⟨_, rfl⟩
         have HM := Lib.hid hM
         have hMb : M ≤ 5000000 := by rw [← hM, List.length_append]; have := Inf.tksOf_len tr; omega
         have hrt := H_4.out.trow
         rw [hM] at hrt
         obtain ⟨xt, ct, rfl⟩ := lit_row hrt
         clear hM hrt
         have hrt := H_4.out.trow
         rw [HM.out] at hrt
         have HRT := Lib.hid hrt
         clear hrt
         have c11 : w_5.cell? ⟨Q, 11, none⟩ = some (.slice xt M ct) := H_4.out.bk.cell 11
         go_wp2_with (at_builtin; refine wpList_append_own_at _ rfl _ _ 32 rfl 0 84 j0 _ 3 24 Tryd.underlying32 hj0 hy0 hy1 hy2 rfl (by decide) _ _ _ rfl (HRT.out.alloc _) ⟨w_5.heap.size, 0, none⟩ 1 1 [.int .u8 (k : Int), .int .i64 0, .int .i64 0] rfl rfl ?t1 ?t2 ?t3 ?t4 ?t5 ?_)
         case t1 =>
          intro j u hu
          rw [add_plain]
          exact (Bk.at (w := w_5) rfl).cell j |>.trans (by simpa using hu)
         case t2 => intro u hu; simp only [List.mem_cons, List.not_mem_nil, or_false] at hu; rcases hu with hu | hu | hu <;> (subst hu; rfl)
         case t3 => unfold maxLen; omega
         case t4 => omega
         case t5 => exact Nat.zero_le _
         intro v7 w7 hown hgrow _ hat
         obtain ⟨x7, c7, rfl⟩ := lit_row hown
         have P := H_4.out.tok (t := ⟨UInt8.ofNat k, 0, 0⟩) HM.out ((Ext.refl _).alloc _) hgrow (by rw [HKY.out]; exact hown) (by rcases hat with q | q; exact .inl q; exact .inr (by rw [q]; simp))
         have b1 : w7.cell? ⟨Q, 11, none⟩ = some (.slice xt M ct) := P.1.cell 11
         have fb := P.1.frozen 11
         have HP := Lib.hid P.2
         clear P hown hgrow hat c11 HRT
         go_wp2_with fail
         obtain ⟨F2, hF2, HR2⟩ := HQ.out
         have HR3 := Lib.hid HR2
         have HF3 : Hid (F = F2 + 1) := Lib.hid hF2
         clear HR2 HQ hF2
         go_roundg F2
         case measure => have := HF3.out; have := HK.out; omega
         case rel => exact ⟨a1, 0, F2, _, _, _, tr ++ [⟨k, 0, 0, 0⟩], _, _, _, HP, Lib.hid (.inl ⟨rfl, HR3.out, ⟨hal1, by have := HF3.out; have := HB.out; have := HA1.out; omega, by rw [List.length_append, HL.out]; simp; omega, by rw [List.length_append]; have := HB.out; have := HA1.out; simp; omega⟩, by rw [Inf.tksOf_push, List.append_assoc]; simp [Inf.tkOf, hk2], by rw [Inf.use7_push, ← HZ.out], (Inf.use8_low _ _ (by simp; omega)).symm⟩), Lib.hid rfl⟩
       ·have t3 : decide ((most : Int) ≤ (Lo : Int)) = true := decide_eq_true (by omega)
        have n3 : most ≤ Lo := by omega
        have HQ := Lib.hid (Inf.toks_e2 HF0.out HT.out HN.out HKN.out (Inf.tok_over (L := L) (g := g) (gen := gen) (a := a1) (out := out) (most := most) hk2 (by rw [HL.out]; omega)))
        refine wp_regionQ (by kernel_rfl) (by kernel_rfl) ?_
        refine wpQ_yes (by kernel_rfl) (fun K hK => ?_)
        go_simp
        refine hK _ ?_
        clear hK K
        refine wpQ_yes (by kernel_rfl) (fun K hK => ?_)
        go_simp
        refine hK _ ?_
        clear hK K
        refine wpQ_yes (by kernel_rfl) (fun K hK => ?_)
        go_simp
        refine hK _ ?_
        clear hK K
        refine wpQ_yes (by kernel_rfl) (fun K hK => ?_)
        go_simp
        refine hK _ ?_
        clear hK K
        refine wpQ_yes (by kernel_rfl) (fun K hK => ?_)
        go_simp
        refine hK _ ?_
        clear hK K
        refine wpQ_yes (by kernel_rfl) (fun K hK => ?_)
        go_simp
        refine hK _ ?_
        clear hK K
        refine wpQ_yes (by kernel_rfl) (fun K hK => ?_)
        go_simp
        refine hK _ ?_
        clear hK K
        refine wpQ_yes (by kernel_rfl) (fun K hK => ?_)
        go_simp
        refine hK _ ?_
        clear hK K
        refine wpQ_yes (by kernel_rfl) (fun K hK => ?_)
        go_simp
        refine hK _ ?_
        clear hK K
        refine wpQ_yes (by kernel_rfl) (fun K hK => ?_)
        go_simp
        refine hK _ ?_
        clear hK K
        refine wpQ_nil ?_
        have H_3 := Lib.hid (H_2.out.ext (show Ext w_4 w_4.drew from Below.drew (Ext.refl _)))
        clear H_2
        go_wp2_with fail
        refine (rfail_any Q a1 0 2 (bs (Bts.allB L)) (qx x B7 B8 (.slice xo Lo co) vt) _ H_3.out.bk).mono ?_
        rintro r w_6 ⟨rfl, hB, hK⟩
        rw [show fl 0 2 = 2 from rfl] at hB
        have H_4 := Lib.hid (H_3.out.quiet hK hB)
        clear H_3
        clear hK hB
        go_wp2_with fail
        go_end0
        exact wpost_error HQ.out rfl H_4.out
     ·as_aux_lemma =>
       have t2 : decide ((k : Int) < 256) = false := decide_eq_false (by omega)
       obtain ⟨kk, rfl⟩ : ∃ kk, k = kk + 257 := ⟨k - 257, by omega⟩
       have hkk : ((kk + 257 : Nat) : Int) - 257 = (kk : Int) := by omega
       have wkk : ∀ z, z = (kk : Int) → IntKind.i64.wrap z = z := by rintro _ rfl; rw [IntKind.wrap_i64]; omega
       clear hk hkt hkI hk0
       by_cases hk3 : 29 ≤ kk
       ·have t3 : decide ((29 : Int) ≤ (kk : Int)) = true := decide_eq_true (by omega)
        have HQ := Lib.hid (Inf.toks_e2 HF0.out HT.out HN.out HKN.out (Inf.tok_big (L := L) (most := most) (g := g) (gen := gen) (a := a1) (out := out) (by omega : 286 ≤ kk + 257)))
        go_wp2_with fail
        refine (rfail_any Q a1 0 1 (bs (Bts.allB L)) (qx x B7 B8 vo vt) _ H_2.out.bk).mono ?_
        rintro r w_7 ⟨rfl, hB, hK⟩
        rw [show fl 0 1 = 1 from rfl] at hB
        have H_3 := Lib.hid (H_2.out.quiet hK hB)
        clear H_2
        clear hK hB
        go_wp2_with fail
        go_end0
        exact wpost_error HQ.out rfl H_3.out
       ·as_aux_lemma =>
         have t3 : decide ((29 : Int) ≤ (kk : Int)) = false := decide_eq_false (by omega)
         obtain ⟨lb, hlb⟩ : ∃ lb, Inf.lensB.getD kk 0 = lb := ⟨_, rfl⟩
         obtain ⟨ln, hln⟩ : ∃ ln, Inf.lensL.getD kk 0 = ln := ⟨_, rfl⟩
         have hlb5 : lb ≤ 5 := by rw [← hlb]; exact Inf.lensB_le kk
         have hln5 : ln ≤ 258 := by rw [← hln]; exact Inf.lensL_le kk
         have hln3 : 3 ≤ ln := by rw [← hln]; exact lensL_ge kk (by omega)
         have HLB := Lib.hid hlb
         have HLN := Lib.hid hln
         have HBt := Lib.hid (fun w => qlenBits_any kk (by omega) w)
         simp only [hlb] at HBt
         clear hlb hln
         go_upto_region 15 with fail
         clear t1 t2 t3 hkk wkk
         have hkI : (0 : Int) ≤ (kk : Int) := by omega
         have hkI2 : (kk : Int) < 29 := by omega
         have hkt : ((kk : Nat) : Int).toNat = kk := by omega
         have hk29 : kk < 29 := by omega
         cases hx : Inf.get L lb a1 with
         | error c =>
          obtain rfl := (Inf.get_error hx).1
          have HGT := Lib.hid hx
          have HQ := Lib.hid (Inf.toks_e2 HF0.out HT.out HN.out HKN.out (Inf.tok_x (L := L) (most := most) (g := g) (gen := gen) (out := out) (by omega) (by omega) (by rw [Nat.add_sub_cancel, HLB.out]; exact hx)))
          have wn : ∀ z, z = (ln : Int) → IntKind.i64.wrap z = z := by rintro _ rfl; rw [IntKind.wrap_i64]; omega
          clear hx
          go_cut [7] (fun s7 wx => s7 = .int .i64 (ln : Int) ∧ Hid (WGo w wx Q B7 B8 (bs (Bts.allB L)) a1 (0 + 1) x v0 t0 vo vt out (tks0 ++ Inf.tksOf tr) (Inf.upd (Inf.use7 tr) (kk + 257) (z + 1)) (Inf.use8 tr)))
          case first =>
           as_aux_lemma =>
            refine wp_region_held_drew (S := fun w' => True) (by kernel_rfl) trivial (fun hHeld => ?_)
            clear hHeld
            refine anyH_world (fun wz => Ext w_4 wz) (show Ext w_4 w_4.drew from Below.drew (Ext.refl w_4)) ?_
            rintro w3 h
            have H_3 := Lib.hid (H_2.out.ext h)
            clear h H_2
            have hHeld : True := trivial
            refine wpAnyH_take (i := 1) (v := ?_) rfl (by kernel_rfl) (by kernel_rfl) (by kernel_rfl) (fun _ _ _ h => h) (Or.inl ⟨by kernel_rfl, ?_⟩) hHeld ?_
            rotate_left
            ·intro w hSw
             (try dsimp only at hSw)
             go_split_ands
             go_simp
             (try with_reducible rfl)
            try simp only [Act.put, List.getElem_toArray, List.getElem_cons_succ, List.getElem_cons_zero, List.setIfInBounds_toArray, List.set_cons_zero, List.set_cons_succ]
            refine wpAnyH_take (i := 4) (v := ?_) rfl (by kernel_rfl) (by kernel_rfl) (by kernel_rfl) (fun _ _ _ h => h) (Or.inl ⟨by kernel_rfl, ?_⟩) hHeld ?_
            rotate_left
            ·intro w hSw
             (try dsimp only at hSw)
             go_split_ands
             go_simp
             (try with_reducible rfl)
            try simp only [Act.put, List.getElem_toArray, List.getElem_cons_succ, List.getElem_cons_zero, List.setIfInBounds_toArray, List.set_cons_zero, List.set_cons_succ]
            refine wpAnyH_take (i := 5) (v := ?_) rfl (by kernel_rfl) (by kernel_rfl) (by kernel_rfl) (fun _ _ _ h => h) (Or.inl ⟨by kernel_rfl, ?_⟩) hHeld ?_
            rotate_left
            ·intro w hSw
             (try dsimp only at hSw)
             go_split_ands
             go_simp
             (try with_reducible rfl)
            try simp only [Act.put, List.getElem_toArray, List.getElem_cons_succ, List.getElem_cons_zero, List.setIfInBounds_toArray, List.set_cons_zero, List.set_cons_succ]
            refine wpAnyH_ready (rs := [0]) (by kernel_rfl) (by simp) ?_
            refine AllReadyH.cons rfl (fun KK hK => ?_) AllReadyH.nil
            clear hHeld
            go_simp
            refine (qlens_any _).mono ?_
            rintro r w4 ⟨C, rfl, hge, hcs, hE⟩
            have H_4 := Lib.hid (H_3.out.ext hE)
            have HCQ : Hid (C ≠ Q) := Lib.hid (by have := H_3.out.bk.lt; omega)
            have CT_4 := Lib.hid hcs
            clear hge hcs hE H_3
            go_simp
            refine hK.out _ _ trivial (fun hHeld => ?_)
            clear hK KK
            try simp only [Act.put, List.getElem_toArray, List.getElem_cons_succ, List.getElem_cons_zero, List.setIfInBounds_toArray, List.set_cons_zero, List.set_cons_succ]
            refine wpAnyH_take (i := 2) (v := ?_) rfl (by kernel_rfl) (by kernel_rfl) (by kernel_rfl) (fun _ _ _ h => h) (Or.inl ⟨by kernel_rfl, ?_⟩) hHeld ?_
            rotate_left
            ·intro w hSw
             (try dsimp only at hSw)
             go_split_ands
             go_simp
             (try with_reducible rfl)
            try simp only [Act.put, List.getElem_toArray, List.getElem_cons_succ, List.getElem_cons_zero, List.setIfInBounds_toArray, List.set_cons_zero, List.set_cons_succ]
            refine wpAnyH_ready (rs := [3, 6]) (by kernel_rfl) (by simp) ?_
            refine AllReadyH.cons rfl (fun KK hK => ?_) (AllReadyH.cons rfl (fun KK hK => ?_) AllReadyH.nil)
            ·clear hHeld
             have ce := (CT_4.out kk (by omega)).1
             simp only [HLN.out] at ce
             go_simp
             refine hK.out _ _ trivial (fun hHeld => ?_)
             clear hK KK ce
             try simp only [Act.put, List.getElem_toArray, List.getElem_cons_succ, List.getElem_cons_zero, List.setIfInBounds_toArray, List.set_cons_zero, List.set_cons_succ]
             refine wpAnyH_ready (rs := [6]) (by kernel_rfl) (by simp) ?_
             refine AllReadyH.cons rfl (fun KK hK => ?_) AllReadyH.nil
             clear hHeld
             go_simp
             refine (HBt.out _).mono ?_
             rintro r _ ⟨rfl, rfl⟩
             go_simp
             refine hK.out _ _ trivial (fun hHeld => ?_)
             clear hK KK
             try simp only [Act.put, List.getElem_toArray, List.getElem_cons_succ, List.getElem_cons_zero, List.setIfInBounds_toArray, List.set_cons_zero, List.set_cons_succ]
             refine wpAnyH_ready (rs := [7]) (by kernel_rfl) (by simp) ?_
             refine AllReadyH.cons rfl (fun KK hK => ?_) AllReadyH.nil
             clear hHeld
             go_simp
             refine (qget_any Q a1 0 lb L (qx x B7 B8 vo vt) _ H_4.out.bk (by omega) (by omega) hL).mono ?_
             rintro r w5 ⟨hKq, hP⟩
             rw [if_pos rfl, HGT.out] at hP
             obtain ⟨rfl, hB⟩ := hP
             have H_5 := Lib.hid (H_4.out.quiet hKq hB)
             have CT_5 := Lib.hid (cs_keeps CT_4.out hKq HCQ.out)
             clear hKq hB H_4 CT_4
             go_simp
             refine hK.out _ _ trivial (fun hHeld => ?_)
             clear hK KK
             try simp only [Act.put, List.getElem_toArray, List.getElem_cons_succ, List.getElem_cons_zero, List.setIfInBounds_toArray, List.set_cons_zero, List.set_cons_succ]
             refine wpAnyH_take (i := 8) (v := ?_) rfl (by kernel_rfl) (by kernel_rfl) (by kernel_rfl) (fun _ _ _ h => h) (Or.inl ⟨by kernel_rfl, ?_⟩) hHeld ?_
             rotate_left
             ·intro w hSw
              (try dsimp only at hSw)
              go_split_ands
              go_simp
              (try with_reducible rfl)
             try simp only [Act.put, List.getElem_toArray, List.getElem_cons_succ, List.getElem_cons_zero, List.setIfInBounds_toArray, List.set_cons_zero, List.set_cons_succ]
             refine wpAnyH_take (i := 9) (v := ?_) rfl (by kernel_rfl) (by kernel_rfl) (by kernel_rfl) (fun _ _ _ h => h) (Or.inl ⟨by kernel_rfl, ?_⟩) hHeld ?_
             rotate_left
             ·intro w hSw
              (try dsimp only at hSw)
              go_split_ands
              go_simp
              (try with_reducible rfl)
             try simp only [Act.put, List.getElem_toArray, List.getElem_cons_succ, List.getElem_cons_zero, List.setIfInBounds_toArray, List.set_cons_zero, List.set_cons_succ]
             refine wpAnyH_done (by kernel_rfl) ?_ _
             clear hHeld
             (try go_wp2_with fail)
             go_meet
             exact ⟨rfl, H_5⟩
            ·clear hHeld
             go_simp
             refine (HBt.out _).mono ?_
             rintro r _ ⟨rfl, rfl⟩
             go_simp
             refine hK.out _ _ trivial (fun hHeld => ?_)
             clear hK KK
             try simp only [Act.put, List.getElem_toArray, List.getElem_cons_succ, List.getElem_cons_zero, List.setIfInBounds_toArray, List.set_cons_zero, List.set_cons_succ]
             refine wpAnyH_ready (rs := [3, 7]) (by kernel_rfl) (by simp) ?_
             refine AllReadyH.cons rfl (fun KK hK => ?_) (AllReadyH.cons rfl (fun KK hK => ?_) AllReadyH.nil)
             ·clear hHeld
              have ce := (CT_4.out kk (by omega)).1
              simp only [HLN.out] at ce
              go_simp
              refine hK.out _ _ trivial (fun hHeld => ?_)
              clear hK KK ce
              try simp only [Act.put, List.getElem_toArray, List.getElem_cons_succ, List.getElem_cons_zero, List.setIfInBounds_toArray, List.set_cons_zero, List.set_cons_succ]
              refine wpAnyH_ready (rs := [7]) (by kernel_rfl) (by simp) ?_
              refine AllReadyH.cons rfl (fun KK hK => ?_) AllReadyH.nil
              clear hHeld
              go_simp
              refine (qget_any Q a1 0 lb L (qx x B7 B8 vo vt) _ H_4.out.bk (by omega) (by omega) hL).mono ?_
              rintro r w5 ⟨hKq, hP⟩
              rw [if_pos rfl, HGT.out] at hP
              obtain ⟨rfl, hB⟩ := hP
              have H_5 := Lib.hid (H_4.out.quiet hKq hB)
              have CT_5 := Lib.hid (cs_keeps CT_4.out hKq HCQ.out)
              clear hKq hB H_4 CT_4
              go_simp
              refine hK.out _ _ trivial (fun hHeld => ?_)
              clear hK KK
              try simp only [Act.put, List.getElem_toArray, List.getElem_cons_succ, List.getElem_cons_zero, List.setIfInBounds_toArray, List.set_cons_zero, List.set_cons_succ]
              refine wpAnyH_take (i := 8) (v := ?_) rfl (by kernel_rfl) (by kernel_rfl) (by kernel_rfl) (fun _ _ _ h => h) (Or.inl ⟨by kernel_rfl, ?_⟩) hHeld ?_
              rotate_left
              ·intro w hSw
               (try dsimp only at hSw)
               go_split_ands
               go_simp
               (try with_reducible rfl)
              try simp only [Act.put, List.getElem_toArray, List.getElem_cons_succ, List.getElem_cons_zero, List.setIfInBounds_toArray, List.set_cons_zero, List.set_cons_succ]
              refine wpAnyH_take (i := 9) (v := ?_) rfl (by kernel_rfl) (by kernel_rfl) (by kernel_rfl) (fun _ _ _ h => h) (Or.inl ⟨by kernel_rfl, ?_⟩) hHeld ?_
              rotate_left
              ·intro w hSw
               (try dsimp only at hSw)
               go_split_ands
               go_simp
               (try with_reducible rfl)
              try simp only [Act.put, List.getElem_toArray, List.getElem_cons_succ, List.getElem_cons_zero, List.setIfInBounds_toArray, List.set_cons_zero, List.set_cons_succ]
              refine wpAnyH_done (by kernel_rfl) ?_ _
              clear hHeld
              (try go_wp2_with fail)
              go_meet
              exact ⟨rfl, H_5⟩
             ·clear hHeld
              go_simp
              refine (qget_any Q a1 0 lb L (qx x B7 B8 vo vt) _ H_4.out.bk (by omega) (by omega) hL).mono ?_
              rintro r w5 ⟨hKq, hP⟩
              rw [if_pos rfl, HGT.out] at hP
              obtain ⟨rfl, hB⟩ := hP
              have H_5 := Lib.hid (H_4.out.quiet hKq hB)
              have CT_5 := Lib.hid (cs_keeps CT_4.out hKq HCQ.out)
              clear hKq hB H_4 CT_4
              go_simp
              refine hK.out _ _ trivial (fun hHeld => ?_)
              clear hK KK
              try simp only [Act.put, List.getElem_toArray, List.getElem_cons_succ, List.getElem_cons_zero, List.setIfInBounds_toArray, List.set_cons_zero, List.set_cons_succ]
              refine wpAnyH_ready (rs := [3]) (by kernel_rfl) (by simp) ?_
              refine AllReadyH.cons rfl (fun KK hK => ?_) AllReadyH.nil
              clear hHeld
              have ce := (CT_5.out kk (by omega)).1
              simp only [HLN.out] at ce
              go_simp
              refine hK.out _ _ trivial (fun hHeld => ?_)
              clear hK KK ce
              try simp only [Act.put, List.getElem_toArray, List.getElem_cons_succ, List.getElem_cons_zero, List.setIfInBounds_toArray, List.set_cons_zero, List.set_cons_succ]
              refine wpAnyH_take (i := 8) (v := ?_) rfl (by kernel_rfl) (by kernel_rfl) (by kernel_rfl) (fun _ _ _ h => h) (Or.inl ⟨by kernel_rfl, ?_⟩) hHeld ?_
              rotate_left
              ·intro w hSw
               (try dsimp only at hSw)
               go_split_ands
               go_simp
               (try with_reducible rfl)
              try simp only [Act.put, List.getElem_toArray, List.getElem_cons_succ, List.getElem_cons_zero, List.setIfInBounds_toArray, List.set_cons_zero, List.set_cons_succ]
              refine wpAnyH_take (i := 9) (v := ?_) rfl (by kernel_rfl) (by kernel_rfl) (by kernel_rfl) (fun _ _ _ h => h) (Or.inl ⟨by kernel_rfl, ?_⟩) hHeld ?_
              rotate_left
              ·intro w hSw
               (try dsimp only at hSw)
               go_split_ands
               go_simp
               (try with_reducible rfl)
              try simp only [Act.put, List.getElem_toArray, List.getElem_cons_succ, List.getElem_cons_zero, List.setIfInBounds_toArray, List.set_cons_zero, List.set_cons_succ]
              refine wpAnyH_done (by kernel_rfl) ?_ _
              clear hHeld
              (try go_wp2_with fail)
              go_meet
              exact ⟨rfl, H_5⟩
          case rest =>
           clear H_2
           obtain ⟨rfl, H_0⟩ := hcut
           as_aux_lemma =>
            go_wp2_with fail
            refine (qword_any Q a1 (0 + 1) gen g vd L (qx x B7 B8 vo vt) _ H_0.out.bk (HCD.out _ H_0.out.keeps) (by omega) hL).mono ?_
            rintro r w_8 ⟨hK, hP⟩
            rw [if_neg (by omega)] at hP
            obtain ⟨rfl, hB⟩ := hP
            have H_1 := Lib.hid (H_0.out.quiet hK hB)
            clear H_0
            clear hK hB
            go_wp2_with fail
            refine (rok_any Q a1 (0 + 1) (bs (Bts.allB L)) (qx x B7 B8 vo vt) _ H_1.out.bk).mono ?_
            rintro r w9 ⟨rfl, h9⟩
            have h9s := h9.symm
            clear h9
            subst h9s
            rw [show decide ((0 + 1) = 0) = false from decide_eq_false (by omega)]
            go_wp2_with fail
            refine (rok_any Q a1 (0 + 1) (bs (Bts.allB L)) (qx x B7 B8 vo vt) _ H_1.out.bk).mono ?_
            rintro r w9 ⟨rfl, h9⟩
            have h9s := h9.symm
            clear h9
            subst h9s
            rw [show decide ((0 + 1) = 0) = false from decide_eq_false (by omega)]
            go_wp2_with fail
            go_end0
            exact wpost_error HQ.out rfl H_1.out
         | ok q =>
          obtain ⟨y, a2⟩ := q
          obtain ⟨z1, z2, z3, z4⟩ := Inf.get_ok hx
          clear z4
          have hy32 : y < 32 := Nat.lt_of_lt_of_le z3 (Nat.pow_le_pow_right (n := 2) (by decide) hlb5)
          have hal2 : a2 ≤ 8 * L.length := by omega
          have HA2 : Hid (a1 ≤ a2) := Lib.hid (by omega)
          clear z1 z2 z3
          have HX := Lib.hid hx
          have HGT := Lib.hid hx
          clear hx
          obtain ⟨n, hn⟩ : ∃ n : Nat, ln + y = n := ⟨_, rfl⟩
          have hnI : (ln : Int) + (y : Int) = (n : Int) := by omega
          have wn : ∀ z, z = (n : Int) → IntKind.i64.wrap z = z := by rintro _ rfl; rw [IntKind.wrap_i64]; omega
          have HNN := Lib.hid hn
          have hn290 : n ≤ 290 := by omega
          have hn3 : 3 ≤ n := by omega
          clear hn
          go_cut [7] (fun s7 wx => s7 = .int .i64 (n : Int) ∧ Hid (WGo w wx Q B7 B8 (bs (Bts.allB L)) a2 0 x v0 t0 vo vt out (tks0 ++ Inf.tksOf tr) (Inf.upd (Inf.use7 tr) (kk + 257) (z + 1)) (Inf.use8 tr)))
          case first =>
           as_aux_lemma =>
            refine wp_region_held_drew (S := fun w' => True) (by kernel_rfl) trivial (fun hHeld => ?_)
            clear hHeld
            refine anyH_world (fun wz => Ext w_4 wz) (show Ext w_4 w_4.drew from Below.drew (Ext.refl w_4)) ?_
            rintro w3 h
            have H_3 := Lib.hid (H_2.out.ext h)
            clear h H_2
            have hHeld : True := trivial
            refine wpAnyH_take (i := 1) (v := ?_) rfl (by kernel_rfl) (by kernel_rfl) (by kernel_rfl) (fun _ _ _ h => h) (Or.inl ⟨by kernel_rfl, ?_⟩) hHeld ?_
            rotate_left
            ·intro w hSw
             (try dsimp only at hSw)
             go_split_ands
             go_simp
             (try with_reducible rfl)
            try simp only [Act.put, List.getElem_toArray, List.getElem_cons_succ, List.getElem_cons_zero, List.setIfInBounds_toArray, List.set_cons_zero, List.set_cons_succ]
            refine wpAnyH_take (i := 4) (v := ?_) rfl (by kernel_rfl) (by kernel_rfl) (by kernel_rfl) (fun _ _ _ h => h) (Or.inl ⟨by kernel_rfl, ?_⟩) hHeld ?_
            rotate_left
            ·intro w hSw
             (try dsimp only at hSw)
             go_split_ands
             go_simp
             (try with_reducible rfl)
            try simp only [Act.put, List.getElem_toArray, List.getElem_cons_succ, List.getElem_cons_zero, List.setIfInBounds_toArray, List.set_cons_zero, List.set_cons_succ]
            refine wpAnyH_take (i := 5) (v := ?_) rfl (by kernel_rfl) (by kernel_rfl) (by kernel_rfl) (fun _ _ _ h => h) (Or.inl ⟨by kernel_rfl, ?_⟩) hHeld ?_
            rotate_left
            ·intro w hSw
             (try dsimp only at hSw)
             go_split_ands
             go_simp
             (try with_reducible rfl)
            try simp only [Act.put, List.getElem_toArray, List.getElem_cons_succ, List.getElem_cons_zero, List.setIfInBounds_toArray, List.set_cons_zero, List.set_cons_succ]
            refine wpAnyH_ready (rs := [0]) (by kernel_rfl) (by simp) ?_
            refine AllReadyH.cons rfl (fun KK hK => ?_) AllReadyH.nil
            clear hHeld
            go_simp
            refine (qlens_any _).mono ?_
            rintro r w4 ⟨C, rfl, hge, hcs, hE⟩
            have H_4 := Lib.hid (H_3.out.ext hE)
            have HCQ : Hid (C ≠ Q) := Lib.hid (by have := H_3.out.bk.lt; omega)
            have CT_4 := Lib.hid hcs
            clear hge hcs hE H_3
            go_simp
            refine hK.out _ _ trivial (fun hHeld => ?_)
            clear hK KK
            try simp only [Act.put, List.getElem_toArray, List.getElem_cons_succ, List.getElem_cons_zero, List.setIfInBounds_toArray, List.set_cons_zero, List.set_cons_succ]
            refine wpAnyH_take (i := 2) (v := ?_) rfl (by kernel_rfl) (by kernel_rfl) (by kernel_rfl) (fun _ _ _ h => h) (Or.inl ⟨by kernel_rfl, ?_⟩) hHeld ?_
            rotate_left
            ·intro w hSw
             (try dsimp only at hSw)
             go_split_ands
             go_simp
             (try with_reducible rfl)
            try simp only [Act.put, List.getElem_toArray, List.getElem_cons_succ, List.getElem_cons_zero, List.setIfInBounds_toArray, List.set_cons_zero, List.set_cons_succ]
            refine wpAnyH_ready (rs := [3, 6]) (by kernel_rfl) (by simp) ?_
            refine AllReadyH.cons rfl (fun KK hK => ?_) (AllReadyH.cons rfl (fun KK hK => ?_) AllReadyH.nil)
            ·clear hHeld
             have ce := (CT_4.out kk (by omega)).1
             simp only [HLN.out] at ce
             go_simp
             refine hK.out _ _ trivial (fun hHeld => ?_)
             clear hK KK ce
             try simp only [Act.put, List.getElem_toArray, List.getElem_cons_succ, List.getElem_cons_zero, List.setIfInBounds_toArray, List.set_cons_zero, List.set_cons_succ]
             refine wpAnyH_ready (rs := [6]) (by kernel_rfl) (by simp) ?_
             refine AllReadyH.cons rfl (fun KK hK => ?_) AllReadyH.nil
             clear hHeld
             go_simp
             refine (HBt.out _).mono ?_
             rintro r _ ⟨rfl, rfl⟩
             go_simp
             refine hK.out _ _ trivial (fun hHeld => ?_)
             clear hK KK
             try simp only [Act.put, List.getElem_toArray, List.getElem_cons_succ, List.getElem_cons_zero, List.setIfInBounds_toArray, List.set_cons_zero, List.set_cons_succ]
             refine wpAnyH_ready (rs := [7]) (by kernel_rfl) (by simp) ?_
             refine AllReadyH.cons rfl (fun KK hK => ?_) AllReadyH.nil
             clear hHeld
             go_simp
             refine (qget_any Q a1 0 lb L (qx x B7 B8 vo vt) _ H_4.out.bk (by omega) (by omega) hL).mono ?_
             rintro r w5 ⟨hKq, hP⟩
             rw [if_pos rfl, HGT.out] at hP
             obtain ⟨rfl, hB⟩ := hP
             have H_5 := Lib.hid (H_4.out.quiet hKq hB)
             have CT_5 := Lib.hid (cs_keeps CT_4.out hKq HCQ.out)
             clear hKq hB H_4 CT_4
             go_simp
             refine hK.out _ _ trivial (fun hHeld => ?_)
             clear hK KK
             try simp only [Act.put, List.getElem_toArray, List.getElem_cons_succ, List.getElem_cons_zero, List.setIfInBounds_toArray, List.set_cons_zero, List.set_cons_succ]
             refine wpAnyH_take (i := 8) (v := ?_) rfl (by kernel_rfl) (by kernel_rfl) (by kernel_rfl) (fun _ _ _ h => h) (Or.inl ⟨by kernel_rfl, ?_⟩) hHeld ?_
             rotate_left
             ·intro w hSw
              (try dsimp only at hSw)
              go_split_ands
              go_simp
              (try with_reducible rfl)
             try simp only [Act.put, List.getElem_toArray, List.getElem_cons_succ, List.getElem_cons_zero, List.setIfInBounds_toArray, List.set_cons_zero, List.set_cons_succ]
             refine wpAnyH_take (i := 9) (v := ?_) rfl (by kernel_rfl) (by kernel_rfl) (by kernel_rfl) (fun _ _ _ h => h) (Or.inl ⟨by kernel_rfl, ?_⟩) hHeld ?_
             rotate_left
             ·intro w hSw
              (try dsimp only at hSw)
              go_split_ands
              go_simp
              (try with_reducible rfl)
             try simp only [Act.put, List.getElem_toArray, List.getElem_cons_succ, List.getElem_cons_zero, List.setIfInBounds_toArray, List.set_cons_zero, List.set_cons_succ]
             refine wpAnyH_done (by kernel_rfl) ?_ _
             clear hHeld
             (try go_wp2_with fail)
             go_meet
             exact ⟨rfl, H_5⟩
            ·clear hHeld
             go_simp
             refine (HBt.out _).mono ?_
             rintro r _ ⟨rfl, rfl⟩
             go_simp
             refine hK.out _ _ trivial (fun hHeld => ?_)
             clear hK KK
             try simp only [Act.put, List.getElem_toArray, List.getElem_cons_succ, List.getElem_cons_zero, List.setIfInBounds_toArray, List.set_cons_zero, List.set_cons_succ]
             refine wpAnyH_ready (rs := [3, 7]) (by kernel_rfl) (by simp) ?_
             refine AllReadyH.cons rfl (fun KK hK => ?_) (AllReadyH.cons rfl (fun KK hK => ?_) AllReadyH.nil)
             ·clear hHeld
              have ce := (CT_4.out kk (by omega)).1
              simp only [HLN.out] at ce
              go_simp
              refine hK.out _ _ trivial (fun hHeld => ?_)
              clear hK KK ce
              try simp only [Act.put, List.getElem_toArray, List.getElem_cons_succ, List.getElem_cons_zero, List.setIfInBounds_toArray, List.set_cons_zero, List.set_cons_succ]
              refine wpAnyH_ready (rs := [7]) (by kernel_rfl) (by simp) ?_
              refine AllReadyH.cons rfl (fun KK hK => ?_) AllReadyH.nil
              clear hHeld
              go_simp
              refine (qget_any Q a1 0 lb L (qx x B7 B8 vo vt) _ H_4.out.bk (by omega) (by omega) hL).mono ?_
              rintro r w5 ⟨hKq, hP⟩
              rw [if_pos rfl, HGT.out] at hP
              obtain ⟨rfl, hB⟩ := hP
              have H_5 := Lib.hid (H_4.out.quiet hKq hB)
              have CT_5 := Lib.hid (cs_keeps CT_4.out hKq HCQ.out)
              clear hKq hB H_4 CT_4
              go_simp
              refine hK.out _ _ trivial (fun hHeld => ?_)
              clear hK KK
              try simp only [Act.put, List.getElem_toArray, List.getElem_cons_succ, List.getElem_cons_zero, List.setIfInBounds_toArray, List.set_cons_zero, List.set_cons_succ]
              refine wpAnyH_take (i := 8) (v := ?_) rfl (by kernel_rfl) (by kernel_rfl) (by kernel_rfl) (fun _ _ _ h => h) (Or.inl ⟨by kernel_rfl, ?_⟩) hHeld ?_
              rotate_left
              ·intro w hSw
               (try dsimp only at hSw)
               go_split_ands
               go_simp
               (try with_reducible rfl)
              try simp only [Act.put, List.getElem_toArray, List.getElem_cons_succ, List.getElem_cons_zero, List.setIfInBounds_toArray, List.set_cons_zero, List.set_cons_succ]
              refine wpAnyH_take (i := 9) (v := ?_) rfl (by kernel_rfl) (by kernel_rfl) (by kernel_rfl) (fun _ _ _ h => h) (Or.inl ⟨by kernel_rfl, ?_⟩) hHeld ?_
              rotate_left
              ·intro w hSw
               (try dsimp only at hSw)
               go_split_ands
               go_simp
               (try with_reducible rfl)
              try simp only [Act.put, List.getElem_toArray, List.getElem_cons_succ, List.getElem_cons_zero, List.setIfInBounds_toArray, List.set_cons_zero, List.set_cons_succ]
              refine wpAnyH_done (by kernel_rfl) ?_ _
              clear hHeld
              (try go_wp2_with fail)
              go_meet
              exact ⟨rfl, H_5⟩
             ·clear hHeld
              go_simp
              refine (qget_any Q a1 0 lb L (qx x B7 B8 vo vt) _ H_4.out.bk (by omega) (by omega) hL).mono ?_
              rintro r w5 ⟨hKq, hP⟩
              rw [if_pos rfl, HGT.out] at hP
              obtain ⟨rfl, hB⟩ := hP
              have H_5 := Lib.hid (H_4.out.quiet hKq hB)
              have CT_5 := Lib.hid (cs_keeps CT_4.out hKq HCQ.out)
              clear hKq hB H_4 CT_4
              go_simp
              refine hK.out _ _ trivial (fun hHeld => ?_)
              clear hK KK
              try simp only [Act.put, List.getElem_toArray, List.getElem_cons_succ, List.getElem_cons_zero, List.setIfInBounds_toArray, List.set_cons_zero, List.set_cons_succ]
              refine wpAnyH_ready (rs := [3]) (by kernel_rfl) (by simp) ?_
              refine AllReadyH.cons rfl (fun KK hK => ?_) AllReadyH.nil
              clear hHeld
              have ce := (CT_5.out kk (by omega)).1
              simp only [HLN.out] at ce
              go_simp
              refine hK.out _ _ trivial (fun hHeld => ?_)
              clear hK KK ce
              try simp only [Act.put, List.getElem_toArray, List.getElem_cons_succ, List.getElem_cons_zero, List.setIfInBounds_toArray, List.set_cons_zero, List.set_cons_succ]
              refine wpAnyH_take (i := 8) (v := ?_) rfl (by kernel_rfl) (by kernel_rfl) (by kernel_rfl) (fun _ _ _ h => h) (Or.inl ⟨by kernel_rfl, ?_⟩) hHeld ?_
              rotate_left
              ·intro w hSw
               (try dsimp only at hSw)
               go_split_ands
               go_simp
               (try with_reducible rfl)
              try simp only [Act.put, List.getElem_toArray, List.getElem_cons_succ, List.getElem_cons_zero, List.setIfInBounds_toArray, List.set_cons_zero, List.set_cons_succ]
              refine wpAnyH_take (i := 9) (v := ?_) rfl (by kernel_rfl) (by kernel_rfl) (by kernel_rfl) (fun _ _ _ h => h) (Or.inl ⟨by kernel_rfl, ?_⟩) hHeld ?_
              rotate_left
              ·intro w hSw
               (try dsimp only at hSw)
               go_split_ands
               go_simp
               (try with_reducible rfl)
              try simp only [Act.put, List.getElem_toArray, List.getElem_cons_succ, List.getElem_cons_zero, List.setIfInBounds_toArray, List.set_cons_zero, List.set_cons_succ]
              refine wpAnyH_done (by kernel_rfl) ?_ _
              clear hHeld
              (try go_wp2_with fail)
              go_meet
              exact ⟨rfl, H_5⟩
          case rest =>
           clear H_2
           obtain ⟨rfl, H_0⟩ := hcut
           as_aux_lemma =>
            clear wn hnI HGT
            go_wp2_with fail
            cases hd : Inf.nxt L g gen a2 with
            | error c =>
             obtain rfl := Inf.nxt_error hd
             have HQ := Lib.hid (Inf.toks_e2 HF0.out HT.out HN.out HKN.out (Inf.tok_d (by omega) (by omega) (by rw [Nat.add_sub_cancel, HLB.out]; exact HX.out) hd))
             refine (qword_any Q a2 0 gen g vd L (qx x B7 B8 vo vt) _ H_0.out.bk (HCD.out _ H_0.out.keeps) (by omega) hL).mono ?_
             rintro r w_9 ⟨hK, hP⟩
             rw [if_pos rfl, hd] at hP
             obtain ⟨rfl, hB⟩ := hP
             have H_1 := Lib.hid (H_0.out.quiet hK hB)
             clear H_0
             clear hK hB
             clear hd
             go_wp2_with fail
             refine (rok_any Q a2 (0 + 1) (bs (Bts.allB L)) (qx x B7 B8 vo vt) _ H_1.out.bk).mono ?_
             rintro r w9 ⟨rfl, h9⟩
             have h9s := h9.symm
             clear h9
             subst h9s
             rw [show decide ((0 + 1) = 0) = false from decide_eq_false (by omega)]
             go_wp2_with fail
             refine (rok_any Q a2 (0 + 1) (bs (Bts.allB L)) (qx x B7 B8 vo vt) _ H_1.out.bk).mono ?_
             rintro r w9 ⟨rfl, h9⟩
             have h9s := h9.symm
             clear h9
             subst h9s
             rw [show decide ((0 + 1) = 0) = false from decide_eq_false (by omega)]
             go_wp2_with fail
             go_end0
             exact wpost_error HQ.out rfl H_1.out
            | ok q =>
             obtain ⟨d, a3⟩ := q
             have hx3 := Inf.nxt_le hd
             obtain ⟨hb1, hal3, -⟩ := hx3
             have HA3 : Hid (a2 ≤ a3) := Lib.hid (by omega)
             clear hb1
             have HDD := Lib.hid hd
             refine (qword_any Q a2 0 gen g vd L (qx x B7 B8 vo vt) _ H_0.out.bk (HCD.out _ H_0.out.keeps) (by omega) hL).mono ?_
             rintro r w_10 ⟨hK, hP⟩
             rw [if_pos rfl, hd] at hP
             obtain ⟨rfl, hB⟩ := hP
             have H_1 := Lib.hid (H_0.out.quiet hK hB)
             clear H_0
             clear hK hB
             clear hd
             have HTF := Lib.hid (Inf.tok_f (L := L) (most := most) (g := g) (gen := gen) (out := out) (k := kk + 257) (by omega) (by omega) (by rw [Nat.add_sub_cancel, HLB.out]; exact HX.out) HDD.out)
             go_wp2_with fail
             refine (rok_any Q a3 0 (bs (Bts.allB L)) (qx x B7 B8 vo vt) _ H_1.out.bk).mono ?_
             rintro r w9 ⟨rfl, h9⟩
             have h9s := h9.symm
             clear h9
             subst h9s
             rw [show decide (0 = 0) = true from rfl]
             by_cases hd3 : 30 ≤ d
             ·have t3 : decide ((30 : Int) ≤ (d : Int)) = true := decide_eq_true (by omega)
              have HQ := Lib.hid (Inf.toks_e2 HF0.out HT.out HN.out HKN.out (HTF.out.trans (Inf.far_big hd3)))
              go_wp2_with fail
              refine (rfail_any Q a3 0 1 (bs (Bts.allB L)) (qx x B7 B8 vo vt) _ H_1.out.bk).mono ?_
              rintro r w_11 ⟨rfl, hB, hK⟩
              rw [show fl 0 1 = 1 from rfl] at hB
              have H_2 := Lib.hid (H_1.out.quiet hK hB)
              clear H_1
              clear hK hB
              go_wp2_with fail
              refine (rok_any Q a3 1 (bs (Bts.allB L)) (qx x B7 B8 vo vt) _ H_2.out.bk).mono ?_
              rintro r w9 ⟨rfl, h9⟩
              have h9s := h9.symm
              clear h9
              subst h9s
              rw [show decide (1 = 0) = false from decide_eq_false (by omega)]
              go_wp2_with fail
              go_end0
              exact wpost_error HQ.out rfl H_2.out
             ·as_aux_lemma =>
               have t3 : decide ((30 : Int) ≤ (d : Int)) = false := decide_eq_false (by omega)
               go_wp2_with fail
               refine (rok_any Q a3 0 (bs (Bts.allB L)) (qx x B7 B8 vo vt) _ H_1.out.bk).mono ?_
               rintro r w9 ⟨rfl, h9⟩
               have h9s := h9.symm
               clear h9
               subst h9s
               rw [show decide (0 = 0) = true from rfl]
               clear t3
               obtain ⟨u, hu⟩ : ∃ u, Inf.use8 tr d = u := ⟨_, rfl⟩
               have hub := Inf.use8_bd tr d
               rw [hu] at hub
               have wu : ∀ y, y = u + 1 → IntKind.i64.wrap y = y := by rintro _ rfl; rw [IntKind.wrap_i64]; omega
               have HU := Lib.hid hu
               have hd40 : d < 40 := by omega
               have hd0 : (0 : Int) ≤ (d : Int) := by omega
               have hdI : (d : Int) < 40 := by omega
               have hdt : ((d : Nat) : Int).toNat = d := by omega
               have c8 : w_10.cell? ⟨Q, 8, none⟩ = some (.slice (some ⟨B8, 0, none⟩) 40 40) := H_1.out.bk.cell 8
               have cu := (H_1.out.c8 d hd40).1
               have fu := (H_1.out.c8 d hd40).2
               rw [hu] at cu
               clear hu hub
               go_upto_region 21 with fail
               clear c8 cu fu wu
               refine wp_world (fun wz => Hid (WGo w wz Q B7 B8 (bs (Bts.allB L)) a3 0 x v0 t0 vo vt out (tks0 ++ Inf.tksOf tr) (Inf.upd (Inf.use7 tr) (kk + 257) (z + 1)) (Inf.upd (Inf.use8 tr) d (u + 1)))) (Lib.hid (H_1.out.use8 d (u + 1) hd40)) ?_
               rintro w_12 H_2
               clear H_1
               obtain ⟨db, hdb⟩ : ∃ db, Inf.distsB.getD d 0 = db := ⟨_, rfl⟩
               obtain ⟨dl, hdl⟩ : ∃ dl, Inf.distsL.getD d 0 = dl := ⟨_, rfl⟩
               have hdb13 : db ≤ 13 := by rw [← hdb]; exact Inf.distsB_le d
               have hdl5 : dl ≤ 24577 := by rw [← hdl]; exact Inf.distsL_le d
               have hdl1 : 1 ≤ dl := by rw [← hdl]; exact Inf.distsL_pos d (by omega)
               have HLNk := HLN
               clear HLN
               have HDB := Lib.hid hdb
               have HLN := Lib.hid hdl
               have HBt2 := Lib.hid (fun w => qdistBits_any d (by omega) w)
               simp only [hdb] at HBt2
               clear HBt
               have HBt := HBt2
               clear HBt2 hdb hdl hdI
               have hdI2 : (d : Int) < 30 := by omega
               cases hy : Inf.get L db a3 with
               | error c =>
                obtain rfl := (Inf.get_error hy).1
                have HGT := Lib.hid hy
                have HQ := Lib.hid (Inf.toks_e2 HF0.out HT.out HN.out HKN.out (HTF.out.trans (Inf.far_x (by omega) (by rw [HDB.out]; exact hy))))
                have wn : ∀ z, z = (dl : Int) → IntKind.i64.wrap z = z := by rintro _ rfl; rw [IntKind.wrap_i64]; omega
                clear hy
                go_cut [9] (fun s9 wx => s9 = .int .i64 (dl : Int) ∧ Hid (WGo w wx Q B7 B8 (bs (Bts.allB L)) a3 (0 + 1) x v0 t0 vo vt out (tks0 ++ Inf.tksOf tr) (Inf.upd (Inf.use7 tr) (kk + 257) (z + 1)) (Inf.upd (Inf.use8 tr) d (u + 1))))
                case first =>
                 as_aux_lemma =>
                  refine wp_region_held_drew (S := fun w' => True) (by kernel_rfl) trivial (fun hHeld => ?_)
                  clear hHeld
                  refine anyH_world (fun wz => Ext w_12 wz) (show Ext w_12 w_12.drew from Below.drew (Ext.refl w_12)) ?_
                  rintro w3 h
                  have H_3 := Lib.hid (H_2.out.ext h)
                  clear h H_2
                  have hHeld : True := trivial
                  refine wpAnyH_take (i := 1) (v := ?_) rfl (by kernel_rfl) (by kernel_rfl) (by kernel_rfl) (fun _ _ _ h => h) (Or.inl ⟨by kernel_rfl, ?_⟩) hHeld ?_
                  rotate_left
                  ·intro w hSw
                   (try dsimp only at hSw)
                   go_split_ands
                   go_simp
                   (try with_reducible rfl)
                  try simp only [Act.put, List.getElem_toArray, List.getElem_cons_succ, List.getElem_cons_zero, List.setIfInBounds_toArray, List.set_cons_zero, List.set_cons_succ]
                  refine wpAnyH_take (i := 4) (v := ?_) rfl (by kernel_rfl) (by kernel_rfl) (by kernel_rfl) (fun _ _ _ h => h) (Or.inl ⟨by kernel_rfl, ?_⟩) hHeld ?_
                  rotate_left
                  ·intro w hSw
                   (try dsimp only at hSw)
                   go_split_ands
                   go_simp
                   (try with_reducible rfl)
                  try simp only [Act.put, List.getElem_toArray, List.getElem_cons_succ, List.getElem_cons_zero, List.setIfInBounds_toArray, List.set_cons_zero, List.set_cons_succ]
                  refine wpAnyH_take (i := 5) (v := ?_) rfl (by kernel_rfl) (by kernel_rfl) (by kernel_rfl) (fun _ _ _ h => h) (Or.inl ⟨by kernel_rfl, ?_⟩) hHeld ?_
                  rotate_left
                  ·intro w hSw
                   (try dsimp only at hSw)
                   go_split_ands
                   go_simp
                   (try with_reducible rfl)
                  try simp only [Act.put, List.getElem_toArray, List.getElem_cons_succ, List.getElem_cons_zero, List.setIfInBounds_toArray, List.set_cons_zero, List.set_cons_succ]
                  refine wpAnyH_ready (rs := [0]) (by kernel_rfl) (by simp) ?_
                  refine AllReadyH.cons rfl (fun KK hK => ?_) AllReadyH.nil
                  clear hHeld
                  go_simp
                  refine (qdists_any _).mono ?_
                  rintro r w4 ⟨C, rfl, hge, hcs, hE⟩
                  have H_4 := Lib.hid (H_3.out.ext hE)
                  have HCQ : Hid (C ≠ Q) := Lib.hid (by have := H_3.out.bk.lt; omega)
                  have CT_4 := Lib.hid hcs
                  clear hge hcs hE H_3
                  go_simp
                  refine hK.out _ _ trivial (fun hHeld => ?_)
                  clear hK KK
                  try simp only [Act.put, List.getElem_toArray, List.getElem_cons_succ, List.getElem_cons_zero, List.setIfInBounds_toArray, List.set_cons_zero, List.set_cons_succ]
                  refine wpAnyH_take (i := 2) (v := ?_) rfl (by kernel_rfl) (by kernel_rfl) (by kernel_rfl) (fun _ _ _ h => h) (Or.inl ⟨by kernel_rfl, ?_⟩) hHeld ?_
                  rotate_left
                  ·intro w hSw
                   (try dsimp only at hSw)
                   go_split_ands
                   go_simp
                   (try with_reducible rfl)
                  try simp only [Act.put, List.getElem_toArray, List.getElem_cons_succ, List.getElem_cons_zero, List.setIfInBounds_toArray, List.set_cons_zero, List.set_cons_succ]
                  refine wpAnyH_ready (rs := [3, 6]) (by kernel_rfl) (by simp) ?_
                  refine AllReadyH.cons rfl (fun KK hK => ?_) (AllReadyH.cons rfl (fun KK hK => ?_) AllReadyH.nil)
                  ·clear hHeld
                   have ce := (CT_4.out d (by omega)).1
                   simp only [HLN.out] at ce
                   go_simp
                   refine hK.out _ _ trivial (fun hHeld => ?_)
                   clear hK KK ce
                   try simp only [Act.put, List.getElem_toArray, List.getElem_cons_succ, List.getElem_cons_zero, List.setIfInBounds_toArray, List.set_cons_zero, List.set_cons_succ]
                   refine wpAnyH_ready (rs := [6]) (by kernel_rfl) (by simp) ?_
                   refine AllReadyH.cons rfl (fun KK hK => ?_) AllReadyH.nil
                   clear hHeld
                   go_simp
                   refine (HBt.out _).mono ?_
                   rintro r _ ⟨rfl, rfl⟩
                   go_simp
                   refine hK.out _ _ trivial (fun hHeld => ?_)
                   clear hK KK
                   try simp only [Act.put, List.getElem_toArray, List.getElem_cons_succ, List.getElem_cons_zero, List.setIfInBounds_toArray, List.set_cons_zero, List.set_cons_succ]
                   refine wpAnyH_ready (rs := [7]) (by kernel_rfl) (by simp) ?_
                   refine AllReadyH.cons rfl (fun KK hK => ?_) AllReadyH.nil
                   clear hHeld
                   go_simp
                   refine (qget_any Q a3 0 db L (qx x B7 B8 vo vt) _ H_4.out.bk (by omega) (by omega) hL).mono ?_
                   rintro r w5 ⟨hKq, hP⟩
                   rw [if_pos rfl, HGT.out] at hP
                   obtain ⟨rfl, hB⟩ := hP
                   have H_5 := Lib.hid (H_4.out.quiet hKq hB)
                   have CT_5 := Lib.hid (cs_keeps CT_4.out hKq HCQ.out)
                   clear hKq hB H_4 CT_4
                   go_simp
                   refine hK.out _ _ trivial (fun hHeld => ?_)
                   clear hK KK
                   try simp only [Act.put, List.getElem_toArray, List.getElem_cons_succ, List.getElem_cons_zero, List.setIfInBounds_toArray, List.set_cons_zero, List.set_cons_succ]
                   refine wpAnyH_take (i := 8) (v := ?_) rfl (by kernel_rfl) (by kernel_rfl) (by kernel_rfl) (fun _ _ _ h => h) (Or.inl ⟨by kernel_rfl, ?_⟩) hHeld ?_
                   rotate_left
                   ·intro w hSw
                    (try dsimp only at hSw)
                    go_split_ands
                    go_simp
                    (try with_reducible rfl)
                   try simp only [Act.put, List.getElem_toArray, List.getElem_cons_succ, List.getElem_cons_zero, List.setIfInBounds_toArray, List.set_cons_zero, List.set_cons_succ]
                   refine wpAnyH_take (i := 9) (v := ?_) rfl (by kernel_rfl) (by kernel_rfl) (by kernel_rfl) (fun _ _ _ h => h) (Or.inl ⟨by kernel_rfl, ?_⟩) hHeld ?_
                   rotate_left
                   ·intro w hSw
                    (try dsimp only at hSw)
                    go_split_ands
                    go_simp
                    (try with_reducible rfl)
                   try simp only [Act.put, List.getElem_toArray, List.getElem_cons_succ, List.getElem_cons_zero, List.setIfInBounds_toArray, List.set_cons_zero, List.set_cons_succ]
                   refine wpAnyH_done (by kernel_rfl) ?_ _
                   clear hHeld
                   (try go_wp2_with fail)
                   go_meet
                   exact ⟨rfl, H_5⟩
                  ·clear hHeld
                   go_simp
                   refine (HBt.out _).mono ?_
                   rintro r _ ⟨rfl, rfl⟩
                   go_simp
                   refine hK.out _ _ trivial (fun hHeld => ?_)
                   clear hK KK
                   try simp only [Act.put, List.getElem_toArray, List.getElem_cons_succ, List.getElem_cons_zero, List.setIfInBounds_toArray, List.set_cons_zero, List.set_cons_succ]
                   refine wpAnyH_ready (rs := [3, 7]) (by kernel_rfl) (by simp) ?_
                   refine AllReadyH.cons rfl (fun KK hK => ?_) (AllReadyH.cons rfl (fun KK hK => ?_) AllReadyH.nil)
                   ·clear hHeld
                    have ce := (CT_4.out d (by omega)).1
                    simp only [HLN.out] at ce
                    go_simp
                    refine hK.out _ _ trivial (fun hHeld => ?_)
                    clear hK KK ce
                    try simp only [Act.put, List.getElem_toArray, List.getElem_cons_succ, List.getElem_cons_zero, List.setIfInBounds_toArray, List.set_cons_zero, List.set_cons_succ]
                    refine wpAnyH_ready (rs := [7]) (by kernel_rfl) (by simp) ?_
                    refine AllReadyH.cons rfl (fun KK hK => ?_) AllReadyH.nil
                    clear hHeld
                    go_simp
                    refine (qget_any Q a3 0 db L (qx x B7 B8 vo vt) _ H_4.out.bk (by omega) (by omega) hL).mono ?_
                    rintro r w5 ⟨hKq, hP⟩
                    rw [if_pos rfl, HGT.out] at hP
                    obtain ⟨rfl, hB⟩ := hP
                    have H_5 := Lib.hid (H_4.out.quiet hKq hB)
                    have CT_5 := Lib.hid (cs_keeps CT_4.out hKq HCQ.out)
                    clear hKq hB H_4 CT_4
                    go_simp
                    refine hK.out _ _ trivial (fun hHeld => ?_)
                    clear hK KK
                    try simp only [Act.put, List.getElem_toArray, List.getElem_cons_succ, List.getElem_cons_zero, List.setIfInBounds_toArray, List.set_cons_zero, List.set_cons_succ]
                    refine wpAnyH_take (i := 8) (v := ?_) rfl (by kernel_rfl) (by kernel_rfl) (by kernel_rfl) (fun _ _ _ h => h) (Or.inl ⟨by kernel_rfl, ?_⟩) hHeld ?_
                    rotate_left
                    ·intro w hSw
                     (try dsimp only at hSw)
                     go_split_ands
                     go_simp
                     (try with_reducible rfl)
                    try simp only [Act.put, List.getElem_toArray, List.getElem_cons_succ, List.getElem_cons_zero, List.setIfInBounds_toArray, List.set_cons_zero, List.set_cons_succ]
                    refine wpAnyH_take (i := 9) (v := ?_) rfl (by kernel_rfl) (by kernel_rfl) (by kernel_rfl) (fun _ _ _ h => h) (Or.inl ⟨by kernel_rfl, ?_⟩) hHeld ?_
                    rotate_left
                    ·intro w hSw
                     (try dsimp only at hSw)
                     go_split_ands
                     go_simp
                     (try with_reducible rfl)
                    try simp only [Act.put, List.getElem_toArray, List.getElem_cons_succ, List.getElem_cons_zero, List.setIfInBounds_toArray, List.set_cons_zero, List.set_cons_succ]
                    refine wpAnyH_done (by kernel_rfl) ?_ _
                    clear hHeld
                    (try go_wp2_with fail)
                    go_meet
                    exact ⟨rfl, H_5⟩
                   ·clear hHeld
                    go_simp
                    refine (qget_any Q a3 0 db L (qx x B7 B8 vo vt) _ H_4.out.bk (by omega) (by omega) hL).mono ?_
                    rintro r w5 ⟨hKq, hP⟩
                    rw [if_pos rfl, HGT.out] at hP
                    obtain ⟨rfl, hB⟩ := hP
                    have H_5 := Lib.hid (H_4.out.quiet hKq hB)
                    have CT_5 := Lib.hid (cs_keeps CT_4.out hKq HCQ.out)
                    clear hKq hB H_4 CT_4
                    go_simp
                    refine hK.out _ _ trivial (fun hHeld => ?_)
                    clear hK KK
                    try simp only [Act.put, List.getElem_toArray, List.getElem_cons_succ, List.getElem_cons_zero, List.setIfInBounds_toArray, List.set_cons_zero, List.set_cons_succ]
                    refine wpAnyH_ready (rs := [3]) (by kernel_rfl) (by simp) ?_
                    refine AllReadyH.cons rfl (fun KK hK => ?_) AllReadyH.nil
                    clear hHeld
                    have ce := (CT_5.out d (by omega)).1
                    simp only [HLN.out] at ce
                    go_simp
                    refine hK.out _ _ trivial (fun hHeld => ?_)
                    clear hK KK ce
                    try simp only [Act.put, List.getElem_toArray, List.getElem_cons_succ, List.getElem_cons_zero, List.setIfInBounds_toArray, List.set_cons_zero, List.set_cons_succ]
                    refine wpAnyH_take (i := 8) (v := ?_) rfl (by kernel_rfl) (by kernel_rfl) (by kernel_rfl) (fun _ _ _ h => h) (Or.inl ⟨by kernel_rfl, ?_⟩) hHeld ?_
                    rotate_left
                    ·intro w hSw
                     (try dsimp only at hSw)
                     go_split_ands
                     go_simp
                     (try with_reducible rfl)
                    try simp only [Act.put, List.getElem_toArray, List.getElem_cons_succ, List.getElem_cons_zero, List.setIfInBounds_toArray, List.set_cons_zero, List.set_cons_succ]
                    refine wpAnyH_take (i := 9) (v := ?_) rfl (by kernel_rfl) (by kernel_rfl) (by kernel_rfl) (fun _ _ _ h => h) (Or.inl ⟨by kernel_rfl, ?_⟩) hHeld ?_
                    rotate_left
                    ·intro w hSw
                     (try dsimp only at hSw)
                     go_split_ands
                     go_simp
                     (try with_reducible rfl)
                    try simp only [Act.put, List.getElem_toArray, List.getElem_cons_succ, List.getElem_cons_zero, List.setIfInBounds_toArray, List.set_cons_zero, List.set_cons_succ]
                    refine wpAnyH_done (by kernel_rfl) ?_ _
                    clear hHeld
                    (try go_wp2_with fail)
                    go_meet
                    exact ⟨rfl, H_5⟩
                case rest =>
                 clear H_2
                 obtain ⟨rfl, H_0⟩ := hcut
                 as_aux_lemma =>
                  clear wn
                  go_wp2_with fail
                  refine (rok_any Q a3 (0 + 1) (bs (Bts.allB L)) (qx x B7 B8 vo vt) _ H_0.out.bk).mono ?_
                  rintro r w9 ⟨rfl, h9⟩
                  have h9s := h9.symm
                  clear h9
                  subst h9s
                  rw [show decide ((0 + 1) = 0) = false from decide_eq_false (by omega)]
                  go_wp2_with fail
                  refine wp_world (fun wz => Ext wc wz) (Ext.refl _) ?_
                  rintro w_13 hX
                  have H_1 := Lib.hid (H_0.out.ext hX)
                  clear H_0
                  clear hX
                  refine wp_regionQ (by kernel_rfl) (by kernel_rfl) ?_
                  have hdk : decide ((0 + 1) = 0) = false := decide_eq_false (by omega)
                  refine wpQ_yes (by kernel_rfl) (fun K hK => ?_)
                  go_simp
                  refine hK _ ?_
                  clear hK K
                  refine wpQ_yes (by kernel_rfl) (fun K hK => ?_)
                  go_simp
                  refine ⟨_, (rok_any Q a3 (0 + 1) (bs (Bts.allB L)) (qx x B7 B8 vo vt) _ H_1.out.bk.drew), hK _ ?_⟩
                  clear hK K
                  refine wpQ_yes (by kernel_rfl) (fun K hK => ?_)
                  go_simp
                  refine hK _ ?_
                  clear hK K
                  refine wpQ_no (by kernel_rfl) ?_
                  try simp only [Act.put, List.getElem_toArray, List.getElem_cons_succ, List.getElem_cons_zero, List.setIfInBounds_toArray, List.set_cons_zero, List.set_cons_succ]
                  refine wpQ_no (by kernel_rfl) ?_
                  try simp only [Act.put, List.getElem_toArray, List.getElem_cons_succ, List.getElem_cons_zero, List.setIfInBounds_toArray, List.set_cons_zero, List.set_cons_succ]
                  refine wpQ_no (by kernel_rfl) ?_
                  try simp only [Act.put, List.getElem_toArray, List.getElem_cons_succ, List.getElem_cons_zero, List.setIfInBounds_toArray, List.set_cons_zero, List.set_cons_succ]
                  refine wpQ_no (by kernel_rfl) ?_
                  try simp only [Act.put, List.getElem_toArray, List.getElem_cons_succ, List.getElem_cons_zero, List.setIfInBounds_toArray, List.set_cons_zero, List.set_cons_succ]
                  refine wpQ_no (by kernel_rfl) ?_
                  try simp only [Act.put, List.getElem_toArray, List.getElem_cons_succ, List.getElem_cons_zero, List.setIfInBounds_toArray, List.set_cons_zero, List.set_cons_succ]
                  refine wpQ_no (by kernel_rfl) ?_
                  try simp only [Act.put, List.getElem_toArray, List.getElem_cons_succ, List.getElem_cons_zero, List.setIfInBounds_toArray, List.set_cons_zero, List.set_cons_succ]
                  refine wpQ_no (by kernel_rfl) ?_
                  try simp only [Act.put, List.getElem_toArray, List.getElem_cons_succ, List.getElem_cons_zero, List.setIfInBounds_toArray, List.set_cons_zero, List.set_cons_succ]
                  refine wpQ_no (by kernel_rfl) ?_
                  try simp only [Act.put, List.getElem_toArray, List.getElem_cons_succ, List.getElem_cons_zero, List.setIfInBounds_toArray, List.set_cons_zero, List.set_cons_succ]
                  refine wpQ_no (by kernel_rfl) ?_
                  try simp only [Act.put, List.getElem_toArray, List.getElem_cons_succ, List.getElem_cons_zero, List.setIfInBounds_toArray, List.set_cons_zero, List.set_cons_succ]
                  refine wpQ_no (by kernel_rfl) ?_
                  try simp only [Act.put, List.getElem_toArray, List.getElem_cons_succ, List.getElem_cons_zero, List.setIfInBounds_toArray, List.set_cons_zero, List.set_cons_succ]
                  refine wpQ_no (by kernel_rfl) ?_
                  try simp only [Act.put, List.getElem_toArray, List.getElem_cons_succ, List.getElem_cons_zero, List.setIfInBounds_toArray, List.set_cons_zero, List.set_cons_succ]
                  refine wpQ_no (by kernel_rfl) ?_
                  try simp only [Act.put, List.getElem_toArray, List.getElem_cons_succ, List.getElem_cons_zero, List.setIfInBounds_toArray, List.set_cons_zero, List.set_cons_succ]
                  refine wpQ_yes (by kernel_rfl) (fun K hK => ?_)
                  go_simp
                  refine hK _ ?_
                  clear hK K
                  refine wpQ_nil ?_
                  clear hdk
                  have H_2 := Lib.hid (H_1.out.ext (show Ext w_13 w_13.drew from Below.drew (Ext.refl _)))
                  clear H_1
                  obtain ⟨Lo, hLo⟩ : ∃ Lo, out.length = Lo := ⟨_, rfl⟩
                  have HL := Lib.hid hLo
                  have hro := H_2.out.row
                  rw [hLo] at hro
                  obtain ⟨xo, co, rfl⟩ := lit_row hro
                  have HLo : Hid (Lo ≤ most) := Lib.hid (by rw [← hLo]; exact HB.out.2.1)
                  clear hLo hro
                  go_wp2_with fail
                  go_loopw [10] (fun cz wr => cz = .int .i64 0 ∧ Hid (WGo w wr Q B7 B8 (bs (Bts.allB L)) a3 (0 + 1) x v0 t0 (.slice xo Lo co) vt out (tks0 ++ Inf.tksOf tr) (Inf.upd (Inf.use7 tr) (kk + 257) (z + 1)) (Inf.upd (Inf.use8 tr) d (u + 1)))) (fun _ _ => 0)
                  case atStart => exact ⟨rfl, H_2⟩
                  case round =>
                   clear H_2
                   obtain ⟨rfl, H_2⟩ := hrel
                   have t8 : decide ((0 : Int) < (n : Int)) = true := decide_eq_true (by omega)
                   have n8 : 0 < n := by omega
                   go_wp2_with fail
                   refine (rok_any Q a3 (0 + 1) (bs (Bts.allB L)) (qx x B7 B8 (.slice xo Lo co) vt) _ H_2.out.bk).mono ?_
                   rintro r w9 ⟨rfl, h9⟩
                   have h9s := h9.symm
                   clear h9
                   subst h9s
                   rw [show decide ((0 + 1) = 0) = false from decide_eq_false (by omega)]
                   clear t8 n8
                   go_upto_region 30 with fail
                   obtain ⟨M, hM⟩ : ∃ M, (tks0 ++ Inf.tksOf tr).length = M := ⟨_, rfl⟩
                   have HM := Lib.hid hM
                   have hMb : M ≤ 5000000 := by rw [← hM, List.length_append]; have := Inf.tksOf_len tr; omega
                   have hrt := H_2.out.trow
                   rw [hM] at hrt
                   obtain ⟨xt, ct, rfl⟩ := lit_row hrt
                   clear hM hrt
                   have hrt := H_2.out.trow
                   rw [HM.out] at hrt
                   have HRT := Lib.hid hrt
                   clear hrt
                   have c11 : wr.cell? ⟨Q, 11, none⟩ = some (.slice xt M ct) := H_2.out.bk.cell 11
                   go_wp2_with (at_builtin; refine wpList_append_own_at _ rfl _ _ 32 rfl 0 84 j0 _ 3 24 Tryd.underlying32 hj0 hy0 hy1 hy2 rfl (by decide) _ _ _ rfl (HRT.out.alloc _) ⟨wr.heap.size, 0, none⟩ 1 1 [.int .u8 0, .int .i64 (n : Int), .int .i64 (dl : Int)] rfl rfl ?t1 ?t2 ?t3 ?t4 ?t5 ?_)
                   case t1 =>
                    intro j u hu
                    rw [add_plain]
                    exact (Bk.at (w := wr) rfl).cell j |>.trans (by simpa using hu)
                   case t2 => intro u hu; simp only [List.mem_cons, List.not_mem_nil, or_false] at hu; rcases hu with hu | hu | hu <;> (subst hu; rfl)
                   case t3 => unfold maxLen; omega
                   case t4 => omega
                   case t5 => exact Nat.zero_le _
                   intro v7 w7 hown hgrow _ hat
                   obtain ⟨x7, c7, rfl⟩ := lit_row hown
                   have P := H_2.out.tok (t := ⟨0, (n : Int), (dl : Int)⟩) HM.out ((Ext.refl _).alloc _) hgrow (by exact hown) (by rcases hat with q | q; exact .inl q; exact .inr (by rw [q]; simp))
                   have b1 : w7.cell? ⟨Q, 11, none⟩ = some (.slice xt M ct) := P.1.cell 11
                   have fb := P.1.frozen 11
                   have HP := Lib.hid P.2
                   clear P hown hgrow hat c11 HRT
                   go_wp2_with fail
                   go_roundg 0
                   case measure => have := HF0.out; have := HK.out; omega
                   case rel => exact ⟨a3, _, 0, _, _, _, [], _, _, _, HP, Lib.hid (.inr ⟨0, rfl, HQ.out, rfl⟩), Lib.hid rfl⟩
               | ok q =>
                obtain ⟨y2, a4⟩ := q
                obtain ⟨z1, z2, z3, z4⟩ := Inf.get_ok hy
                clear z4
                have hy8 : y2 < 8192 := Nat.lt_of_lt_of_le z3 (Nat.pow_le_pow_right (n := 2) (by decide) hdb13)
                have hal4 : a4 ≤ 8 * L.length := by omega
                have HA4 : Hid (a3 ≤ a4) := Lib.hid (by omega)
                clear z1 z2 z3
                have HY := Lib.hid hy
                have HGT := Lib.hid hy
                clear hy
                obtain ⟨bk, hbk⟩ : ∃ bk : Nat, dl + y2 = bk := ⟨_, rfl⟩
                have hbI : (dl : Int) + (y2 : Int) = (bk : Int) := by omega
                have wn : ∀ z, z = (bk : Int) → IntKind.i64.wrap z = z := by rintro _ rfl; rw [IntKind.wrap_i64]; omega
                have hbk2 : 1 ≤ bk ∧ bk ≤ 40000 := by omega
                have HBK := Lib.hid hbk
                clear hbk
                go_cut [9] (fun s9 wx => s9 = .int .i64 (bk : Int) ∧ Hid (WGo w wx Q B7 B8 (bs (Bts.allB L)) a4 0 x v0 t0 vo vt out (tks0 ++ Inf.tksOf tr) (Inf.upd (Inf.use7 tr) (kk + 257) (z + 1)) (Inf.upd (Inf.use8 tr) d (u + 1))))
                case first =>
                 as_aux_lemma =>
                  refine wp_region_held_drew (S := fun w' => True) (by kernel_rfl) trivial (fun hHeld => ?_)
                  clear hHeld
                  refine anyH_world (fun wz => Ext w_12 wz) (show Ext w_12 w_12.drew from Below.drew (Ext.refl w_12)) ?_
                  rintro w3 h
                  have H_3 := Lib.hid (H_2.out.ext h)
                  clear h H_2
                  have hHeld : True := trivial
                  refine wpAnyH_take (i := 1) (v := ?_) rfl (by kernel_rfl) (by kernel_rfl) (by kernel_rfl) (fun _ _ _ h => h) (Or.inl ⟨by kernel_rfl, ?_⟩) hHeld ?_
                  rotate_left
                  ·intro w hSw
                   (try dsimp only at hSw)
                   go_split_ands
                   go_simp
                   (try with_reducible rfl)
                  try simp only [Act.put, List.getElem_toArray, List.getElem_cons_succ, List.getElem_cons_zero, List.setIfInBounds_toArray, List.set_cons_zero, List.set_cons_succ]
                  refine wpAnyH_take (i := 4) (v := ?_) rfl (by kernel_rfl) (by kernel_rfl) (by kernel_rfl) (fun _ _ _ h => h) (Or.inl ⟨by kernel_rfl, ?_⟩) hHeld ?_
                  rotate_left
                  ·intro w hSw
                   (try dsimp only at hSw)
                   go_split_ands
                   go_simp
                   (try with_reducible rfl)
                  try simp only [Act.put, List.getElem_toArray, List.getElem_cons_succ, List.getElem_cons_zero, List.setIfInBounds_toArray, List.set_cons_zero, List.set_cons_succ]
                  refine wpAnyH_take (i := 5) (v := ?_) rfl (by kernel_rfl) (by kernel_rfl) (by kernel_rfl) (fun _ _ _ h => h) (Or.inl ⟨by kernel_rfl, ?_⟩) hHeld ?_
                  rotate_left
                  ·intro w hSw
                   (try dsimp only at hSw)
                   go_split_ands
                   go_simp
                   (try with_reducible rfl)
                  try simp only [Act.put, List.getElem_toArray, List.getElem_cons_succ, List.getElem_cons_zero, List.setIfInBounds_toArray, List.set_cons_zero, List.set_cons_succ]
                  refine wpAnyH_ready (rs := [0]) (by kernel_rfl) (by simp) ?_
                  refine AllReadyH.cons rfl (fun KK hK => ?_) AllReadyH.nil
                  clear hHeld
                  go_simp
                  refine (qdists_any _).mono ?_
                  rintro r w4 ⟨C, rfl, hge, hcs, hE⟩
                  have H_4 := Lib.hid (H_3.out.ext hE)
                  have HCQ : Hid (C ≠ Q) := Lib.hid (by have := H_3.out.bk.lt; omega)
                  have CT_4 := Lib.hid hcs
                  clear hge hcs hE H_3
                  go_simp
                  refine hK.out _ _ trivial (fun hHeld => ?_)
                  clear hK KK
                  try simp only [Act.put, List.getElem_toArray, List.getElem_cons_succ, List.getElem_cons_zero, List.setIfInBounds_toArray, List.set_cons_zero, List.set_cons_succ]
                  refine wpAnyH_take (i := 2) (v := ?_) rfl (by kernel_rfl) (by kernel_rfl) (by kernel_rfl) (fun _ _ _ h => h) (Or.inl ⟨by kernel_rfl, ?_⟩) hHeld ?_
                  rotate_left
                  ·intro w hSw
                   (try dsimp only at hSw)
                   go_split_ands
                   go_simp
                   (try with_reducible rfl)
                  try simp only [Act.put, List.getElem_toArray, List.getElem_cons_succ, List.getElem_cons_zero, List.setIfInBounds_toArray, List.set_cons_zero, List.set_cons_succ]
                  refine wpAnyH_ready (rs := [3, 6]) (by kernel_rfl) (by simp) ?_
                  refine AllReadyH.cons rfl (fun KK hK => ?_) (AllReadyH.cons rfl (fun KK hK => ?_) AllReadyH.nil)
                  ·clear hHeld
                   have ce := (CT_4.out d (by omega)).1
                   simp only [HLN.out] at ce
                   go_simp
                   refine hK.out _ _ trivial (fun hHeld => ?_)
                   clear hK KK ce
                   try simp only [Act.put, List.getElem_toArray, List.getElem_cons_succ, List.getElem_cons_zero, List.setIfInBounds_toArray, List.set_cons_zero, List.set_cons_succ]
                   refine wpAnyH_ready (rs := [6]) (by kernel_rfl) (by simp) ?_
                   refine AllReadyH.cons rfl (fun KK hK => ?_) AllReadyH.nil
                   clear hHeld
                   go_simp
                   refine (HBt.out _).mono ?_
                   rintro r _ ⟨rfl, rfl⟩
                   go_simp
                   refine hK.out _ _ trivial (fun hHeld => ?_)
                   clear hK KK
                   try simp only [Act.put, List.getElem_toArray, List.getElem_cons_succ, List.getElem_cons_zero, List.setIfInBounds_toArray, List.set_cons_zero, List.set_cons_succ]
                   refine wpAnyH_ready (rs := [7]) (by kernel_rfl) (by simp) ?_
                   refine AllReadyH.cons rfl (fun KK hK => ?_) AllReadyH.nil
                   clear hHeld
                   go_simp
                   refine (qget_any Q a3 0 db L (qx x B7 B8 vo vt) _ H_4.out.bk (by omega) (by omega) hL).mono ?_
                   rintro r w5 ⟨hKq, hP⟩
                   rw [if_pos rfl, HGT.out] at hP
                   obtain ⟨rfl, hB⟩ := hP
                   have H_5 := Lib.hid (H_4.out.quiet hKq hB)
                   have CT_5 := Lib.hid (cs_keeps CT_4.out hKq HCQ.out)
                   clear hKq hB H_4 CT_4
                   go_simp
                   refine hK.out _ _ trivial (fun hHeld => ?_)
                   clear hK KK
                   try simp only [Act.put, List.getElem_toArray, List.getElem_cons_succ, List.getElem_cons_zero, List.setIfInBounds_toArray, List.set_cons_zero, List.set_cons_succ]
                   refine wpAnyH_take (i := 8) (v := ?_) rfl (by kernel_rfl) (by kernel_rfl) (by kernel_rfl) (fun _ _ _ h => h) (Or.inl ⟨by kernel_rfl, ?_⟩) hHeld ?_
                   rotate_left
                   ·intro w hSw
                    (try dsimp only at hSw)
                    go_split_ands
                    go_simp
                    (try with_reducible rfl)
                   try simp only [Act.put, List.getElem_toArray, List.getElem_cons_succ, List.getElem_cons_zero, List.setIfInBounds_toArray, List.set_cons_zero, List.set_cons_succ]
                   refine wpAnyH_take (i := 9) (v := ?_) rfl (by kernel_rfl) (by kernel_rfl) (by kernel_rfl) (fun _ _ _ h => h) (Or.inl ⟨by kernel_rfl, ?_⟩) hHeld ?_
                   rotate_left
                   ·intro w hSw
                    (try dsimp only at hSw)
                    go_split_ands
                    go_simp
                    (try with_reducible rfl)
                   try simp only [Act.put, List.getElem_toArray, List.getElem_cons_succ, List.getElem_cons_zero, List.setIfInBounds_toArray, List.set_cons_zero, List.set_cons_succ]
                   refine wpAnyH_done (by kernel_rfl) ?_ _
                   clear hHeld
                   (try go_wp2_with fail)
                   go_meet
                   exact ⟨rfl, H_5⟩
                  ·clear hHeld
                   go_simp
                   refine (HBt.out _).mono ?_
                   rintro r _ ⟨rfl, rfl⟩
                   go_simp
                   refine hK.out _ _ trivial (fun hHeld => ?_)
                   clear hK KK
                   try simp only [Act.put, List.getElem_toArray, List.getElem_cons_succ, List.getElem_cons_zero, List.setIfInBounds_toArray, List.set_cons_zero, List.set_cons_succ]
                   refine wpAnyH_ready (rs := [3, 7]) (by kernel_rfl) (by simp) ?_
                   refine AllReadyH.cons rfl (fun KK hK => ?_) (AllReadyH.cons rfl (fun KK hK => ?_) AllReadyH.nil)
                   ·clear hHeld
                    have ce := (CT_4.out d (by omega)).1
                    simp only [HLN.out] at ce
                    go_simp
                    refine hK.out _ _ trivial (fun hHeld => ?_)
                    clear hK KK ce
                    try simp only [Act.put, List.getElem_toArray, List.getElem_cons_succ, List.getElem_cons_zero, List.setIfInBounds_toArray, List.set_cons_zero, List.set_cons_succ]
                    refine wpAnyH_ready (rs := [7]) (by kernel_rfl) (by simp) ?_
                    refine AllReadyH.cons rfl (fun KK hK => ?_) AllReadyH.nil
                    clear hHeld
                    go_simp
                    refine (qget_any Q a3 0 db L (qx x B7 B8 vo vt) _ H_4.out.bk (by omega) (by omega) hL).mono ?_
                    rintro r w5 ⟨hKq, hP⟩
                    rw [if_pos rfl, HGT.out] at hP
                    obtain ⟨rfl, hB⟩ := hP
                    have H_5 := Lib.hid (H_4.out.quiet hKq hB)
                    have CT_5 := Lib.hid (cs_keeps CT_4.out hKq HCQ.out)
                    clear hKq hB H_4 CT_4
                    go_simp
                    refine hK.out _ _ trivial (fun hHeld => ?_)
                    clear hK KK
                    try simp only [Act.put, List.getElem_toArray, List.getElem_cons_succ, List.getElem_cons_zero, List.setIfInBounds_toArray, List.set_cons_zero, List.set_cons_succ]
                    refine wpAnyH_take (i := 8) (v := ?_) rfl (by kernel_rfl) (by kernel_rfl) (by kernel_rfl) (fun _ _ _ h => h) (Or.inl ⟨by kernel_rfl, ?_⟩) hHeld ?_
                    rotate_left
                    ·intro w hSw
                     (try dsimp only at hSw)
                     go_split_ands
                     go_simp
                     (try with_reducible rfl)
                    try simp only [Act.put, List.getElem_toArray, List.getElem_cons_succ, List.getElem_cons_zero, List.setIfInBounds_toArray, List.set_cons_zero, List.set_cons_succ]
                    refine wpAnyH_take (i := 9) (v := ?_) rfl (by kernel_rfl) (by kernel_rfl) (by kernel_rfl) (fun _ _ _ h => h) (Or.inl ⟨by kernel_rfl, ?_⟩) hHeld ?_
                    rotate_left
                    ·intro w hSw
                     (try dsimp only at hSw)
                     go_split_ands
                     go_simp
                     (try with_reducible rfl)
                    try simp only [Act.put, List.getElem_toArray, List.getElem_cons_succ, List.getElem_cons_zero, List.setIfInBounds_toArray, List.set_cons_zero, List.set_cons_succ]
                    refine wpAnyH_done (by kernel_rfl) ?_ _
                    clear hHeld
                    (try go_wp2_with fail)
                    go_meet
                    exact ⟨rfl, H_5⟩
                   ·clear hHeld
                    go_simp
                    refine (qget_any Q a3 0 db L (qx x B7 B8 vo vt) _ H_4.out.bk (by omega) (by omega) hL).mono ?_
                    rintro r w5 ⟨hKq, hP⟩
                    rw [if_pos rfl, HGT.out] at hP
                    obtain ⟨rfl, hB⟩ := hP
                    have H_5 := Lib.hid (H_4.out.quiet hKq hB)
                    have CT_5 := Lib.hid (cs_keeps CT_4.out hKq HCQ.out)
                    clear hKq hB H_4 CT_4
                    go_simp
                    refine hK.out _ _ trivial (fun hHeld => ?_)
                    clear hK KK
                    try simp only [Act.put, List.getElem_toArray, List.getElem_cons_succ, List.getElem_cons_zero, List.setIfInBounds_toArray, List.set_cons_zero, List.set_cons_succ]
                    refine wpAnyH_ready (rs := [3]) (by kernel_rfl) (by simp) ?_
                    refine AllReadyH.cons rfl (fun KK hK => ?_) AllReadyH.nil
                    clear hHeld
                    have ce := (CT_5.out d (by omega)).1
                    simp only [HLN.out] at ce
                    go_simp
                    refine hK.out _ _ trivial (fun hHeld => ?_)
                    clear hK KK ce
                    try simp only [Act.put, List.getElem_toArray, List.getElem_cons_succ, List.getElem_cons_zero, List.setIfInBounds_toArray, List.set_cons_zero, List.set_cons_succ]
                    refine wpAnyH_take (i := 8) (v := ?_) rfl (by kernel_rfl) (by kernel_rfl) (by kernel_rfl) (fun _ _ _ h => h) (Or.inl ⟨by kernel_rfl, ?_⟩) hHeld ?_
                    rotate_left
                    ·intro w hSw
                     (try dsimp only at hSw)
                     go_split_ands
                     go_simp
                     (try with_reducible rfl)
                    try simp only [Act.put, List.getElem_toArray, List.getElem_cons_succ, List.getElem_cons_zero, List.setIfInBounds_toArray, List.set_cons_zero, List.set_cons_succ]
                    refine wpAnyH_take (i := 9) (v := ?_) rfl (by kernel_rfl) (by kernel_rfl) (by kernel_rfl) (fun _ _ _ h => h) (Or.inl ⟨by kernel_rfl, ?_⟩) hHeld ?_
                    rotate_left
                    ·intro w hSw
                     (try dsimp only at hSw)
                     go_split_ands
                     go_simp
                     (try with_reducible rfl)
                    try simp only [Act.put, List.getElem_toArray, List.getElem_cons_succ, List.getElem_cons_zero, List.setIfInBounds_toArray, List.set_cons_zero, List.set_cons_succ]
                    refine wpAnyH_done (by kernel_rfl) ?_ _
                    clear hHeld
                    (try go_wp2_with fail)
                    go_meet
                    exact ⟨rfl, H_5⟩
                case rest =>
                 clear H_2
                 obtain ⟨rfl, H_0⟩ := hcut
                 as_aux_lemma =>
                  clear wn hbI HGT
                  go_wp2_with fail
                  refine (rok_any Q a4 0 (bs (Bts.allB L)) (qx x B7 B8 vo vt) _ H_0.out.bk).mono ?_
                  rintro r w9 ⟨rfl, h9⟩
                  have h9s := h9.symm
                  clear h9
                  subst h9s
                  rw [show decide (0 = 0) = true from rfl]
                  obtain ⟨Lo, hLo⟩ : ∃ Lo, out.length = Lo := ⟨_, rfl⟩
                  have HL := Lib.hid hLo
                  have hro := H_0.out.row
                  rw [hLo] at hro
                  obtain ⟨xo, co, rfl⟩ := lit_row hro
                  have HLo : Hid (Lo ≤ most) := Lib.hid (by rw [← hLo]; exact HB.out.2.1)
                  clear hLo hro
                  have c2 : wc.cell? ⟨Q, 2, none⟩ = some (.slice xo Lo co) := H_0.out.bk.cell 2
                  by_cases hbo : Lo < bk
                  ·as_aux_lemma =>
                    have t3 : decide ((Lo : Int) < (bk : Int)) = true := decide_eq_true (by omega)
                    have HQ := Lib.hid (Inf.toks_e2 HF0.out HT.out HN.out HKN.out (HTF.out.trans (Inf.far_back (by omega) (by rw [HDB.out]; exact HY.out) (by rw [HL.out, HLN.out, HBK.out]; exact hbo))))
                    go_wp2_with fail
                    clear t3 c2
                    refine (rfail_any Q a4 0 1 (bs (Bts.allB L)) (qx x B7 B8 (.slice xo Lo co) vt) _ H_0.out.bk).mono ?_
                    rintro r w_14 ⟨rfl, hB, hK⟩
                    rw [show fl 0 1 = 1 from rfl] at hB
                    have H_1 := Lib.hid (H_0.out.quiet hK hB)
                    clear H_0
                    clear hK hB
                    go_wp2_with fail
                    refine wp_regionQ (by kernel_rfl) (by kernel_rfl) ?_
                    have hdk : decide (1 = 0) = false := decide_eq_false (by omega)
                    refine wpQ_yes (by kernel_rfl) (fun K hK => ?_)
                    go_simp
                    refine hK _ ?_
                    clear hK K
                    refine wpQ_yes (by kernel_rfl) (fun K hK => ?_)
                    go_simp
                    refine ⟨_, (rok_any Q a4 1 (bs (Bts.allB L)) (qx x B7 B8 (.slice xo Lo co) vt) _ H_1.out.bk.drew), hK _ ?_⟩
                    clear hK K
                    refine wpQ_yes (by kernel_rfl) (fun K hK => ?_)
                    go_simp
                    refine hK _ ?_
                    clear hK K
                    refine wpQ_no (by kernel_rfl) ?_
                    try simp only [Act.put, List.getElem_toArray, List.getElem_cons_succ, List.getElem_cons_zero, List.setIfInBounds_toArray, List.set_cons_zero, List.set_cons_succ]
                    refine wpQ_no (by kernel_rfl) ?_
                    try simp only [Act.put, List.getElem_toArray, List.getElem_cons_succ, List.getElem_cons_zero, List.setIfInBounds_toArray, List.set_cons_zero, List.set_cons_succ]
                    refine wpQ_no (by kernel_rfl) ?_
                    try simp only [Act.put, List.getElem_toArray, List.getElem_cons_succ, List.getElem_cons_zero, List.setIfInBounds_toArray, List.set_cons_zero, List.set_cons_succ]
                    refine wpQ_no (by kernel_rfl) ?_
                    try simp only [Act.put, List.getElem_toArray, List.getElem_cons_succ, List.getElem_cons_zero, List.setIfInBounds_toArray, List.set_cons_zero, List.set_cons_succ]
                    refine wpQ_no (by kernel_rfl) ?_
                    try simp only [Act.put, List.getElem_toArray, List.getElem_cons_succ, List.getElem_cons_zero, List.setIfInBounds_toArray, List.set_cons_zero, List.set_cons_succ]
                    refine wpQ_no (by kernel_rfl) ?_
                    try simp only [Act.put, List.getElem_toArray, List.getElem_cons_succ, List.getElem_cons_zero, List.setIfInBounds_toArray, List.set_cons_zero, List.set_cons_succ]
                    refine wpQ_no (by kernel_rfl) ?_
                    try simp only [Act.put, List.getElem_toArray, List.getElem_cons_succ, List.getElem_cons_zero, List.setIfInBounds_toArray, List.set_cons_zero, List.set_cons_succ]
                    refine wpQ_no (by kernel_rfl) ?_
                    try simp only [Act.put, List.getElem_toArray, List.getElem_cons_succ, List.getElem_cons_zero, List.setIfInBounds_toArray, List.set_cons_zero, List.set_cons_succ]
                    refine wpQ_no (by kernel_rfl) ?_
                    try simp only [Act.put, List.getElem_toArray, List.getElem_cons_succ, List.getElem_cons_zero, List.setIfInBounds_toArray, List.set_cons_zero, List.set_cons_succ]
                    refine wpQ_no (by kernel_rfl) ?_
                    try simp only [Act.put, List.getElem_toArray, List.getElem_cons_succ, List.getElem_cons_zero, List.setIfInBounds_toArray, List.set_cons_zero, List.set_cons_succ]
                    refine wpQ_no (by kernel_rfl) ?_
                    try simp only [Act.put, List.getElem_toArray, List.getElem_cons_succ, List.getElem_cons_zero, List.setIfInBounds_toArray, List.set_cons_zero, List.set_cons_succ]
                    refine wpQ_no (by kernel_rfl) ?_
                    try simp only [Act.put, List.getElem_toArray, List.getElem_cons_succ, List.getElem_cons_zero, List.setIfInBounds_toArray, List.set_cons_zero, List.set_cons_succ]
                    refine wpQ_yes (by kernel_rfl) (fun K hK => ?_)
                    go_simp
                    refine hK _ ?_
                    clear hK K
                    refine wpQ_nil ?_
                    clear hdk
                    have H_2 := Lib.hid (H_1.out.ext (show Ext w_14 w_14.drew from Below.drew (Ext.refl _)))
                    clear H_1
                    go_wp2_with fail
                    go_loopw [10] (fun cz wr => cz = .int .i64 0 ∧ Hid (WGo w wr Q B7 B8 (bs (Bts.allB L)) a4 1 x v0 t0 (.slice xo Lo co) vt out (tks0 ++ Inf.tksOf tr) (Inf.upd (Inf.use7 tr) (kk + 257) (z + 1)) (Inf.upd (Inf.use8 tr) d (u + 1)))) (fun _ _ => 0)
                    case atStart => exact ⟨rfl, H_2⟩
                    case round =>
                     clear H_2
                     obtain ⟨rfl, H_2⟩ := hrel
                     have t8 : decide ((0 : Int) < (n : Int)) = true := decide_eq_true (by omega)
                     have n8 : 0 < n := by omega
                     go_wp2_with fail
                     refine (rok_any Q a4 1 (bs (Bts.allB L)) (qx x B7 B8 (.slice xo Lo co) vt) _ H_2.out.bk).mono ?_
                     rintro r w9 ⟨rfl, h9⟩
                     have h9s := h9.symm
                     clear h9
                     subst h9s
                     rw [show decide (1 = 0) = false from decide_eq_false (by omega)]
                     clear t8 n8
                     go_upto_region 30 with fail
                     obtain ⟨M, hM⟩ : ∃ M, (tks0 ++ Inf.tksOf tr).length = M := ⟨_, rfl⟩
                     have HM := Lib.hid hM
                     have hMb : M ≤ 5000000 := by rw [← hM, List.length_append]; have := Inf.tksOf_len tr; omega
                     have hrt := H_2.out.trow
                     rw [hM] at hrt
                     obtain ⟨xt, ct, rfl⟩ := lit_row hrt
                     clear hM hrt
                     have hrt := H_2.out.trow
                     rw [HM.out] at hrt
                     have HRT := Lib.hid hrt
                     clear hrt
                     have c11 : wr.cell? ⟨Q, 11, none⟩ = some (.slice xt M ct) := H_2.out.bk.cell 11
                     go_wp2_with (at_builtin; refine wpList_append_own_at _ rfl _ _ 32 rfl 0 84 j0 _ 3 24 Tryd.underlying32 hj0 hy0 hy1 hy2 rfl (by decide) _ _ _ rfl (HRT.out.alloc _) ⟨wr.heap.size, 0, none⟩ 1 1 [.int .u8 0, .int .i64 (n : Int), .int .i64 (bk : Int)] rfl rfl ?t1 ?t2 ?t3 ?t4 ?t5 ?_)
                     case t1 =>
                      intro j u hu
                      rw [add_plain]
                      exact (Bk.at (w := wr) rfl).cell j |>.trans (by simpa using hu)
                     case t2 => intro u hu; simp only [List.mem_cons, List.not_mem_nil, or_false] at hu; rcases hu with hu | hu | hu <;> (subst hu; rfl)
                     case t3 => unfold maxLen; omega
                     case t4 => omega
                     case t5 => exact Nat.zero_le _
                     intro v7 w7 hown hgrow _ hat
                     obtain ⟨x7, c7, rfl⟩ := lit_row hown
                     have P := H_2.out.tok (t := ⟨0, (n : Int), (bk : Int)⟩) HM.out ((Ext.refl _).alloc _) hgrow (by exact hown) (by rcases hat with q | q; exact .inl q; exact .inr (by rw [q]; simp))
                     have b1 : w7.cell? ⟨Q, 11, none⟩ = some (.slice xt M ct) := P.1.cell 11
                     have fb := P.1.frozen 11
                     have HP := Lib.hid P.2
                     clear P hown hgrow hat c11 HRT
                     go_wp2_with fail
                     go_roundg 0
                     case measure => have := HF0.out; have := HK.out; omega
                     case rel => exact ⟨a4, _, 0, _, _, _, [], _, _, _, HP, Lib.hid (.inr ⟨0, rfl, HQ.out, rfl⟩), Lib.hid rfl⟩
                  ·as_aux_lemma =>
                    have t3 : decide ((Lo : Int) < (bk : Int)) = false := decide_eq_false (by omega)
                    have n3 : ¬ Lo < bk := hbo
                    have HBO := Lib.hid hbo
                    have wl : ∀ z, z = (Lo : Int) + (n : Int) → IntKind.i64.wrap z = z := by rintro _ rfl; have := HLo.out; rw [IntKind.wrap_i64]; omega
                    go_wp2_with fail
                    clear t3 n3 c2
                    refine wp_world (fun wz => Ext wc wz) (Ext.refl _) ?_
                    rintro w_15 hX
                    have H_1 := Lib.hid (H_0.out.ext hX)
                    clear H_0
                    clear hX
                    have c2 : w_15.cell? ⟨Q, 2, none⟩ = some (.slice xo Lo co) := H_1.out.bk.cell 2
                    have c3 : w_15.cell? ⟨Q, 3, none⟩ = some (.int .i64 (most : Int)) := (H_1.out.bk.cell 3).trans (congrArg some HX3.out)
                    by_cases hmo : most < Lo + n
                    ·as_aux_lemma =>
                      have t4 : decide ((most : Int) < (Lo : Int) + (n : Int)) = true := decide_eq_true (by omega)
                      have HQ := Lib.hid (Inf.toks_e2 HF0.out HT.out HN.out HKN.out (HTF.out.trans (Inf.far_most (by omega) (by rw [HDB.out]; exact HY.out) (by rw [HL.out, HLN.out, HBK.out]; exact HBO.out) (by rw [HL.out, Nat.add_sub_cancel, HLNk.out, HNN.out]; exact hmo))))
                      refine wp_regionQ (by kernel_rfl) (by kernel_rfl) ?_
                      have hdk : decide (0 = 0) = true := rfl
                      refine wpQ_yes (by kernel_rfl) (fun K hK => ?_)
                      go_simp
                      refine hK _ ?_
                      clear hK K
                      refine wpQ_yes (by kernel_rfl) (fun K hK => ?_)
                      go_simp
                      refine ⟨_, (rok_any Q a4 0 (bs (Bts.allB L)) (qx x B7 B8 (.slice xo Lo co) vt) _ H_1.out.bk.drew), hK _ ?_⟩
                      clear hK K
                      refine wpQ_yes (by kernel_rfl) (fun K hK => ?_)
                      go_simp
                      refine hK _ ?_
                      clear hK K
                      refine wpQ_yes (by kernel_rfl) (fun K hK => ?_)
                      go_simp
                      refine hK _ ?_
                      clear hK K
                      refine wpQ_yes (by kernel_rfl) (fun K hK => ?_)
                      go_simp
                      refine hK _ ?_
                      clear hK K
                      refine wpQ_yes (by kernel_rfl) (fun K hK => ?_)
                      go_simp
                      refine hK _ ?_
                      clear hK K
                      refine wpQ_yes (by kernel_rfl) (fun K hK => ?_)
                      go_simp
                      refine hK _ ?_
                      clear hK K
                      refine wpQ_yes (by kernel_rfl) (fun K hK => ?_)
                      go_simp
                      refine hK _ ?_
                      clear hK K
                      refine wpQ_yes (by kernel_rfl) (fun K hK => ?_)
                      go_simp
                      refine hK _ ?_
                      clear hK K
                      refine wpQ_yes (by kernel_rfl) (fun K hK => ?_)
                      go_simp
                      refine hK _ ?_
                      clear hK K
                      refine wpQ_yes (by kernel_rfl) (fun K hK => ?_)
                      go_simp
                      refine hK _ ?_
                      clear hK K
                      refine wpQ_yes (by kernel_rfl) (fun K hK => ?_)
                      go_simp
                      refine hK _ ?_
                      clear hK K
                      refine wpQ_yes (by kernel_rfl) (fun K hK => ?_)
                      go_simp
                      refine hK _ ?_
                      clear hK K
                      refine wpQ_yes (by kernel_rfl) (fun K hK => ?_)
                      go_simp
                      refine hK _ ?_
                      clear hK K
                      refine wpQ_yes (by kernel_rfl) (fun K hK => ?_)
                      go_simp
                      refine hK _ ?_
                      clear hK K
                      refine wpQ_yes (by kernel_rfl) (fun K hK => ?_)
                      go_simp
                      refine hK _ ?_
                      clear hK K
                      refine wpQ_nil ?_
                      clear hdk
                      have H_2 := Lib.hid (H_1.out.ext (show Ext w_15 w_15.drew from Below.drew (Ext.refl _)))
                      clear H_1
                      go_wp2_with fail
                      clear t4 wl c2 c3
                      refine (rfail_any Q a4 0 2 (bs (Bts.allB L)) (qx x B7 B8 (.slice xo Lo co) vt) _ H_2.out.bk).mono ?_
                      rintro r w_16 ⟨rfl, hB, hK⟩
                      rw [show fl 0 2 = 2 from rfl] at hB
                      have H_3 := Lib.hid (H_2.out.quiet hK hB)
                      clear H_2
                      clear hK hB
                      go_wp2_with fail
                      go_loopw [10] (fun cz wr => cz = .int .i64 0 ∧ Hid (WGo w wr Q B7 B8 (bs (Bts.allB L)) a4 2 x v0 t0 (.slice xo Lo co) vt out (tks0 ++ Inf.tksOf tr) (Inf.upd (Inf.use7 tr) (kk + 257) (z + 1)) (Inf.upd (Inf.use8 tr) d (u + 1)))) (fun _ _ => 0)
                      case atStart => exact ⟨rfl, H_3⟩
                      case round =>
                       clear H_3
                       obtain ⟨rfl, H_3⟩ := hrel
                       have t8 : decide ((0 : Int) < (n : Int)) = true := decide_eq_true (by omega)
                       have n8 : 0 < n := by omega
                       go_wp2_with fail
                       refine (rok_any Q a4 2 (bs (Bts.allB L)) (qx x B7 B8 (.slice xo Lo co) vt) _ H_3.out.bk).mono ?_
                       rintro r w9 ⟨rfl, h9⟩
                       have h9s := h9.symm
                       clear h9
                       subst h9s
                       rw [show decide (2 = 0) = false from decide_eq_false (by omega)]
                       clear t8 n8
                       go_upto_region 30 with fail
                       obtain ⟨M, hM⟩ : ∃ M, (tks0 ++ Inf.tksOf tr).length = M := ⟨_, rfl⟩
                       have HM := Lib.hid hM
                       have hMb : M ≤ 5000000 := by rw [← hM, List.length_append]; have := Inf.tksOf_len tr; omega
                       have hrt := H_3.out.trow
                       rw [hM] at hrt
                       obtain ⟨xt, ct, rfl⟩ := lit_row hrt
                       clear hM hrt
                       have hrt := H_3.out.trow
                       rw [HM.out] at hrt
                       have HRT := Lib.hid hrt
                       clear hrt
                       have c11 : wr.cell? ⟨Q, 11, none⟩ = some (.slice xt M ct) := H_3.out.bk.cell 11
                       go_wp2_with (at_builtin; refine wpList_append_own_at _ rfl _ _ 32 rfl 0 84 j0 _ 3 24 Tryd.underlying32 hj0 hy0 hy1 hy2 rfl (by decide) _ _ _ rfl (HRT.out.alloc _) ⟨wr.heap.size, 0, none⟩ 1 1 [.int .u8 0, .int .i64 (n : Int), .int .i64 (bk : Int)] rfl rfl ?t1 ?t2 ?t3 ?t4 ?t5 ?_)
                       case t1 =>
                        intro j u hu
                        rw [add_plain]
                        exact (Bk.at (w := wr) rfl).cell j |>.trans (by simpa using hu)
                       case t2 => intro u hu; simp only [List.mem_cons, List.not_mem_nil, or_false] at hu; rcases hu with hu | hu | hu <;> (subst hu; rfl)
                       case t3 => unfold maxLen; omega
                       case t4 => omega
                       case t5 => exact Nat.zero_le _
                       intro v7 w7 hown hgrow _ hat
                       obtain ⟨x7, c7, rfl⟩ := lit_row hown
                       have P := H_3.out.tok (t := ⟨0, (n : Int), (bk : Int)⟩) HM.out ((Ext.refl _).alloc _) hgrow (by exact hown) (by rcases hat with q | q; exact .inl q; exact .inr (by rw [q]; simp))
                       have b1 : w7.cell? ⟨Q, 11, none⟩ = some (.slice xt M ct) := P.1.cell 11
                       have fb := P.1.frozen 11
                       have HP := Lib.hid P.2
                       clear P hown hgrow hat c11 HRT
                       go_wp2_with fail
                       go_roundg 0
                       case measure => have := HF0.out; have := HK.out; omega
                       case rel => exact ⟨a4, _, 0, _, _, _, [], _, _, _, HP, Lib.hid (.inr ⟨1, rfl, HQ.out, rfl⟩), Lib.hid rfl⟩
                    ·as_aux_lemma =>
                      have t4 : decide ((most : Int) < (Lo : Int) + (n : Int)) = false := decide_eq_false (by omega)
                      have HQ := Lib.hid (Inf.toks_go HF0.out HT.out HN.out HKN.out (HTF.out.trans (Inf.far_ok (by omega) (by rw [HDB.out]; exact HY.out) (by rw [HL.out, HLN.out, HBK.out]; exact HBO.out) (by rw [HL.out, Nat.add_sub_cancel, HLNk.out, HNN.out]; exact hmo))))
                      rw [Nat.add_sub_cancel, HLNk.out, HNN.out, HLN.out, HBK.out] at HQ
                      refine wp_regionQ (by kernel_rfl) (by kernel_rfl) ?_
                      have hdk : decide (0 = 0) = true := rfl
                      refine wpQ_yes (by kernel_rfl) (fun K hK => ?_)
                      go_simp
                      refine hK _ ?_
                      clear hK K
                      refine wpQ_yes (by kernel_rfl) (fun K hK => ?_)
                      go_simp
                      refine ⟨_, (rok_any Q a4 0 (bs (Bts.allB L)) (qx x B7 B8 (.slice xo Lo co) vt) _ H_1.out.bk.drew), hK _ ?_⟩
                      clear hK K
                      refine wpQ_yes (by kernel_rfl) (fun K hK => ?_)
                      go_simp
                      refine hK _ ?_
                      clear hK K
                      refine wpQ_yes (by kernel_rfl) (fun K hK => ?_)
                      go_simp
                      refine hK _ ?_
                      clear hK K
                      refine wpQ_yes (by kernel_rfl) (fun K hK => ?_)
                      go_simp
                      refine hK _ ?_
                      clear hK K
                      refine wpQ_yes (by kernel_rfl) (fun K hK => ?_)
                      go_simp
                      refine hK _ ?_
                      clear hK K
                      refine wpQ_yes (by kernel_rfl) (fun K hK => ?_)
                      go_simp
                      refine hK _ ?_
                      clear hK K
                      refine wpQ_yes (by kernel_rfl) (fun K hK => ?_)
                      go_simp
                      refine hK _ ?_
                      clear hK K
                      refine wpQ_yes (by kernel_rfl) (fun K hK => ?_)
                      go_simp
                      refine hK _ ?_
                      clear hK K
                      refine wpQ_yes (by kernel_rfl) (fun K hK => ?_)
                      go_simp
                      refine hK _ ?_
                      clear hK K
                      refine wpQ_yes (by kernel_rfl) (fun K hK => ?_)
                      go_simp
                      refine hK _ ?_
                      clear hK K
                      refine wpQ_yes (by kernel_rfl) (fun K hK => ?_)
                      go_simp
                      refine hK _ ?_
                      clear hK K
                      refine wpQ_yes (by kernel_rfl) (fun K hK => ?_)
                      go_simp
                      refine hK _ ?_
                      clear hK K
                      refine wpQ_yes (by kernel_rfl) (fun K hK => ?_)
                      go_simp
                      refine hK _ ?_
                      clear hK K
                      refine wpQ_yes (by kernel_rfl) (fun K hK => ?_)
                      go_simp
                      refine hK _ ?_
                      clear hK K
                      refine wpQ_yes (by kernel_rfl) (fun K hK => ?_)
                      go_simp
                      refine hK _ ?_
                      clear hK K
                      refine wpQ_nil ?_
                      clear hdk
                      have H_2 := Lib.hid (H_1.out.ext (show Ext w_15 w_15.drew from Below.drew (Ext.refl _)))
                      clear H_1
                      clear t4 wl c2 c3
                      have HBd : Hid (Lo + n ≤ most ∧ bk ≤ Lo ∧ 1 ≤ bk) := Lib.hid ⟨by omega, by omega, by omega⟩
                      clear hmo hbo
                      go_wp2_with fail
                      go_loopw [10] (fun cz wr => ∃ (j : Nat) (v : Value), j ≤ n ∧ cz = .int .i64 j ∧ Hid (WGo w wr Q B7 B8 (bs (Bts.allB L)) a4 0 x v0 t0 v vt (copyL out bk j) (tks0 ++ Inf.tksOf tr) (Inf.upd (Inf.use7 tr) (kk + 257) (z + 1)) (Inf.upd (Inf.use8 tr) d (u + 1)))) (fun cz _ => n - (intOf cz).toNat)
                      case atStart => exact ⟨0, _, by omega, rfl, H_2⟩
                      case round =>
                       clear H_2
                       obtain ⟨j, v, hj, rfl, H_0⟩ := hrel
                       by_cases hjn : j < n
                       ·as_aux_lemma =>
                         obtain ⟨U, hU⟩ : ∃ U, copyL out bk j = U := ⟨_, rfl⟩
                         have HUS : Hid (copyL out bk (j + 1) = U ++ [U.getD (U.length - bk) 0]) := Lib.hid (by simp only [copyL, hU])
                         have hUl : U.length = Lo + j := by rw [← hU, copyL_length, HL.out]
                         rw [hU] at H_0
                         obtain ⟨M, hM⟩ : ∃ M, U.length = M := ⟨_, rfl⟩
                         have hro := H_0.out.row
                         rw [hM] at hro hUl HUS
                         have HM := Lib.hid hM
                         have hBq := HBd.out
                         obtain ⟨gb, cp, rfl, _, _⟩ := ownsRow_some hro (by omega)
                         obtain ⟨y, hy⟩ : ∃ y, U.getD (M - bk) 0 = y := ⟨_, rfl⟩
                         rw [hy] at HUS
                         obtain ⟨q, hq⟩ : ∃ q : Nat, M - bk = q := ⟨_, rfl⟩
                         have hc : wr.cell? ⟨gb, q, none⟩ = some (.int .u8 (y.toNat : Int)) := by
                          have hql : q < U.length := by omega
                          rw [hro.cellAt q (by omega), bytesV_get U q hql, ← hy, hq]
                          simp [List.getD, hql]
                         have hqI : (M : Int) - (bk : Int) = (q : Int) := by omega
                         have wq : ∀ z, z = (q : Int) → IntKind.i64.wrap z = z := by rintro _ rfl; rw [IntKind.wrap_i64]; omega
                         have hqM : q < M := by omega
                         have hM2 : M < 300000 := by omega
                         have hqMI : (q : Int) < (M : Int) := by omega
                         have hq0 : (0 : Int) ≤ (q : Int) := by omega
                         have hqn : ((q : Nat) : Int).toNat = q := by omega
                         have t8 : decide ((j : Int) < (n : Int)) = true := decide_eq_true (by omega)
                         have n8 : j < n := hjn
                         have HO := Lib.hid hro
                         have HC := Lib.hid hc
                         clear hU hy hM hq hUl hBq hc hro
                         go_wp2_with fail
                         refine (rok_any Q a4 0 (bs (Bts.allB L)) (qx x B7 B8 (.slice (some ⟨gb, 0, none⟩) M cp) vt) _ H_0.out.bk).mono ?_
                         rintro r w9 ⟨rfl, h9⟩
                         have h9s := h9.symm
                         clear h9
                         subst h9s
                         rw [show decide (0 = 0) = true from rfl]
                         clear t8 n8
                         go_wp2_with fail
                         have Y_0 := Lib.hid (Ext.refl wr)
                         refine wp_region_held_drew (S := fun w' => True) (by kernel_rfl) trivial (fun hHeld => ?_)
                         clear hHeld
                         refine anyH_world (fun wz => Ext wr wz) (show Ext wr wr.drew from Below.drew (Ext.refl wr)) ?_
                         rintro w1 h
                         have H_1 := Lib.hid (H_0.out.ext h)
                         have Y_1 := Lib.hid (Y_0.out.trans h)
                         clear h H_0 Y_0
                         have hHeld : True := trivial
                         refine wpAnyH_take (i := 0) (v := ?_) rfl (by kernel_rfl) (by kernel_rfl) (by kernel_rfl) (fun _ _ _ h => h) (Or.inl ⟨by kernel_rfl, ?_⟩) hHeld ?_
                         rotate_left
                         ·intro w hSw
                          (try dsimp only at hSw)
                          go_split_ands
                          go_simp
                          (try with_reducible rfl)
                         try simp only [Act.put, List.getElem_toArray, List.getElem_cons_succ, List.getElem_cons_zero, List.setIfInBounds_toArray, List.set_cons_zero, List.set_cons_succ]
                         refine wpAnyH_take (i := 1) (v := ?_) rfl (by kernel_rfl) (by kernel_rfl) (by kernel_rfl) (fun _ _ _ h => h) (Or.inl ⟨by kernel_rfl, ?_⟩) hHeld ?_
                         rotate_left
                         ·intro w hSw
                          (try dsimp only at hSw)
                          go_split_ands
                          go_simp
                          (try with_reducible rfl)
                         try simp only [Act.put, List.getElem_toArray, List.getElem_cons_succ, List.getElem_cons_zero, List.setIfInBounds_toArray, List.set_cons_zero, List.set_cons_succ]
                         refine wpAnyH_take (i := 2) (v := ?_) rfl (by kernel_rfl) (by kernel_rfl) (by kernel_rfl) (fun _ _ _ h => h) (Or.inl ⟨by kernel_rfl, ?_⟩) hHeld ?_
                         rotate_left
                         ·intro w hSw
                          (try dsimp only at hSw)
                          go_split_ands
                          go_simp
                          (try with_reducible rfl)
                         try simp only [Act.put, List.getElem_toArray, List.getElem_cons_succ, List.getElem_cons_zero, List.setIfInBounds_toArray, List.set_cons_zero, List.set_cons_succ]
                         refine wpAnyH_take (i := 3) (v := ?_) rfl (by kernel_rfl) (by kernel_rfl) (by kernel_rfl) (fun _ _ _ h => h) (Or.inl ⟨by kernel_rfl, ?_⟩) hHeld ?_
                         rotate_left
                         ·intro w hSw
                          (try dsimp only at hSw)
                          go_split_ands
                          go_simp
                          (try with_reducible rfl)
                         try simp only [Act.put, List.getElem_toArray, List.getElem_cons_succ, List.getElem_cons_zero, List.setIfInBounds_toArray, List.set_cons_zero, List.set_cons_succ]
                         refine wpAnyH_take (i := 5) (v := ?_) rfl (by kernel_rfl) (by kernel_rfl) (by kernel_rfl) (fun _ _ _ h => h) (Or.inl ⟨by kernel_rfl, ?_⟩) hHeld ?_
                         rotate_left
                         ·intro w hSw
                          (try dsimp only at hSw)
                          go_split_ands
                          go_simp
                          (try with_reducible rfl)
                         try simp only [Act.put, List.getElem_toArray, List.getElem_cons_succ, List.getElem_cons_zero, List.setIfInBounds_toArray, List.set_cons_zero, List.set_cons_succ]
                         refine wpAnyH_take (i := 6) (v := ?_) rfl (by kernel_rfl) (by kernel_rfl) (by kernel_rfl) (fun _ _ _ h => h) (Or.inl ⟨by kernel_rfl, ?_⟩) hHeld ?_
                         rotate_left
                         ·intro w hSw
                          (try dsimp only at hSw)
                          go_split_ands
                          go_simp
                          (try with_reducible rfl)
                         try simp only [Act.put, List.getElem_toArray, List.getElem_cons_succ, List.getElem_cons_zero, List.setIfInBounds_toArray, List.set_cons_zero, List.set_cons_succ]
                         refine wpAnyH_take (i := 7) (v := ?_) rfl (by kernel_rfl) (by kernel_rfl) (by kernel_rfl) (fun _ _ _ h => h) (Or.inl ⟨by kernel_rfl, ?_⟩) hHeld ?_
                         rotate_left
                         ·intro w hSw
                          (try dsimp only at hSw)
                          go_split_ands
                          go_simp
                          (try with_reducible rfl)
                         try simp only [Act.put, List.getElem_toArray, List.getElem_cons_succ, List.getElem_cons_zero, List.setIfInBounds_toArray, List.set_cons_zero, List.set_cons_succ]
                         refine wpAnyH_take (i := 9) (v := ?_) rfl (by kernel_rfl) (by kernel_rfl) (by kernel_rfl) (fun _ _ _ h => h) (Or.inl ⟨by kernel_rfl, ?_⟩) hHeld ?_
                         rotate_left
                         ·intro w hSw
                          (try dsimp only at hSw)
                          go_split_ands
                          go_simp
                          (try with_reducible rfl)
                         try simp only [Act.put, List.getElem_toArray, List.getElem_cons_succ, List.getElem_cons_zero, List.setIfInBounds_toArray, List.set_cons_zero, List.set_cons_succ]
                         refine wpAnyH_take (i := 10) (v := ?_) rfl (by kernel_rfl) (by kernel_rfl) (by kernel_rfl) (fun _ _ _ h => h) (Or.inl ⟨by kernel_rfl, ?_⟩) hHeld ?_
                         rotate_left
                         ·intro w hSw
                          (try dsimp only at hSw)
                          go_split_ands
                          go_simp
                          (try with_reducible rfl)
                         try simp only [Act.put, List.getElem_toArray, List.getElem_cons_succ, List.getElem_cons_zero, List.setIfInBounds_toArray, List.set_cons_zero, List.set_cons_succ]
                         refine wpAnyH_take (i := 11) (v := ?_) rfl (by kernel_rfl) (by kernel_rfl) (by kernel_rfl) (fun _ _ _ h => h) (Or.inl ⟨by kernel_rfl, ?_⟩) hHeld ?_
                         rotate_left
                         ·intro w hSw
                          (try dsimp only at hSw)
                          go_split_ands
                          go_simp
                          (try with_reducible rfl)
                         try simp only [Act.put, List.getElem_toArray, List.getElem_cons_succ, List.getElem_cons_zero, List.setIfInBounds_toArray, List.set_cons_zero, List.set_cons_succ]
                         refine wpAnyH_take (i := 14) (v := ?_) rfl (by kernel_rfl) (by kernel_rfl) (by kernel_rfl) (fun _ _ _ h => h) (Or.inl ⟨by kernel_rfl, ?_⟩) hHeld ?_
                         rotate_left
                         ·intro w hSw
                          (try dsimp only at hSw)
                          go_split_ands
                          go_simp
                          (try with_reducible rfl)
                         try simp only [Act.put, List.getElem_toArray, List.getElem_cons_succ, List.getElem_cons_zero, List.setIfInBounds_toArray, List.set_cons_zero, List.set_cons_succ]
                         refine wpAnyH_ready (rs := [4, 8, 12]) (by kernel_rfl) (by simp) ?_
                         refine AllReadyH.cons rfl (fun KK hK => ?_) (AllReadyH.cons rfl (fun KK hK => ?_) (AllReadyH.cons rfl (fun KK hK => ?_) AllReadyH.nil))
                         ·clear hHeld
                          have k1 : w1.cell? ⟨Q, 2, none⟩ = some (.slice (some ⟨gb, 0, none⟩) M cp) := H_1.out.bk.cell 2
                          go_simp
                          refine hK.out _ _ trivial (fun hHeld => ?_)
                          clear hK KK k1
                          try simp only [Act.put, List.getElem_toArray, List.getElem_cons_succ, List.getElem_cons_zero, List.setIfInBounds_toArray, List.set_cons_zero, List.set_cons_succ]
                          refine wpAnyH_ready (rs := [8, 12]) (by kernel_rfl) (by simp) ?_
                          refine AllReadyH.cons rfl (fun KK hK => ?_) (AllReadyH.cons rfl (fun KK hK => ?_) AllReadyH.nil)
                          ·clear hHeld
                           have k1 : w1.cell? ⟨Q, 2, none⟩ = some (.slice (some ⟨gb, 0, none⟩) M cp) := H_1.out.bk.cell 2
                           go_simp
                           refine hK.out _ _ trivial (fun hHeld => ?_)
                           clear hK KK k1
                           try simp only [Act.put, List.getElem_toArray, List.getElem_cons_succ, List.getElem_cons_zero, List.setIfInBounds_toArray, List.set_cons_zero, List.set_cons_succ]
                           refine wpAnyH_ready (rs := [12]) (by kernel_rfl) (by simp) ?_
                           refine AllReadyH.cons rfl (fun KK hK => ?_) AllReadyH.nil
                           clear hHeld
                           have k1 : w1.cell? ⟨Q, 2, none⟩ = some (.slice (some ⟨gb, 0, none⟩) M cp) := H_1.out.bk.cell 2
                           go_simp
                           refine hK.out _ _ trivial (fun hHeld => ?_)
                           clear hK KK k1
                           try simp only [Act.put, List.getElem_toArray, List.getElem_cons_succ, List.getElem_cons_zero, List.setIfInBounds_toArray, List.set_cons_zero, List.set_cons_succ]
                           refine wpAnyH_take (i := 13) (v := ?_) rfl (by kernel_rfl) (by kernel_rfl) (by kernel_rfl) (fun _ _ _ h => h) (Or.inl ⟨by kernel_rfl, ?_⟩) hHeld ?_
                           rotate_left
                           ·intro w hSw
                            (try dsimp only at hSw)
                            go_split_ands
                            go_simp
                            (try with_reducible rfl)
                           try simp only [Act.put, List.getElem_toArray, List.getElem_cons_succ, List.getElem_cons_zero, List.setIfInBounds_toArray, List.set_cons_zero, List.set_cons_succ]
                           refine wpAnyH_take (i := 15) (v := ?_) rfl (by kernel_rfl) (by kernel_rfl) (by kernel_rfl) (fun _ _ _ h => h) (Or.inl ⟨by kernel_rfl, ?_⟩) hHeld ?_
                           rotate_left
                           ·intro w hSw
                            (try dsimp only at hSw)
                            go_split_ands
                            go_simp
                            (try with_reducible rfl)
                           try simp only [Act.put, List.getElem_toArray, List.getElem_cons_succ, List.getElem_cons_zero, List.setIfInBounds_toArray, List.set_cons_zero, List.set_cons_succ]
                           refine wpAnyH_take (i := 16) (v := ?_) rfl (by kernel_rfl) (by kernel_rfl) (by kernel_rfl) (fun _ _ _ h => h) (Or.inl ⟨by kernel_rfl, ?_⟩) hHeld ?_
                           rotate_left
                           ·intro w hSw
                            (try dsimp only at hSw)
                            go_split_ands
                            go_simp
                            (try with_reducible rfl)
                           try simp only [Act.put, List.getElem_toArray, List.getElem_cons_succ, List.getElem_cons_zero, List.setIfInBounds_toArray, List.set_cons_zero, List.set_cons_succ]
                           refine wpAnyH_ready (rs := [17]) (by kernel_rfl) (by simp) ?_
                           refine AllReadyH.cons rfl (fun KK hK => ?_) AllReadyH.nil
                           clear hHeld
                           have hc := ext_cell Y_1.out HC.out
                           go_simp
                           refine hK.out _ _ trivial (fun hHeld => ?_)
                           clear hK KK hc
                           try simp only [Act.put, List.getElem_toArray, List.getElem_cons_succ, List.getElem_cons_zero, List.setIfInBounds_toArray, List.set_cons_zero, List.set_cons_succ]
                           refine wpAnyH_ready (rs := [18]) (by kernel_rfl) (by simp) ?_
                           refine AllReadyH.cons rfl (fun KK hK => ?_) AllReadyH.nil
                           clear hHeld
                           go_simp
                           refine hK.out _ _ trivial (fun hHeld => ?_)
                           clear hK KK hHeld
                           try simp only [Act.put, List.getElem_toArray, List.getElem_cons_succ, List.getElem_cons_zero, List.setIfInBounds_toArray, List.set_cons_zero, List.set_cons_succ]
                           refine anyH_world (fun wz => Ext w1 wz ∧ Bk wz w1.heap.size #[.int .u8 (y.toNat : Int)]) ⟨Ext.alloc (Ext.refl _) _, Bk.at rfl⟩ ?_
                           rintro w2 ⟨h, hB⟩
                           have H_2 := Lib.hid (H_1.out.ext h)
                           have Y_2 := Lib.hid (Y_1.out.trans h)
                           clear h H_1 Y_1
                           have T1_2 := Lib.hid (hB)
                           clear hB
                           have hHeld : True := trivial
                           refine wpAnyH_ready (rs := [19]) (by kernel_rfl) (by simp) ?_
                           refine AllReadyH.cons rfl (fun KK hK => ?_) AllReadyH.nil
                           clear hHeld
                           have HRo := Lib.hid (ownsRow_kept HO.out (Y_2.out.keeps (S := fun _ => False)) (fun _ _ q => q))
                           refine step_append_lies _ rfl (.tmp 166) (.tmp 180) 61 rfl 0 5 i0 (.int .u8 0) 1 1 Tryd.underlying61 hi0 hz0 hz1 hz2 rfl (by decide) (.slice (some ⟨gb, 0, none⟩) M cp) M (bytesV U) (by simp [Act.eval]) HRo.out ⟨w1.heap.size, 0, none⟩ 1 1 [.int .u8 (y.toNat : Int)] (by simp [Act.eval]) rfl (fun j u hu => ?c1) (by intro u hu; simp at hu; subst hu; rfl) (by omega) (by unfold maxLen; omega) (by omega) (Nat.zero_le _) _ rfl ?_
                           case c1 =>
                            obtain rfl : j = 0 := by have := (List.getElem?_eq_some_iff.1 hu).1; simpa using this
                            rw [add_plain, T1_2.out.cell 0]; exact hu
                           intro g1 cap1 w4 hown hgrow hat hlt1
                           have P := H_2.out.byte (y := y) HM.out (Ext.refl _) hgrow hown (by rcases hat with q | q; exact .inl q.symm; exact .inr (by rw [q]; rfl))
                           have b1 : w4.cell? ⟨Q, 2, none⟩ = some (.slice (some ⟨gb, 0, none⟩) M cp) := P.1.cell 2
                           have f1 := P.1.frozen 2
                           have HP := Lib.hid P.2
                           clear P hown hgrow hat hlt1
                           refine hK.out _ _ trivial (fun hHeld => ?_)
                           clear hK KK
                           try simp only [Act.put, List.getElem_toArray, List.getElem_cons_succ, List.getElem_cons_zero, List.setIfInBounds_toArray, List.set_cons_zero, List.set_cons_succ]
                           refine wpAnyH_take (i := 20) (v := ?_) rfl (by kernel_rfl) (by kernel_rfl) (by kernel_rfl) (fun _ _ _ h => h) (Or.inl ⟨by kernel_rfl, ?_⟩) hHeld ?_
                           rotate_left
                           ·intro w hSw
                            (try dsimp only at hSw)
                            go_split_ands
                            go_simp
                            (try with_reducible rfl)
                           try simp only [Act.put, List.getElem_toArray, List.getElem_cons_succ, List.getElem_cons_zero, List.setIfInBounds_toArray, List.set_cons_zero, List.set_cons_succ]
                           refine wpAnyH_take (i := 21) (v := ?_) rfl (by kernel_rfl) (by kernel_rfl) (by kernel_rfl) (fun _ _ _ h => h) (Or.inl ⟨by kernel_rfl, ?_⟩) hHeld ?_
                           rotate_left
                           ·intro w hSw
                            (try dsimp only at hSw)
                            go_split_ands
                            go_simp
                            (try with_reducible rfl)
                           try simp only [Act.put, List.getElem_toArray, List.getElem_cons_succ, List.getElem_cons_zero, List.setIfInBounds_toArray, List.set_cons_zero, List.set_cons_succ]
                           refine wpAnyH_ready (rs := [22]) (by kernel_rfl) (by simp) ?_
                           refine AllReadyH.cons rfl (fun KK hK => ?_) AllReadyH.nil
                           clear hHeld
                           go_simp
                           refine hK.out _ _ trivial (fun hHeld => ?_)
                           clear hK KK b1 f1
                           try simp only [Act.put, List.getElem_toArray, List.getElem_cons_succ, List.getElem_cons_zero, List.setIfInBounds_toArray, List.set_cons_zero, List.set_cons_succ]
                           refine wpAnyH_done (by kernel_rfl) ?_ _
                           clear hHeld
                           have wj : ∀ z, z = (j : Int) + 1 → IntKind.i64.wrap z = z := by rintro _ rfl; rw [IntKind.wrap_i64]; omega
                           have HU2 := Lib.hid HUS.out
                           go_wp2_with fail
                           go_roundw
                           case rel => exact ⟨j + 1, _, by omega, by go_num, Lib.hid (by rw [HU2.out]; exact HP.out)⟩
                           case measure => simp [intOf]; omega
                          ·clear hHeld
                           have k1 : w1.cell? ⟨Q, 2, none⟩ = some (.slice (some ⟨gb, 0, none⟩) M cp) := H_1.out.bk.cell 2
                           go_simp
                           refine hK.out _ _ trivial (fun hHeld => ?_)
                           clear hK KK k1
                           try simp only [Act.put, List.getElem_toArray, List.getElem_cons_succ, List.getElem_cons_zero, List.setIfInBounds_toArray, List.set_cons_zero, List.set_cons_succ]
                           refine wpAnyH_take (i := 13) (v := ?_) rfl (by kernel_rfl) (by kernel_rfl) (by kernel_rfl) (fun _ _ _ h => h) (Or.inl ⟨by kernel_rfl, ?_⟩) hHeld ?_
                           rotate_left
                           ·intro w hSw
                            (try dsimp only at hSw)
                            go_split_ands
                            go_simp
                            (try with_reducible rfl)
                           try simp only [Act.put, List.getElem_toArray, List.getElem_cons_succ, List.getElem_cons_zero, List.setIfInBounds_toArray, List.set_cons_zero, List.set_cons_succ]
                           refine wpAnyH_take (i := 15) (v := ?_) rfl (by kernel_rfl) (by kernel_rfl) (by kernel_rfl) (fun _ _ _ h => h) (Or.inl ⟨by kernel_rfl, ?_⟩) hHeld ?_
                           rotate_left
                           ·intro w hSw
                            (try dsimp only at hSw)
                            go_split_ands
                            go_simp
                            (try with_reducible rfl)
                           try simp only [Act.put, List.getElem_toArray, List.getElem_cons_succ, List.getElem_cons_zero, List.setIfInBounds_toArray, List.set_cons_zero, List.set_cons_succ]
                           refine wpAnyH_ready (rs := [8]) (by kernel_rfl) (by simp) ?_
                           refine AllReadyH.cons rfl (fun KK hK => ?_) AllReadyH.nil
                           clear hHeld
                           have k1 : w1.cell? ⟨Q, 2, none⟩ = some (.slice (some ⟨gb, 0, none⟩) M cp) := H_1.out.bk.cell 2
                           go_simp
                           refine hK.out _ _ trivial (fun hHeld => ?_)
                           clear hK KK k1
                           try simp only [Act.put, List.getElem_toArray, List.getElem_cons_succ, List.getElem_cons_zero, List.setIfInBounds_toArray, List.set_cons_zero, List.set_cons_succ]
                           refine wpAnyH_take (i := 16) (v := ?_) rfl (by kernel_rfl) (by kernel_rfl) (by kernel_rfl) (fun _ _ _ h => h) (Or.inl ⟨by kernel_rfl, ?_⟩) hHeld ?_
                           rotate_left
                           ·intro w hSw
                            (try dsimp only at hSw)
                            go_split_ands
                            go_simp
                            (try with_reducible rfl)
                           try simp only [Act.put, List.getElem_toArray, List.getElem_cons_succ, List.getElem_cons_zero, List.setIfInBounds_toArray, List.set_cons_zero, List.set_cons_succ]
                           refine wpAnyH_ready (rs := [17]) (by kernel_rfl) (by simp) ?_
                           refine AllReadyH.cons rfl (fun KK hK => ?_) AllReadyH.nil
                           clear hHeld
                           have hc := ext_cell Y_1.out HC.out
                           go_simp
                           refine hK.out _ _ trivial (fun hHeld => ?_)
                           clear hK KK hc
                           try simp only [Act.put, List.getElem_toArray, List.getElem_cons_succ, List.getElem_cons_zero, List.setIfInBounds_toArray, List.set_cons_zero, List.set_cons_succ]
                           refine wpAnyH_ready (rs := [18]) (by kernel_rfl) (by simp) ?_
                           refine AllReadyH.cons rfl (fun KK hK => ?_) AllReadyH.nil
                           clear hHeld
                           go_simp
                           refine hK.out _ _ trivial (fun hHeld => ?_)
                           clear hK KK hHeld
                           try simp only [Act.put, List.getElem_toArray, List.getElem_cons_succ, List.getElem_cons_zero, List.setIfInBounds_toArray, List.set_cons_zero, List.set_cons_succ]
                           refine anyH_world (fun wz => Ext w1 wz ∧ Bk wz w1.heap.size #[.int .u8 (y.toNat : Int)]) ⟨Ext.alloc (Ext.refl _) _, Bk.at rfl⟩ ?_
                           rintro w2 ⟨h, hB⟩
                           have H_2 := Lib.hid (H_1.out.ext h)
                           have Y_2 := Lib.hid (Y_1.out.trans h)
                           clear h H_1 Y_1
                           have T1_2 := Lib.hid (hB)
                           clear hB
                           have hHeld : True := trivial
                           refine wpAnyH_ready (rs := [19]) (by kernel_rfl) (by simp) ?_
                           refine AllReadyH.cons rfl (fun KK hK => ?_) AllReadyH.nil
                           clear hHeld
                           have HRo := Lib.hid (ownsRow_kept HO.out (Y_2.out.keeps (S := fun _ => False)) (fun _ _ q => q))
                           refine step_append_lies _ rfl (.tmp 166) (.tmp 180) 61 rfl 0 5 i0 (.int .u8 0) 1 1 Tryd.underlying61 hi0 hz0 hz1 hz2 rfl (by decide) (.slice (some ⟨gb, 0, none⟩) M cp) M (bytesV U) (by simp [Act.eval]) HRo.out ⟨w1.heap.size, 0, none⟩ 1 1 [.int .u8 (y.toNat : Int)] (by simp [Act.eval]) rfl (fun j u hu => ?c1) (by intro u hu; simp at hu; subst hu; rfl) (by omega) (by unfold maxLen; omega) (by omega) (Nat.zero_le _) _ rfl ?_
                           case c1 =>
                            obtain rfl : j = 0 := by have := (List.getElem?_eq_some_iff.1 hu).1; simpa using this
                            rw [add_plain, T1_2.out.cell 0]; exact hu
                           intro g1 cap1 w4 hown hgrow hat hlt1
                           have P := H_2.out.byte (y := y) HM.out (Ext.refl _) hgrow hown (by rcases hat with q | q; exact .inl q.symm; exact .inr (by rw [q]; rfl))
                           have b1 : w4.cell? ⟨Q, 2, none⟩ = some (.slice (some ⟨gb, 0, none⟩) M cp) := P.1.cell 2
                           have f1 := P.1.frozen 2
                           have HP := Lib.hid P.2
                           clear P hown hgrow hat hlt1
                           refine hK.out _ _ trivial (fun hHeld => ?_)
                           clear hK KK
                           try simp only [Act.put, List.getElem_toArray, List.getElem_cons_succ, List.getElem_cons_zero, List.setIfInBounds_toArray, List.set_cons_zero, List.set_cons_succ]
                           refine wpAnyH_take (i := 20) (v := ?_) rfl (by kernel_rfl) (by kernel_rfl) (by kernel_rfl) (fun _ _ _ h => h) (Or.inl ⟨by kernel_rfl, ?_⟩) hHeld ?_
                           rotate_left
                           ·intro w hSw
                            (try dsimp only at hSw)
                            go_split_ands
                            go_simp
                            (try with_reducible rfl)
                           try simp only [Act.put, List.getElem_toArray, List.getElem_cons_succ, List.getElem_cons_zero, List.setIfInBounds_toArray, List.set_cons_zero, List.set_cons_succ]
                           refine wpAnyH_take (i := 21) (v := ?_) rfl (by kernel_rfl) (by kernel_rfl) (by kernel_rfl) (fun _ _ _ h => h) (Or.inl ⟨by kernel_rfl, ?_⟩) hHeld ?_
                           rotate_left
                           ·intro w hSw
                            (try dsimp only at hSw)
                            go_split_ands
                            go_simp
                            (try with_reducible rfl)
                           try simp only [Act.put, List.getElem_toArray, List.getElem_cons_succ, List.getElem_cons_zero, List.setIfInBounds_toArray, List.set_cons_zero, List.set_cons_succ]
                           refine wpAnyH_ready (rs := [22]) (by kernel_rfl) (by simp) ?_
                           refine AllReadyH.cons rfl (fun KK hK => ?_) AllReadyH.nil
                           clear hHeld
                           go_simp
                           refine hK.out _ _ trivial (fun hHeld => ?_)
                           clear hK KK b1 f1
                           try simp only [Act.put, List.getElem_toArray, List.getElem_cons_succ, List.getElem_cons_zero, List.setIfInBounds_toArray, List.set_cons_zero, List.set_cons_succ]
                           refine wpAnyH_done (by kernel_rfl) ?_ _
                           clear hHeld
                           have wj : ∀ z, z = (j : Int) + 1 → IntKind.i64.wrap z = z := by rintro _ rfl; rw [IntKind.wrap_i64]; omega
                           have HU2 := Lib.hid HUS.out
                           go_wp2_with fail
                           go_roundw
                           case rel => exact ⟨j + 1, _, by omega, by go_num, Lib.hid (by rw [HU2.out]; exact HP.out)⟩
                           case measure => simp [intOf]; omega
                         ·clear hHeld
                          have k1 : w1.cell? ⟨Q, 2, none⟩ = some (.slice (some ⟨gb, 0, none⟩) M cp) := H_1.out.bk.cell 2
                          go_simp
                          refine hK.out _ _ trivial (fun hHeld => ?_)
                          clear hK KK k1
                          try simp only [Act.put, List.getElem_toArray, List.getElem_cons_succ, List.getElem_cons_zero, List.setIfInBounds_toArray, List.set_cons_zero, List.set_cons_succ]
                          refine wpAnyH_ready (rs := [4, 12]) (by kernel_rfl) (by simp) ?_
                          refine AllReadyH.cons rfl (fun KK hK => ?_) (AllReadyH.cons rfl (fun KK hK => ?_) AllReadyH.nil)
                          ·clear hHeld
                           have k1 : w1.cell? ⟨Q, 2, none⟩ = some (.slice (some ⟨gb, 0, none⟩) M cp) := H_1.out.bk.cell 2
                           go_simp
                           refine hK.out _ _ trivial (fun hHeld => ?_)
                           clear hK KK k1
                           try simp only [Act.put, List.getElem_toArray, List.getElem_cons_succ, List.getElem_cons_zero, List.setIfInBounds_toArray, List.set_cons_zero, List.set_cons_succ]
                           refine wpAnyH_ready (rs := [12]) (by kernel_rfl) (by simp) ?_
                           refine AllReadyH.cons rfl (fun KK hK => ?_) AllReadyH.nil
                           clear hHeld
                           have k1 : w1.cell? ⟨Q, 2, none⟩ = some (.slice (some ⟨gb, 0, none⟩) M cp) := H_1.out.bk.cell 2
                           go_simp
                           refine hK.out _ _ trivial (fun hHeld => ?_)
                           clear hK KK k1
                           try simp only [Act.put, List.getElem_toArray, List.getElem_cons_succ, List.getElem_cons_zero, List.setIfInBounds_toArray, List.set_cons_zero, List.set_cons_succ]
                           refine wpAnyH_take (i := 13) (v := ?_) rfl (by kernel_rfl) (by kernel_rfl) (by kernel_rfl) (fun _ _ _ h => h) (Or.inl ⟨by kernel_rfl, ?_⟩) hHeld ?_
                           rotate_left
                           ·intro w hSw
                            (try dsimp only at hSw)
                            go_split_ands
                            go_simp
                            (try with_reducible rfl)
                           try simp only [Act.put, List.getElem_toArray, List.getElem_cons_succ, List.getElem_cons_zero, List.setIfInBounds_toArray, List.set_cons_zero, List.set_cons_succ]
                           refine wpAnyH_take (i := 15) (v := ?_) rfl (by kernel_rfl) (by kernel_rfl) (by kernel_rfl) (fun _ _ _ h => h) (Or.inl ⟨by kernel_rfl, ?_⟩) hHeld ?_
                           rotate_left
                           ·intro w hSw
                            (try dsimp only at hSw)
                            go_split_ands
                            go_simp
                            (try with_reducible rfl)
                           try simp only [Act.put, List.getElem_toArray, List.getElem_cons_succ, List.getElem_cons_zero, List.setIfInBounds_toArray, List.set_cons_zero, List.set_cons_succ]
                           refine wpAnyH_take (i := 16) (v := ?_) rfl (by kernel_rfl) (by kernel_rfl) (by kernel_rfl) (fun _ _ _ h => h) (Or.inl ⟨by kernel_rfl, ?_⟩) hHeld ?_
                           rotate_left
                           ·intro w hSw
                            (try dsimp only at hSw)
                            go_split_ands
                            go_simp
                            (try with_reducible rfl)
                           try simp only [Act.put, List.getElem_toArray, List.getElem_cons_succ, List.getElem_cons_zero, List.setIfInBounds_toArray, List.set_cons_zero, List.set_cons_succ]
                           refine wpAnyH_ready (rs := [17]) (by kernel_rfl) (by simp) ?_
                           refine AllReadyH.cons rfl (fun KK hK => ?_) AllReadyH.nil
                           clear hHeld
                           have hc := ext_cell Y_1.out HC.out
                           go_simp
                           refine hK.out _ _ trivial (fun hHeld => ?_)
                           clear hK KK hc
                           try simp only [Act.put, List.getElem_toArray, List.getElem_cons_succ, List.getElem_cons_zero, List.setIfInBounds_toArray, List.set_cons_zero, List.set_cons_succ]
                           refine wpAnyH_ready (rs := [18]) (by kernel_rfl) (by simp) ?_
                           refine AllReadyH.cons rfl (fun KK hK => ?_) AllReadyH.nil
                           clear hHeld
                           go_simp
                           refine hK.out _ _ trivial (fun hHeld => ?_)
                           clear hK KK hHeld
                           try simp only [Act.put, List.getElem_toArray, List.getElem_cons_succ, List.getElem_cons_zero, List.setIfInBounds_toArray, List.set_cons_zero, List.set_cons_succ]
                           refine anyH_world (fun wz => Ext w1 wz ∧ Bk wz w1.heap.size #[.int .u8 (y.toNat : Int)]) ⟨Ext.alloc (Ext.refl _) _, Bk.at rfl⟩ ?_
                           rintro w2 ⟨h, hB⟩
                           have H_2 := Lib.hid (H_1.out.ext h)
                           have Y_2 := Lib.hid (Y_1.out.trans h)
                           clear h H_1 Y_1
                           have T1_2 := Lib.hid (hB)
                           clear hB
                           have hHeld : True := trivial
                           refine wpAnyH_ready (rs := [19]) (by kernel_rfl) (by simp) ?_
                           refine AllReadyH.cons rfl (fun KK hK => ?_) AllReadyH.nil
                           clear hHeld
                           have HRo := Lib.hid (ownsRow_kept HO.out (Y_2.out.keeps (S := fun _ => False)) (fun _ _ q => q))
                           refine step_append_lies _ rfl (.tmp 166) (.tmp 180) 61 rfl 0 5 i0 (.int .u8 0) 1 1 Tryd.underlying61 hi0 hz0 hz1 hz2 rfl (by decide) (.slice (some ⟨gb, 0, none⟩) M cp) M (bytesV U) (by simp [Act.eval]) HRo.out ⟨w1.heap.size, 0, none⟩ 1 1 [.int .u8 (y.toNat : Int)] (by simp [Act.eval]) rfl (fun j u hu => ?c1) (by intro u hu; simp at hu; subst hu; rfl) (by omega) (by unfold maxLen; omega) (by omega) (Nat.zero_le _) _ rfl ?_
                           case c1 =>
                            obtain rfl : j = 0 := by have := (List.getElem?_eq_some_iff.1 hu).1; simpa using this
                            rw [add_plain, T1_2.out.cell 0]; exact hu
                           intro g1 cap1 w4 hown hgrow hat hlt1
                           have P := H_2.out.byte (y := y) HM.out (Ext.refl _) hgrow hown (by rcases hat with q | q; exact .inl q.symm; exact .inr (by rw [q]; rfl))
                           have b1 : w4.cell? ⟨Q, 2, none⟩ = some (.slice (some ⟨gb, 0, none⟩) M cp) := P.1.cell 2
                           have f1 := P.1.frozen 2
                           have HP := Lib.hid P.2
                           clear P hown hgrow hat hlt1
                           refine hK.out _ _ trivial (fun hHeld => ?_)
                           clear hK KK
                           try simp only [Act.put, List.getElem_toArray, List.getElem_cons_succ, List.getElem_cons_zero, List.setIfInBounds_toArray, List.set_cons_zero, List.set_cons_succ]
                           refine wpAnyH_take (i := 20) (v := ?_) rfl (by kernel_rfl) (by kernel_rfl) (by kernel_rfl) (fun _ _ _ h => h) (Or.inl ⟨by kernel_rfl, ?_⟩) hHeld ?_
                           rotate_left
                           ·intro w hSw
                            (try dsimp only at hSw)
                            go_split_ands
                            go_simp
                            (try with_reducible rfl)
                           try simp only [Act.put, List.getElem_toArray, List.getElem_cons_succ, List.getElem_cons_zero, List.setIfInBounds_toArray, List.set_cons_zero, List.set_cons_succ]
                           refine wpAnyH_take (i := 21) (v := ?_) rfl (by kernel_rfl) (by kernel_rfl) (by kernel_rfl) (fun _ _ _ h => h) (Or.inl ⟨by kernel_rfl, ?_⟩) hHeld ?_
                           rotate_left
                           ·intro w hSw
                            (try dsimp only at hSw)
                            go_split_ands
                            go_simp
                            (try with_reducible rfl)
                           try simp only [Act.put, List.getElem_toArray, List.getElem_cons_succ, List.getElem_cons_zero, List.setIfInBounds_toArray, List.set_cons_zero, List.set_cons_succ]
                           refine wpAnyH_ready (rs := [22]) (by kernel_rfl) (by simp) ?_
                           refine AllReadyH.cons rfl (fun KK hK => ?_) AllReadyH.nil
                           clear hHeld
                           go_simp
                           refine hK.out _ _ trivial (fun hHeld => ?_)
                           clear hK KK b1 f1
                           try simp only [Act.put, List.getElem_toArray, List.getElem_cons_succ, List.getElem_cons_zero, List.setIfInBounds_toArray, List.set_cons_zero, List.set_cons_succ]
                           refine wpAnyH_done (by kernel_rfl) ?_ _
                           clear hHeld
                           have wj : ∀ z, z = (j : Int) + 1 → IntKind.i64.wrap z = z := by rintro _ rfl; rw [IntKind.wrap_i64]; omega
                           have HU2 := Lib.hid HUS.out
                           go_wp2_with fail
                           go_roundw
                           case rel => exact ⟨j + 1, _, by omega, by go_num, Lib.hid (by rw [HU2.out]; exact HP.out)⟩
                           case measure => simp [intOf]; omega
                          ·clear hHeld
                           have k1 : w1.cell? ⟨Q, 2, none⟩ = some (.slice (some ⟨gb, 0, none⟩) M cp) := H_1.out.bk.cell 2
                           go_simp
                           refine hK.out _ _ trivial (fun hHeld => ?_)
                           clear hK KK k1
                           try simp only [Act.put, List.getElem_toArray, List.getElem_cons_succ, List.getElem_cons_zero, List.setIfInBounds_toArray, List.set_cons_zero, List.set_cons_succ]
                           refine wpAnyH_take (i := 13) (v := ?_) rfl (by kernel_rfl) (by kernel_rfl) (by kernel_rfl) (fun _ _ _ h => h) (Or.inl ⟨by kernel_rfl, ?_⟩) hHeld ?_
                           rotate_left
                           ·intro w hSw
                            (try dsimp only at hSw)
                            go_split_ands
                            go_simp
                            (try with_reducible rfl)
                           try simp only [Act.put, List.getElem_toArray, List.getElem_cons_succ, List.getElem_cons_zero, List.setIfInBounds_toArray, List.set_cons_zero, List.set_cons_succ]
                           refine wpAnyH_take (i := 15) (v := ?_) rfl (by kernel_rfl) (by kernel_rfl) (by kernel_rfl) (fun _ _ _ h => h) (Or.inl ⟨by kernel_rfl, ?_⟩) hHeld ?_
                           rotate_left
                           ·intro w hSw
                            (try dsimp only at hSw)
                            go_split_ands
                            go_simp
                            (try with_reducible rfl)
                           try simp only [Act.put, List.getElem_toArray, List.getElem_cons_succ, List.getElem_cons_zero, List.setIfInBounds_toArray, List.set_cons_zero, List.set_cons_succ]
                           refine wpAnyH_take (i := 16) (v := ?_) rfl (by kernel_rfl) (by kernel_rfl) (by kernel_rfl) (fun _ _ _ h => h) (Or.inl ⟨by kernel_rfl, ?_⟩) hHeld ?_
                           rotate_left
                           ·intro w hSw
                            (try dsimp only at hSw)
                            go_split_ands
                            go_simp
                            (try with_reducible rfl)
                           try simp only [Act.put, List.getElem_toArray, List.getElem_cons_succ, List.getElem_cons_zero, List.setIfInBounds_toArray, List.set_cons_zero, List.set_cons_succ]
                           refine wpAnyH_ready (rs := [4, 17]) (by kernel_rfl) (by simp) ?_
                           refine AllReadyH.cons rfl (fun KK hK => ?_) (AllReadyH.cons rfl (fun KK hK => ?_) AllReadyH.nil)
                           ·clear hHeld
                            have k1 : w1.cell? ⟨Q, 2, none⟩ = some (.slice (some ⟨gb, 0, none⟩) M cp) := H_1.out.bk.cell 2
                            go_simp
                            refine hK.out _ _ trivial (fun hHeld => ?_)
                            clear hK KK k1
                            try simp only [Act.put, List.getElem_toArray, List.getElem_cons_succ, List.getElem_cons_zero, List.setIfInBounds_toArray, List.set_cons_zero, List.set_cons_succ]
                            refine wpAnyH_ready (rs := [17]) (by kernel_rfl) (by simp) ?_
                            refine AllReadyH.cons rfl (fun KK hK => ?_) AllReadyH.nil
                            clear hHeld
                            have hc := ext_cell Y_1.out HC.out
                            go_simp
                            refine hK.out _ _ trivial (fun hHeld => ?_)
                            clear hK KK hc
                            try simp only [Act.put, List.getElem_toArray, List.getElem_cons_succ, List.getElem_cons_zero, List.setIfInBounds_toArray, List.set_cons_zero, List.set_cons_succ]
                            refine wpAnyH_ready (rs := [18]) (by kernel_rfl) (by simp) ?_
                            refine AllReadyH.cons rfl (fun KK hK => ?_) AllReadyH.nil
                            clear hHeld
                            go_simp
                            refine hK.out _ _ trivial (fun hHeld => ?_)
                            clear hK KK hHeld
                            try simp only [Act.put, List.getElem_toArray, List.getElem_cons_succ, List.getElem_cons_zero, List.setIfInBounds_toArray, List.set_cons_zero, List.set_cons_succ]
                            refine anyH_world (fun wz => Ext w1 wz ∧ Bk wz w1.heap.size #[.int .u8 (y.toNat : Int)]) ⟨Ext.alloc (Ext.refl _) _, Bk.at rfl⟩ ?_
                            rintro w2 ⟨h, hB⟩
                            have H_2 := Lib.hid (H_1.out.ext h)
                            have Y_2 := Lib.hid (Y_1.out.trans h)
                            clear h H_1 Y_1
                            have T1_2 := Lib.hid (hB)
                            clear hB
                            have hHeld : True := trivial
                            refine wpAnyH_ready (rs := [19]) (by kernel_rfl) (by simp) ?_
                            refine AllReadyH.cons rfl (fun KK hK => ?_) AllReadyH.nil
                            clear hHeld
                            have HRo := Lib.hid (ownsRow_kept HO.out (Y_2.out.keeps (S := fun _ => False)) (fun _ _ q => q))
                            refine step_append_lies _ rfl (.tmp 166) (.tmp 180) 61 rfl 0 5 i0 (.int .u8 0) 1 1 Tryd.underlying61 hi0 hz0 hz1 hz2 rfl (by decide) (.slice (some ⟨gb, 0, none⟩) M cp) M (bytesV U) (by simp [Act.eval]) HRo.out ⟨w1.heap.size, 0, none⟩ 1 1 [.int .u8 (y.toNat : Int)] (by simp [Act.eval]) rfl (fun j u hu => ?c1) (by intro u hu; simp at hu; subst hu; rfl) (by omega) (by unfold maxLen; omega) (by omega) (Nat.zero_le _) _ rfl ?_
                            case c1 =>
                             obtain rfl : j = 0 := by have := (List.getElem?_eq_some_iff.1 hu).1; simpa using this
                             rw [add_plain, T1_2.out.cell 0]; exact hu
                            intro g1 cap1 w4 hown hgrow hat hlt1
                            have P := H_2.out.byte (y := y) HM.out (Ext.refl _) hgrow hown (by rcases hat with q | q; exact .inl q.symm; exact .inr (by rw [q]; rfl))
                            have b1 : w4.cell? ⟨Q, 2, none⟩ = some (.slice (some ⟨gb, 0, none⟩) M cp) := P.1.cell 2
                            have f1 := P.1.frozen 2
                            have HP := Lib.hid P.2
                            clear P hown hgrow hat hlt1
                            refine hK.out _ _ trivial (fun hHeld => ?_)
                            clear hK KK
                            try simp only [Act.put, List.getElem_toArray, List.getElem_cons_succ, List.getElem_cons_zero, List.setIfInBounds_toArray, List.set_cons_zero, List.set_cons_succ]
                            refine wpAnyH_take (i := 20) (v := ?_) rfl (by kernel_rfl) (by kernel_rfl) (by kernel_rfl) (fun _ _ _ h => h) (Or.inl ⟨by kernel_rfl, ?_⟩) hHeld ?_
                            rotate_left
                            ·intro w hSw
                             (try dsimp only at hSw)
                             go_split_ands
                             go_simp
                             (try with_reducible rfl)
                            try simp only [Act.put, List.getElem_toArray, List.getElem_cons_succ, List.getElem_cons_zero, List.setIfInBounds_toArray, List.set_cons_zero, List.set_cons_succ]
                            refine wpAnyH_take (i := 21) (v := ?_) rfl (by kernel_rfl) (by kernel_rfl) (by kernel_rfl) (fun _ _ _ h => h) (Or.inl ⟨by kernel_rfl, ?_⟩) hHeld ?_
                            rotate_left
                            ·intro w hSw
                             (try dsimp only at hSw)
                             go_split_ands
                             go_simp
                             (try with_reducible rfl)
                            try simp only [Act.put, List.getElem_toArray, List.getElem_cons_succ, List.getElem_cons_zero, List.setIfInBounds_toArray, List.set_cons_zero, List.set_cons_succ]
                            refine wpAnyH_ready (rs := [22]) (by kernel_rfl) (by simp) ?_
                            refine AllReadyH.cons rfl (fun KK hK => ?_) AllReadyH.nil
                            clear hHeld
                            go_simp
                            refine hK.out _ _ trivial (fun hHeld => ?_)
                            clear hK KK b1 f1
                            try simp only [Act.put, List.getElem_toArray, List.getElem_cons_succ, List.getElem_cons_zero, List.setIfInBounds_toArray, List.set_cons_zero, List.set_cons_succ]
                            refine wpAnyH_done (by kernel_rfl) ?_ _
                            clear hHeld
                            have wj : ∀ z, z = (j : Int) + 1 → IntKind.i64.wrap z = z := by rintro _ rfl; rw [IntKind.wrap_i64]; omega
                            have HU2 := Lib.hid HUS.out
                            go_wp2_with fail
                            go_roundw
                            case rel => exact ⟨j + 1, _, by omega, by go_num, Lib.hid (by rw [HU2.out]; exact HP.out)⟩
                            case measure => simp [intOf]; omega
                           ·clear hHeld
                            have hc := ext_cell Y_1.out HC.out
                            go_simp
                            refine hK.out _ _ trivial (fun hHeld => ?_)
                            clear hK KK hc
                            try simp only [Act.put, List.getElem_toArray, List.getElem_cons_succ, List.getElem_cons_zero, List.setIfInBounds_toArray, List.set_cons_zero, List.set_cons_succ]
                            refine wpAnyH_ready (rs := [4, 18]) (by kernel_rfl) (by simp) ?_
                            refine AllReadyH.cons rfl (fun KK hK => ?_) (AllReadyH.cons rfl (fun KK hK => ?_) AllReadyH.nil)
                            ·clear hHeld
                             have k1 : w1.cell? ⟨Q, 2, none⟩ = some (.slice (some ⟨gb, 0, none⟩) M cp) := H_1.out.bk.cell 2
                             go_simp
                             refine hK.out _ _ trivial (fun hHeld => ?_)
                             clear hK KK k1
                             try simp only [Act.put, List.getElem_toArray, List.getElem_cons_succ, List.getElem_cons_zero, List.setIfInBounds_toArray, List.set_cons_zero, List.set_cons_succ]
                             refine wpAnyH_ready (rs := [18]) (by kernel_rfl) (by simp) ?_
                             refine AllReadyH.cons rfl (fun KK hK => ?_) AllReadyH.nil
                             clear hHeld
                             go_simp
                             refine hK.out _ _ trivial (fun hHeld => ?_)
                             clear hK KK hHeld
                             try simp only [Act.put, List.getElem_toArray, List.getElem_cons_succ, List.getElem_cons_zero, List.setIfInBounds_toArray, List.set_cons_zero, List.set_cons_succ]
                             refine anyH_world (fun wz => Ext w1 wz ∧ Bk wz w1.heap.size #[.int .u8 (y.toNat : Int)]) ⟨Ext.alloc (Ext.refl _) _, Bk.at rfl⟩ ?_
                             rintro w2 ⟨h, hB⟩
                             have H_2 := Lib.hid (H_1.out.ext h)
                             have Y_2 := Lib.hid (Y_1.out.trans h)
                             clear h H_1 Y_1
                             have T1_2 := Lib.hid (hB)
                             clear hB
                             have hHeld : True := trivial
                             refine wpAnyH_ready (rs := [19]) (by kernel_rfl) (by simp) ?_
                             refine AllReadyH.cons rfl (fun KK hK => ?_) AllReadyH.nil
                             clear hHeld
                             have HRo := Lib.hid (ownsRow_kept HO.out (Y_2.out.keeps (S := fun _ => False)) (fun _ _ q => q))
                             refine step_append_lies _ rfl (.tmp 166) (.tmp 180) 61 rfl 0 5 i0 (.int .u8 0) 1 1 Tryd.underlying61 hi0 hz0 hz1 hz2 rfl (by decide) (.slice (some ⟨gb, 0, none⟩) M cp) M (bytesV U) (by simp [Act.eval]) HRo.out ⟨w1.heap.size, 0, none⟩ 1 1 [.int .u8 (y.toNat : Int)] (by simp [Act.eval]) rfl (fun j u hu => ?c1) (by intro u hu; simp at hu; subst hu; rfl) (by omega) (by unfold maxLen; omega) (by omega) (Nat.zero_le _) _ rfl ?_
                             case c1 =>
                              obtain rfl : j = 0 := by have := (List.getElem?_eq_some_iff.1 hu).1; simpa using this
                              rw [add_plain, T1_2.out.cell 0]; exact hu
                             intro g1 cap1 w4 hown hgrow hat hlt1
                             have P := H_2.out.byte (y := y) HM.out (Ext.refl _) hgrow hown (by rcases hat with q | q; exact .inl q.symm; exact .inr (by rw [q]; rfl))
                             have b1 : w4.cell? ⟨Q, 2, none⟩ = some (.slice (some ⟨gb, 0, none⟩) M cp) := P.1.cell 2
                             have f1 := P.1.frozen 2
                             have HP := Lib.hid P.2
                             clear P hown hgrow hat hlt1
                             refine hK.out _ _ trivial (fun hHeld => ?_)
                             clear hK KK
                             try simp only [Act.put, List.getElem_toArray, List.getElem_cons_succ, List.getElem_cons_zero, List.setIfInBounds_toArray, List.set_cons_zero, List.set_cons_succ]
                             refine wpAnyH_take (i := 20) (v := ?_) rfl (by kernel_rfl) (by kernel_rfl) (by kernel_rfl) (fun _ _ _ h => h) (Or.inl ⟨by kernel_rfl, ?_⟩) hHeld ?_
                             rotate_left
                             ·intro w hSw
                              (try dsimp only at hSw)
                              go_split_ands
                              go_simp
                              (try with_reducible rfl)
                             try simp only [Act.put, List.getElem_toArray, List.getElem_cons_succ, List.getElem_cons_zero, List.setIfInBounds_toArray, List.set_cons_zero, List.set_cons_succ]
                             refine wpAnyH_take (i := 21) (v := ?_) rfl (by kernel_rfl) (by kernel_rfl) (by kernel_rfl) (fun _ _ _ h => h) (Or.inl ⟨by kernel_rfl, ?_⟩) hHeld ?_
                             rotate_left
                             ·intro w hSw
                              (try dsimp only at hSw)
                              go_split_ands
                              go_simp
                              (try with_reducible rfl)
                             try simp only [Act.put, List.getElem_toArray, List.getElem_cons_succ, List.getElem_cons_zero, List.setIfInBounds_toArray, List.set_cons_zero, List.set_cons_succ]
                             refine wpAnyH_ready (rs := [22]) (by kernel_rfl) (by simp) ?_
                             refine AllReadyH.cons rfl (fun KK hK => ?_) AllReadyH.nil
                             clear hHeld
                             go_simp
                             refine hK.out _ _ trivial (fun hHeld => ?_)
                             clear hK KK b1 f1
                             try simp only [Act.put, List.getElem_toArray, List.getElem_cons_succ, List.getElem_cons_zero, List.setIfInBounds_toArray, List.set_cons_zero, List.set_cons_succ]
                             refine wpAnyH_done (by kernel_rfl) ?_ _
                             clear hHeld
                             have wj : ∀ z, z = (j : Int) + 1 → IntKind.i64.wrap z = z := by rintro _ rfl; rw [IntKind.wrap_i64]; omega
                             have HU2 := Lib.hid HUS.out
                             go_wp2_with fail
                             go_roundw
                             case rel => exact ⟨j + 1, _, by omega, by go_num, Lib.hid (by rw [HU2.out]; exact HP.out)⟩
                             case measure => simp [intOf]; omega
                            ·clear hHeld
                             go_simp
                             refine hK.out _ _ trivial (fun hHeld => ?_)
                             clear hK KK hHeld
                             try simp only [Act.put, List.getElem_toArray, List.getElem_cons_succ, List.getElem_cons_zero, List.setIfInBounds_toArray, List.set_cons_zero, List.set_cons_succ]
                             refine anyH_world (fun wz => Ext w1 wz ∧ Bk wz w1.heap.size #[.int .u8 (y.toNat : Int)]) ⟨Ext.alloc (Ext.refl _) _, Bk.at rfl⟩ ?_
                             rintro w2 ⟨h, hB⟩
                             have H_2 := Lib.hid (H_1.out.ext h)
                             have Y_2 := Lib.hid (Y_1.out.trans h)
                             clear h H_1 Y_1
                             have T1_2 := Lib.hid (hB)
                             clear hB
                             have hHeld : True := trivial
                             refine wpAnyH_ready (rs := [4]) (by kernel_rfl) (by simp) ?_
                             refine AllReadyH.cons rfl (fun KK hK => ?_) AllReadyH.nil
                             clear hHeld
                             have k1 : w2.cell? ⟨Q, 2, none⟩ = some (.slice (some ⟨gb, 0, none⟩) M cp) := H_2.out.bk.cell 2
                             go_simp
                             refine hK.out _ _ trivial (fun hHeld => ?_)
                             clear hK KK k1
                             try simp only [Act.put, List.getElem_toArray, List.getElem_cons_succ, List.getElem_cons_zero, List.setIfInBounds_toArray, List.set_cons_zero, List.set_cons_succ]
                             refine wpAnyH_ready (rs := [19]) (by kernel_rfl) (by simp) ?_
                             refine AllReadyH.cons rfl (fun KK hK => ?_) AllReadyH.nil
                             clear hHeld
                             have HRo := Lib.hid (ownsRow_kept HO.out (Y_2.out.keeps (S := fun _ => False)) (fun _ _ q => q))
                             refine step_append_lies _ rfl (.tmp 166) (.tmp 180) 61 rfl 0 5 i0 (.int .u8 0) 1 1 Tryd.underlying61 hi0 hz0 hz1 hz2 rfl (by decide) (.slice (some ⟨gb, 0, none⟩) M cp) M (bytesV U) (by simp [Act.eval]) HRo.out ⟨w1.heap.size, 0, none⟩ 1 1 [.int .u8 (y.toNat : Int)] (by simp [Act.eval]) rfl (fun j u hu => ?c1) (by intro u hu; simp at hu; subst hu; rfl) (by omega) (by unfold maxLen; omega) (by omega) (Nat.zero_le _) _ rfl ?_
                             case c1 =>
                              obtain rfl : j = 0 := by have := (List.getElem?_eq_some_iff.1 hu).1; simpa using this
                              rw [add_plain, T1_2.out.cell 0]; exact hu
                             intro g1 cap1 w4 hown hgrow hat hlt1
                             have P := H_2.out.byte (y := y) HM.out (Ext.refl _) hgrow hown (by rcases hat with q | q; exact .inl q.symm; exact .inr (by rw [q]; rfl))
                             have b1 : w4.cell? ⟨Q, 2, none⟩ = some (.slice (some ⟨gb, 0, none⟩) M cp) := P.1.cell 2
                             have f1 := P.1.frozen 2
                             have HP := Lib.hid P.2
                             clear P hown hgrow hat hlt1
                             refine hK.out _ _ trivial (fun hHeld => ?_)
                             clear hK KK
                             try simp only [Act.put, List.getElem_toArray, List.getElem_cons_succ, List.getElem_cons_zero, List.setIfInBounds_toArray, List.set_cons_zero, List.set_cons_succ]
                             refine wpAnyH_take (i := 20) (v := ?_) rfl (by kernel_rfl) (by kernel_rfl) (by kernel_rfl) (fun _ _ _ h => h) (Or.inl ⟨by kernel_rfl, ?_⟩) hHeld ?_
                             rotate_left
                             ·intro w hSw
                              (try dsimp only at hSw)
                              go_split_ands
                              go_simp
                              (try with_reducible rfl)
                             try simp only [Act.put, List.getElem_toArray, List.getElem_cons_succ, List.getElem_cons_zero, List.setIfInBounds_toArray, List.set_cons_zero, List.set_cons_succ]
                             refine wpAnyH_take (i := 21) (v := ?_) rfl (by kernel_rfl) (by kernel_rfl) (by kernel_rfl) (fun _ _ _ h => h) (Or.inl ⟨by kernel_rfl, ?_⟩) hHeld ?_
                             rotate_left
                             ·intro w hSw
                              (try dsimp only at hSw)
                              go_split_ands
                              go_simp
                              (try with_reducible rfl)
                             try simp only [Act.put, List.getElem_toArray, List.getElem_cons_succ, List.getElem_cons_zero, List.setIfInBounds_toArray, List.set_cons_zero, List.set_cons_succ]
                             refine wpAnyH_ready (rs := [22]) (by kernel_rfl) (by simp) ?_
                             refine AllReadyH.cons rfl (fun KK hK => ?_) AllReadyH.nil
                             clear hHeld
                             go_simp
                             refine hK.out _ _ trivial (fun hHeld => ?_)
                             clear hK KK b1 f1
                             try simp only [Act.put, List.getElem_toArray, List.getElem_cons_succ, List.getElem_cons_zero, List.setIfInBounds_toArray, List.set_cons_zero, List.set_cons_succ]
                             refine wpAnyH_done (by kernel_rfl) ?_ _
                             clear hHeld
                             have wj : ∀ z, z = (j : Int) + 1 → IntKind.i64.wrap z = z := by rintro _ rfl; rw [IntKind.wrap_i64]; omega
                             have HU2 := Lib.hid HUS.out
                             go_wp2_with fail
                             go_roundw
                             case rel => exact ⟨j + 1, _, by omega, by go_num, Lib.hid (by rw [HU2.out]; exact HP.out)⟩
                             case measure => simp [intOf]; omega
                         ·clear hHeld
                          have k1 : w1.cell? ⟨Q, 2, none⟩ = some (.slice (some ⟨gb, 0, none⟩) M cp) := H_1.out.bk.cell 2
                          go_simp
                          refine hK.out _ _ trivial (fun hHeld => ?_)
                          clear hK KK k1
                          try simp only [Act.put, List.getElem_toArray, List.getElem_cons_succ, List.getElem_cons_zero, List.setIfInBounds_toArray, List.set_cons_zero, List.set_cons_succ]
                          refine wpAnyH_take (i := 13) (v := ?_) rfl (by kernel_rfl) (by kernel_rfl) (by kernel_rfl) (fun _ _ _ h => h) (Or.inl ⟨by kernel_rfl, ?_⟩) hHeld ?_
                          rotate_left
                          ·intro w hSw
                           (try dsimp only at hSw)
                           go_split_ands
                           go_simp
                           (try with_reducible rfl)
                          try simp only [Act.put, List.getElem_toArray, List.getElem_cons_succ, List.getElem_cons_zero, List.setIfInBounds_toArray, List.set_cons_zero, List.set_cons_succ]
                          refine wpAnyH_take (i := 15) (v := ?_) rfl (by kernel_rfl) (by kernel_rfl) (by kernel_rfl) (fun _ _ _ h => h) (Or.inl ⟨by kernel_rfl, ?_⟩) hHeld ?_
                          rotate_left
                          ·intro w hSw
                           (try dsimp only at hSw)
                           go_split_ands
                           go_simp
                           (try with_reducible rfl)
                          try simp only [Act.put, List.getElem_toArray, List.getElem_cons_succ, List.getElem_cons_zero, List.setIfInBounds_toArray, List.set_cons_zero, List.set_cons_succ]
                          refine wpAnyH_ready (rs := [4, 8]) (by kernel_rfl) (by simp) ?_
                          refine AllReadyH.cons rfl (fun KK hK => ?_) (AllReadyH.cons rfl (fun KK hK => ?_) AllReadyH.nil)
                          ·clear hHeld
                           have k1 : w1.cell? ⟨Q, 2, none⟩ = some (.slice (some ⟨gb, 0, none⟩) M cp) := H_1.out.bk.cell 2
                           go_simp
                           refine hK.out _ _ trivial (fun hHeld => ?_)
                           clear hK KK k1
                           try simp only [Act.put, List.getElem_toArray, List.getElem_cons_succ, List.getElem_cons_zero, List.setIfInBounds_toArray, List.set_cons_zero, List.set_cons_succ]
                           refine wpAnyH_ready (rs := [8]) (by kernel_rfl) (by simp) ?_
                           refine AllReadyH.cons rfl (fun KK hK => ?_) AllReadyH.nil
                           clear hHeld
                           have k1 : w1.cell? ⟨Q, 2, none⟩ = some (.slice (some ⟨gb, 0, none⟩) M cp) := H_1.out.bk.cell 2
                           go_simp
                           refine hK.out _ _ trivial (fun hHeld => ?_)
                           clear hK KK k1
                           try simp only [Act.put, List.getElem_toArray, List.getElem_cons_succ, List.getElem_cons_zero, List.setIfInBounds_toArray, List.set_cons_zero, List.set_cons_succ]
                           refine wpAnyH_take (i := 16) (v := ?_) rfl (by kernel_rfl) (by kernel_rfl) (by kernel_rfl) (fun _ _ _ h => h) (Or.inl ⟨by kernel_rfl, ?_⟩) hHeld ?_
                           rotate_left
                           ·intro w hSw
                            (try dsimp only at hSw)
                            go_split_ands
                            go_simp
                            (try with_reducible rfl)
                           try simp only [Act.put, List.getElem_toArray, List.getElem_cons_succ, List.getElem_cons_zero, List.setIfInBounds_toArray, List.set_cons_zero, List.set_cons_succ]
                           refine wpAnyH_ready (rs := [17]) (by kernel_rfl) (by simp) ?_
                           refine AllReadyH.cons rfl (fun KK hK => ?_) AllReadyH.nil
                           clear hHeld
                           have hc := ext_cell Y_1.out HC.out
                           go_simp
                           refine hK.out _ _ trivial (fun hHeld => ?_)
                           clear hK KK hc
                           try simp only [Act.put, List.getElem_toArray, List.getElem_cons_succ, List.getElem_cons_zero, List.setIfInBounds_toArray, List.set_cons_zero, List.set_cons_succ]
                           refine wpAnyH_ready (rs := [18]) (by kernel_rfl) (by simp) ?_
                           refine AllReadyH.cons rfl (fun KK hK => ?_) AllReadyH.nil
                           clear hHeld
                           go_simp
                           refine hK.out _ _ trivial (fun hHeld => ?_)
                           clear hK KK hHeld
                           try simp only [Act.put, List.getElem_toArray, List.getElem_cons_succ, List.getElem_cons_zero, List.setIfInBounds_toArray, List.set_cons_zero, List.set_cons_succ]
                           refine anyH_world (fun wz => Ext w1 wz ∧ Bk wz w1.heap.size #[.int .u8 (y.toNat : Int)]) ⟨Ext.alloc (Ext.refl _) _, Bk.at rfl⟩ ?_
                           rintro w2 ⟨h, hB⟩
                           have H_2 := Lib.hid (H_1.out.ext h)
                           have Y_2 := Lib.hid (Y_1.out.trans h)
                           clear h H_1 Y_1
                           have T1_2 := Lib.hid (hB)
                           clear hB
                           have hHeld : True := trivial
                           refine wpAnyH_ready (rs := [19]) (by kernel_rfl) (by simp) ?_
                           refine AllReadyH.cons rfl (fun KK hK => ?_) AllReadyH.nil
                           clear hHeld
                           have HRo := Lib.hid (ownsRow_kept HO.out (Y_2.out.keeps (S := fun _ => False)) (fun _ _ q => q))
                           refine step_append_lies _ rfl (.tmp 166) (.tmp 180) 61 rfl 0 5 i0 (.int .u8 0) 1 1 Tryd.underlying61 hi0 hz0 hz1 hz2 rfl (by decide) (.slice (some ⟨gb, 0, none⟩) M cp) M (bytesV U) (by simp [Act.eval]) HRo.out ⟨w1.heap.size, 0, none⟩ 1 1 [.int .u8 (y.toNat : Int)] (by simp [Act.eval]) rfl (fun j u hu => ?c1) (by intro u hu; simp at hu; subst hu; rfl) (by omega) (by unfold maxLen; omega) (by omega) (Nat.zero_le _) _ rfl ?_
                           case c1 =>
                            obtain rfl : j = 0 := by have := (List.getElem?_eq_some_iff.1 hu).1; simpa using this
                            rw [add_plain, T1_2.out.cell 0]; exact hu
                           intro g1 cap1 w4 hown hgrow hat hlt1
                           have P := H_2.out.byte (y := y) HM.out (Ext.refl _) hgrow hown (by rcases hat with q | q; exact .inl q.symm; exact .inr (by rw [q]; rfl))
                           have b1 : w4.cell? ⟨Q, 2, none⟩ = some (.slice (some ⟨gb, 0, none⟩) M cp) := P.1.cell 2
                           have f1 := P.1.frozen 2
                           have HP := Lib.hid P.2
                           clear P hown hgrow hat hlt1
                           refine hK.out _ _ trivial (fun hHeld => ?_)
                           clear hK KK
                           try simp only [Act.put, List.getElem_toArray, List.getElem_cons_succ, List.getElem_cons_zero, List.setIfInBounds_toArray, List.set_cons_zero, List.set_cons_succ]
                           refine wpAnyH_take (i := 20) (v := ?_) rfl (by kernel_rfl) (by kernel_rfl) (by kernel_rfl) (fun _ _ _ h => h) (Or.inl ⟨by kernel_rfl, ?_⟩) hHeld ?_
                           rotate_left
                           ·intro w hSw
                            (try dsimp only at hSw)
                            go_split_ands
                            go_simp
                            (try with_reducible rfl)
                           try simp only [Act.put, List.getElem_toArray, List.getElem_cons_succ, List.getElem_cons_zero, List.setIfInBounds_toArray, List.set_cons_zero, List.set_cons_succ]
                           refine wpAnyH_take (i := 21) (v := ?_) rfl (by kernel_rfl) (by kernel_rfl) (by kernel_rfl) (fun _ _ _ h => h) (Or.inl ⟨by kernel_rfl, ?_⟩) hHeld ?_
                           rotate_left
                           ·intro w hSw
                            (try dsimp only at hSw)
                            go_split_ands
                            go_simp
                            (try with_reducible rfl)
                           try simp only [Act.put, List.getElem_toArray, List.getElem_cons_succ, List.getElem_cons_zero, List.setIfInBounds_toArray, List.set_cons_zero, List.set_cons_succ]
                           refine wpAnyH_ready (rs := [22]) (by kernel_rfl) (by simp) ?_
                           refine AllReadyH.cons rfl (fun KK hK => ?_) AllReadyH.nil
                           clear hHeld
                           go_simp
                           refine hK.out _ _ trivial (fun hHeld => ?_)
                           clear hK KK b1 f1
                           try simp only [Act.put, List.getElem_toArray, List.getElem_cons_succ, List.getElem_cons_zero, List.setIfInBounds_toArray, List.set_cons_zero, List.set_cons_succ]
                           refine wpAnyH_done (by kernel_rfl) ?_ _
                           clear hHeld
                           have wj : ∀ z, z = (j : Int) + 1 → IntKind.i64.wrap z = z := by rintro _ rfl; rw [IntKind.wrap_i64]; omega
                           have HU2 := Lib.hid HUS.out
                           go_wp2_with fail
                           go_roundw
                           case rel => exact ⟨j + 1, _, by omega, by go_num, Lib.hid (by rw [HU2.out]; exact HP.out)⟩
                           case measure => simp [intOf]; omega
                          ·clear hHeld
                           have k1 : w1.cell? ⟨Q, 2, none⟩ = some (.slice (some ⟨gb, 0, none⟩) M cp) := H_1.out.bk.cell 2
                           go_simp
                           refine hK.out _ _ trivial (fun hHeld => ?_)
                           clear hK KK k1
                           try simp only [Act.put, List.getElem_toArray, List.getElem_cons_succ, List.getElem_cons_zero, List.setIfInBounds_toArray, List.set_cons_zero, List.set_cons_succ]
                           refine wpAnyH_take (i := 16) (v := ?_) rfl (by kernel_rfl) (by kernel_rfl) (by kernel_rfl) (fun _ _ _ h => h) (Or.inl ⟨by kernel_rfl, ?_⟩) hHeld ?_
                           rotate_left
                           ·intro w hSw
                            (try dsimp only at hSw)
                            go_split_ands
                            go_simp
                            (try with_reducible rfl)
                           try simp only [Act.put, List.getElem_toArray, List.getElem_cons_succ, List.getElem_cons_zero, List.setIfInBounds_toArray, List.set_cons_zero, List.set_cons_succ]
                           refine wpAnyH_ready (rs := [4, 17]) (by kernel_rfl) (by simp) ?_
                           refine AllReadyH.cons rfl (fun KK hK => ?_) (AllReadyH.cons rfl (fun KK hK => ?_) AllReadyH.nil)
                           ·clear hHeld
                            have k1 : w1.cell? ⟨Q, 2, none⟩ = some (.slice (some ⟨gb, 0, none⟩) M cp) := H_1.out.bk.cell 2
                            go_simp
                            refine hK.out _ _ trivial (fun hHeld => ?_)
                            clear hK KK k1
                            try simp only [Act.put, List.getElem_toArray, List.getElem_cons_succ, List.getElem_cons_zero, List.setIfInBounds_toArray, List.set_cons_zero, List.set_cons_succ]
                            refine wpAnyH_ready (rs := [17]) (by kernel_rfl) (by simp) ?_
                            refine AllReadyH.cons rfl (fun KK hK => ?_) AllReadyH.nil
                            clear hHeld
                            have hc := ext_cell Y_1.out HC.out
                            go_simp
                            refine hK.out _ _ trivial (fun hHeld => ?_)
                            clear hK KK hc
                            try simp only [Act.put, List.getElem_toArray, List.getElem_cons_succ, List.getElem_cons_zero, List.setIfInBounds_toArray, List.set_cons_zero, List.set_cons_succ]
                            refine wpAnyH_ready (rs := [18]) (by kernel_rfl) (by simp) ?_
                            refine AllReadyH.cons rfl (fun KK hK => ?_) AllReadyH.nil
                            clear hHeld
                            go_simp
                            refine hK.out _ _ trivial (fun hHeld => ?_)
                            clear hK KK hHeld
                            try simp only [Act.put, List.getElem_toArray, List.getElem_cons_succ, List.getElem_cons_zero, List.setIfInBounds_toArray, List.set_cons_zero, List.set_cons_succ]
                            refine anyH_world (fun wz => Ext w1 wz ∧ Bk wz w1.heap.size #[.int .u8 (y.toNat : Int)]) ⟨Ext.alloc (Ext.refl _) _, Bk.at rfl⟩ ?_
                            rintro w2 ⟨h, hB⟩
                            have H_2 := Lib.hid (H_1.out.ext h)
                            have Y_2 := Lib.hid (Y_1.out.trans h)
                            clear h H_1 Y_1
                            have T1_2 := Lib.hid (hB)
                            clear hB
                            have hHeld : True := trivial
                            refine wpAnyH_ready (rs := [19]) (by kernel_rfl) (by simp) ?_
                            refine AllReadyH.cons rfl (fun KK hK => ?_) AllReadyH.nil
                            clear hHeld
                            have HRo := Lib.hid (ownsRow_kept HO.out (Y_2.out.keeps (S := fun _ => False)) (fun _ _ q => q))
                            refine step_append_lies _ rfl (.tmp 166) (.tmp 180) 61 rfl 0 5 i0 (.int .u8 0) 1 1 Tryd.underlying61 hi0 hz0 hz1 hz2 rfl (by decide) (.slice (some ⟨gb, 0, none⟩) M cp) M (bytesV U) (by simp [Act.eval]) HRo.out ⟨w1.heap.size, 0, none⟩ 1 1 [.int .u8 (y.toNat : Int)] (by simp [Act.eval]) rfl (fun j u hu => ?c1) (by intro u hu; simp at hu; subst hu; rfl) (by omega) (by unfold maxLen; omega) (by omega) (Nat.zero_le _) _ rfl ?_
                            case c1 =>
                             obtain rfl : j = 0 := by have := (List.getElem?_eq_some_iff.1 hu).1; simpa using this
                             rw [add_plain, T1_2.out.cell 0]; exact hu
                            intro g1 cap1 w4 hown hgrow hat hlt1
                            have P := H_2.out.byte (y := y) HM.out (Ext.refl _) hgrow hown (by rcases hat with q | q; exact .inl q.symm; exact .inr (by rw [q]; rfl))
                            have b1 : w4.cell? ⟨Q, 2, none⟩ = some (.slice (some ⟨gb, 0, none⟩) M cp) := P.1.cell 2
                            have f1 := P.1.frozen 2
                            have HP := Lib.hid P.2
                            clear P hown hgrow hat hlt1
                            refine hK.out _ _ trivial (fun hHeld => ?_)
                            clear hK KK
                            try simp only [Act.put, List.getElem_toArray, List.getElem_cons_succ, List.getElem_cons_zero, List.setIfInBounds_toArray, List.set_cons_zero, List.set_cons_succ]
                            refine wpAnyH_take (i := 20) (v := ?_) rfl (by kernel_rfl) (by kernel_rfl) (by kernel_rfl) (fun _ _ _ h => h) (Or.inl ⟨by kernel_rfl, ?_⟩) hHeld ?_
                            rotate_left
                            ·intro w hSw
                             (try dsimp only at hSw)
                             go_split_ands
                             go_simp
                             (try with_reducible rfl)
                            try simp only [Act.put, List.getElem_toArray, List.getElem_cons_succ, List.getElem_cons_zero, List.setIfInBounds_toArray, List.set_cons_zero, List.set_cons_succ]
                            refine wpAnyH_take (i := 21) (v := ?_) rfl (by kernel_rfl) (by kernel_rfl) (by kernel_rfl) (fun _ _ _ h => h) (Or.inl ⟨by kernel_rfl, ?_⟩) hHeld ?_
                            rotate_left
                            ·intro w hSw
                             (try dsimp only at hSw)
                             go_split_ands
                             go_simp
                             (try with_reducible rfl)
                            try simp only [Act.put, List.getElem_toArray, List.getElem_cons_succ, List.getElem_cons_zero, List.setIfInBounds_toArray, List.set_cons_zero, List.set_cons_succ]
                            refine wpAnyH_ready (rs := [22]) (by kernel_rfl) (by simp) ?_
                            refine AllReadyH.cons rfl (fun KK hK => ?_) AllReadyH.nil
                            clear hHeld
                            go_simp
                            refine hK.out _ _ trivial (fun hHeld => ?_)
                            clear hK KK b1 f1
                            try simp only [Act.put, List.getElem_toArray, List.getElem_cons_succ, List.getElem_cons_zero, List.setIfInBounds_toArray, List.set_cons_zero, List.set_cons_succ]
                            refine wpAnyH_done (by kernel_rfl) ?_ _
                            clear hHeld
                            have wj : ∀ z, z = (j : Int) + 1 → IntKind.i64.wrap z = z := by rintro _ rfl; rw [IntKind.wrap_i64]; omega
                            have HU2 := Lib.hid HUS.out
                            go_wp2_with fail
                            go_roundw
                            case rel => exact ⟨j + 1, _, by omega, by go_num, Lib.hid (by rw [HU2.out]; exact HP.out)⟩
                            case measure => simp [intOf]; omega
                           ·clear hHeld
                            have hc := ext_cell Y_1.out HC.out
                            go_simp
                            refine hK.out _ _ trivial (fun hHeld => ?_)
                            clear hK KK hc
                            try simp only [Act.put, List.getElem_toArray, List.getElem_cons_succ, List.getElem_cons_zero, List.setIfInBounds_toArray, List.set_cons_zero, List.set_cons_succ]
                            refine wpAnyH_ready (rs := [4, 18]) (by kernel_rfl) (by simp) ?_
                            refine AllReadyH.cons rfl (fun KK hK => ?_) (AllReadyH.cons rfl (fun KK hK => ?_) AllReadyH.nil)
                            ·clear hHeld
                             have k1 : w1.cell? ⟨Q, 2, none⟩ = some (.slice (some ⟨gb, 0, none⟩) M cp) := H_1.out.bk.cell 2
                             go_simp
                             refine hK.out _ _ trivial (fun hHeld => ?_)
                             clear hK KK k1
                             try simp only [Act.put, List.getElem_toArray, List.getElem_cons_succ, List.getElem_cons_zero, List.setIfInBounds_toArray, List.set_cons_zero, List.set_cons_succ]
                             refine wpAnyH_ready (rs := [18]) (by kernel_rfl) (by simp) ?_
                             refine AllReadyH.cons rfl (fun KK hK => ?_) AllReadyH.nil
                             clear hHeld
                             go_simp
                             refine hK.out _ _ trivial (fun hHeld => ?_)
                             clear hK KK hHeld
                             try simp only [Act.put, List.getElem_toArray, List.getElem_cons_succ, List.getElem_cons_zero, List.setIfInBounds_toArray, List.set_cons_zero, List.set_cons_succ]
                             refine anyH_world (fun wz => Ext w1 wz ∧ Bk wz w1.heap.size #[.int .u8 (y.toNat : Int)]) ⟨Ext.alloc (Ext.refl _) _, Bk.at rfl⟩ ?_
                             rintro w2 ⟨h, hB⟩
                             have H_2 := Lib.hid (H_1.out.ext h)
                             have Y_2 := Lib.hid (Y_1.out.trans h)
                             clear h H_1 Y_1
                             have T1_2 := Lib.hid (hB)
                             clear hB
                             have hHeld : True := trivial
                             refine wpAnyH_ready (rs := [19]) (by kernel_rfl) (by simp) ?_
                             refine AllReadyH.cons rfl (fun KK hK => ?_) AllReadyH.nil
                             clear hHeld
                             have HRo := Lib.hid (ownsRow_kept HO.out (Y_2.out.keeps (S := fun _ => False)) (fun _ _ q => q))
                             refine step_append_lies _ rfl (.tmp 166) (.tmp 180) 61 rfl 0 5 i0 (.int .u8 0) 1 1 Tryd.underlying61 hi0 hz0 hz1 hz2 rfl (by decide) (.slice (some ⟨gb, 0, none⟩) M cp) M (bytesV U) (by simp [Act.eval]) HRo.out ⟨w1.heap.size, 0, none⟩ 1 1 [.int .u8 (y.toNat : Int)] (by simp [Act.eval]) rfl (fun j u hu => ?c1) (by intro u hu; simp at hu; subst hu; rfl) (by omega) (by unfold maxLen; omega) (by omega) (Nat.zero_le _) _ rfl ?_
                             case c1 =>
                              obtain rfl : j = 0 := by have := (List.getElem?_eq_some_iff.1 hu).1; simpa using this
                              rw [add_plain, T1_2.out.cell 0]; exact hu
                             intro g1 cap1 w4 hown hgrow hat hlt1
                             have P := H_2.out.byte (y := y) HM.out (Ext.refl _) hgrow hown (by rcases hat with q | q; exact .inl q.symm; exact .inr (by rw [q]; rfl))
                             have b1 : w4.cell? ⟨Q, 2, none⟩ = some (.slice (some ⟨gb, 0, none⟩) M cp) := P.1.cell 2
                             have f1 := P.1.frozen 2
                             have HP := Lib.hid P.2
                             clear P hown hgrow hat hlt1
                             refine hK.out _ _ trivial (fun hHeld => ?_)
                             clear hK KK
                             try simp only [Act.put, List.getElem_toArray, List.getElem_cons_succ, List.getElem_cons_zero, List.setIfInBounds_toArray, List.set_cons_zero, List.set_cons_succ]
                             refine wpAnyH_take (i := 20) (v := ?_) rfl (by kernel_rfl) (by kernel_rfl) (by kernel_rfl) (fun _ _ _ h => h) (Or.inl ⟨by kernel_rfl, ?_⟩) hHeld ?_
                             rotate_left
                             ·intro w hSw
                              (try dsimp only at hSw)
                              go_split_ands
                              go_simp
                              (try with_reducible rfl)
                             try simp only [Act.put, List.getElem_toArray, List.getElem_cons_succ, List.getElem_cons_zero, List.setIfInBounds_toArray, List.set_cons_zero, List.set_cons_succ]
                             refine wpAnyH_take (i := 21) (v := ?_) rfl (by kernel_rfl) (by kernel_rfl) (by kernel_rfl) (fun _ _ _ h => h) (Or.inl ⟨by kernel_rfl, ?_⟩) hHeld ?_
                             rotate_left
                             ·intro w hSw
                              (try dsimp only at hSw)
                              go_split_ands
                              go_simp
                              (try with_reducible rfl)
                             try simp only [Act.put, List.getElem_toArray, List.getElem_cons_succ, List.getElem_cons_zero, List.setIfInBounds_toArray, List.set_cons_zero, List.set_cons_succ]
                             refine wpAnyH_ready (rs := [22]) (by kernel_rfl) (by simp) ?_
                             refine AllReadyH.cons rfl (fun KK hK => ?_) AllReadyH.nil
                             clear hHeld
                             go_simp
                             refine hK.out _ _ trivial (fun hHeld => ?_)
                             clear hK KK b1 f1
                             try simp only [Act.put, List.getElem_toArray, List.getElem_cons_succ, List.getElem_cons_zero, List.setIfInBounds_toArray, List.set_cons_zero, List.set_cons_succ]
                             refine wpAnyH_done (by kernel_rfl) ?_ _
                             clear hHeld
                             have wj : ∀ z, z = (j : Int) + 1 → IntKind.i64.wrap z = z := by rintro _ rfl; rw [IntKind.wrap_i64]; omega
                             have HU2 := Lib.hid HUS.out
                             go_wp2_with fail
                             go_roundw
                             case rel => exact ⟨j + 1, _, by omega, by go_num, Lib.hid (by rw [HU2.out]; exact HP.out)⟩
                             case measure => simp [intOf]; omega
                            ·clear hHeld
                             go_simp
                             refine hK.out _ _ trivial (fun hHeld => ?_)
                             clear hK KK hHeld
                             try simp only [Act.put, List.getElem_toArray, List.getElem_cons_succ, List.getElem_cons_zero, List.setIfInBounds_toArray, List.set_cons_zero, List.set_cons_succ]
                             refine anyH_world (fun wz => Ext w1 wz ∧ Bk wz w1.heap.size #[.int .u8 (y.toNat : Int)]) ⟨Ext.alloc (Ext.refl _) _, Bk.at rfl⟩ ?_
                             rintro w2 ⟨h, hB⟩
                             have H_2 := Lib.hid (H_1.out.ext h)
                             have Y_2 := Lib.hid (Y_1.out.trans h)
                             clear h H_1 Y_1
                             have T1_2 := Lib.hid (hB)
                             clear hB
                             have hHeld : True := trivial
                             refine wpAnyH_ready (rs := [4]) (by kernel_rfl) (by simp) ?_
                             refine AllReadyH.cons rfl (fun KK hK => ?_) AllReadyH.nil
                             clear hHeld
                             have k1 : w2.cell? ⟨Q, 2, none⟩ = some (.slice (some ⟨gb, 0, none⟩) M cp) := H_2.out.bk.cell 2
                             go_simp
                             refine hK.out _ _ trivial (fun hHeld => ?_)
                             clear hK KK k1
                             try simp only [Act.put, List.getElem_toArray, List.getElem_cons_succ, List.getElem_cons_zero, List.setIfInBounds_toArray, List.set_cons_zero, List.set_cons_succ]
                             refine wpAnyH_ready (rs := [19]) (by kernel_rfl) (by simp) ?_
                             refine AllReadyH.cons rfl (fun KK hK => ?_) AllReadyH.nil
                             clear hHeld
                             have HRo := Lib.hid (ownsRow_kept HO.out (Y_2.out.keeps (S := fun _ => False)) (fun _ _ q => q))
                             refine step_append_lies _ rfl (.tmp 166) (.tmp 180) 61 rfl 0 5 i0 (.int .u8 0) 1 1 Tryd.underlying61 hi0 hz0 hz1 hz2 rfl (by decide) (.slice (some ⟨gb, 0, none⟩) M cp) M (bytesV U) (by simp [Act.eval]) HRo.out ⟨w1.heap.size, 0, none⟩ 1 1 [.int .u8 (y.toNat : Int)] (by simp [Act.eval]) rfl (fun j u hu => ?c1) (by intro u hu; simp at hu; subst hu; rfl) (by omega) (by unfold maxLen; omega) (by omega) (Nat.zero_le _) _ rfl ?_
                             case c1 =>
                              obtain rfl : j = 0 := by have := (List.getElem?_eq_some_iff.1 hu).1; simpa using this
                              rw [add_plain, T1_2.out.cell 0]; exact hu
                             intro g1 cap1 w4 hown hgrow hat hlt1
                             have P := H_2.out.byte (y := y) HM.out (Ext.refl _) hgrow hown (by rcases hat with q | q; exact .inl q.symm; exact .inr (by rw [q]; rfl))
                             have b1 : w4.cell? ⟨Q, 2, none⟩ = some (.slice (some ⟨gb, 0, none⟩) M cp) := P.1.cell 2
                             have f1 := P.1.frozen 2
                             have HP := Lib.hid P.2
                             clear P hown hgrow hat hlt1
                             refine hK.out _ _ trivial (fun hHeld => ?_)
                             clear hK KK
                             try simp only [Act.put, List.getElem_toArray, List.getElem_cons_succ, List.getElem_cons_zero, List.setIfInBounds_toArray, List.set_cons_zero, List.set_cons_succ]
                             refine wpAnyH_take (i := 20) (v := ?_) rfl (by kernel_rfl) (by kernel_rfl) (by kernel_rfl) (fun _ _ _ h => h) (Or.inl ⟨by kernel_rfl, ?_⟩) hHeld ?_
                             rotate_left
                             ·intro w hSw
                              (try dsimp only at hSw)
                              go_split_ands
                              go_simp
                              (try with_reducible rfl)
                             try simp only [Act.put, List.getElem_toArray, List.getElem_cons_succ, List.getElem_cons_zero, List.setIfInBounds_toArray, List.set_cons_zero, List.set_cons_succ]
                             refine wpAnyH_take (i := 21) (v := ?_) rfl (by kernel_rfl) (by kernel_rfl) (by kernel_rfl) (fun _ _ _ h => h) (Or.inl ⟨by kernel_rfl, ?_⟩) hHeld ?_
                             rotate_left
                             ·intro w hSw
                              (try dsimp only at hSw)
                              go_split_ands
                              go_simp
                              (try with_reducible rfl)
                             try simp only [Act.put, List.getElem_toArray, List.getElem_cons_succ, List.getElem_cons_zero, List.setIfInBounds_toArray, List.set_cons_zero, List.set_cons_succ]
                             refine wpAnyH_ready (rs := [22]) (by kernel_rfl) (by simp) ?_
                             refine AllReadyH.cons rfl (fun KK hK => ?_) AllReadyH.nil
                             clear hHeld
                             go_simp
                             refine hK.out _ _ trivial (fun hHeld => ?_)
                             clear hK KK b1 f1
                             try simp only [Act.put, List.getElem_toArray, List.getElem_cons_succ, List.getElem_cons_zero, List.setIfInBounds_toArray, List.set_cons_zero, List.set_cons_succ]
                             refine wpAnyH_done (by kernel_rfl) ?_ _
                             clear hHeld
                             have wj : ∀ z, z = (j : Int) + 1 → IntKind.i64.wrap z = z := by rintro _ rfl; rw [IntKind.wrap_i64]; omega
                             have HU2 := Lib.hid HUS.out
                             go_wp2_with fail
                             go_roundw
                             case rel => exact ⟨j + 1, _, by omega, by go_num, Lib.hid (by rw [HU2.out]; exact HP.out)⟩
                             case measure => simp [intOf]; omega
                       ·as_aux_lemma =>
                         obtain rfl : j = n := by omega
                         have t8 : decide ((j : Int) < (j : Int)) = false := decide_eq_false (by omega)
                         have n8 : ¬ j < j := by omega
                         go_upto_region 30 with fail
                         clear t8 n8
                         obtain ⟨M, hM⟩ : ∃ M, (tks0 ++ Inf.tksOf tr).length = M := ⟨_, rfl⟩
                         have HM := Lib.hid hM
                         have hMb : M ≤ 5000000 := by rw [← hM, List.length_append]; have := Inf.tksOf_len tr; omega
                         have hrt := H_0.out.trow
                         rw [hM] at hrt
                         obtain ⟨xt, ct, rfl⟩ := lit_row hrt
                         clear hM hrt
                         have hrt := H_0.out.trow
                         rw [HM.out] at hrt
                         have HRT := Lib.hid hrt
                         clear hrt
                         have c11 : wr.cell? ⟨Q, 11, none⟩ = some (.slice xt M ct) := H_0.out.bk.cell 11
                         go_wp2_with (at_builtin; refine wpList_append_own_at _ rfl _ _ 32 rfl 0 84 j0 _ 3 24 Tryd.underlying32 hj0 hy0 hy1 hy2 rfl (by decide) _ _ _ rfl (HRT.out.alloc _) ⟨wr.heap.size, 0, none⟩ 1 1 [.int .u8 0, .int .i64 (j : Int), .int .i64 (bk : Int)] rfl rfl ?t1 ?t2 ?t3 ?t4 ?t5 ?_)
                         case t1 =>
                          intro j u hu
                          rw [add_plain]
                          exact (Bk.at (w := wr) rfl).cell j |>.trans (by simpa using hu)
                         case t2 => intro u hu; simp only [List.mem_cons, List.not_mem_nil, or_false] at hu; rcases hu with hu | hu | hu <;> (subst hu; rfl)
                         case t3 => unfold maxLen; omega
                         case t4 => omega
                         case t5 => exact Nat.zero_le _
                         intro v7 w7 hown hgrow _ hat
                         obtain ⟨x7, c7, rfl⟩ := lit_row hown
                         have P := H_0.out.tok (t := ⟨0, (j : Int), (bk : Int)⟩) HM.out ((Ext.refl _).alloc _) hgrow (by exact hown) (by rcases hat with q | q; exact .inl q; exact .inr (by rw [q]; simp))
                         have b1 : w7.cell? ⟨Q, 11, none⟩ = some (.slice xt M ct) := P.1.cell 11
                         have fb := P.1.frozen 11
                         have HP := Lib.hid P.2
                         clear P hown hgrow hat c11 HRT
                         go_wp2_with fail
                         obtain ⟨F2, hF2, HR2⟩ := HQ.out
                         have HR3 := Lib.hid HR2
                         have HF3 : Hid (F = F2 + 1) := Lib.hid hF2
                         clear HR2 HQ hF2
                         go_roundg F2
                         case measure => have := HF3.out; have := HK.out; omega
                         case rel => exact ⟨a4, 0, F2, _, _, _, tr ++ [⟨kk + 257, d, j, bk⟩], _, _, _, HP, Lib.hid (.inl ⟨rfl, HR3.out, ⟨hal4, by have := HF3.out; have := HB.out; have := HA1.out; have := HA2.out; have := HA3.out; have := HA4.out; omega, by rw [copyL_length, HL.out]; exact HBd.out.1, by rw [List.length_append]; have := HB.out; have := HA1.out; have := HA2.out; have := HA3.out; have := HA4.out; simp; omega⟩, by rw [Inf.tksOf_push, List.append_assoc]; simp [Inf.tkOf, show ¬ kk + 257 < 256 by omega], by rw [Inf.use7_push, ← HZ.out], by rw [Inf.use8_push _ _ (by show 256 < kk + 257; omega), ← HU.out]⟩), Lib.hid rfl⟩
  ·subst he
   have HQ := Lib.hid hq
   clear HST
   go_wp2_with fail
   refine (rok_any Q a (c + 1) (bs (Bts.allB L)) (qx x B7 B8 vo vt) _ H_0.out.bk).mono ?_
   rintro r w9 ⟨rfl, h9⟩
   have h9s := h9.symm
   clear h9
   subst h9s
   rw [show decide ((c + 1) = 0) = false from decide_eq_false (by omega)]
   go_wp2_with fail
   go_end0
   exact wpost_error HQ.out rfl H_0.out
end Go.Proofs.YtnhbjgmfbcedaaaDoor
