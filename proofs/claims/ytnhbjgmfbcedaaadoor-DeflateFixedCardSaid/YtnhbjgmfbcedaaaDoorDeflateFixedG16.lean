/-
  inflate.Inflate.
  A writer of bits: Align.
  A writer of bits: Bytes, behind what is aligned.
  deflate.stored, deflate.Stored.
-/
import Derived.Test.YtnhbjgmfbcedaaaDoorDeflateFixedG15
import Derived.Test.YtnhbjgmfbcedaaaDoorDeflateFixedG5
import Derived.Deep.LoopGhost
import Derived.StillTailTactics
import Derived.Test.YtnhbjgmfbcedaaaDoorDeflateFixedG3
import Derived.Test.YtnhbjgmfbcedaaaDoorDeflateFixedG10
import Derived.Test.YtnhbjgmfbcedaaaDoorDeflateFixedG6
import Derived.Deep.DeepCutAuto
import Derived.Deep.CutBlock
namespace Go.Proofs.YtnhbjgmfbcedaaaDoor
open Go.RowKit
set_option linter.unusedSimpArgs false
set_option linter.unusedVariables false
set_option maxRecDepth 100000
theorem bound_any (s : ByteArray) (most : Int) (w : World) (hs : s.size ≤ maxLen) : Calls Tryd.prog 34 #[.string s, .int .i64 most] w fun e w' => e = .returned (.bool (decide (most < 0 ∨ 300000 < most ∨ 300000 < s.size))) ∧ w = w' := by
  unfold maxLen at hs
  by_cases h0 : most < 0
  · have e : decide (most < 0 ∨ 300000 < most ∨ 300000 < s.size) = true := decide_eq_true (.inl h0)
    rw [e]
    go_enter Tryd.func34, Tryd.ntmps34
    go_wp2_with fail
    go_ret
    exact ⟨rfl, rfl⟩
  · by_cases h1 : 300000 < most
    · have e : decide (most < 0 ∨ 300000 < most ∨ 300000 < s.size) = true := decide_eq_true (.inr (.inl h1))
      rw [e]
      go_enter Tryd.func34, Tryd.ntmps34
      go_wp2_with fail
      go_ret
      exact ⟨rfl, rfl⟩
    · by_cases h2 : 300000 < s.size
      · have e : decide (most < 0 ∨ 300000 < most ∨ 300000 < s.size) = true := decide_eq_true (.inr (.inr h2))
        have h2I : (300000 : Int) < (s.size : Int) := by omega
        rw [e]
        clear e
        go_enter Tryd.func34, Tryd.ntmps34
        go_wp2_with fail
        go_ret
        exact ⟨rfl, rfl⟩
      · have e : decide (most < 0 ∨ 300000 < most ∨ 300000 < s.size) = false := decide_eq_false (by omega)
        have h2I : ¬ (300000 : Int) < (s.size : Int) := by omega
        rw [e]
        clear e
        go_enter Tryd.func34, Tryd.ntmps34
        go_wp2_with fail
        go_ret
        exact ⟨rfl, rfl⟩
def InfPost (w w' : World) (E : Nat → Addr) (r : Except Nat (List UInt8 × Nat × List Inf.Blk)) (e : Ending) : Prop :=
  Ext w w' ∧ match r with
  | .ok (out, used, _) => e = .returned (.tuple #[.string (tb out), .int .i64 (used : Int), .nilIface])
  | .error c => e = .returned (.tuple #[.string ⟨#[]⟩, .int .i64 0, sentV (E c)])
theorem infpost_ok {w w' : World} {E : Nat → Addr} {r : Except Nat (List UInt8 × Nat × List Inf.Blk)} {out : List UInt8} {used : Nat} {bs : List Inf.Blk} {x : Value} (hr : r = .ok (out, used, bs)) (hX : Ext w w') (hx : x = .tuple #[.string (tb out), .int .i64 (used : Int), .nilIface]) : InfPost w w' E r (.returned x) := by
  subst hr hx; exact ⟨hX, rfl⟩
theorem infpost_error {w w' : World} {E : Nat → Addr} {r : Except Nat (List UInt8 × Nat × List Inf.Blk)} {c : Nat} {x : Value} (hr : r = .error c) (hX : Ext w w') (hx : x = .tuple #[.string ⟨#[]⟩, .int .i64 0, sentV (E c)]) : InfPost w w' E r (.returned x) := by
  subst hr hx; exact ⟨hX, rfl⟩
theorem res_inflate (p : Nat) (x : ByteArray) (y : Int) (z : Value) (w : World) (tmps : Array Value) (h0 : Bk w p #[.string x]) (h1 : Bk w (p + 1) #[.int .i64 y]) (h2 : Bk w (p + 2) #[z]) (t4 : tmps[4]? = some (.pointer (some ⟨p, 0, none⟩))) (t5 : tmps[5]? = some (.pointer (some ⟨p + 1, 0, none⟩))) (t6 : tmps[6]? = some (.pointer (some ⟨p + 2, 0, none⟩))) (hz : ∃ u v, z = .iface u v ∨ z = .nilIface) :
    (results Tryd.f14 tmps).run Tryd.prog w = .ok (.tuple #[.string x, .int .i64 y, z]) w := by
  have c0 := h0.cell 0
  have c1 := h1.cell 0
  have c2 := h2.cell 0
  obtain ⟨u, v, rfl | rfl⟩ := hz
  · simp [results, Tryd.results14, go_sem, t4, t5, t6, c0, c1, c2]
  · simp [results, Tryd.results14, go_sem, t4, t5, t6, c0, c1, c2]
theorem inf_error {s : ByteArray} {m : Nat} {c : Nat} {r0 : Except Nat (Nat × List UInt8 × List Inf.Blk)} {r : Except Nat (List UInt8 × Nat × List Inf.Blk)} (h0 : Inf.blocks s.data.toList m (8 * s.data.toList.length + 1) 0 [] [] = r0) (h : Inf.inf s.data.toList m = r) (e : r0 = .error c) : r = .error c := by
  unfold Inf.inf at h; rw [h0, e] at h; exact h.symm
theorem inf_ok {s : ByteArray} {m a : Nat} {out : List UInt8} {bs : List Inf.Blk} {r0 : Except Nat (Nat × List UInt8 × List Inf.Blk)} {r : Except Nat (List UInt8 × Nat × List Inf.Blk)} (h0 : Inf.blocks s.data.toList m (8 * s.data.toList.length + 1) 0 [] [] = r0) (h : Inf.inf s.data.toList m = r) (e : r0 = .ok (a, out, bs)) : r = .ok (out, (a + 7) / 8, bs) := by
  unfold Inf.inf at h; rw [h0, e] at h; exact h.symm
theorem BPost.yes {w0 w w' : World} {R B a most last : Nat} {s : ByteArray} {v : Value} {E : Nat → Addr} {out : List UInt8} {b : Inf.Blk} {r : Except Nat (Nat × Nat × List UInt8 × Inf.Blk)} {e : Ending} (h : BPost w0 w R B s most v E r e w') (hr : r = .ok (last, a, out, b)) : e = .returned (.bool (decide (last = 1))) ∧ ∃ v', IGo w0 w w' R B s a v v' out most := by subst hr; exact h
theorem BPost.no {w0 w w' : World} {R B most c : Nat} {s : ByteArray} {v : Value} {E : Nat → Addr} {r : Except Nat (Nat × Nat × List UInt8 × Inf.Blk)} {e : Ending} (h : BPost w0 w R B s most v E r e w') (hr : r = .error c) : e = thrown (E c) ∧ Ext w0 w' := by subst hr; exact h
theorem set3_ext {w w3 : World} {p : Nat} (hp : w.heap.size = p) (hX : Ext w w3) {x y z : Value} : Ext w (((w3.setCell ⟨p, 0, none⟩ x).setCell ⟨p + 1, 0, none⟩ y).setCell ⟨p + 2, 0, none⟩ z) := by
  refine (((show Below w.heap.size w w3 from hX).setCell (p := ⟨p, 0, none⟩) (by show _ ≤ p; omega) _).setCell (p := ⟨p + 1, 0, none⟩) (by show _ ≤ p + 1; omega) _).setCell (p := ⟨p + 2, 0, none⟩) (by show _ ≤ p + 2; omega) _
theorem set3_bk {w : World} {p : Nat} {x y z x' y' z' : Value} (h0 : Bk w p #[x]) (h1 : Bk w (p + 1) #[y]) (h2 : Bk w (p + 2) #[z]) :
    Bk (((w.setCell ⟨p, 0, none⟩ x').setCell ⟨p + 1, 0, none⟩ y').setCell ⟨p + 2, 0, none⟩ z') p #[x'] ∧ Bk (((w.setCell ⟨p, 0, none⟩ x').setCell ⟨p + 1, 0, none⟩ y').setCell ⟨p + 2, 0, none⟩ z') (p + 1) #[y'] ∧ Bk (((w.setCell ⟨p, 0, none⟩ x').setCell ⟨p + 1, 0, none⟩ y').setCell ⟨p + 2, 0, none⟩ z') (p + 2) #[z'] :=
  ⟨((h0.set_ 0 x').far (p := ⟨p + 1, 0, none⟩) (by show p ≠ p + 1; omega) _).far (p := ⟨p + 2, 0, none⟩) (by show p ≠ p + 2; omega) _,
   ((h1.far (p := ⟨p, 0, none⟩) (by show p + 1 ≠ p; omega) _).set_ 0 y').far (p := ⟨p + 2, 0, none⟩) (by show p + 1 ≠ p + 2; omega) _,
   ((h2.far (p := ⟨p, 0, none⟩) (by show p + 2 ≠ p; omega) _).far (p := ⟨p + 1, 0, none⟩) (by show p + 2 ≠ p + 1; omega) _).set_ 0 z'⟩
set_option linter.unusedSimpArgs false in
set_option maxHeartbeats 4000000 in
theorem inflate_any (s : ByteArray) (most : Int) (w : World) (E : Nat → Addr) (hE : Errs w E) (hTb : Tabs w) (hs : s.size ≤ maxLen) :
    Calls Tryd.prog 14 #[.string s, .int .i64 most] w fun e w' => InfPost w w' E (Inf.infl s most) e := by
  have HE := Lib.hid hE
  have HTb := Lib.hid hTb
  have HBd := Lib.hid (fun w => bound_any s most w hs)
  obtain ⟨r, hr⟩ : ∃ r, Inf.infl s most = r := ⟨_, rfl⟩
  rw [hr]
  unfold Inf.infl at hr
  have hmf : ∀ (fn : Fn) (first cap : Array Value) (w : World), (Instr.makeFunc fn first cap).run Tryd.prog w = .ok (.func fn first cap) w := fun _ _ _ _ => rfl
  obtain ⟨p, hp⟩ : ∃ p, w.heap.size = p := ⟨_, rfl⟩
  have HP := Lib.hid hp
  by_cases hb : most < 0 ∨ 300000 < most ∨ 300000 < s.size
  · have hd : decide (most < 0 ∨ 300000 < most ∨ 300000 < s.size) = true := decide_eq_true hb
    rw [if_pos hb] at hr
    have HR := Lib.hid hr.symm
    clear hE hTb hr hb hp hs
    go_enter_defers Tryd.func14, Tryd.ntmps14
    go_wp2_with fail
    refine (HBd.out _).mono ?_
    rintro e _ ⟨rfl, rfl⟩
    rw [hd]
    go_wp2_with fail
    clear hd hmf
    rw [show w.heap.size + 1 + 1 = w.heap.size + 2 from rfl, HP.out]
    refine wp_world (fun wz => Ext w wz ∧ Bk wz p #[.string ⟨#[]⟩] ∧ Bk wz (p + 1) #[.int .i64 0] ∧ Bk wz (p + 2) #[.nilIface]) ⟨(((Ext.refl w).alloc _).alloc _).alloc _, Bk.old (Bk.old (Bk.at HP.out)), Bk.old (Bk.at (by simp [HP.out])), Bk.at (by simp [HP.out])⟩ ?_
    rintro w3 ⟨hX, h0, h1, h2⟩
    have HX := Lib.hid hX
    have H3 := Lib.hid (fun (x y z : Value) => set3_bk (x' := x) (y' := y) (z' := z) h0 h1 h2)
    have k0 := h0.cell 0
    have k1 := h1.cell 0
    have k2 := h2.cell 0
    have f0 := h0.frozen 0
    have f1 := h1.frozen 0
    have f2 := h2.frozen 0
    have ev := (err_cells HE.out hX).2
    have hg : (0 : Nat) < w.heap.size := World.block_lt_of_cell? w _ (err_cells HE.out (Ext.refl w)).2
    rw [HP.out] at hg
    have n0 : ¬ 0 = p := by omega
    have n1 : ¬ 0 = p + 1 := by omega
    clear hX h0 h1 h2 hg
    go_region
    all_goals (try go_wp2_with fail)
    all_goals
      obtain ⟨q0, q1, q2⟩ := H3.out (.string ⟨#[]⟩) (.int .i64 0) (.iface 210 (.pointer (some (E 1))))
      exact ⟨_, res_inflate p ⟨#[]⟩ 0 _ _ _ q0.drew q1.drew q2.drew rfl rfl rfl ⟨_, _, .inl rfl⟩, infpost_error HR.out (Below.drew (set3_ext HP.out HX.out)) rfl⟩
  · have hd : decide (most < 0 ∨ 300000 < most ∨ 300000 < s.size) = false := decide_eq_false hb
    rw [if_neg hb] at hr
    obtain ⟨m, rfl⟩ : ∃ m : Nat, most = m := ⟨most.toNat, by omega⟩
    have hm : m ≤ 300000 := by omega
    have hsz : s.size ≤ 300000 := by omega
    rw [Int.toNat_natCast] at hr
    have HR := Lib.hid hr
    obtain ⟨r0, hr0⟩ : ∃ r0, Inf.blocks s.data.toList m (8 * s.data.toList.length + 1) 0 [] [] = r0 := ⟨_, rfl⟩
    have HR0 := Lib.hid hr0
    clear hE hTb hr hb hp hs hr0
    go_enter_defers Tryd.func14, Tryd.ntmps14
    go_wp2_with fail
    refine (HBd.out _).mono ?_
    rintro e _ ⟨rfl, rfl⟩
    rw [hd]
    go_wp2_with fail
    clear hd
    rw [show w.heap.size + 1 + 1 = w.heap.size + 2 from rfl, HP.out]
    refine calls_world (fun wz => Ext w wz ∧ Bk wz p #[.string ⟨#[]⟩] ∧ Bk wz (p + 1) #[.int .i64 0] ∧ Bk wz (p + 2) #[.nilIface]) ⟨(((Ext.refl w).alloc _).alloc _).alloc _, Bk.old (Bk.old (Bk.at HP.out)), Bk.old (Bk.at (by simp [HP.out])), Bk.at (by simp [HP.out])⟩ ?_
    rintro w3 ⟨hX, h0, h1, h2⟩
    have HX := Lib.hid hX
    have H0 := Lib.hid h0
    have H1 := Lib.hid h1
    have H2 := Lib.hid h2
    have HE3 := Lib.hid (HE.out.ext hX)
    have HT3 := Lib.hid (HTb.out.ext hX)
    have HPL := Lib.hid (⟨by rw [← HP.out]; exact hX.size, h2.lt⟩ : p ≤ w3.heap.size ∧ p + 2 < w3.heap.size)
    clear hX h0 h1 h2
    refine (newReader_calls s w3 (by omega)).mono ?_
    rintro e w4 ⟨rfl, hr4, hx4⟩
    have HR4 := Lib.hid hr4
    have HX4 := Lib.hid hx4
    have hlt4 : w3.heap.size < w4.heap.size := hr4.lt
    have HL4 := Lib.hid hlt4
    clear hr4 hx4 hlt4
    go_wp2_with fail
    obtain ⟨B, hB⟩ : ∃ B, w3.heap.size = B := ⟨_, rfl⟩
    obtain ⟨R, hR⟩ : ∃ R, w4.heap.size = R := ⟨_, rfl⟩
    refine wp_world (fun wz => IGo w3 wz wz R B s 0 (.slice none 0 0) (.slice none 0 0) [] m) ?_ ?_
    · refine IGo.start ⟨⟨?_, ?_, World.ownsRow_nil _ _ _ _, ?_, (fun e => by cases e), (fun e => by cases e)⟩, HX4.out.alloc _, ?_, ?_, (fun k e => by cases e), Nat.zero_le _⟩
      · rw [hB]; exact Bk.at hR
      · have h := HR4.out
        rw [hB] at h
        exact ⟨ext_cell ((Ext.refl w4).alloc _) h.c0, ext_cell ((Ext.refl w4).alloc _) h.c1, by rw [World.frozen?_alloc_past _ _ _ h.lt]; exact h.f1, h.size, h.le⟩
      · have := HL4.out; omega
      · have := HL4.out; omega
      · omega
    rintro w5 hG
    have HG := Lib.hid hG
    rw [hR]
    clear hG hB hR
    go_loopg [] (8 * s.size) (fun k wr => ∃ (a : Nat) (v : Value) (out : List UInt8) (bs : List Inf.Blk) (FF : Nat), Hid (IGo w3 w5 wr R B s a (.slice none 0 0) v out m) ∧ Hid (Inf.blocks s.data.toList m FF a out bs = r0) ∧ Hid (8 * s.size - a < FF ∧ k = 8 * s.size - a) ∧ out.length ≤ m)
    case atStart => exact ⟨0, _, [], [], 8 * s.data.toList.length + 1, HG, HR0, Lib.hid ⟨by rw [list_size]; omega, by omega⟩, Nat.zero_le _⟩
    case round =>
      clear HG
      obtain ⟨a, v, out, bs, FF, H, HRb, HK, hout⟩ := hrel
      have HF0 : Hid (0 < FF) := Lib.hid (by have := HK.out; omega)
      go_wp2_with fail
      have hP := iblock_any R B a m s v out w3 wr E HE3.out HT3.out H.out.st hm hsz hout
      cases hs : Inf.block s.data.toList m a out with
      | error c =>
        have HQ := Lib.hid (inf_error HR0.out HR.out (Inf.blocks_err HF0.out HRb.out hs))
        refine hP.mono ?_
        intro e w9 h9
        obtain ⟨rfl, h8⟩ := h9.no hs
        have H8 := Lib.hid h8
        clear hP h9 h8 hs H
        unfold thrown
        refine leaves_cons (f := 35) (args := #[.pointer (some ⟨p, 0, none⟩), .pointer (some ⟨p + 1, 0, none⟩), .pointer (some ⟨p + 2, 0, none⟩)]) (by simp) (by simp [go_sem]) ?_
        refine (icatch p (E c) [] _ _ _ w9 (H0.out.ext H8.out) (H1.out.ext H8.out) (H2.out.ext H8.out)).mono ?_
        rintro e u' w8 ⟨rfl, rfl, hc⟩
        exact ⟨_, res_inflate p ⟨#[]⟩ 0 _ _ _ hc.h0 hc.h1 hc.h2 rfl rfl rfl ⟨_, _, .inl rfl⟩, infpost_error HQ.out (Below.trans (HX.out.trans H8.out) (by rw [HP.out]; exact hc.ext)) rfl⟩
      | ok q =>
        obtain ⟨last, a1, out1, b⟩ := q
        have hgr := Inf.block_grow hout hs
        refine hP.mono ?_
        intro e w6 h6
        obtain ⟨rfl, v', h8⟩ := h6.yes hs
        have H6 := Lib.hid (H.out.trans h8)
        clear h6 h8 hP H
        by_cases hl : last = 1
        · subst hl
          have HQ := Lib.hid (inf_ok HR0.out HR.out (Inf.blocks_last HF0.out HRb.out hs))
          have c0 := H6.out.bk.cell 0
          clear hs
          go_wp2_with fail
          refine (ralign_calls B 0 a1 s w6 H6.out.st.at_.rd H6.out.st.le).mono ?_
          rintro e w7 ⟨rfl, hR, hS⟩
          have hle := H6.out.st.le
          obtain ⟨used, hus⟩ : ∃ u, (a1 + 7) / 8 = u := ⟨_, rfl⟩
          rw [hus] at hR HQ
          obtain ⟨a7, ha7⟩ : ∃ x, used * 8 = x := ⟨_, rfl⟩
          rw [ha7] at hR
          have H7 := Lib.hid (H6.out.read hR hS (by omega))
          have hq1 : (a7 : Int).tdiv 8 = (used : Int) := by rw [Int.tdiv_eq_ediv_of_nonneg (by omega)]; omega
          have hq2 : (a7 : Int) / 8 = (used : Int) := by omega
          have hub : used ≤ 300000 := by omega
          have wu : ∀ z, z = (used : Int) → IntKind.i64.wrap z = z := by rintro _ rfl; rw [IntKind.wrap_i64]; omega
          obtain ⟨Lo, hLo⟩ : ∃ Lo, out1.length = Lo := ⟨_, rfl⟩
          have HL := Lib.hid hLo
          have hro := H7.out.row
          rw [hLo] at hro
          obtain ⟨xo, co, rfl⟩ := lit_row hro
          -- region
          clear hR hS hus ha7 hro hLo hle H6
          have H_7 := H7
          clear H7
          have n0 : ¬ p = R := by have := HPL.out; have := H_7.out.st.hR; omega
          have n1 : ¬ p + 1 = R := by have := HPL.out; have := H_7.out.st.hR; omega
          have n2 : ¬ p + 2 = R := by have := HPL.out; have := H_7.out.st.hR; omega
          go_wp2_with fail
          refine wp_noPanic ?_
          refine wp_region_held_drew (S := fun w' => w'.cell? ⟨R, 0, none⟩ = some (.pointer (some ⟨B, 0, none⟩)) ∧ w'.cell? ⟨R, 1, none⟩ = some (.slice xo Lo co)) (by kernel_rfl) ⟨H_7.out.bk.cell 0, H_7.out.bk.cell 1⟩ (fun hHeld => ?_)
          clear hHeld
          refine anyH_world (fun wz => Ext w7 wz) (show Ext w7 w7.drew from Below.drew (Ext.refl w7)) ?_
          rintro w8 h
          have H_8 := Lib.hid (H_7.out.ext h)
          clear h H_7
          have hHeld : w8.cell? ⟨R, 0, none⟩ = some (.pointer (some ⟨B, 0, none⟩)) ∧ w8.cell? ⟨R, 1, none⟩ = some (.slice xo Lo co) := ⟨H_8.out.bk.cell 0, H_8.out.bk.cell 1⟩
          refine wpAnyH_take (i := 0) (v := ?_) rfl (by kernel_rfl) (by kernel_rfl) (by kernel_rfl) (fun _ _ _ h => h) (Or.inl ⟨by kernel_rfl, ?_⟩) hHeld ?_
          rotate_left
          · intro w hSw
            (try dsimp only at hSw)
            go_split_ands
            go_simp
            (try with_reducible rfl)
          try simp only [Act.put, List.getElem_toArray, List.getElem_cons_succ, List.getElem_cons_zero, List.setIfInBounds_toArray, List.set_cons_zero, List.set_cons_succ]
          refine wpAnyH_take (i := 1) (v := ?_) rfl (by kernel_rfl) (by kernel_rfl) (by kernel_rfl) (fun _ _ _ h => h) (Or.inl ⟨by kernel_rfl, ?_⟩) hHeld ?_
          rotate_left
          · intro w hSw
            (try dsimp only at hSw)
            go_split_ands
            go_simp
            (try with_reducible rfl)
          try simp only [Act.put, List.getElem_toArray, List.getElem_cons_succ, List.getElem_cons_zero, List.setIfInBounds_toArray, List.set_cons_zero, List.set_cons_succ]
          refine wpAnyH_take (i := 2) (v := ?_) rfl (by kernel_rfl) (by kernel_rfl) (by kernel_rfl) (fun _ _ _ h => h) (Or.inl ⟨by kernel_rfl, ?_⟩) hHeld ?_
          rotate_left
          · intro w hSw
            (try dsimp only at hSw)
            go_split_ands
            go_simp
            (try with_reducible rfl)
          try simp only [Act.put, List.getElem_toArray, List.getElem_cons_succ, List.getElem_cons_zero, List.setIfInBounds_toArray, List.set_cons_zero, List.set_cons_succ]
          refine wpAnyH_take (i := 3) (v := ?_) rfl (by kernel_rfl) (by kernel_rfl) (by kernel_rfl) (fun _ _ _ h => h) (Or.inl ⟨by kernel_rfl, ?_⟩) hHeld ?_
          rotate_left
          · intro w hSw
            (try dsimp only at hSw)
            go_split_ands
            go_simp
            (try with_reducible rfl)
          try simp only [Act.put, List.getElem_toArray, List.getElem_cons_succ, List.getElem_cons_zero, List.setIfInBounds_toArray, List.set_cons_zero, List.set_cons_succ]
          refine wpAnyH_take (i := 5) (v := ?_) rfl (by kernel_rfl) (by kernel_rfl) (by kernel_rfl) (fun _ _ _ h => h) (Or.inl ⟨by kernel_rfl, ?_⟩) hHeld ?_
          rotate_left
          · intro w hSw
            (try dsimp only at hSw)
            go_split_ands
            go_simp
            (try with_reducible rfl)
          try simp only [Act.put, List.getElem_toArray, List.getElem_cons_succ, List.getElem_cons_zero, List.setIfInBounds_toArray, List.set_cons_zero, List.set_cons_succ]
          refine wpAnyH_take (i := 6) (v := ?_) rfl (by kernel_rfl) (by kernel_rfl) (by kernel_rfl) (fun _ _ _ h => h) (Or.inl ⟨by kernel_rfl, ?_⟩) hHeld ?_
          rotate_left
          · intro w hSw
            (try dsimp only at hSw)
            go_split_ands
            go_simp
            (try with_reducible rfl)
          try simp only [Act.put, List.getElem_toArray, List.getElem_cons_succ, List.getElem_cons_zero, List.setIfInBounds_toArray, List.set_cons_zero, List.set_cons_succ]
          refine wpAnyH_take (i := 7) (v := ?_) rfl (by kernel_rfl) (by kernel_rfl) (by kernel_rfl) (fun _ _ _ h => h) (Or.inl ⟨by kernel_rfl, ?_⟩) hHeld ?_
          rotate_left
          · intro w hSw
            (try dsimp only at hSw)
            go_split_ands
            go_simp
            (try with_reducible rfl)
          try simp only [Act.put, List.getElem_toArray, List.getElem_cons_succ, List.getElem_cons_zero, List.setIfInBounds_toArray, List.set_cons_zero, List.set_cons_succ]
          refine wpAnyH_take (i := 8) (v := ?_) rfl (by kernel_rfl) (by kernel_rfl) (by kernel_rfl) (fun _ _ _ h => h) (Or.inl ⟨by kernel_rfl, ?_⟩) hHeld ?_
          rotate_left
          · intro w hSw
            (try dsimp only at hSw)
            go_split_ands
            go_simp
            (try with_reducible rfl)
          try simp only [Act.put, List.getElem_toArray, List.getElem_cons_succ, List.getElem_cons_zero, List.setIfInBounds_toArray, List.set_cons_zero, List.set_cons_succ]
          refine wpAnyH_ready (rs := [4, 9]) (by kernel_rfl) (by simp) ?_
          refine AllReadyH.cons rfl (fun KK hK => ?_) (AllReadyH.cons rfl (fun KK hK => ?_) AllReadyH.nil)
          · clear hHeld
            have hro := H_8.out.row
            rw [HL.out] at hro
            have hcr := conv_row HL.out hro
            clear hro
            go_simp
            refine hK.out _ _ ⟨H_8.out.bk.cell 0, H_8.out.bk.cell 1⟩ (fun hHeld => ?_)
            clear hK KK hcr
            try simp only [Act.put, List.getElem_toArray, List.getElem_cons_succ, List.getElem_cons_zero, List.setIfInBounds_toArray, List.set_cons_zero, List.set_cons_succ]
            refine wpAnyH_ready (rs := [9]) (by kernel_rfl) (by simp) ?_
            refine AllReadyH.cons rfl (fun KK hK => ?_) AllReadyH.nil
            clear hHeld
            go_simp
            refine (at_calls B 0 a7 s _ H_8.out.st.at_.rd).mono ?_
            rintro e w9 ⟨rfl, rfl⟩
            go_simp
            refine hK.out _ _ ⟨H_8.out.bk.cell 0, H_8.out.bk.cell 1⟩ (fun hHeld => ?_)
            clear hK KK
            try simp only [Act.put, List.getElem_toArray, List.getElem_cons_succ, List.getElem_cons_zero, List.setIfInBounds_toArray, List.set_cons_zero, List.set_cons_succ]
            refine wpAnyH_take (i := 10) (v := ?_) rfl (by kernel_rfl) (by kernel_rfl) (by kernel_rfl) (fun _ _ _ h => h) (Or.inl ⟨by kernel_rfl, ?_⟩) hHeld ?_
            rotate_left
            · intro w hSw
              (try dsimp only at hSw)
              go_split_ands
              go_simp
              (try with_reducible rfl)
            try simp only [Act.put, List.getElem_toArray, List.getElem_cons_succ, List.getElem_cons_zero, List.setIfInBounds_toArray, List.set_cons_zero, List.set_cons_succ]
            refine wpAnyH_ready (rs := [11]) (by kernel_rfl) (by simp) ?_
            refine AllReadyH.cons rfl (fun KK hK => ?_) AllReadyH.nil
            clear hHeld
            have k0 := (H0.out.ext H_8.out.old).cell 0
            have f0 := (H0.out.ext H_8.out.old).frozen 0
            have k1 := (H1.out.ext H_8.out.old).cell 0
            have f1 := (H1.out.ext H_8.out.old).frozen 0
            have k2 := (H2.out.ext H_8.out.old).cell 0
            have f2 := (H2.out.ext H_8.out.old).frozen 0
            have c0 := H_8.out.bk.cell 0
            have c1 := H_8.out.bk.cell 1
            go_simp
            refine hK.out _ _ ⟨by simp [go_sem, c0, c1, n0, n1, n2], by simp [go_sem, c0, c1, n0, n1, n2]⟩ (fun hHeld => ?_)
            clear hK KK
            try simp only [Act.put, List.getElem_toArray, List.getElem_cons_succ, List.getElem_cons_zero, List.setIfInBounds_toArray, List.set_cons_zero, List.set_cons_succ]
            refine wpAnyH_ready (rs := [12]) (by kernel_rfl) (by simp) ?_
            refine AllReadyH.cons rfl (fun KK hK => ?_) AllReadyH.nil
            clear hHeld
            go_simp
            refine hK.out _ _ ⟨by simp [go_sem, c0, c1, n0, n1, n2], by simp [go_sem, c0, c1, n0, n1, n2]⟩ (fun hHeld => ?_)
            clear hK KK
            try simp only [Act.put, List.getElem_toArray, List.getElem_cons_succ, List.getElem_cons_zero, List.setIfInBounds_toArray, List.set_cons_zero, List.set_cons_succ]
            refine wpAnyH_ready (rs := [13]) (by kernel_rfl) (by simp) ?_
            refine AllReadyH.cons rfl (fun KK hK => ?_) AllReadyH.nil
            clear hHeld
            go_simp
            refine hK.out _ _ ⟨by simp [go_sem, c0, c1, n0, n1, n2], by simp [go_sem, c0, c1, n0, n1, n2]⟩ (fun hHeld => ?_)
            clear hK KK
            try simp only [Act.put, List.getElem_toArray, List.getElem_cons_succ, List.getElem_cons_zero, List.setIfInBounds_toArray, List.set_cons_zero, List.set_cons_succ]
            refine wpAnyH_done (by kernel_rfl) ?_ _
            clear hHeld
            simp only [noPanic]
            go_wp2_with fail
            obtain ⟨q0, q1, q2⟩ := set3_bk (x' := .string (tb out1)) (y' := .int .i64 (used : Int)) (z' := .nilIface) (H0.out.ext H_8.out.old) (H1.out.ext H_8.out.old) (H2.out.ext H_8.out.old)
            refine leaves_cons (f := 35) (args := #[.pointer (some ⟨p, 0, none⟩), .pointer (some ⟨p + 1, 0, none⟩), .pointer (some ⟨p + 2, 0, none⟩)]) (by simp) (by simp [go_sem]) ?_
            refine (icatch_idle _ _ _ _).mono ?_
            rintro e u' w'' ⟨rfl, rfl, rfl⟩
            exact ⟨_, res_inflate p (tb out1) (used : Int) _ _ _ q0 q1 q2 rfl rfl rfl ⟨3, .nilIface, .inr rfl⟩, infpost_ok HQ.out (set3_ext HP.out (HX.out.trans H_8.out.old)) rfl⟩
          · clear hHeld
            go_simp
            refine (at_calls B 0 a7 s _ H_8.out.st.at_.rd).mono ?_
            rintro e w9 ⟨rfl, rfl⟩
            go_simp
            refine hK.out _ _ ⟨H_8.out.bk.cell 0, H_8.out.bk.cell 1⟩ (fun hHeld => ?_)
            clear hK KK
            try simp only [Act.put, List.getElem_toArray, List.getElem_cons_succ, List.getElem_cons_zero, List.setIfInBounds_toArray, List.set_cons_zero, List.set_cons_succ]
            refine wpAnyH_take (i := 10) (v := ?_) rfl (by kernel_rfl) (by kernel_rfl) (by kernel_rfl) (fun _ _ _ h => h) (Or.inl ⟨by kernel_rfl, ?_⟩) hHeld ?_
            rotate_left
            · intro w hSw
              (try dsimp only at hSw)
              go_split_ands
              go_simp
              (try with_reducible rfl)
            try simp only [Act.put, List.getElem_toArray, List.getElem_cons_succ, List.getElem_cons_zero, List.setIfInBounds_toArray, List.set_cons_zero, List.set_cons_succ]
            refine wpAnyH_ready (rs := [4]) (by kernel_rfl) (by simp) ?_
            refine AllReadyH.cons rfl (fun KK hK => ?_) AllReadyH.nil
            clear hHeld
            have hro := H_8.out.row
            rw [HL.out] at hro
            have hcr := conv_row HL.out hro
            clear hro
            go_simp
            refine hK.out _ _ ⟨H_8.out.bk.cell 0, H_8.out.bk.cell 1⟩ (fun hHeld => ?_)
            clear hK KK hcr
            try simp only [Act.put, List.getElem_toArray, List.getElem_cons_succ, List.getElem_cons_zero, List.setIfInBounds_toArray, List.set_cons_zero, List.set_cons_succ]
            refine wpAnyH_ready (rs := [11]) (by kernel_rfl) (by simp) ?_
            refine AllReadyH.cons rfl (fun KK hK => ?_) AllReadyH.nil
            clear hHeld
            have k0 := (H0.out.ext H_8.out.old).cell 0
            have f0 := (H0.out.ext H_8.out.old).frozen 0
            have k1 := (H1.out.ext H_8.out.old).cell 0
            have f1 := (H1.out.ext H_8.out.old).frozen 0
            have k2 := (H2.out.ext H_8.out.old).cell 0
            have f2 := (H2.out.ext H_8.out.old).frozen 0
            have c0 := H_8.out.bk.cell 0
            have c1 := H_8.out.bk.cell 1
            go_simp
            refine hK.out _ _ ⟨by simp [go_sem, c0, c1, n0, n1, n2], by simp [go_sem, c0, c1, n0, n1, n2]⟩ (fun hHeld => ?_)
            clear hK KK
            try simp only [Act.put, List.getElem_toArray, List.getElem_cons_succ, List.getElem_cons_zero, List.setIfInBounds_toArray, List.set_cons_zero, List.set_cons_succ]
            refine wpAnyH_ready (rs := [12]) (by kernel_rfl) (by simp) ?_
            refine AllReadyH.cons rfl (fun KK hK => ?_) AllReadyH.nil
            clear hHeld
            go_simp
            refine hK.out _ _ ⟨by simp [go_sem, c0, c1, n0, n1, n2], by simp [go_sem, c0, c1, n0, n1, n2]⟩ (fun hHeld => ?_)
            clear hK KK
            try simp only [Act.put, List.getElem_toArray, List.getElem_cons_succ, List.getElem_cons_zero, List.setIfInBounds_toArray, List.set_cons_zero, List.set_cons_succ]
            refine wpAnyH_ready (rs := [13]) (by kernel_rfl) (by simp) ?_
            refine AllReadyH.cons rfl (fun KK hK => ?_) AllReadyH.nil
            clear hHeld
            go_simp
            refine hK.out _ _ ⟨by simp [go_sem, c0, c1, n0, n1, n2], by simp [go_sem, c0, c1, n0, n1, n2]⟩ (fun hHeld => ?_)
            clear hK KK
            try simp only [Act.put, List.getElem_toArray, List.getElem_cons_succ, List.getElem_cons_zero, List.setIfInBounds_toArray, List.set_cons_zero, List.set_cons_succ]
            refine wpAnyH_done (by kernel_rfl) ?_ _
            clear hHeld
            simp only [noPanic]
            go_wp2_with fail
            obtain ⟨q0, q1, q2⟩ := set3_bk (x' := .string (tb out1)) (y' := .int .i64 (used : Int)) (z' := .nilIface) (H0.out.ext H_8.out.old) (H1.out.ext H_8.out.old) (H2.out.ext H_8.out.old)
            refine leaves_cons (f := 35) (args := #[.pointer (some ⟨p, 0, none⟩), .pointer (some ⟨p + 1, 0, none⟩), .pointer (some ⟨p + 2, 0, none⟩)]) (by simp) (by simp [go_sem]) ?_
            refine (icatch_idle _ _ _ _).mono ?_
            rintro e u' w'' ⟨rfl, rfl, rfl⟩
            exact ⟨_, res_inflate p (tb out1) (used : Int) _ _ _ q0 q1 q2 rfl rfl rfl ⟨3, .nilIface, .inr rfl⟩, infpost_ok HQ.out (set3_ext HP.out (HX.out.trans H_8.out.old)) rfl⟩
        · have hd : decide (last = 1) = false := decide_eq_false hl
          obtain ⟨F2, hF2, hR2⟩ := Inf.blocks_go HF0.out HRb.out hs hl
          have HR2 := Lib.hid hR2
          clear hR2 hs
          go_wp2_with fail
          go_roundg (8 * s.size - a1)
          case measure => have := HK.out; have := H6.out.st.le; omega
          case rel => exact ⟨a1, v', out1, _, F2, H6, HR2, Lib.hid ⟨by have := HK.out; have := H6.out.st.le; omega, rfl⟩, hgr.2⟩
end Go.Proofs.YtnhbjgmfbcedaaaDoor
namespace Go.Proofs.YtnhbjgmfbcedaaaDoor
open Go.RowKit
set_option linter.unusedSimpArgs false
set_option linter.unusedVariables false
set_option maxRecDepth 100000
theorem align_calls (B o n V : Nat) (v : Value) (w : World) (hW : WAt w B o v V n) (hn : n < 1099511627776) :
    Calls Tryd.prog 73 #[.pointer (some ⟨B, o, none⟩)] w fun e w' => e = .returned (.tuple #[]) ∧ WAt w' B o v V ((n + 7) / 8 * 8) ∧ WStep w w' B o v v := by
  obtain ⟨c0, c1, f0, f1, ⟨l, hl, hV, hown⟩, hap, hlt⟩ := hW
  have a3 : (⟨B, o + 1, none⟩ : Addr) ≠ ⟨B, o, none⟩ := by intro e; injection e with _ e2; omega
  have e8 : (8 : Int) * (l.length : Int) = (((n + 7) / 8 * 8 : Nat) : Int) := by rw [hl]; omega
  have hlenI : (l.length : Int) ≤ 1099511627776 := by omega
  have fin : ∀ m : Nat, WAt ((w.setCell ⟨B, o + 1, none⟩ (.int .i64 ((8 : Int) * (l.length : Int)))).drewN m) B o v V ((n + 7) / 8 * 8) ∧ WStep w ((w.setCell ⟨B, o + 1, none⟩ (.int .i64 ((8 : Int) * (l.length : Int)))).drewN m) B o v v := by
    intro m
    rw [e8]
    refine ⟨⟨?_, ?_, ?_, ?_, ⟨l, by omega, hV, ?_⟩, hap, ?_⟩, ⟨?_, ?_, ?_, ?_⟩⟩
    · exact (World.cell?_setCell_other _ _ _ _ a3).trans c0
    · exact World.cell?_setCell_same _ _ _ c1
    · show World.frozen? (World.setCell _ _ _) _ = _; rw [World.frozen?_setCell]; exact f0
    · show World.frozen? (World.setCell _ _ _) _ = _; rw [World.frozen?_setCell]; exact f1
    · exact ownsRow_setCell_other hown hap _
    · exact Nat.lt_of_lt_of_le hlt (Nat.pow_le_pow_right (by decide) (by omega))
    · exact ((Keeps.refl _ w).setCell (.inl (.inl rfl)) _).drewN m
    · intro j h1 h2
      have b1 : (⟨B, o + 1, none⟩ : Addr) ≠ ⟨B, j, none⟩ := by intro e; injection e with _ e2; exact h2 e2.symm
      exact World.cell?_setCell_other _ _ _ _ b1
    · intro j; show World.frozen? (World.setCell _ _ _) _ = _; rw [World.frozen?_setCell]
    · intro k hk; exact .inl hk
  have HF := Lib.hid fin
  have H8 := Lib.hid e8
  rcases ownsRow_slice hown with ⟨rfl, h0⟩ | ⟨g, cap, rfl⟩
  · have HL := Lib.hid hl
    have H0 := Lib.hid h0
    rw [h0] at HF
    clear hl hV h0 fin e8
    go_enter Tryd.func73, Tryd.ntmps73
    go_wp2
    go_end0
    exact ⟨rfl, HF.out 0⟩
  · have HL := Lib.hid hl
    clear hl hV fin e8
    go_enter Tryd.func73, Tryd.ntmps73
    go_wp2
    go_end0
    exact ⟨rfl, HF.out 0⟩
end Go.Proofs.YtnhbjgmfbcedaaaDoor
namespace Go.Proofs.YtnhbjgmfbcedaaaDoor
open Go.RowKit
set_option linter.unusedSimpArgs false
set_option linter.unusedVariables false
set_option maxRecDepth 100000
set_option maxHeartbeats 1000000 in
theorem bytes_calls (B o n V : Nat) (v : Value) (s : ByteArray) (w : World) (hW : WAt w B o v V n) (h8 : n % 8 = 0) (hn : n + 8 * s.size < 1099511627776) :
    Calls Tryd.prog 74 #[.pointer (some ⟨B, o, none⟩), .string s] w fun e w' => e = .returned (.tuple #[]) ∧ ∃ v', WAt w' B o v' (V + Crc.num s.data.toList * 2 ^ n) (n + 8 * s.size) ∧ WStep w w' B o v v' := by
  obtain ⟨i0, hi0, hz0, hz1, hz2⟩ := info_parts u8inf
  have HA := Lib.hid (align_calls B o n V v w hW (by omega))
  rw [show (n + 7) / 8 * 8 = n by omega] at HA
  clear hW
  go_enter Tryd.func74, Tryd.ntmps74
  go_wp2_with fail
  refine HA.out.mono ?_
  rintro e w2 ⟨rfl, hW2, hS2⟩
  obtain ⟨c0, c1, f0, f1, ⟨l, hl, hV, hown⟩, hap, hlt⟩ := hW2
  obtain ⟨N, hN⟩ : ∃ N, l.length = N := ⟨_, rfl⟩
  have hlN := hN
  rw [hN] at hown hl
  obtain ⟨x, c, rfl⟩ := lit_row hown
  have HO := Lib.hid hown
  have HN := Lib.hid hN
  have HV := Lib.hid hV
  have HS2 := Lib.hid hS2
  have HP := Lib.hid (And.intro hap hlt)
  have hB : B < w2.heap.size := World.block_lt_of_cell? w2 _ c0
  have HB := Lib.hid hB
  have H8 := Lib.hid h8
  have HL := Lib.hid hl
  have hNb : N ≤ 140737488355328 := by omega
  have hSb : N + s.size ≤ 140737488355328 := by omega
  have F0 := Lib.hid f0
  have F1 := Lib.hid f1
  have C1 := Lib.hid c1
  clear hown hN hlN hV hS2 hap hlt hl h8 HA
  go_wp2_with (at_builtin; refine wpList_app_string rfl _ _ 61 9 rfl 0 5 i0 Tryd.underlying61 Tryd.underlying9 hi0 hz0 hz1 hz2 _ _ _ rfl HO.out s rfl ?c3 ?c4 (Nat.zero_le _) ?_)
  case c3 => unfold maxLen; omega
  case c4 => omega
  intro v8 w8 hown hgrow hat
  obtain ⟨x8, c8, rfl⟩ := lit_row hown
  have K : Keeps (fun k => (Value.slice x N c).ownBlock = some k) w2 w8 := Keeps.grown hgrow
  have nB : ¬ (Value.slice x N c).ownBlock = some B := HP.out.1
  have k0 : w8.cell? ⟨B, o, none⟩ = some (.slice x N c) := (K.cell (p := ⟨B, o, none⟩) HB.out nB).trans c0
  have k1 : w8.cell? ⟨B, o + 1, none⟩ = some (.int .i64 (n : Int)) := (K.cell (p := ⟨B, o + 1, none⟩) HB.out nB).trans c1
  have g0 : w8.frozen? ⟨B, o, none⟩ = false := (K.frozen (p := ⟨B, o, none⟩) HB.out nB).trans f0
  have g1 : w8.frozen? ⟨B, o + 1, none⟩ = false := (K.frozen (p := ⟨B, o + 1, none⟩) HB.out nB).trans f1
  have nB8 : (Value.slice x8 (N + s.size) c8).ownBlock ≠ some B := by
    rcases hat with q | q
    · rw [q]; exact nB
    · rw [q]; intro e; injection e with e; have := HB.out; omega
  have hnew : ∀ k, (Value.slice x8 (N + s.size) c8).ownBlock = some k → (Value.slice x N c).ownBlock = some k ∨ w2.heap.size ≤ k := by
    intro k hk
    rcases hat with q | q
    · rw [q] at hk; exact .inl hk
    · rw [q] at hk; injection hk with hk; exact .inr (by omega)
  have a3 : (⟨B, o + 1, none⟩ : Addr) ≠ ⟨B, o, none⟩ := by intro e; injection e with _ e2; omega
  have e8 : (8 : Int) * ((N + s.size : Nat) : Int) = ((n + 8 * s.size : Nat) : Int) := by have := HL.out; have := H8.out; omega
  have HF : Hid (WAt ((w8.setCell ⟨B, o, none⟩ (.slice x8 (N + s.size) c8)).setCell ⟨B, o + 1, none⟩ (.int .i64 ((8 : Int) * ((N + s.size : Nat) : Int)))) B o (.slice x8 (N + s.size) c8) (V + Crc.num s.data.toList * 2 ^ n) (n + 8 * s.size) ∧ WStep w2 ((w8.setCell ⟨B, o, none⟩ (.slice x8 (N + s.size) c8)).setCell ⟨B, o + 1, none⟩ (.int .i64 ((8 : Int) * ((N + s.size : Nat) : Int)))) B o (.slice x N c) (.slice x8 (N + s.size) c8)) := Lib.hid (by
    rw [e8]
    have hl8 : (l ++ s.data.toList).length = N + s.size := by rw [List.length_append, HN.out]; rfl
    have e1 : 2 ^ n = 2 ^ (8 * l.length) := by rw [HN.out, HL.out]; congr 1; have := H8.out; omega
    have hnum : Crc.num (l ++ s.data.toList) = V + Crc.num s.data.toList * 2 ^ n := by rw [numcat, HV.out, e1]
    refine ⟨⟨?_, ?_, ?_, ?_, ⟨l ++ s.data.toList, by rw [hl8]; have := HL.out; have := H8.out; omega, hnum, ?_⟩, nB8, ?_⟩, ⟨?_, ?_, ?_, hnew⟩⟩
    · exact (World.cell?_setCell_other _ _ _ _ a3).trans (World.cell?_setCell_same _ _ _ k0)
    · exact World.cell?_setCell_same _ _ _ ((World.cell?_setCell_other _ _ _ _ (fun e => a3 e.symm)).trans k1)
    · rw [World.frozen?_setCell, World.frozen?_setCell]; exact g0
    · rw [World.frozen?_setCell, World.frozen?_setCell]; exact g1
    · rw [hl8, show bytesV (l ++ s.data.toList) = bytesV l ++ Lib.strCells s by rw [strCells_eq]; simp [bytesV]]
      exact ownsRow_setCell_other (ownsRow_setCell_other hown nB8 _) nB8 _
    · rw [← hnum]
      have h := Crc.num_lt (l ++ s.data.toList)
      rw [hl8] at h
      rw [show n + 8 * s.size = 8 * (N + s.size) by have := HL.out; have := H8.out; omega]
      exact h
    · exact ((K.mono (fun _ _ q => .inr q)).setCell (p := ⟨B, o, none⟩) (.inl (.inl rfl)) _).setCell (p := ⟨B, o + 1, none⟩) (.inl (.inl rfl)) _
    · intro j h1 h2
      have b0 : (⟨B, o, none⟩ : Addr) ≠ ⟨B, j, none⟩ := by intro e; injection e with _ e2; exact h1 e2.symm
      have b1 : (⟨B, o + 1, none⟩ : Addr) ≠ ⟨B, j, none⟩ := by intro e; injection e with _ e2; exact h2 e2.symm
      exact ((World.cell?_setCell_other _ _ _ _ b1).trans (World.cell?_setCell_other _ _ _ _ b0)).trans (K.cell (p := ⟨B, j, none⟩) HB.out nB)
    · intro j
      rw [World.frozen?_setCell, World.frozen?_setCell]
      exact K.frozen (p := ⟨B, j, none⟩) HB.out nB)
  clear hown hgrow hat K nB nB8 hnew e8 c0 c1 f0 f1
  go_wp2_with fail
  go_end0
  exact ⟨rfl, _, HF.out.1, HS2.out.trans HF.out.2⟩
end Go.Proofs.YtnhbjgmfbcedaaaDoor
namespace Go.Proofs.YtnhbjgmfbcedaaaDoor
open Go.RowKit
set_option linter.unusedSimpArgs false
set_option linter.unusedVariables false
set_option maxRecDepth 100000
theorem xor16 (n : Nat) (h : n < 65536) : bits BinOp.xor IntKind.u32 (n : Int) 65535 = ((65535 - n : Nat) : Int) := by
  rw [show (65535 : Int) = ((65535 : Nat) : Int) from rfl, u32_xor_nat n 65535 (by omega) (by decide), xor_ones n h]
theorem num_blk (done p : List UInt8) (last : Nat) (hl : last < 2) (hp : p.length ≤ 65535) : Crc.num done + last * 2 ^ (8 * done.length) + p.length * 2 ^ (8 * (done.length + 1)) + (65535 - p.length) * 2 ^ (8 * (done.length + 1) + 16) + Crc.num p * 2 ^ (8 * (done.length + 1) + 16 + 16) = Crc.num (done ++ Sto.blk last p) := by
  rw [numcat]
  have hM : Crc.num (Sto.blk last p) = last + 256 * (p.length % 256 + 256 * (p.length / 256 + 256 * ((255 - p.length % 256) + 256 * ((255 - p.length / 256) + 256 * Crc.num p)))) := by
    unfold Sto.blk
    simp only [List.cons_append, List.nil_append, Crc.num]
    rw [Sto.ofNat_toNat _ (by omega), Sto.ofNat_toNat _ (by omega), Sto.ofNat_toNat _ (by omega), Sto.ofNat_toNat _ (by omega), Sto.ofNat_toNat _ (by omega)]
  rw [hM]
  obtain ⟨X, hX⟩ : ∃ X, 2 ^ (8 * done.length) = X := ⟨_, rfl⟩
  have e1 : 2 ^ (8 * (done.length + 1)) = X * 256 := by rw [← hX, Nat.mul_add, Nat.pow_add]
  have e2 : 2 ^ (8 * (done.length + 1) + 16) = X * 16777216 := by rw [Nat.pow_add, e1, Nat.mul_assoc]
  have e3 : 2 ^ (8 * (done.length + 1) + 16 + 16) = X * 1099511627776 := by rw [Nat.pow_add, e2, Nat.mul_assoc]
  rw [hX, e1, e2, e3]
  obtain ⟨n, hn⟩ : ∃ n, p.length = n := ⟨_, rfl⟩
  rw [hn] at hp ⊢
  generalize Crc.num p = z
  generalize Crc.num done = q
  have e4 : last + 256 * (n % 256 + 256 * (n / 256 + 256 * ((255 - n % 256) + 256 * ((255 - n / 256) + 256 * z)))) = last + n * 256 + (65535 - n) * 16777216 + z * 1099511627776 := by omega
  rw [e4]
  simp only [Nat.add_mul, Nat.mul_comm X, Nat.mul_assoc, Nat.add_assoc]
structure StoGo (w0 wr : World) (B : Nat) (v : Value) (done : List UInt8) : Prop where
  at_ : WAt wr B 0 v (Crc.num done) (8 * done.length)
  ext : Ext w0 wr
  nb : w0.heap.size ≤ B
  nv : ∀ k, v.ownBlock = some k → w0.heap.size ≤ k
theorem StoGo.step {w0 wr w' : World} {B : Nat} {v v' : Value} (he : Ext w0 wr) (hb : w0.heap.size ≤ B) (hv : ∀ k, v.ownBlock = some k → w0.heap.size ≤ k) (hs : WStep wr w' B 0 v v') : Ext w0 w' ∧ ∀ k, v'.ownBlock = some k → w0.heap.size ≤ k := by
  refine ⟨Below.trans he (hs.keeps.below he.size (fun k hk q => ?_)), fun k q => ?_⟩
  · rcases q with q | q
    · omega
    · have := hv k q; omega
  · rcases hs.new k q with r | r
    · exact hv k r
    · have := he.size; omega
set_option linter.unusedSimpArgs false in
set_option maxHeartbeats 4000000 in
theorem stored_calls (t : ByteArray) (w : World) (ht : t.size ≤ 300000) :
    Calls Tryd.prog 32 #[.string t] w fun e w' => e = .returned (.string (tb (Sto.all (t.size + 1) t.data.toList))) ∧ Ext w w' := by
  obtain ⟨A, hA⟩ : ∃ A, Sto.all (t.size + 1) t.data.toList = A := ⟨_, rfl⟩
  rw [hA]
  have hAl : A.length ≤ 300100 := by rw [← hA]; have := Sto.all_length (t.size + 1) t.data.toList; rw [list_size] at this; omega
  have HA := Lib.hid hA
  clear hA
  go_enter Tryd.func32, Tryd.ntmps32
  go_upto_block 0 with fail
  obtain ⟨B, hB⟩ : ∃ B, w.heap.size = B := ⟨_, rfl⟩
  refine wp_world (fun wz => Hid (StoGo w wz B (.slice none 0 0) [])) (Lib.hid ⟨⟨?_, ?_, ?_, ?_, ⟨[], rfl, rfl, World.ownsRow_nil _ _ _ _⟩, (by intro e; cases e), by simp [Crc.num]⟩, (Ext.refl w).alloc _, by omega, fun k q => by cases q⟩) ?_
  · subst hB; exact World.cell?_alloc_at _ _ _ _ rfl
  · subst hB; exact World.cell?_alloc_at _ _ _ _ rfl
  · subst hB; exact World.frozen?_alloc_at _ _ _ _ rfl
  · subst hB; exact World.frozen?_alloc_at _ _ _ _ rfl
  rw [hB]
  have HBB := Lib.hid hB
  clear hB
  rintro w1 HS
  go_wp2_with fail
  go_loopw [0] (fun y wr => ∃ (R : ByteArray) (done : List UInt8) (k : Nat) (v : Value), y = .string R ∧ R.size ≤ t.size ∧ Hid (done ++ Sto.all k R.data.toList = A) ∧ Hid (R.size < k) ∧ Hid (StoGo w wr B v done)) (fun y _ => match y with | .string R => R.size | _ => 0)
  case atStart => exact ⟨t, [], t.size + 1, _, rfl, Nat.le_refl _, Lib.hid (by rw [List.nil_append]; exact HA.out), Lib.hid (Nat.lt_succ_self _), HS⟩
  case round =>
    clear HS HA
    obtain ⟨R, done, k, v, rfl, hRt, HD, HK, HS⟩ := hrel
    obtain ⟨d, hd⟩ : ∃ d, done.length = d := ⟨_, rfl⟩
    have hdb : d ≤ 300100 := by have := congrArg List.length HD.out; rw [List.length_append] at this; omega
    have HDl := Lib.hid hd
    have HAt := Lib.hid HS.out.at_
    rw [hd] at HAt
    have HE := Lib.hid HS.out.ext
    have HNB := Lib.hid HS.out.nb
    have HNV := Lib.hid HS.out.nv
    obtain ⟨V, hV⟩ : ∃ V, Crc.num done = V := ⟨_, rfl⟩
    rw [hV] at HAt
    have HV := Lib.hid hV
    obtain ⟨k, rfl⟩ : ∃ j, k = j + 1 := ⟨k - 1, by have := HK.out; omega⟩
    clear HS hd hV
    by_cases h6 : R.size ≤ 65535
    · obtain ⟨n, hn⟩ : ∃ n, R.size = n := ⟨_, rfl⟩
      have HNn := Lib.hid hn
      have t1 : ((n : Int) == (R.size : Int)) = true := beq_iff_eq.2 (by omega)
      have HDA : Hid (done ++ Sto.blk 1 R.data.toList = A) := Lib.hid (by rw [← HD.out, Sto.all_last (by rw [list_size]; exact h6)])
      have hnR : n ≤ R.size := by omega
      have hnRI : (n : Int) ≤ (R.size : Int) := by omega
      have hn0 : (0 : Int) ≤ (n : Int) := by omega
      have hnt : ((n : Nat) : Int).toNat = n := by omega
      have hmn : (if (R.size : Int) < 65535 then (R.size : Int) else 65535) = (n : Int) := by split <;> omega
      have hn6 : n < 65536 := by omega
      have wn : ∀ z, z = (n : Int) → IntKind.u32.wrap z = z := by rintro _ rfl; unfold IntKind.wrap; simp [IntKind.bits, IntKind.signed]; omega
      have hkm : (n : Int) % 4294967296 = (n : Int) := by omega
      have hxo := xor16 n hn6
      obtain ⟨y, hy⟩ : ∃ y, 65535 - n = y := ⟨_, rfl⟩
      rw [hy] at hxo
      have HY := Lib.hid hy
      have hy6 : y < 65536 := by omega
      clear hy
      (try clear hn)
      go_wp2_with fail
      refine (put_in B 0 (8 * d) V 1 3 _ _ HAt.out (by decide) (by decide) (by omega)).mono ?_
      rintro e w2 ⟨rfl, v2, h2, s2⟩
      have HAt2 := Lib.hid h2
      obtain ⟨q1, q2⟩ := StoGo.step HE.out HNB.out HNV.out s2
      have HE2 := Lib.hid q1
      have HNV2 := Lib.hid q2
      clear h2 s2 q1 q2 HAt HE HNV
      go_wp2_with fail
      refine (align_calls B 0 _ _ _ _ HAt2.out (by omega)).mono ?_
      rintro e w3 ⟨rfl, h3, s3⟩
      rw [show (8 * d + 3 + 7) / 8 * 8 = 8 * (d + 1) by omega] at h3
      have HAt3 := Lib.hid h3
      obtain ⟨q1, q2⟩ := StoGo.step HE2.out HNB.out HNV2.out s3
      have HE3 := Lib.hid q1
      have HNV3 := Lib.hid q2
      clear h3 s3 q1 q2 HAt2 HE2 HNV2
      go_wp2_with fail
      refine (put_in B 0 _ _ n 16 _ _ HAt3.out (by decide) (by omega) (by omega)).mono ?_
      rintro e w4 ⟨rfl, v4, h4, s4⟩
      have HAt4 := Lib.hid h4
      obtain ⟨q1, q2⟩ := StoGo.step HE3.out HNB.out HNV3.out s4
      have HE4 := Lib.hid q1
      have HNV4 := Lib.hid q2
      clear h4 s4 q1 q2 HAt3 HE3 HNV3
      go_wp2_with fail
      refine (put_in B 0 _ _ y 16 _ _ HAt4.out (by decide) (by omega) (by omega)).mono ?_
      rintro e w5 ⟨rfl, v5, h5, s5⟩
      have HAt5 := Lib.hid h5
      obtain ⟨q1, q2⟩ := StoGo.step HE4.out HNB.out HNV4.out s5
      have HE5 := Lib.hid q1
      have HNV5 := Lib.hid q2
      clear h5 s5 q1 q2 HAt4 HE4 HNV4 wn hkm hxo
      obtain ⟨P, hP⟩ : ∃ P, R.extract 0 n = P := ⟨_, rfl⟩
      have hPs : P.size = n := by rw [← hP]; simp; omega
      have hPl : P.data.toList = R.data.toList.take n := by rw [← hP, ex_list]; simp
      have HPl := Lib.hid hPl
      have HPs := Lib.hid hPs
      have hb5 : 8 * (d + 1) + 16 + 16 + 8 * P.size < 1099511627776 := by omega
      clear hPl hPs
      go_wp2_with fail
      (try rw [hP])
      refine (bytes_calls B 0 _ _ _ P _ HAt5.out (by omega) hb5).mono ?_
      rintro e w6 ⟨rfl, v6, h6x, s6⟩
      clear hP
      have HF : Hid (StoGo w w6 B v6 (done ++ Sto.blk 1 P.data.toList)) := Lib.hid (by
        obtain ⟨q1, q2⟩ := StoGo.step HE5.out HNB.out HNV5.out s6
        refine ⟨?_, q1, HNB.out, q2⟩
        have hpl : P.data.toList.length = n := by rw [list_size]; exact HPs.out
        have e1 := num_blk done P.data.toList 1 (by decide) (by omega)
        rw [HDl.out, HV.out, hpl, HY.out] at e1
        rw [← e1, List.length_append, HDl.out, Sto.blk_length, hpl, show 8 * (d + (5 + n)) = 8 * (d + 1) + 16 + 16 + 8 * n by omega]
        rw [HPs.out] at h6x
        exact h6x)
      clear h6x s6 HAt5 HE5 HNV5
      have HPR : Hid (P.data.toList = R.data.toList) := Lib.hid (by rw [HPl.out, List.take_of_length_le (by rw [list_size, HNn.out]; exact Nat.le_refl _)])
      have hE : R.extract n R.size = ⟨#[]⟩ := by rw [HNn.out]; apply bts_ext; rw [ex_list]; simp
      go_wp2_with fail
      refine (text_calls B 0 _ _ _ _ HF.out.at_).mono ?_
      rintro e w7 ⟨⟨l, hl, hV, rfl⟩, h7⟩
      subst h7
      have hlA : l = A := by
        have e1 : l = done ++ Sto.blk 1 P.data.toList := Crc.num_inj _ _ (by rw [hl]; omega) hV
        rw [e1, HPR.out, HDA.out]
      subst hlA
      go_wp2_with fail
      go_ret
      refine ⟨?_, HF.out.ext⟩
      rw [tb_eq]
      rfl
    · have t1 : ((65535 : Int) == (R.size : Int)) = false := beq_eq_false_iff_ne.2 (by omega)
      obtain ⟨n, hn⟩ : ∃ n, n = 65535 := ⟨_, rfl⟩
      have HN := Lib.hid hn
      have hnI : (65535 : Int) = (n : Int) := by omega
      rw [hnI] at t1
      have HDA : Hid (done ++ (Sto.blk 0 (R.data.toList.take n) ++ Sto.all k (R.data.toList.drop n)) = A) := Lib.hid (by rw [← HD.out, Sto.all_more (by rw [list_size]; exact h6), hn])
      clear hnI
      have hnR : n ≤ R.size := by omega
      have hnRI : (n : Int) ≤ (R.size : Int) := by omega
      have hn0 : (0 : Int) ≤ (n : Int) := by omega
      have hnt : ((n : Nat) : Int).toNat = n := by omega
      have hmn : (if (R.size : Int) < 65535 then (R.size : Int) else 65535) = (n : Int) := by split <;> omega
      have hn6 : n < 65536 := by omega
      have wn : ∀ z, z = (n : Int) → IntKind.u32.wrap z = z := by rintro _ rfl; unfold IntKind.wrap; simp [IntKind.bits, IntKind.signed]; omega
      have hkm : (n : Int) % 4294967296 = (n : Int) := by omega
      have hxo := xor16 n hn6
      obtain ⟨y, hy⟩ : ∃ y, 65535 - n = y := ⟨_, rfl⟩
      rw [hy] at hxo
      have HY := Lib.hid hy
      have hy6 : y < 65536 := by omega
      clear hy
      (try clear hn)
      go_wp2_with fail
      refine (put_in B 0 (8 * d) V 0 3 _ _ HAt.out (by decide) (by decide) (by omega)).mono ?_
      rintro e w2 ⟨rfl, v2, h2, s2⟩
      have HAt2 := Lib.hid h2
      obtain ⟨q1, q2⟩ := StoGo.step HE.out HNB.out HNV.out s2
      have HE2 := Lib.hid q1
      have HNV2 := Lib.hid q2
      clear h2 s2 q1 q2 HAt HE HNV
      go_wp2_with fail
      refine (align_calls B 0 _ _ _ _ HAt2.out (by omega)).mono ?_
      rintro e w3 ⟨rfl, h3, s3⟩
      rw [show (8 * d + 3 + 7) / 8 * 8 = 8 * (d + 1) by omega] at h3
      have HAt3 := Lib.hid h3
      obtain ⟨q1, q2⟩ := StoGo.step HE2.out HNB.out HNV2.out s3
      have HE3 := Lib.hid q1
      have HNV3 := Lib.hid q2
      clear h3 s3 q1 q2 HAt2 HE2 HNV2
      go_wp2_with fail
      refine (put_in B 0 _ _ n 16 _ _ HAt3.out (by decide) (by omega) (by omega)).mono ?_
      rintro e w4 ⟨rfl, v4, h4, s4⟩
      have HAt4 := Lib.hid h4
      obtain ⟨q1, q2⟩ := StoGo.step HE3.out HNB.out HNV3.out s4
      have HE4 := Lib.hid q1
      have HNV4 := Lib.hid q2
      clear h4 s4 q1 q2 HAt3 HE3 HNV3
      go_wp2_with fail
      refine (put_in B 0 _ _ y 16 _ _ HAt4.out (by decide) (by omega) (by omega)).mono ?_
      rintro e w5 ⟨rfl, v5, h5, s5⟩
      have HAt5 := Lib.hid h5
      obtain ⟨q1, q2⟩ := StoGo.step HE4.out HNB.out HNV4.out s5
      have HE5 := Lib.hid q1
      have HNV5 := Lib.hid q2
      clear h5 s5 q1 q2 HAt4 HE4 HNV4 wn hkm hxo
      obtain ⟨P, hP⟩ : ∃ P, R.extract 0 n = P := ⟨_, rfl⟩
      have hPs : P.size = n := by rw [← hP]; simp; omega
      have hPl : P.data.toList = R.data.toList.take n := by rw [← hP, ex_list]; simp
      have HPl := Lib.hid hPl
      have HPs := Lib.hid hPs
      have hb5 : 8 * (d + 1) + 16 + 16 + 8 * P.size < 1099511627776 := by omega
      clear hPl hPs
      go_wp2_with fail
      (try rw [hP])
      refine (bytes_calls B 0 _ _ _ P _ HAt5.out (by omega) hb5).mono ?_
      rintro e w6 ⟨rfl, v6, h6x, s6⟩
      clear hP
      have HF : Hid (StoGo w w6 B v6 (done ++ Sto.blk 0 P.data.toList)) := Lib.hid (by
        obtain ⟨q1, q2⟩ := StoGo.step HE5.out HNB.out HNV5.out s6
        refine ⟨?_, q1, HNB.out, q2⟩
        have hpl : P.data.toList.length = n := by rw [list_size]; exact HPs.out
        have e1 := num_blk done P.data.toList 0 (by decide) (by omega)
        rw [HDl.out, HV.out, hpl, HY.out] at e1
        rw [← e1, List.length_append, HDl.out, Sto.blk_length, hpl, show 8 * (d + (5 + n)) = 8 * (d + 1) + 16 + 16 + 8 * n by omega]
        rw [HPs.out] at h6x
        exact h6x)
      clear h6x s6 HAt5 HE5 HNV5
      obtain ⟨S, hS⟩ : ∃ S, R.extract n R.size = S := ⟨_, rfl⟩
      have hSs : S.size = R.size - n := by rw [← hS]; simp
      have hSl : S.data.toList = R.data.toList.drop n := by rw [← hS, ex_list, List.take_of_length_le (by rw [List.length_drop, list_size]; omega)]
      have hne : S.toList.isEmpty = false := emp_no S (by omega)
      have HSl := Lib.hid hSl
      have HSs := Lib.hid hSs
      clear hSl hSs
      go_wp2_with fail
      go_roundw
      case rel => exact ⟨S, done ++ Sto.blk 0 P.data.toList, k, _, rfl, by have := HSs.out; omega, Lib.hid (by rw [List.append_assoc, HPl.out, HSl.out]; exact HDA.out), Lib.hid (by have := HSs.out; have := HK.out; have := HN.out; omega), HF⟩
      case measure => show S.size < R.size; have := HSs.out; have := HN.out; omega
theorem Stored_calls (t : ByteArray) (w : World) (ht : t.size ≤ 300000) :
    Calls Tryd.prog 12 #[.string t] w fun e w' => e = .returned (.tuple #[.string (tb (Sto.all (t.size + 1) t.data.toList)), .nilIface]) ∧ Ext w w' := by
  have HS := Lib.hid (fun w => stored_calls t w ht)
  have t1 : decide ((300000 : Int) < (t.size : Int)) = false := decide_eq_false (by omega)
  have n1 : ¬ 300000 < t.size := by omega
  go_enter Tryd.func12, Tryd.ntmps12
  go_wp2_with fail
  refine (HS.out _).mono ?_
  rintro e w2 ⟨rfl, h2⟩
  go_wp2_with fail
  go_ret2
  exact ⟨rfl, h2⟩
theorem blank_calls (w : World) : Calls Tryd.prog 11 #[] w fun e w' => e = .returned (.bool true) ∧ Ext w w' := by
  have HS := Lib.hid (fun w => Stored_calls ⟨#[]⟩ w (by decide))
  have e1 : tb (Sto.all ((⟨#[]⟩ : ByteArray).size + 1) (⟨#[]⟩ : ByteArray).data.toList) = ⟨#[1, 0, 0, 255, 255]⟩ := by rw [tb_eq]; rfl
  rw [e1] at HS
  clear e1
  go_enter Tryd.func11, Tryd.ntmps11
  go_wp2_with fail
  refine (HS.out _).mono ?_
  rintro e w2 ⟨rfl, h2⟩
  go_wp2_with fail
  go_ret
  exact ⟨rfl, h2⟩
end Go.Proofs.YtnhbjgmfbcedaaaDoor
