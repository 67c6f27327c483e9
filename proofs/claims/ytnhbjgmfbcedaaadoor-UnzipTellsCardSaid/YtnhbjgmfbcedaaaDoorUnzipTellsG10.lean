/-
  inflate.Inflate.
  A packed text read: how many bytes there may be. No function of the program is named.
  The fixed block of a letter.
  coded: an error's number, without a place.
  Plain law of the Adler sum. No program in sight.
  (For a seat without CRC.) Contracts of sum.MoreAdler, sum.Adler: what they compute; the world is as it was.
  Four bytes of a number; the document's BigOf.
  The document's bits: Byte, Low, High.
-/
import Derived.Test.YtnhbjgmfbcedaaaDoorUnzipTellsG9
import Derived.Deep.LoopGhost
import Derived.StillTailTactics
import Derived.Test.YtnhbjgmfbcedaaaDoorUnzipTellsG2
import Derived.Test.YtnhbjgmfbcedaaaDoorUnzipTellsG1
import Derived.Outline
namespace Go.Proofs.YtnhbjgmfbcedaaaDoor
open Go.RowKit
set_option linter.unusedSimpArgs false
set_option maxRecDepth 100000
theorem bound_any (s : ByteArray) (most : Int) (w : World) (hs : s.size ≤ maxLen) : Calls Tryd.prog 34 #[.string s, .int .i64 most] w fun e w' => e = .returned (.bool (decide (most < 0 ∨ 300000 < most ∨ 300000 < s.size))) ∧ w = w' := by
  unfold maxLen at hs
  by_cases h0 : most < 0
  · have e : decide (most < 0 ∨ 300000 < most ∨ 300000 < s.size) = true := decide_eq_true (.inl h0)
    rw [e]
    go_enter Tryd.func34, Tryd.ntmps34
    go_wp2_with fail
    go_ret
    exact ⟨rfl, rfl⟩
  · by_cases h1 : 300000 < most
    · have e : decide (most < 0 ∨ 300000 < most ∨ 300000 < s.size) = true := decide_eq_true (.inr (.inl h1))
      rw [e]
      go_enter Tryd.func34, Tryd.ntmps34
      go_wp2_with fail
      go_ret
      exact ⟨rfl, rfl⟩
    · by_cases h2 : 300000 < s.size
      · have e : decide (most < 0 ∨ 300000 < most ∨ 300000 < s.size) = true := decide_eq_true (.inr (.inr h2))
        have h2I : (300000 : Int) < (s.size : Int) := by omega
        rw [e]
        clear e
        go_enter Tryd.func34, Tryd.ntmps34
        go_wp2_with fail
        go_ret
        exact ⟨rfl, rfl⟩
      · have e : decide (most < 0 ∨ 300000 < most ∨ 300000 < s.size) = false := decide_eq_false (by omega)
        have h2I : ¬ (300000 : Int) < (s.size : Int) := by omega
        rw [e]
        clear e
        go_enter Tryd.func34, Tryd.ntmps34
        go_wp2_with fail
        go_ret
        exact ⟨rfl, rfl⟩
def InfPost (w w' : World) (E : Nat → Addr) (r : Except Nat (List UInt8 × Nat × List Inf.Blk)) (e : Ending) : Prop :=
  Ext w w' ∧ match r with
  | .ok (out, used, _) => e = .returned (.tuple #[.string (tb out), .int .i64 (used : Int), .nilIface])
  | .error c => e = .returned (.tuple #[.string ⟨#[]⟩, .int .i64 0, sentV (E c)])
theorem infpost_ok {w w' : World} {E : Nat → Addr} {r : Except Nat (List UInt8 × Nat × List Inf.Blk)} {out : List UInt8} {used : Nat} {bs : List Inf.Blk} {x : Value} (hr : r = .ok (out, used, bs)) (hX : Ext w w') (hx : x = .tuple #[.string (tb out), .int .i64 (used : Int), .nilIface]) : InfPost w w' E r (.returned x) := by
  subst hr hx; exact ⟨hX, rfl⟩
theorem infpost_error {w w' : World} {E : Nat → Addr} {r : Except Nat (List UInt8 × Nat × List Inf.Blk)} {c : Nat} {x : Value} (hr : r = .error c) (hX : Ext w w') (hx : x = .tuple #[.string ⟨#[]⟩, .int .i64 0, sentV (E c)]) : InfPost w w' E r (.returned x) := by
  subst hr hx; exact ⟨hX, rfl⟩
theorem res_inflate (p : Nat) (x : ByteArray) (y : Int) (z : Value) (w : World) (tmps : Array Value) (h0 : Bk w p #[.string x]) (h1 : Bk w (p + 1) #[.int .i64 y]) (h2 : Bk w (p + 2) #[z]) (t4 : tmps[4]? = some (.pointer (some ⟨p, 0, none⟩))) (t5 : tmps[5]? = some (.pointer (some ⟨p + 1, 0, none⟩))) (t6 : tmps[6]? = some (.pointer (some ⟨p + 2, 0, none⟩))) (hz : ∃ u v, z = .iface u v ∨ z = .nilIface) :
    (results Tryd.f14 tmps).run Tryd.prog w = .ok (.tuple #[.string x, .int .i64 y, z]) w := by
  have c0 := h0.cell 0
  have c1 := h1.cell 0
  have c2 := h2.cell 0
  obtain ⟨u, v, rfl | rfl⟩ := hz
  · simp [results, Tryd.results14, go_sem, t4, t5, t6, c0, c1, c2]
  · simp [results, Tryd.results14, go_sem, t4, t5, t6, c0, c1, c2]
theorem inf_error {s : ByteArray} {m : Nat} {c : Nat} {r0 : Except Nat (Nat × List UInt8 × List Inf.Blk)} {r : Except Nat (List UInt8 × Nat × List Inf.Blk)} (h0 : Inf.blocks s.data.toList m (8 * s.data.toList.length + 1) 0 [] [] = r0) (h : Inf.inf s.data.toList m = r) (e : r0 = .error c) : r = .error c := by
  unfold Inf.inf at h; rw [h0, e] at h; exact h.symm
theorem inf_ok {s : ByteArray} {m a : Nat} {out : List UInt8} {bs : List Inf.Blk} {r0 : Except Nat (Nat × List UInt8 × List Inf.Blk)} {r : Except Nat (List UInt8 × Nat × List Inf.Blk)} (h0 : Inf.blocks s.data.toList m (8 * s.data.toList.length + 1) 0 [] [] = r0) (h : Inf.inf s.data.toList m = r) (e : r0 = .ok (a, out, bs)) : r = .ok (out, (a + 7) / 8, bs) := by
  unfold Inf.inf at h; rw [h0, e] at h; exact h.symm
theorem BPost.yes {w0 w w' : World} {R B a most last : Nat} {s : ByteArray} {v : Value} {E : Nat → Addr} {out : List UInt8} {b : Inf.Blk} {r : Except Nat (Nat × Nat × List UInt8 × Inf.Blk)} {e : Ending} (h : BPost w0 w R B s most v E r e w') (hr : r = .ok (last, a, out, b)) : e = .returned (.bool (decide (last = 1))) ∧ ∃ v', IGo w0 w w' R B s a v v' out most := by subst hr; exact h
theorem BPost.no {w0 w w' : World} {R B most c : Nat} {s : ByteArray} {v : Value} {E : Nat → Addr} {r : Except Nat (Nat × Nat × List UInt8 × Inf.Blk)} {e : Ending} (h : BPost w0 w R B s most v E r e w') (hr : r = .error c) : e = thrown (E c) ∧ Ext w0 w' := by subst hr; exact h
theorem set3_ext {w w3 : World} {p : Nat} (hp : w.heap.size = p) (hX : Ext w w3) {x y z : Value} : Ext w (((w3.setCell ⟨p, 0, none⟩ x).setCell ⟨p + 1, 0, none⟩ y).setCell ⟨p + 2, 0, none⟩ z) := by
  refine (((show Below w.heap.size w w3 from hX).setCell (p := ⟨p, 0, none⟩) (by show _ ≤ p; omega) _).setCell (p := ⟨p + 1, 0, none⟩) (by show _ ≤ p + 1; omega) _).setCell (p := ⟨p + 2, 0, none⟩) (by show _ ≤ p + 2; omega) _
theorem set3_bk {w : World} {p : Nat} {x y z x' y' z' : Value} (h0 : Bk w p #[x]) (h1 : Bk w (p + 1) #[y]) (h2 : Bk w (p + 2) #[z]) :
    Bk (((w.setCell ⟨p, 0, none⟩ x').setCell ⟨p + 1, 0, none⟩ y').setCell ⟨p + 2, 0, none⟩ z') p #[x'] ∧ Bk (((w.setCell ⟨p, 0, none⟩ x').setCell ⟨p + 1, 0, none⟩ y').setCell ⟨p + 2, 0, none⟩ z') (p + 1) #[y'] ∧ Bk (((w.setCell ⟨p, 0, none⟩ x').setCell ⟨p + 1, 0, none⟩ y').setCell ⟨p + 2, 0, none⟩ z') (p + 2) #[z'] :=
  ⟨((h0.set_ 0 x').far (p := ⟨p + 1, 0, none⟩) (by show p ≠ p + 1; omega) _).far (p := ⟨p + 2, 0, none⟩) (by show p ≠ p + 2; omega) _,
   ((h1.far (p := ⟨p, 0, none⟩) (by show p + 1 ≠ p; omega) _).set_ 0 y').far (p := ⟨p + 2, 0, none⟩) (by show p + 1 ≠ p + 2; omega) _,
   ((h2.far (p := ⟨p, 0, none⟩) (by show p + 2 ≠ p; omega) _).far (p := ⟨p + 1, 0, none⟩) (by show p + 2 ≠ p + 1; omega) _).set_ 0 z'⟩
set_option linter.unusedSimpArgs false in
set_option maxHeartbeats 4000000 in
theorem inflate_any (s : ByteArray) (most : Int) (w : World) (E : Nat → Addr) (hE : Errs w E) (hTb : Tabs w) (hs : s.size ≤ maxLen) :
    Calls Tryd.prog 14 #[.string s, .int .i64 most] w fun e w' => InfPost w w' E (Inf.infl s most) e := by
  have HE := Lib.hid hE
  have HTb := Lib.hid hTb
  have HBd := Lib.hid (fun w => bound_any s most w hs)
  obtain ⟨r, hr⟩ : ∃ r, Inf.infl s most = r := ⟨_, rfl⟩
  rw [hr]
  unfold Inf.infl at hr
  have hmf : ∀ (fn : Fn) (first cap : Array Value) (w : World), (Instr.makeFunc fn first cap).run Tryd.prog w = .ok (.func fn first cap) w := fun _ _ _ _ => rfl
  obtain ⟨p, hp⟩ : ∃ p, w.heap.size = p := ⟨_, rfl⟩
  have HP := Lib.hid hp
  by_cases hb : most < 0 ∨ 300000 < most ∨ 300000 < s.size
  · have hd : decide (most < 0 ∨ 300000 < most ∨ 300000 < s.size) = true := decide_eq_true hb
    rw [if_pos hb] at hr
    have HR := Lib.hid hr.symm
    clear hE hTb hr hb hp hs
    go_enter_defers Tryd.func14, Tryd.ntmps14
    go_wp2_with fail
    refine (HBd.out _).mono ?_
    rintro e _ ⟨rfl, rfl⟩
    rw [hd]
    go_wp2_with fail
    clear hd hmf
    rw [show w.heap.size + 1 + 1 = w.heap.size + 2 from rfl, HP.out]
    refine wp_world (fun wz => Ext w wz ∧ Bk wz p #[.string ⟨#[]⟩] ∧ Bk wz (p + 1) #[.int .i64 0] ∧ Bk wz (p + 2) #[.nilIface]) ⟨(((Ext.refl w).alloc _).alloc _).alloc _, Bk.old (Bk.old (Bk.at HP.out)), Bk.old (Bk.at (by simp [HP.out])), Bk.at (by simp [HP.out])⟩ ?_
    rintro w3 ⟨hX, h0, h1, h2⟩
    have HX := Lib.hid hX
    have H3 := Lib.hid (fun (x y z : Value) => set3_bk (x' := x) (y' := y) (z' := z) h0 h1 h2)
    have k0 := h0.cell 0
    have k1 := h1.cell 0
    have k2 := h2.cell 0
    have f0 := h0.frozen 0
    have f1 := h1.frozen 0
    have f2 := h2.frozen 0
    have ev := (err_cells HE.out hX).2
    have hg : (0 : Nat) < w.heap.size := World.block_lt_of_cell? w _ (err_cells HE.out (Ext.refl w)).2
    rw [HP.out] at hg
    have n0 : ¬ 0 = p := by omega
    have n1 : ¬ 0 = p + 1 := by omega
    clear hX h0 h1 h2 hg
    go_region
    all_goals (try go_wp2_with fail)
    all_goals
      obtain ⟨q0, q1, q2⟩ := H3.out (.string ⟨#[]⟩) (.int .i64 0) (.iface 210 (.pointer (some (E 1))))
      exact ⟨_, res_inflate p ⟨#[]⟩ 0 _ _ _ q0.drew q1.drew q2.drew rfl rfl rfl ⟨_, _, .inl rfl⟩, infpost_error HR.out (Below.drew (set3_ext HP.out HX.out)) rfl⟩
  · have hd : decide (most < 0 ∨ 300000 < most ∨ 300000 < s.size) = false := decide_eq_false hb
    rw [if_neg hb] at hr
    obtain ⟨m, rfl⟩ : ∃ m : Nat, most = m := ⟨most.toNat, by omega⟩
    have hm : m ≤ 300000 := by omega
    have hsz : s.size ≤ 300000 := by omega
    rw [Int.toNat_natCast] at hr
    have HR := Lib.hid hr
    obtain ⟨r0, hr0⟩ : ∃ r0, Inf.blocks s.data.toList m (8 * s.data.toList.length + 1) 0 [] [] = r0 := ⟨_, rfl⟩
    have HR0 := Lib.hid hr0
    clear hE hTb hr hb hp hs hr0
    go_enter_defers Tryd.func14, Tryd.ntmps14
    go_wp2_with fail
    refine (HBd.out _).mono ?_
    rintro e _ ⟨rfl, rfl⟩
    rw [hd]
    go_wp2_with fail
    clear hd
    rw [show w.heap.size + 1 + 1 = w.heap.size + 2 from rfl, HP.out]
    refine calls_world (fun wz => Ext w wz ∧ Bk wz p #[.string ⟨#[]⟩] ∧ Bk wz (p + 1) #[.int .i64 0] ∧ Bk wz (p + 2) #[.nilIface]) ⟨(((Ext.refl w).alloc _).alloc _).alloc _, Bk.old (Bk.old (Bk.at HP.out)), Bk.old (Bk.at (by simp [HP.out])), Bk.at (by simp [HP.out])⟩ ?_
    rintro w3 ⟨hX, h0, h1, h2⟩
    have HX := Lib.hid hX
    have H0 := Lib.hid h0
    have H1 := Lib.hid h1
    have H2 := Lib.hid h2
    have HE3 := Lib.hid (HE.out.ext hX)
    have HT3 := Lib.hid (HTb.out.ext hX)
    have HPL := Lib.hid (⟨by rw [← HP.out]; exact hX.size, h2.lt⟩ : p ≤ w3.heap.size ∧ p + 2 < w3.heap.size)
    clear hX h0 h1 h2
    refine (newReader_calls s w3 (by omega)).mono ?_
    rintro e w4 ⟨rfl, hr4, hx4⟩
    have HR4 := Lib.hid hr4
    have HX4 := Lib.hid hx4
    have hlt4 : w3.heap.size < w4.heap.size := hr4.lt
    have HL4 := Lib.hid hlt4
    clear hr4 hx4 hlt4
    go_wp2_with fail
    obtain ⟨B, hB⟩ : ∃ B, w3.heap.size = B := ⟨_, rfl⟩
    obtain ⟨R, hR⟩ : ∃ R, w4.heap.size = R := ⟨_, rfl⟩
    refine wp_world (fun wz => IGo w3 wz wz R B s 0 (.slice none 0 0) (.slice none 0 0) [] m) ?_ ?_
    · refine IGo.start ⟨⟨?_, ?_, World.ownsRow_nil _ _ _ _, ?_, (fun e => by cases e), (fun e => by cases e)⟩, HX4.out.alloc _, ?_, ?_, (fun k e => by cases e), Nat.zero_le _⟩
      · rw [hB]; exact Bk.at hR
      · have h := HR4.out
        rw [hB] at h
        exact ⟨ext_cell ((Ext.refl w4).alloc _) h.c0, ext_cell ((Ext.refl w4).alloc _) h.c1, by rw [World.frozen?_alloc_past _ _ _ h.lt]; exact h.f1, h.size, h.le⟩
      · have := HL4.out; omega
      · have := HL4.out; omega
      · omega
    rintro w5 hG
    have HG := Lib.hid hG
    rw [hR]
    clear hG hB hR
    go_loopg [] (8 * s.size) (fun k wr => ∃ (a : Nat) (v : Value) (out : List UInt8) (bs : List Inf.Blk) (FF : Nat), Hid (IGo w3 w5 wr R B s a (.slice none 0 0) v out m) ∧ Hid (Inf.blocks s.data.toList m FF a out bs = r0) ∧ Hid (8 * s.size - a < FF ∧ k = 8 * s.size - a) ∧ out.length ≤ m)
    case atStart => exact ⟨0, _, [], [], 8 * s.data.toList.length + 1, HG, HR0, Lib.hid ⟨by rw [list_size]; omega, by omega⟩, Nat.zero_le _⟩
    case round =>
      clear HG
      obtain ⟨a, v, out, bs, FF, H, HRb, HK, hout⟩ := hrel
      have HF0 : Hid (0 < FF) := Lib.hid (by have := HK.out; omega)
      go_wp2_with fail
      have hP := iblock_any R B a m s v out w3 wr E HE3.out HT3.out H.out.st hm hsz hout
      cases hs : Inf.block s.data.toList m a out with
      | error c =>
        have HQ := Lib.hid (inf_error HR0.out HR.out (Inf.blocks_err HF0.out HRb.out hs))
        refine hP.mono ?_
        intro e w9 h9
        obtain ⟨rfl, h8⟩ := h9.no hs
        have H8 := Lib.hid h8
        clear hP h9 h8 hs H
        unfold thrown
        refine leaves_cons (f := 35) (args := #[.pointer (some ⟨p, 0, none⟩), .pointer (some ⟨p + 1, 0, none⟩), .pointer (some ⟨p + 2, 0, none⟩)]) (by simp) (by simp [go_sem]) ?_
        refine (icatch p (E c) [] _ _ _ w9 (H0.out.ext H8.out) (H1.out.ext H8.out) (H2.out.ext H8.out)).mono ?_
        rintro e u' w8 ⟨rfl, rfl, hc⟩
        exact ⟨_, res_inflate p ⟨#[]⟩ 0 _ _ _ hc.h0 hc.h1 hc.h2 rfl rfl rfl ⟨_, _, .inl rfl⟩, infpost_error HQ.out (Below.trans (HX.out.trans H8.out) (by rw [HP.out]; exact hc.ext)) rfl⟩
      | ok q =>
        obtain ⟨last, a1, out1, b⟩ := q
        have hgr := Inf.block_grow hout hs
        refine hP.mono ?_
        intro e w6 h6
        obtain ⟨rfl, v', h8⟩ := h6.yes hs
        have H6 := Lib.hid (H.out.trans h8)
        clear h6 h8 hP H
        by_cases hl : last = 1
        · subst hl
          have HQ := Lib.hid (inf_ok HR0.out HR.out (Inf.blocks_last HF0.out HRb.out hs))
          have c0 := H6.out.bk.cell 0
          clear hs
          go_wp2_with fail
          refine (ralign_calls B 0 a1 s w6 H6.out.st.at_.rd H6.out.st.le).mono ?_
          rintro e w7 ⟨rfl, hR, hS⟩
          have hle := H6.out.st.le
          obtain ⟨used, hus⟩ : ∃ u, (a1 + 7) / 8 = u := ⟨_, rfl⟩
          rw [hus] at hR HQ
          obtain ⟨a7, ha7⟩ : ∃ x, used * 8 = x := ⟨_, rfl⟩
          rw [ha7] at hR
          have H7 := Lib.hid (H6.out.read hR hS (by omega))
          have hq1 : (a7 : Int).tdiv 8 = (used : Int) := by rw [Int.tdiv_eq_ediv_of_nonneg (by omega)]; omega
          have hq2 : (a7 : Int) / 8 = (used : Int) := by omega
          have hub : used ≤ 300000 := by omega
          have wu : ∀ z, z = (used : Int) → IntKind.i64.wrap z = z := by rintro _ rfl; rw [IntKind.wrap_i64]; omega
          obtain ⟨Lo, hLo⟩ : ∃ Lo, out1.length = Lo := ⟨_, rfl⟩
          have HL := Lib.hid hLo
          have hro := H7.out.row
          rw [hLo] at hro
          obtain ⟨xo, co, rfl⟩ := lit_row hro
          -- region
          clear hR hS hus ha7 hro hLo hle H6
          have H_7 := H7
          clear H7
          have n0 : ¬ p = R := by have := HPL.out; have := H_7.out.st.hR; omega
          have n1 : ¬ p + 1 = R := by have := HPL.out; have := H_7.out.st.hR; omega
          have n2 : ¬ p + 2 = R := by have := HPL.out; have := H_7.out.st.hR; omega
          go_wp2_with fail
          refine wp_noPanic ?_
          refine wp_region_held_drew (S := fun w' => w'.cell? ⟨R, 0, none⟩ = some (.pointer (some ⟨B, 0, none⟩)) ∧ w'.cell? ⟨R, 1, none⟩ = some (.slice xo Lo co)) (by kernel_rfl) ⟨H_7.out.bk.cell 0, H_7.out.bk.cell 1⟩ (fun hHeld => ?_)
          clear hHeld
          refine anyH_world (fun wz => Ext w7 wz) (show Ext w7 w7.drew from Below.drew (Ext.refl w7)) ?_
          rintro w8 h
          have H_8 := Lib.hid (H_7.out.ext h)
          clear h H_7
          have hHeld : w8.cell? ⟨R, 0, none⟩ = some (.pointer (some ⟨B, 0, none⟩)) ∧ w8.cell? ⟨R, 1, none⟩ = some (.slice xo Lo co) := ⟨H_8.out.bk.cell 0, H_8.out.bk.cell 1⟩
          refine wpAnyH_take (i := 0) (v := ?_) rfl (by kernel_rfl) (by kernel_rfl) (by kernel_rfl) (fun _ _ _ h => h) (Or.inl ⟨by kernel_rfl, ?_⟩) hHeld ?_
          rotate_left
          · intro w hSw
            (try dsimp only at hSw)
            go_split_ands
            go_simp
            (try with_reducible rfl)
          try simp only [Act.put, List.getElem_toArray, List.getElem_cons_succ, List.getElem_cons_zero, List.setIfInBounds_toArray, List.set_cons_zero, List.set_cons_succ]
          refine wpAnyH_take (i := 1) (v := ?_) rfl (by kernel_rfl) (by kernel_rfl) (by kernel_rfl) (fun _ _ _ h => h) (Or.inl ⟨by kernel_rfl, ?_⟩) hHeld ?_
          rotate_left
          · intro w hSw
            (try dsimp only at hSw)
            go_split_ands
            go_simp
            (try with_reducible rfl)
          try simp only [Act.put, List.getElem_toArray, List.getElem_cons_succ, List.getElem_cons_zero, List.setIfInBounds_toArray, List.set_cons_zero, List.set_cons_succ]
          refine wpAnyH_take (i := 2) (v := ?_) rfl (by kernel_rfl) (by kernel_rfl) (by kernel_rfl) (fun _ _ _ h => h) (Or.inl ⟨by kernel_rfl, ?_⟩) hHeld ?_
          rotate_left
          · intro w hSw
            (try dsimp only at hSw)
            go_split_ands
            go_simp
            (try with_reducible rfl)
          try simp only [Act.put, List.getElem_toArray, List.getElem_cons_succ, List.getElem_cons_zero, List.setIfInBounds_toArray, List.set_cons_zero, List.set_cons_succ]
          refine wpAnyH_take (i := 3) (v := ?_) rfl (by kernel_rfl) (by kernel_rfl) (by kernel_rfl) (fun _ _ _ h => h) (Or.inl ⟨by kernel_rfl, ?_⟩) hHeld ?_
          rotate_left
          · intro w hSw
            (try dsimp only at hSw)
            go_split_ands
            go_simp
            (try with_reducible rfl)
          try simp only [Act.put, List.getElem_toArray, List.getElem_cons_succ, List.getElem_cons_zero, List.setIfInBounds_toArray, List.set_cons_zero, List.set_cons_succ]
          refine wpAnyH_take (i := 5) (v := ?_) rfl (by kernel_rfl) (by kernel_rfl) (by kernel_rfl) (fun _ _ _ h => h) (Or.inl ⟨by kernel_rfl, ?_⟩) hHeld ?_
          rotate_left
          · intro w hSw
            (try dsimp only at hSw)
            go_split_ands
            go_simp
            (try with_reducible rfl)
          try simp only [Act.put, List.getElem_toArray, List.getElem_cons_succ, List.getElem_cons_zero, List.setIfInBounds_toArray, List.set_cons_zero, List.set_cons_succ]
          refine wpAnyH_take (i := 6) (v := ?_) rfl (by kernel_rfl) (by kernel_rfl) (by kernel_rfl) (fun _ _ _ h => h) (Or.inl ⟨by kernel_rfl, ?_⟩) hHeld ?_
          rotate_left
          · intro w hSw
            (try dsimp only at hSw)
            go_split_ands
            go_simp
            (try with_reducible rfl)
          try simp only [Act.put, List.getElem_toArray, List.getElem_cons_succ, List.getElem_cons_zero, List.setIfInBounds_toArray, List.set_cons_zero, List.set_cons_succ]
          refine wpAnyH_take (i := 7) (v := ?_) rfl (by kernel_rfl) (by kernel_rfl) (by kernel_rfl) (fun _ _ _ h => h) (Or.inl ⟨by kernel_rfl, ?_⟩) hHeld ?_
          rotate_left
          · intro w hSw
            (try dsimp only at hSw)
            go_split_ands
            go_simp
            (try with_reducible rfl)
          try simp only [Act.put, List.getElem_toArray, List.getElem_cons_succ, List.getElem_cons_zero, List.setIfInBounds_toArray, List.set_cons_zero, List.set_cons_succ]
          refine wpAnyH_take (i := 8) (v := ?_) rfl (by kernel_rfl) (by kernel_rfl) (by kernel_rfl) (fun _ _ _ h => h) (Or.inl ⟨by kernel_rfl, ?_⟩) hHeld ?_
          rotate_left
          · intro w hSw
            (try dsimp only at hSw)
            go_split_ands
            go_simp
            (try with_reducible rfl)
          try simp only [Act.put, List.getElem_toArray, List.getElem_cons_succ, List.getElem_cons_zero, List.setIfInBounds_toArray, List.set_cons_zero, List.set_cons_succ]
          refine wpAnyH_ready (rs := [4, 9]) (by kernel_rfl) (by simp) ?_
          refine AllReadyH.cons rfl (fun KK hK => ?_) (AllReadyH.cons rfl (fun KK hK => ?_) AllReadyH.nil)
          · clear hHeld
            have hro := H_8.out.row
            rw [HL.out] at hro
            have hcr := conv_row HL.out hro
            clear hro
            go_simp
            refine hK.out _ _ ⟨H_8.out.bk.cell 0, H_8.out.bk.cell 1⟩ (fun hHeld => ?_)
            clear hK KK hcr
            try simp only [Act.put, List.getElem_toArray, List.getElem_cons_succ, List.getElem_cons_zero, List.setIfInBounds_toArray, List.set_cons_zero, List.set_cons_succ]
            refine wpAnyH_ready (rs := [9]) (by kernel_rfl) (by simp) ?_
            refine AllReadyH.cons rfl (fun KK hK => ?_) AllReadyH.nil
            clear hHeld
            go_simp
            refine (at_calls B 0 a7 s _ H_8.out.st.at_.rd).mono ?_
            rintro e w9 ⟨rfl, rfl⟩
            go_simp
            refine hK.out _ _ ⟨H_8.out.bk.cell 0, H_8.out.bk.cell 1⟩ (fun hHeld => ?_)
            clear hK KK
            try simp only [Act.put, List.getElem_toArray, List.getElem_cons_succ, List.getElem_cons_zero, List.setIfInBounds_toArray, List.set_cons_zero, List.set_cons_succ]
            refine wpAnyH_take (i := 10) (v := ?_) rfl (by kernel_rfl) (by kernel_rfl) (by kernel_rfl) (fun _ _ _ h => h) (Or.inl ⟨by kernel_rfl, ?_⟩) hHeld ?_
            rotate_left
            · intro w hSw
              (try dsimp only at hSw)
              go_split_ands
              go_simp
              (try with_reducible rfl)
            try simp only [Act.put, List.getElem_toArray, List.getElem_cons_succ, List.getElem_cons_zero, List.setIfInBounds_toArray, List.set_cons_zero, List.set_cons_succ]
            refine wpAnyH_ready (rs := [11]) (by kernel_rfl) (by simp) ?_
            refine AllReadyH.cons rfl (fun KK hK => ?_) AllReadyH.nil
            clear hHeld
            have k0 := (H0.out.ext H_8.out.old).cell 0
            have f0 := (H0.out.ext H_8.out.old).frozen 0
            have k1 := (H1.out.ext H_8.out.old).cell 0
            have f1 := (H1.out.ext H_8.out.old).frozen 0
            have k2 := (H2.out.ext H_8.out.old).cell 0
            have f2 := (H2.out.ext H_8.out.old).frozen 0
            have c0 := H_8.out.bk.cell 0
            have c1 := H_8.out.bk.cell 1
            go_simp
            refine hK.out _ _ ⟨by simp [go_sem, c0, c1, n0, n1, n2], by simp [go_sem, c0, c1, n0, n1, n2]⟩ (fun hHeld => ?_)
            clear hK KK
            try simp only [Act.put, List.getElem_toArray, List.getElem_cons_succ, List.getElem_cons_zero, List.setIfInBounds_toArray, List.set_cons_zero, List.set_cons_succ]
            refine wpAnyH_ready (rs := [12]) (by kernel_rfl) (by simp) ?_
            refine AllReadyH.cons rfl (fun KK hK => ?_) AllReadyH.nil
            clear hHeld
            go_simp
            refine hK.out _ _ ⟨by simp [go_sem, c0, c1, n0, n1, n2], by simp [go_sem, c0, c1, n0, n1, n2]⟩ (fun hHeld => ?_)
            clear hK KK
            try simp only [Act.put, List.getElem_toArray, List.getElem_cons_succ, List.getElem_cons_zero, List.setIfInBounds_toArray, List.set_cons_zero, List.set_cons_succ]
            refine wpAnyH_ready (rs := [13]) (by kernel_rfl) (by simp) ?_
            refine AllReadyH.cons rfl (fun KK hK => ?_) AllReadyH.nil
            clear hHeld
            go_simp
            refine hK.out _ _ ⟨by simp [go_sem, c0, c1, n0, n1, n2], by simp [go_sem, c0, c1, n0, n1, n2]⟩ (fun hHeld => ?_)
            clear hK KK
            try simp only [Act.put, List.getElem_toArray, List.getElem_cons_succ, List.getElem_cons_zero, List.setIfInBounds_toArray, List.set_cons_zero, List.set_cons_succ]
            refine wpAnyH_done (by kernel_rfl) ?_ _
            clear hHeld
            simp only [noPanic]
            go_wp2_with fail
            obtain ⟨q0, q1, q2⟩ := set3_bk (x' := .string (tb out1)) (y' := .int .i64 (used : Int)) (z' := .nilIface) (H0.out.ext H_8.out.old) (H1.out.ext H_8.out.old) (H2.out.ext H_8.out.old)
            refine leaves_cons (f := 35) (args := #[.pointer (some ⟨p, 0, none⟩), .pointer (some ⟨p + 1, 0, none⟩), .pointer (some ⟨p + 2, 0, none⟩)]) (by simp) (by simp [go_sem]) ?_
            refine (icatch_idle _ _ _ _).mono ?_
            rintro e u' w'' ⟨rfl, rfl, rfl⟩
            exact ⟨_, res_inflate p (tb out1) (used : Int) _ _ _ q0 q1 q2 rfl rfl rfl ⟨3, .nilIface, .inr rfl⟩, infpost_ok HQ.out (set3_ext HP.out (HX.out.trans H_8.out.old)) rfl⟩
          · clear hHeld
            go_simp
            refine (at_calls B 0 a7 s _ H_8.out.st.at_.rd).mono ?_
            rintro e w9 ⟨rfl, rfl⟩
            go_simp
            refine hK.out _ _ ⟨H_8.out.bk.cell 0, H_8.out.bk.cell 1⟩ (fun hHeld => ?_)
            clear hK KK
            try simp only [Act.put, List.getElem_toArray, List.getElem_cons_succ, List.getElem_cons_zero, List.setIfInBounds_toArray, List.set_cons_zero, List.set_cons_succ]
            refine wpAnyH_take (i := 10) (v := ?_) rfl (by kernel_rfl) (by kernel_rfl) (by kernel_rfl) (fun _ _ _ h => h) (Or.inl ⟨by kernel_rfl, ?_⟩) hHeld ?_
            rotate_left
            · intro w hSw
              (try dsimp only at hSw)
              go_split_ands
              go_simp
              (try with_reducible rfl)
            try simp only [Act.put, List.getElem_toArray, List.getElem_cons_succ, List.getElem_cons_zero, List.setIfInBounds_toArray, List.set_cons_zero, List.set_cons_succ]
            refine wpAnyH_ready (rs := [4]) (by kernel_rfl) (by simp) ?_
            refine AllReadyH.cons rfl (fun KK hK => ?_) AllReadyH.nil
            clear hHeld
            have hro := H_8.out.row
            rw [HL.out] at hro
            have hcr := conv_row HL.out hro
            clear hro
            go_simp
            refine hK.out _ _ ⟨H_8.out.bk.cell 0, H_8.out.bk.cell 1⟩ (fun hHeld => ?_)
            clear hK KK hcr
            try simp only [Act.put, List.getElem_toArray, List.getElem_cons_succ, List.getElem_cons_zero, List.setIfInBounds_toArray, List.set_cons_zero, List.set_cons_succ]
            refine wpAnyH_ready (rs := [11]) (by kernel_rfl) (by simp) ?_
            refine AllReadyH.cons rfl (fun KK hK => ?_) AllReadyH.nil
            clear hHeld
            have k0 := (H0.out.ext H_8.out.old).cell 0
            have f0 := (H0.out.ext H_8.out.old).frozen 0
            have k1 := (H1.out.ext H_8.out.old).cell 0
            have f1 := (H1.out.ext H_8.out.old).frozen 0
            have k2 := (H2.out.ext H_8.out.old).cell 0
            have f2 := (H2.out.ext H_8.out.old).frozen 0
            have c0 := H_8.out.bk.cell 0
            have c1 := H_8.out.bk.cell 1
            go_simp
            refine hK.out _ _ ⟨by simp [go_sem, c0, c1, n0, n1, n2], by simp [go_sem, c0, c1, n0, n1, n2]⟩ (fun hHeld => ?_)
            clear hK KK
            try simp only [Act.put, List.getElem_toArray, List.getElem_cons_succ, List.getElem_cons_zero, List.setIfInBounds_toArray, List.set_cons_zero, List.set_cons_succ]
            refine wpAnyH_ready (rs := [12]) (by kernel_rfl) (by simp) ?_
            refine AllReadyH.cons rfl (fun KK hK => ?_) AllReadyH.nil
            clear hHeld
            go_simp
            refine hK.out _ _ ⟨by simp [go_sem, c0, c1, n0, n1, n2], by simp [go_sem, c0, c1, n0, n1, n2]⟩ (fun hHeld => ?_)
            clear hK KK
            try simp only [Act.put, List.getElem_toArray, List.getElem_cons_succ, List.getElem_cons_zero, List.setIfInBounds_toArray, List.set_cons_zero, List.set_cons_succ]
            refine wpAnyH_ready (rs := [13]) (by kernel_rfl) (by simp) ?_
            refine AllReadyH.cons rfl (fun KK hK => ?_) AllReadyH.nil
            clear hHeld
            go_simp
            refine hK.out _ _ ⟨by simp [go_sem, c0, c1, n0, n1, n2], by simp [go_sem, c0, c1, n0, n1, n2]⟩ (fun hHeld => ?_)
            clear hK KK
            try simp only [Act.put, List.getElem_toArray, List.getElem_cons_succ, List.getElem_cons_zero, List.setIfInBounds_toArray, List.set_cons_zero, List.set_cons_succ]
            refine wpAnyH_done (by kernel_rfl) ?_ _
            clear hHeld
            simp only [noPanic]
            go_wp2_with fail
            obtain ⟨q0, q1, q2⟩ := set3_bk (x' := .string (tb out1)) (y' := .int .i64 (used : Int)) (z' := .nilIface) (H0.out.ext H_8.out.old) (H1.out.ext H_8.out.old) (H2.out.ext H_8.out.old)
            refine leaves_cons (f := 35) (args := #[.pointer (some ⟨p, 0, none⟩), .pointer (some ⟨p + 1, 0, none⟩), .pointer (some ⟨p + 2, 0, none⟩)]) (by simp) (by simp [go_sem]) ?_
            refine (icatch_idle _ _ _ _).mono ?_
            rintro e u' w'' ⟨rfl, rfl, rfl⟩
            exact ⟨_, res_inflate p (tb out1) (used : Int) _ _ _ q0 q1 q2 rfl rfl rfl ⟨3, .nilIface, .inr rfl⟩, infpost_ok HQ.out (set3_ext HP.out (HX.out.trans H_8.out.old)) rfl⟩
        · have hd : decide (last = 1) = false := decide_eq_false hl
          obtain ⟨F2, hF2, hR2⟩ := Inf.blocks_go HF0.out HRb.out hs hl
          have HR2 := Lib.hid hR2
          clear hR2 hs
          go_wp2_with fail
          go_roundg (8 * s.size - a1)
          case measure => have := HK.out; have := H6.out.st.le; omega
          case rel => exact ⟨a1, v', out1, _, F2, H6, HR2, Lib.hid ⟨by have := HK.out; have := H6.out.st.le; omega, rfl⟩, hgr.2⟩
end Go.Proofs.YtnhbjgmfbcedaaaDoor
namespace Go.Proofs.YtnhbjgmfbcedaaaDoor
open Go.RowKit
set_option linter.unusedSimpArgs false
namespace Inf
theorem tok_most {L : List UInt8} {m m' : Nat} {g : Nat → Int} {gen k a a' : Nat} {out out' : List UInt8} {e : Ev} (h : tok L m g gen k a out = .ok (a', out', e)) :
    (out'.length ≤ m' → tok L m' g gen k a out = .ok (a', out', e)) ∧ (out.length ≤ m' → m' < out'.length → tok L m' g gen k a out = .error 1) := by
  unfold tok at h ⊢
  split at h
  · rename_i hk
    rw [if_pos hk]
    split at h
    · injection h with h; injection h with h1 h; injection h with h2 h3
      subst h1 h2 h3
      simp only [List.length_append, List.length_singleton]
      exact ⟨fun q => by rw [if_pos (by omega)], fun q1 q2 => by rw [if_neg (by omega)]⟩
    · cases h
  · rename_i hk
    rw [if_neg hk]
    split at h
    · cases h
    · rename_i hk2
      rw [if_neg hk2]
      split at h
      · cases h
      · rename_i x a2 hx
        (try simp only [hx])
        split at h
        · cases h
        · rename_i d a3 hd
          (try simp only [hd])
          unfold far at h ⊢
          split at h
          · cases h
          · rename_i hd3
            rw [if_neg hd3]
            split at h
            · cases h
            · rename_i y a4 hy
              (try simp only [hy])
              split at h
              · cases h
              · rename_i hb
                rw [if_neg hb]
                split at h
                · cases h
                · injection h with h; injection h with e1 h; injection h with e2 e3
                  subst e1 e2 e3
                  rw [copyL_length]
                  exact ⟨fun q => by rw [if_neg (by omega)], fun q1 q2 => by rw [if_pos (by omega)]⟩
theorem toks_most {L : List UInt8} {m m' : Nat} {f g : Nat → Int} {len gen : Nat} : ∀ (F a : Nat) (out : List UInt8) (tr : List Ev) (a' : Nat) (out' : List UInt8) (tr' : List Ev), toks L m f len g gen F a out tr = .ok (a', out', tr') →
    out.length ≤ out'.length ∧ (out'.length ≤ m' → toks L m' f len g gen F a out tr = .ok (a', out', tr')) ∧ (out.length ≤ m' → m' < out'.length → toks L m' f len g gen F a out tr = .error 1) := by
  intro F
  induction F with
  | zero => intro a out tr a' out' tr' h; cases h
  | succ F ih =>
    intro a out tr a' out' tr' h
    simp only [toks] at h ⊢
    split at h
    · cases h
    · rename_i k a1 hn
      split at h
      · rename_i hk
        injection h with h; injection h with e1 h; injection h with e2 e3
        subst e1 e2 e3
        simp only [if_pos hk]
        exact ⟨Nat.le_refl _, fun _ => trivial, fun q1 q2 => by omega⟩
      · rename_i hk
        simp only [if_neg hk]
        split at h
        · cases h
        · rename_i a2 out2 e ht
          have hg := tok_grow ht
          obtain ⟨i1, i2, i3⟩ := ih _ _ _ _ _ _ h
          refine ⟨by omega, fun q => ?_, fun q1 q2 => ?_⟩
          · rw [(tok_most ht).1 (by omega)]; exact i2 q
          · by_cases hm : out2.length ≤ m'
            · rw [(tok_most ht).1 hm]; exact i3 hm q2
            · rw [(tok_most ht).2 q1 (by omega)]
theorem toks_le {L : List UInt8} {m : Nat} {f g : Nat → Int} {len gen : Nat} : ∀ (F a : Nat) (out : List UInt8) (tr : List Ev) (a' : Nat) (out' : List UInt8) (tr' : List Ev), toks L m f len g gen F a out tr = .ok (a', out', tr') → a' ≤ 8 * L.length := by
  intro F
  induction F with
  | zero => intro a out tr a' out' tr' h; cases h
  | succ F ih =>
    intro a out tr a' out' tr' h
    simp only [toks] at h
    split at h
    · cases h
    · rename_i k a1 hn
      split at h
      · injection h with h; injection h with e1 h
        subst e1; exact (nxt_le hn).2.1
      · split at h
        · cases h
        · exact ih _ _ _ _ _ _ h
theorem stored_most {L : List UInt8} {m m' a a' : Nat} {out out' : List UInt8} (h : stored L m a out = .ok (a', out')) :
    a' ≤ 8 * L.length ∧ out.length ≤ out'.length ∧ (out'.length ≤ m' → stored L m' a out = .ok (a', out')) ∧ (out.length ≤ m' → m' < out'.length → stored L m' a out = .error 1) := by
  unfold stored at h ⊢
  split at h
  · cases h
  · rename_i n a2 h1
    (try simp only [h1])
    split at h
    · cases h
    · rename_i k a3 h2
      (try simp only [h2])
      split at h
      · cases h
      · rename_i hx
        rw [if_neg hx]
        split at h
        · cases h
        · rename_i hb
          rw [if_neg hb]
          split at h
          · cases h
          · injection h with h; injection h with e1 e2
            have q1 := get_ok h1
            have q2 := get_ok h2
            have hl : ((L.drop (a3 / 8)).take n).length = n := by rw [List.length_take, List.length_drop]; omega
            subst e1 e2
            rw [List.length_append, hl]
            exact ⟨by omega, by omega, fun q => by rw [if_neg (by omega)], fun q1 q2 => by rw [if_pos (by omega)]⟩
theorem block_most {L : List UInt8} {m m' a last a' : Nat} {out out' : List UInt8} {b : Blk} (h : block L m a out = .ok (last, a', out', b)) :
    a' ≤ 8 * L.length ∧ out.length ≤ out'.length ∧ (out'.length ≤ m' → block L m' a out = .ok (last, a', out', b)) ∧ (out.length ≤ m' → m' < out'.length → block L m' a out = .error 1) := by
  unfold block at h ⊢
  split at h
  · cases h
  · rename_i la a1 h1
    (try simp only [h1])
    split at h
    · cases h
    · rename_i kind a2 h2
      (try simp only [h2])
      split at h
      · rename_i hk
        simp only [if_pos hk]
        split at h
        · cases h
        · rename_i a3 o3 h3
          obtain ⟨i0, i1, i2, i3⟩ := stored_most (m' := m') h3
          injection h with h; injection h with e0 h; injection h with e1 h; injection h with e2 e3
          subst e0 e1 e2 e3
          exact ⟨i0, i1, fun q => by rw [i2 q], fun q1 q2 => by rw [i3 q1 q2]⟩
      · rename_i hk
        simp only [if_neg hk]
        split at h
        · rename_i hk1
          simp only [if_pos hk1]
          split at h
          · cases h
          · rename_i a3 o3 tr h3
            obtain ⟨i1, i2, i3⟩ := toks_most (m' := m') _ _ _ _ _ _ _ h3
            have i0 := toks_le _ _ _ _ _ _ _ h3
            injection h with h; injection h with e0 h; injection h with e1 h; injection h with e2 e3
            subst e0 e1 e2 e3
            exact ⟨i0, i1, fun q => by rw [i2 q], fun q1 q2 => by rw [i3 q1 q2]⟩
        · rename_i hk1
          simp only [if_neg hk1]
          split at h
          · rename_i hk2
            simp only [if_pos hk2]
            split at h
            · cases h
            · rename_i l r a3 h3
              (try simp only [h3])
              split at h
              · cases h
              · rename_i a4 o4 tr h4
                obtain ⟨i1, i2, i3⟩ := toks_most (m' := m') _ _ _ _ _ _ _ h4
                have i0 := toks_le _ _ _ _ _ _ _ h4
                injection h with h; injection h with e0 h; injection h with e1 h; injection h with e2 e3
                subst e0 e1 e2 e3
                exact ⟨i0, i1, fun q => by rw [i2 q], fun q1 q2 => by rw [i3 q1 q2]⟩
          · cases h
theorem blocks_most {L : List UInt8} {m m' : Nat} : ∀ (F a : Nat) (out : List UInt8) (bs : List Blk) (a' : Nat) (out' : List UInt8) (bs' : List Blk), blocks L m F a out bs = .ok (a', out', bs') →
    a' ≤ 8 * L.length ∧ out.length ≤ out'.length ∧ (out'.length ≤ m' → blocks L m' F a out bs = .ok (a', out', bs')) ∧ (out.length ≤ m' → m' < out'.length → blocks L m' F a out bs = .error 1) := by
  intro F
  induction F with
  | zero => intro a out bs a' out' bs' h; cases h
  | succ F ih =>
    intro a out bs a' out' bs' h
    simp only [blocks] at h ⊢
    split at h
    · cases h
    · rename_i last a1 out1 b hb
      obtain ⟨j0, j1, j2, j3⟩ := block_most (m' := m') hb
      split at h
      · rename_i hl
        injection h with h; injection h with e1 h; injection h with e2 e3
        subst e1 e2 e3
        exact ⟨j0, j1, fun q => by rw [j2 q]; simp only [if_pos hl], fun q1 q2 => by rw [j3 q1 q2]⟩
      · rename_i hl
        obtain ⟨i0, i1, i2, i3⟩ := ih _ _ _ _ _ _ h
        refine ⟨i0, by omega, fun q => ?_, fun q1 q2 => ?_⟩
        · rw [j2 (by omega)]; simp only [if_neg hl]; exact i2 q
        · by_cases hm : out1.length ≤ m'
          · rw [j2 hm]; simp only [if_neg hl]; exact i3 hm q2
          · rw [j3 q1 (by omega)]
theorem blocks_grow {L : List UInt8} {m : Nat} : ∀ (F a : Nat) (out : List UInt8) (bs : List Blk) (a' : Nat) (out' : List UInt8) (bs' : List Blk), out.length ≤ m → blocks L m F a out bs = .ok (a', out', bs') → out'.length ≤ m := by
  intro F
  induction F with
  | zero => intro a out bs a' out' bs' _ h; cases h
  | succ F ih =>
    intro a out bs a' out' bs' ho h
    simp only [blocks] at h
    split at h
    · cases h
    · rename_i last a1 out1 b hb
      have := block_grow ho hb
      split at h
      · injection h with h; injection h with e1 h; injection h with e2 e3
        subst e2; exact this.2
      · exact ih _ _ _ _ _ _ this.2 h
/-- what is told with so many bytes allowed is told with as many as it has; with fewer it is not -/
theorem infl_most {s : ByteArray} {most : Int} {out : List UInt8} {used : Nat} {bs : List Blk} (h : infl s most = .ok (out, used, bs)) :
    (out.length : Int) ≤ most ∧ used ≤ s.size ∧ infl s (out.length : Int) = .ok (out, used, bs) ∧ (0 < out.length → infl s ((out.length : Int) - 1) = .error 1) := by
  unfold infl at h
  split at h
  · cases h
  · rename_i hb
    obtain ⟨m, rfl⟩ : ∃ m : Nat, most = m := ⟨most.toNat, by omega⟩
    rw [Int.toNat_natCast] at h
    unfold inf at h
    split at h
    · cases h
    · rename_i a o b hbl
      injection h with h; injection h with e1 h; injection h with e2 e3
      subst e1 e2 e3
      have hg := blocks_grow _ _ _ _ _ _ _ (Nat.zero_le _) hbl
      refine ⟨by omega, ?_, ?_, fun hp => ?_⟩
      · have := (blocks_most (m' := m) _ _ _ _ _ _ _ hbl).1
        rw [list_size] at this; omega
      · unfold infl
        rw [if_neg (by omega), Int.toNat_natCast]
        unfold inf
        rw [(blocks_most _ _ _ _ _ _ _ hbl).2.2.1 (Nat.le_refl _)]
      · unfold infl
        rw [if_neg (by omega), show ((o.length : Int) - 1).toNat = o.length - 1 by omega]
        unfold inf
        rw [(blocks_most _ _ _ _ _ _ _ hbl).2.2.2 (Nat.zero_le _) (by omega)]
theorem infl_bd {s : ByteArray} {most : Int} {q : List UInt8 × Nat × List Blk} (h : infl s most = .ok q) : 0 ≤ most ∧ most ≤ 300000 ∧ s.size ≤ 300000 := by
  unfold infl at h
  split at h
  · cases h
  · omega
theorem get_e {L : List UInt8} {k a c : Nat} (h : get L k a = .error c) : c < 2 := by have := (get_error h).1; omega
theorem nxt_e {L : List UInt8} {f : Nat → Int} {len a c : Nat} (h : nxt L f len a = .error c) : c < 2 := by have := nxt_error h; omega
theorem err_e {α : Type} {c k : Nat} (h : (Except.error k : Except Nat α) = .error c) (hk : k < 2) : c < 2 := by injection h with h; omega
theorem tok_e {L : List UInt8} {m : Nat} {g : Nat → Int} {gen k a c : Nat} {out : List UInt8} (h : tok L m g gen k a out = .error c) : c < 2 := by
  unfold tok at h
  split at h
  · split at h
    · cases h
    · exact err_e h (by omega)
  · split at h
    · exact err_e h (by omega)
    · split at h
      · rename_i hx; exact err_e h (get_e hx)
      · split at h
        · rename_i hx; exact err_e h (nxt_e hx)
        · unfold far at h
          split at h
          · exact err_e h (by omega)
          · split at h
            · rename_i hx; exact err_e h (get_e hx)
            · split at h
              · exact err_e h (by omega)
              · split at h
                · exact err_e h (by omega)
                · cases h
theorem toks_e {L : List UInt8} {m : Nat} {f g : Nat → Int} {len gen c : Nat} : ∀ (F a : Nat) (out : List UInt8) (tr : List Ev), toks L m f len g gen F a out tr = .error c → c < 2 := by
  intro F
  induction F with
  | zero => intro a out tr h; exact err_e h (by omega)
  | succ F ih =>
    intro a out tr h
    simp only [toks] at h
    split at h
    · rename_i hx; exact err_e h (nxt_e hx)
    · split at h
      · cases h
      · split at h
        · rename_i hx; exact err_e h (tok_e hx)
        · exact ih _ _ _ h
theorem stored_e {L : List UInt8} {m a c : Nat} {out : List UInt8} (h : stored L m a out = .error c) : c < 2 := by
  unfold stored at h
  split at h
  · rename_i hx; exact err_e h (get_e hx)
  · split at h
    · rename_i hx; exact err_e h (get_e hx)
    · split at h
      · exact err_e h (by omega)
      · split at h
        · exact err_e h (by omega)
        · split at h
          · exact err_e h (by omega)
          · cases h
theorem smalls_e {L : List UInt8} {c : Nat} : ∀ (r i a : Nat) (f : Nat → Int), smalls L r i a f = .error c → c < 2 := by
  intro r
  induction r with
  | zero => intro i a f h; cases h
  | succ r ih =>
    intro i a f h
    simp only [smalls] at h
    split at h
    · rename_i hx; exact err_e h (get_e hx)
    · exact ih _ _ _ h
theorem rep_e {L : List UInt8} {k a c : Nat} {l : List Nat} (h : rep L k a l = .error c) : c < 2 := by
  unfold rep at h
  split at h
  · split at h
    · exact err_e h (by omega)
    · split at h
      · rename_i hx; exact err_e h (get_e hx)
      · cases h
  · split at h
    · split at h
      · rename_i hx; exact err_e h (get_e hx)
      · cases h
    · split at h
      · split at h
        · rename_i hx; exact err_e h (get_e hx)
        · cases h
      · cases h
theorem lens_e {L : List UInt8} {f : Nat → Int} {want c : Nat} : ∀ (F a : Nat) (l : List Nat), lens L f want F a l = .error c → c < 2 := by
  intro F
  induction F with
  | zero => intro a l h; exact err_e h (by omega)
  | succ F ih =>
    intro a l h
    simp only [lens] at h
    split at h
    · cases h
    · split at h
      · rename_i hx; exact err_e h (nxt_e hx)
      · split at h
        · rename_i hx; exact err_e h (rep_e hx)
        · split at h
          · exact err_e h (by omega)
          · exact ih _ _ h
theorem dyn_e {L : List UInt8} {a c : Nat} (h : dyn L a = .error c) : c < 2 := by
  unfold dyn at h
  split at h
  · rename_i hx; exact err_e h (get_e hx)
  · split at h
    · rename_i hx; exact err_e h (get_e hx)
    · split at h
      · rename_i hx; exact err_e h (get_e hx)
      · split at h
        · exact err_e h (by omega)
        · split at h
          · rename_i hx; exact err_e h (smalls_e _ _ _ _ hx)
          · split at h
            · exact err_e h (by omega)
            · split at h
              · rename_i hx; exact err_e h (lens_e _ _ _ hx)
              · split at h
                · exact err_e h (by omega)
                · split at h
                  · exact err_e h (by omega)
                  · split at h
                    · exact err_e h (by omega)
                    · cases h
theorem block_e {L : List UInt8} {m a c : Nat} {out : List UInt8} (h : block L m a out = .error c) : c < 2 := by
  unfold block at h
  split at h
  · rename_i hx; exact err_e h (get_e hx)
  · split at h
    · rename_i hx; exact err_e h (get_e hx)
    · split at h
      · split at h
        · rename_i hx; exact err_e h (stored_e hx)
        · cases h
      · split at h
        · split at h
          · rename_i hx; exact err_e h (toks_e _ _ _ _ hx)
          · cases h
        · split at h
          · split at h
            · rename_i hx; exact err_e h (dyn_e hx)
            · split at h
              · rename_i hx; exact err_e h (toks_e _ _ _ _ hx)
              · cases h
          · exact err_e h (by omega)
theorem blocks_e {L : List UInt8} {m c : Nat} : ∀ (F a : Nat) (out : List UInt8) (bs : List Blk), blocks L m F a out bs = .error c → c < 2 := by
  intro F
  induction F with
  | zero => intro a out bs h; exact err_e h (by omega)
  | succ F ih =>
    intro a out bs h
    simp only [blocks] at h
    split at h
    · rename_i hx; exact err_e h (block_e hx)
    · split at h
      · cases h
      · exact ih _ _ _ h
theorem infl_err {s : ByteArray} {most : Int} {c : Nat} (h : infl s most = .error c) : c < 2 := by
  unfold infl at h
  split at h
  · exact err_e h (by omega)
  · unfold inf at h
    split at h
    · rename_i hx; exact err_e h (blocks_e _ _ _ _ hx)
    · cases h
end Inf
end Go.Proofs.YtnhbjgmfbcedaaaDoor
namespace Go.Proofs.YtnhbjgmfbcedaaaDoor
open Go.RowKit
set_option linter.unusedSimpArgs false
set_option maxRecDepth 100000
namespace Inf
def letL : List UInt8 := [75, 4, 0]
theorem let_n1 : nxt letL fixF 288 3 = .ok (97, 11) := nxt_hit good_fix.2 (n := 8) (k := 97) ⟨by decide, by decide, by decide, by decide, rfl, by decide +kernel⟩
theorem let_n2 : nxt letL fixF 288 11 = .ok (256, 18) := nxt_hit good_fix.2 (n := 7) (k := 256) ⟨by decide, by decide, by decide, by decide, rfl, by decide +kernel⟩
theorem let_toks (F : Nat) : toks letL 10 fixF 288 fiveF 32 (F + 2) 3 [] [] = .ok (18, [97], [⟨97, 0, 0, 0⟩, ⟨256, 0, 0, 0⟩]) := by
  have e1 : tok letL 10 fiveF 32 97 11 [] = .ok (11, [97], ⟨97, 0, 0, 0⟩) := tok_lit (by decide) (by decide)
  simp [toks, let_n1, let_n2, e1]
theorem letter_inf : infl ⟨#[75, 4, 0]⟩ 10 = .ok ([97], 3, [⟨1, [], [], [⟨97, 0, 0, 0⟩, ⟨256, 0, 0, 0⟩]⟩]) := by
  have g1 : get letL 1 0 = .ok (1, 1) := rfl
  have g2 : get letL 2 1 = .ok (1, 3) := rfl
  have hb : block letL 10 0 [] = .ok (1, 18, [97], ⟨1, [], [], [⟨97, 0, 0, 0⟩, ⟨256, 0, 0, 0⟩]⟩) := by
    unfold block
    simp only [g1, g2]
    rw [show 8 * letL.length + 1 = 23 + 2 from rfl, let_toks 23]
    rfl
  unfold infl
  rw [if_neg (by decide)]
  show inf letL 10 = _
  unfold inf
  rw [show 8 * letL.length + 1 = 24 + 1 from rfl]
  simp [blocks, hb]
end Inf
theorem letter_any (w : World) (E : Nat → Addr) (hE : Errs w E) (hTb : Tabs w) : Calls Tryd.prog 15 #[] w fun e w' => e = .returned (.bool true) ∧ Ext w w' := by
  have HA := Lib.hid (inflate_any ⟨#[75, 4, 0]⟩ 10 w E hE hTb (by decide))
  clear hE hTb
  have htb : tb [97] = ⟨#[97]⟩ := tb_eq _
  go_enter Tryd.func15, Tryd.ntmps15
  go_wp2_with fail
  refine HA.out.mono ?_
  rintro e w1 ⟨hX, he⟩
  rw [Inf.letter_inf] at he
  simp only at he
  rw [htb] at he
  subst he
  have HX := Lib.hid hX
  clear hX htb
  go_wp2_with fail
  go_ret
  exact ⟨rfl, HX.out⟩
end Go.Proofs.YtnhbjgmfbcedaaaDoor
namespace Go.Proofs.YtnhbjgmfbcedaaaDoor
open Go.RowKit
set_option linter.unusedSimpArgs false
set_option maxRecDepth 100000
theorem coded_any (w : World) (E : Nat → Addr) (hE : Errs w E) (v : Value) (c a n : Int) (h : ErrV w E v c a) : Calls Tryd.prog 17 #[v, .int .i64 n] w fun e w' => e = .returned (.bool (decide (c = n ∧ a = -1))) ∧ Ext w w' := by
  by_cases hc : c = n
  · subst hc
    go_enter Tryd.func17, Tryd.ntmps17
    go_wp2_with fail
    refine (code_any _ E hE _ _ _ h).mono ?_
    rintro e w2 ⟨rfl, h2⟩
    go_wp2_with fail
    go_ret
    exact ⟨ret_bool (by rw [Bool.eq_iff_iff]; simp), h2⟩
  · have t1 : (c == n) = false := beq_eq_false_iff_ne.2 hc
    go_enter Tryd.func17, Tryd.ntmps17
    go_wp2_with fail
    refine (code_any _ E hE _ _ _ h).mono ?_
    rintro e w2 ⟨rfl, h2⟩
    go_wp2_with fail
    go_ret
    exact ⟨ret_bool (by rw [Bool.eq_iff_iff]; simp [hc]), h2⟩
end Go.Proofs.YtnhbjgmfbcedaaaDoor
namespace Adl
set_option linter.unusedSimpArgs false
def step (p : Nat × Nat) (b : Nat) : Nat × Nat := ((p.1 + b) % 65521, (p.2 + (p.1 + b) % 65521) % 65521)
def run (p : Nat × Nat) (l : List UInt8) : Nat × Nat := l.foldl (fun p b => step p b.toNat) p
def tell (p : Nat × Nat) : Nat := p.2 * 65536 + p.1
def start (a : Nat) : Nat × Nat := (a % 65536 % 65521, a / 65536 % 65521)
def more (a : Nat) (l : List UInt8) : Nat := tell (run (start a) l)
def adler (l : List UInt8) : Nat := more 1 l
def Ok (p : Nat × Nat) : Prop := p.1 < 65521 ∧ p.2 < 65521
theorem start_ok (a : Nat) : Ok (start a) := ⟨Nat.mod_lt _ (by decide), Nat.mod_lt _ (by decide)⟩
theorem step_ok (p : Nat × Nat) (b : Nat) : Ok (step p b) := ⟨Nat.mod_lt _ (by decide), Nat.mod_lt _ (by decide)⟩
theorem run_ok {p : Nat × Nat} (h : Ok p) (l : List UInt8) : Ok (run p l) := by
  induction l generalizing p with
  | nil => exact h
  | cons b l ih => exact ih (step_ok p b.toNat)
theorem tell_lt {p : Nat × Nat} (h : Ok p) : tell p < 4294967296 := by obtain ⟨h1, h2⟩ := h; unfold tell; omega
theorem more_lt (a : Nat) (l : List UInt8) : more a l < 4294967296 := tell_lt (run_ok (start_ok a) l)
theorem start_tell {p : Nat × Nat} (h : Ok p) : start (tell p) = p := by
  obtain ⟨x, y⟩ := p; obtain ⟨h1, h2⟩ := h; unfold start tell; simp only at *; congr 1 <;> omega
theorem more_more (a : Nat) (l m : List UInt8) : more (more a l) m = more a (l ++ m) := by
  unfold more; rw [start_tell (run_ok (start_ok a) l)]; unfold run; rw [List.foldl_append]
end Adl
namespace Go.Proofs.YtnhbjgmfbcedaaaDoor
open Go.RowKit
set_option linter.unusedSimpArgs false
theorem take_snoc (s : ByteArray) (k : Nat) (h : k < s.size) : s.data.toList.take (k + 1) = s.data.toList.take k ++ [s[k]] := by
  rw [List.take_succ_eq_append_getElem (by simpa using h)]; rfl
theorem adl_snoc (p : Nat × Nat) (s : ByteArray) (k : Nat) (h : k < s.size) : Adl.run p (s.data.toList.take (k + 1)) = Adl.step (Adl.run p (s.data.toList.take k)) s[k].toNat := by
  rw [take_snoc s k h]; simp [Adl.run, List.foldl_append]
theorem or_tell (x y : Nat) (hx : x < 65521) (hy : y < 65521) : bits BinOp.or IntKind.u32 ((y : Int) * 65536) (x : Int) = ((Adl.tell (x, y) : Nat) : Int) := by
  rw [show ((y : Int) * 65536) = ((y * 65536 : Nat) : Int) by omega, u32_or_nat _ _ (by omega) (by omega)]
  rw [nat_join 16 (y * 65536) x (by omega) (by omega)]; rfl
theorem moreAdler_any (a : Nat) (s : ByteArray) (w : World) (ha : a < 4294967296) (hs : s.size ≤ maxLen) :
    Calls Tryd.prog 90 #[.int .u32 (a : Int), .string s] w fun e w' => e = .returned (.int .u32 ((Adl.more a s.data.toList : Nat) : Int)) ∧ w = w' := by
  unfold maxLen at hs
  have ea : bits BinOp.and IntKind.u32 (a : Int) 65535 = ((a % 65536 : Nat) : Int) := by
    have := u32_and_nat a 65535 ha (by decide); rw [nat_mask16] at this; exact this
  go_enter Tryd.func90, Tryd.ntmps90
  go_wp2
  clear ea
  go_loop [5, 6, 7, 16] (fun u v _ i => ∃ k x y : Nat, k ≤ s.size ∧ x < 65521 ∧ y < 65521 ∧ Hid (Adl.run (Adl.start a) (s.data.toList.take k) = (x, y)) ∧ i = .int .i64 k ∧ u = .int .u32 x ∧ v = .int .u32 y) (fun _ _ _ i => s.size - (intOf i).toNat)
  case atStart => exact ⟨0, a % 65536 % 65521, a / 65536 % 65521, by omega, by omega, by omega, rfl, rfl, by go_num, by go_num⟩
  case round =>
    obtain ⟨k, x, y, hk, hx, hy, HR, rfl, rfl, rfl⟩ := hrel
    by_cases hlt : k < s.size
    · have HS : Hid (Adl.run (Adl.start a) (s.data.toList.take (k + 1)) = ((x + s[k].toNat) % 65521, (y + (x + s[k].toNat) % 65521) % 65521)) := by
        have := adl_snoc (Adl.start a) s k hlt; rw [HR.out] at this; exact this
      have hb : s[k].toNat < 256 := s[k].toNat_lt
      go_wp2
      go_round
      case rel => exact ⟨k + 1, _, _, by omega, Nat.mod_lt _ (by decide), Nat.mod_lt _ (by decide), HS, by go_num, by go_num, by go_num⟩
      case measure => simp [intOf]; omega
    · obtain rfl : k = s.size := by omega
      have eo := or_tell x y hx hy
      have HF : Hid (Adl.more a s.data.toList = Adl.tell (x, y)) := by
        have := HR.out; rw [List.take_of_length_le (by simp)] at this; unfold Adl.more; rw [this]; rfl
      go_wp2
      go_ret
      exact ⟨by rw [HF.out]; rfl, rfl⟩
theorem adler_any (s : ByteArray) (w : World) (hs : s.size ≤ maxLen) :
    Calls Tryd.prog 52 #[.string s] w fun e w' => e = .returned (.int .u32 ((Adl.adler s.data.toList : Nat) : Int)) ∧ w = w' := by
  go_enter Tryd.func52, Tryd.ntmps52
  go_wp2_with (go_at_call 90; refine (moreAdler_any 1 _ _ (by omega) hs).mono ?_; rintro e w' ⟨rfl, rfl⟩)
  go_ret
  exact ⟨rfl, rfl⟩
end Go.Proofs.YtnhbjgmfbcedaaaDoor
namespace Go.Proofs.YtnhbjgmfbcedaaaDoor
open Go.RowKit
set_option linter.unusedSimpArgs false
set_option maxRecDepth 100000
theorem bytes_len (s : ByteArray) : s.data.toList.length = s.size := rfl
def vstep (x : Nat) (b : UInt8) : Nat := x % 16777216 * 256 + b.toNat
def valN (l : List UInt8) : Nat := l.foldl vstep 0
theorem vstep_lt (x : Nat) (b : UInt8) : vstep x b < 4294967296 := by unfold vstep; have := b.toNat_lt; omega
theorem valN_succ {l : List UInt8} {k : Nat} (hk : k < l.length) : valN (l.take (k + 1)) = vstep (valN (l.take k)) l[k] := by
  unfold valN
  rw [List.take_add_one, List.getElem?_eq_getElem hk, List.foldl_append]; rfl
theorem valN_lt (l : List UInt8) : valN l < 4294967296 := by
  rcases List.eq_nil_or_concat l with rfl | ⟨q, b, rfl⟩
  · decide
  · unfold valN; rw [List.concat_eq_append, List.foldl_append]; exact vstep_lt _ _
theorem valN_four (a b c d : UInt8) : valN [a, b, c, d] = 16777216 * a.toNat + 65536 * b.toNat + 256 * c.toNat + d.toNat := by
  have := a.toNat_lt; have := b.toNat_lt; have := c.toNat_lt
  simp only [valN, List.foldl_cons, List.foldl_nil, vstep]; omega
def big4 (n : Nat) : List UInt8 := [UInt8.ofNat (n / 16777216), UInt8.ofNat (n / 65536), UInt8.ofNat (n / 256), UInt8.ofNat n]
theorem valN_big4 (n : Nat) (h : n < 4294967296) : valN (big4 n) = n := by
  unfold big4; rw [valN_four]; simp only [UInt8.toNat_ofNat']; omega
theorem big4_valN (a b c d : UInt8) : big4 (valN [a, b, c, d]) = [a, b, c, d] := by
  have := a.toNat_lt; have := b.toNat_lt; have := c.toNat_lt; have := d.toNat_lt
  rw [valN_four]
  have e : ∀ (x : Nat) (y : UInt8), x % 256 = y.toNat → UInt8.ofNat x = y := fun x y h => by
    apply UInt8.toNat_inj.1; rw [UInt8.toNat_ofNat']; exact h
  unfold big4
  rw [e _ a (by omega), e _ b (by omega), e _ c (by omega), e _ d (by omega)]
theorem or_low8 (x : Nat) (y : UInt8) : bits BinOp.or IntKind.u32 ((x : Int) * 256 % 4294967296) ((y.toNat : Int) % 4294967296) = ((vstep x y : Nat) : Int) := by
  have hy := y.toNat_lt
  rw [show (y.toNat : Int) % 4294967296 = (y.toNat : Int) by omega, show ((x : Int) * 256 % 4294967296) = ((x % 16777216 * 256 : Nat) : Int) by omega, u32_or_nat _ _ (by omega) (by omega), nat_join 8 (x % 16777216 * 256) y.toNat (by omega) (by omega)]
  rfl
theorem bigOf_any (s : ByteArray) (w : World) (hs : s.size ≤ maxLen) (h4 : 4 ≤ s.size) : Calls Tryd.prog 53 #[.string s] w fun e w' => e = .returned (.int .u32 ((valN (s.data.toList.take 4) : Nat) : Int)) ∧ w = w' := by
  unfold maxLen at hs
  go_enter Tryd.func53, Tryd.ntmps53
  go_wp2_with fail
  go_loop [3, 4] (fun x c => ∃ k : Nat, k ≤ 4 ∧ c = .int .i64 k ∧ x = .int .u32 ((valN (s.data.toList.take k) : Nat) : Int)) (fun _ c => 4 - (intOf c).toNat)
  case atStart => exact ⟨0, by omega, rfl, by rw [List.take_zero]; rfl⟩
  case round =>
    obtain ⟨k, hk, rfl, rfl⟩ := hrel
    by_cases hlt : k < 4
    · have t0 : decide ((k : Int) < 4) = true := decide_eq_true (by omega)
      have hks : k < s.size := by omega
      have hv : valN (s.data.toList.take (k + 1)) = vstep (valN (s.data.toList.take k)) s[k] := valN_succ (by rw [bytes_len]; exact hks)
      obtain ⟨x, hx⟩ : ∃ x, valN (s.data.toList.take k) = x := ⟨_, rfl⟩
      have hxl := valN_lt (s.data.toList.take k)
      rw [hx] at hv hxl ⊢
      have ho : (((x : Int) * 256 % 4294967296 + (s[k].toNat : Int)) % 4294967296) = ((vstep x s[k] : Nat) : Int) := by unfold vstep; have := s[k].toNat_lt; omega
      go_wp2_with fail
      go_round
      case rel => exact ⟨k + 1, by omega, by go_num, by rw [hv]; go_num⟩
      case measure => simp [intOf]; omega
    · obtain rfl : k = 4 := by omega
      go_wp2_with fail
      go_ret
      exact ⟨rfl, rfl⟩
theorem refAdler_any (s : ByteArray) (w : World) (hs : s.size ≤ maxLen) :
    Calls Tryd.prog 54 #[.string s] w fun e w' => e = .returned (.int .u32 ((Adl.adler s.data.toList : Nat) : Int)) ∧ w = w' := by
  unfold maxLen at hs
  go_enter Tryd.func54, Tryd.ntmps54
  go_wp2
  go_loop [3, 4, 5] (fun u v i => ∃ k x y : Nat, k ≤ s.size ∧ x < 65521 ∧ y < 65521 ∧ Hid (Adl.run (Adl.start 1) (s.data.toList.take k) = (x, y)) ∧ i = .int .i64 k ∧ u = .int .i64 x ∧ v = .int .i64 y) (fun _ _ i => s.size - (intOf i).toNat)
  case atStart => exact ⟨0, 1, 0, by omega, by omega, by omega, rfl, by go_num, by go_num, by go_num⟩
  case round =>
    obtain ⟨k, x, y, hk, hx, hy, HR, rfl, rfl, rfl⟩ := hrel
    by_cases hlt : k < s.size
    · have HS : Hid (Adl.run (Adl.start 1) (s.data.toList.take (k + 1)) = ((x + s[k].toNat) % 65521, (y + (x + s[k].toNat) % 65521) % 65521)) := by
        have := adl_snoc (Adl.start 1) s k hlt; rw [HR.out] at this; exact this
      have hb : s[k].toNat < 256 := s[k].toNat_lt
      go_wp2
      go_round
      case rel => exact ⟨k + 1, _, _, by omega, Nat.mod_lt _ (by decide), Nat.mod_lt _ (by decide), HS, by go_num, by go_num, by go_num⟩
      case measure => simp [intOf]; omega
    · obtain rfl : k = s.size := by omega
      have HF : Hid (Adl.adler s.data.toList = Adl.tell (x, y)) := by
        have := HR.out; rw [List.take_of_length_le (by simp)] at this; unfold Adl.adler; unfold Adl.more; rw [this]; rfl
      go_wp2
      go_ret
      exact ⟨by rw [HF.out]; simp [Adl.tell], rfl⟩

end Go.Proofs.YtnhbjgmfbcedaaaDoor
namespace Go.Proofs.YtnhbjgmfbcedaaaDoor
open Go.RowKit
set_option linter.unusedSimpArgs false
set_option maxRecDepth 100000
theorem byte_any (k : Nat) (hk : k < 256) (w : World) : Calls Tryd.prog 33 #[.int .i64 (k : Int)] w fun e w' => e = .returned (.string ⟨#[UInt8.ofNat k]⟩) ∧ Ext w w' := by
  have hcr : (convert 61 9 (.slice (some ⟨w.heap.size, 0, none⟩) 1 1)).run Tryd.prog (w.alloc (.cells #[.int .u8 (k : Int)] 5)) = .ok (.string ⟨#[UInt8.ofNat k]⟩) (w.alloc (.cells #[.int .u8 (k : Int)] 5)) := by
    refine run_convert_bytes_back (P := Tryd.prog) (w.alloc (.cells #[.int .u8 (k : Int)] 5)) 61 9 5 ⟨w.heap.size, 0, none⟩ 1 [UInt8.ofNat k] Tryd.underlying61 Tryd.underlying5 Tryd.underlying9 (fun j hj => ?_)
    obtain rfl : j = 0 := by simpa using hj
    rw [add_plain]; simp; omega
  go_enter Tryd.func33, Tryd.ntmps33
  go_wp2_with fail
  go_ret
  exact ⟨rfl, (Ext.refl _).alloc _⟩
/-- bits as a text -/
@[irreducible] def bs (L : List Bool) : ByteArray := ⟨(Bts.str L).toArray⟩
theorem bs_list (L : List Bool) : (bs L).data.toList = Bts.str L := by unfold bs; rfl
theorem bs_size (L : List Bool) : (bs L).size = L.length := by show (bs L).data.size = _; rw [← Array.length_toList, bs_list, Bts.str_length]
theorem bytes_ext {a b : ByteArray} (h : a.data.toList = b.data.toList) : a = b := by
  obtain ⟨⟨a⟩⟩ := a; obtain ⟨⟨b⟩⟩ := b; simp at h; rw [h]
theorem bytes_cat (a b : ByteArray) : (a ++ b).data.toList = a.data.toList ++ b.data.toList := by simp
theorem bs_append (L M : List Bool) : bs L ++ bs M = bs (L ++ M) := bytes_ext (by rw [bytes_cat, bs_list, bs_list, bs_list, Bts.str_append])
theorem bs_one (b : Bool) : (⟨#[Bts.ch b]⟩ : ByteArray) = bs [b] := bytes_ext (by rw [bs_list]; rfl)
theorem bs_nil : ByteArray.empty = bs [] := bytes_ext (by rw [bs_list]; rfl)
theorem ch_of (y : Nat) : UInt8.ofNat (48 + y % 2) = Bts.ch (y % 2 == 1) := by
  rcases Nat.mod_two_eq_zero_or_one y with h | h <;> rw [h] <;> rfl
theorem bit_any (y : Nat) (w : World) : Calls Tryd.prog 33 #[.int .i64 (48 + (y : Int) % 2)] w fun e w' => e = .returned (.string (bs [y % 2 == 1])) ∧ Ext w w' := by
  have h := byte_any (48 + y % 2) (by omega) w
  rw [ch_of, bs_one] at h
  rw [show (48 + (y : Int) % 2) = ((48 + y % 2 : Nat) : Int) by omega]
  exact h
theorem low_any (x k : Nat) (hx : x < 4294967296) (hk : k ≤ 64) (w : World) : Calls Tryd.prog 62 #[.int .u32 (x : Int), .int .i64 (k : Int)] w fun e w' => e = .returned (.string (bs (Bts.low x k))) ∧ Ext w w' := by
  go_enter Tryd.func62, Tryd.ntmps62
  go_wp2_with fail
  rw [show ({ data := #[] } : ByteArray) = bs [] from bs_nil]
  go_loopw [0, 5, 6] (fun p o c wr => ∃ i : Nat, i ≤ k ∧ c = .int .i64 i ∧ p = .int .u32 ((x / 2 ^ i : Nat) : Int) ∧ o = .string (bs (Bts.low x i)) ∧ Hid (Ext w wr)) (fun _ _ c _ => k - (intOf c).toNat)
  case atStart => exact ⟨0, by omega, rfl, by simp, rfl, Lib.hid (Ext.refl w)⟩
  case round =>
    obtain ⟨i, hi, rfl, rfl, rfl, HX⟩ := hrel
    by_cases hlt : i < k
    · obtain ⟨y, hy⟩ : ∃ y, x / 2 ^ i = y := ⟨_, rfl⟩
      have hy2 : x / 2 ^ (i + 1) = y / 2 := by rw [Nat.pow_succ, ← Nat.div_div_eq_div_mul, hy]
      have hyl : y < 4294967296 := by rw [← hy]; exact Nat.lt_of_le_of_lt (Nat.div_le_self _ _) hx
      have HL : Hid (bs (Bts.low x i) ++ bs [y % 2 == 1] = bs (Bts.low x (i + 1))) := Lib.hid (by rw [bs_append, Bts.low, hy])
      have hz1 : (bs (Bts.low x i)).size ≤ 64 := by rw [bs_size, Bts.low_length]; omega
      have hz2 : (bs [y % 2 == 1]).size = 1 := by rw [bs_size]; rfl
      rw [hy]
      have HY2 := Lib.hid hy2
      clear hy hy2
      go_wp2_with fail
      refine (bit_any y _).mono ?_
      rintro e w2 ⟨rfl, hE⟩
      have HX2 := Lib.hid (HX.out.trans hE)
      clear hE
      go_wp2_with fail
      rw [HL.out]
      go_roundw
      case rel => exact ⟨i + 1, by omega, by go_num, by rw [HY2.out]; go_num, rfl, HX2⟩
      case measure => simp [intOf]; omega
    · obtain rfl : i = k := by omega
      go_wp2_with fail
      go_ret
      exact ⟨rfl, HX.out⟩
end Go.Proofs.YtnhbjgmfbcedaaaDoor
