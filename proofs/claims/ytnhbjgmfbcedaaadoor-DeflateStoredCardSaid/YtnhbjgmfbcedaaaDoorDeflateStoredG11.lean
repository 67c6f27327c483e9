/-
  inflate.Inflate.
  DeflateStored's walk.
  The tables of package inflate, out of what a row lists.
  The last step of every law's row, once: a call that returns true and turns nothing that was there meets the row's post.
-/
import Derived.Test.YtnhbjgmfbcedaaaDoorDeflateStoredG10
import Derived.Test.YtnhbjgmfbcedaaaDoorDeflateStoredG5
import Derived.Deep.LoopGhost
import Derived.StillTailTactics
import Derived.Test.YtnhbjgmfbcedaaaDoorDeflateStoredG6
import Derived.Test.YtnhbjgmfbcedaaaDoorDeflateStoredG4
import Derived.Lib.LaidTab
import Derived.LaidHandle
import Derived.LaidSub
import Derived.Stop.LaidTwo
import Derived.Test.YtnhbjgmfbcedaaaDoorRows
import Derived.ProofKit
import Derived.ShutString
import Derived.Below
import Derived.OpenShut
namespace Go.Proofs.YtnhbjgmfbcedaaaDoor
open Go.RowKit
set_option linter.unusedSimpArgs false
set_option maxRecDepth 100000
theorem bound_any (s : ByteArray) (most : Int) (w : World) (hs : s.size ≤ maxLen) : Calls Tryd.prog 34 #[.string s, .int .i64 most] w fun e w' => e = .returned (.bool (decide (most < 0 ∨ 300000 < most ∨ 300000 < s.size))) ∧ w = w' := by
  unfold maxLen at hs
  by_cases h0 : most < 0
  · have e : decide (most < 0 ∨ 300000 < most ∨ 300000 < s.size) = true := decide_eq_true (.inl h0)
    rw [e]
    go_enter Tryd.func34, Tryd.ntmps34
    go_wp2_with fail
    go_ret
    exact ⟨rfl, rfl⟩
  · by_cases h1 : 300000 < most
    · have e : decide (most < 0 ∨ 300000 < most ∨ 300000 < s.size) = true := decide_eq_true (.inr (.inl h1))
      rw [e]
      go_enter Tryd.func34, Tryd.ntmps34
      go_wp2_with fail
      go_ret
      exact ⟨rfl, rfl⟩
    · by_cases h2 : 300000 < s.size
      · have e : decide (most < 0 ∨ 300000 < most ∨ 300000 < s.size) = true := decide_eq_true (.inr (.inr h2))
        have h2I : (300000 : Int) < (s.size : Int) := by omega
        rw [e]
        clear e
        go_enter Tryd.func34, Tryd.ntmps34
        go_wp2_with fail
        go_ret
        exact ⟨rfl, rfl⟩
      · have e : decide (most < 0 ∨ 300000 < most ∨ 300000 < s.size) = false := decide_eq_false (by omega)
        have h2I : ¬ (300000 : Int) < (s.size : Int) := by omega
        rw [e]
        clear e
        go_enter Tryd.func34, Tryd.ntmps34
        go_wp2_with fail
        go_ret
        exact ⟨rfl, rfl⟩
def InfPost (w w' : World) (E : Nat → Addr) (r : Except Nat (List UInt8 × Nat × List Inf.Blk)) (e : Ending) : Prop :=
  Ext w w' ∧ match r with
  | .ok (out, used, _) => e = .returned (.tuple #[.string (tb out), .int .i64 (used : Int), .nilIface])
  | .error c => e = .returned (.tuple #[.string ⟨#[]⟩, .int .i64 0, sentV (E c)])
theorem infpost_ok {w w' : World} {E : Nat → Addr} {r : Except Nat (List UInt8 × Nat × List Inf.Blk)} {out : List UInt8} {used : Nat} {bs : List Inf.Blk} {x : Value} (hr : r = .ok (out, used, bs)) (hX : Ext w w') (hx : x = .tuple #[.string (tb out), .int .i64 (used : Int), .nilIface]) : InfPost w w' E r (.returned x) := by
  subst hr hx; exact ⟨hX, rfl⟩
theorem infpost_error {w w' : World} {E : Nat → Addr} {r : Except Nat (List UInt8 × Nat × List Inf.Blk)} {c : Nat} {x : Value} (hr : r = .error c) (hX : Ext w w') (hx : x = .tuple #[.string ⟨#[]⟩, .int .i64 0, sentV (E c)]) : InfPost w w' E r (.returned x) := by
  subst hr hx; exact ⟨hX, rfl⟩
theorem res_inflate (p : Nat) (x : ByteArray) (y : Int) (z : Value) (w : World) (tmps : Array Value) (h0 : Bk w p #[.string x]) (h1 : Bk w (p + 1) #[.int .i64 y]) (h2 : Bk w (p + 2) #[z]) (t4 : tmps[4]? = some (.pointer (some ⟨p, 0, none⟩))) (t5 : tmps[5]? = some (.pointer (some ⟨p + 1, 0, none⟩))) (t6 : tmps[6]? = some (.pointer (some ⟨p + 2, 0, none⟩))) (hz : ∃ u v, z = .iface u v ∨ z = .nilIface) :
    (results Tryd.f14 tmps).run Tryd.prog w = .ok (.tuple #[.string x, .int .i64 y, z]) w := by
  have c0 := h0.cell 0
  have c1 := h1.cell 0
  have c2 := h2.cell 0
  obtain ⟨u, v, rfl | rfl⟩ := hz
  · simp [results, Tryd.results14, go_sem, t4, t5, t6, c0, c1, c2]
  · simp [results, Tryd.results14, go_sem, t4, t5, t6, c0, c1, c2]
theorem inf_error {s : ByteArray} {m : Nat} {c : Nat} {r0 : Except Nat (Nat × List UInt8 × List Inf.Blk)} {r : Except Nat (List UInt8 × Nat × List Inf.Blk)} (h0 : Inf.blocks s.data.toList m (8 * s.data.toList.length + 1) 0 [] [] = r0) (h : Inf.inf s.data.toList m = r) (e : r0 = .error c) : r = .error c := by
  unfold Inf.inf at h; rw [h0, e] at h; exact h.symm
theorem inf_ok {s : ByteArray} {m a : Nat} {out : List UInt8} {bs : List Inf.Blk} {r0 : Except Nat (Nat × List UInt8 × List Inf.Blk)} {r : Except Nat (List UInt8 × Nat × List Inf.Blk)} (h0 : Inf.blocks s.data.toList m (8 * s.data.toList.length + 1) 0 [] [] = r0) (h : Inf.inf s.data.toList m = r) (e : r0 = .ok (a, out, bs)) : r = .ok (out, (a + 7) / 8, bs) := by
  unfold Inf.inf at h; rw [h0, e] at h; exact h.symm
theorem BPost.yes {w0 w w' : World} {R B a most last : Nat} {s : ByteArray} {v : Value} {E : Nat → Addr} {out : List UInt8} {b : Inf.Blk} {r : Except Nat (Nat × Nat × List UInt8 × Inf.Blk)} {e : Ending} (h : BPost w0 w R B s most v E r e w') (hr : r = .ok (last, a, out, b)) : e = .returned (.bool (decide (last = 1))) ∧ ∃ v', IGo w0 w w' R B s a v v' out most := by subst hr; exact h
theorem BPost.no {w0 w w' : World} {R B most c : Nat} {s : ByteArray} {v : Value} {E : Nat → Addr} {r : Except Nat (Nat × Nat × List UInt8 × Inf.Blk)} {e : Ending} (h : BPost w0 w R B s most v E r e w') (hr : r = .error c) : e = thrown (E c) ∧ Ext w0 w' := by subst hr; exact h
theorem set3_ext {w w3 : World} {p : Nat} (hp : w.heap.size = p) (hX : Ext w w3) {x y z : Value} : Ext w (((w3.setCell ⟨p, 0, none⟩ x).setCell ⟨p + 1, 0, none⟩ y).setCell ⟨p + 2, 0, none⟩ z) := by
  refine (((show Below w.heap.size w w3 from hX).setCell (p := ⟨p, 0, none⟩) (by show _ ≤ p; omega) _).setCell (p := ⟨p + 1, 0, none⟩) (by show _ ≤ p + 1; omega) _).setCell (p := ⟨p + 2, 0, none⟩) (by show _ ≤ p + 2; omega) _
theorem set3_bk {w : World} {p : Nat} {x y z x' y' z' : Value} (h0 : Bk w p #[x]) (h1 : Bk w (p + 1) #[y]) (h2 : Bk w (p + 2) #[z]) :
    Bk (((w.setCell ⟨p, 0, none⟩ x').setCell ⟨p + 1, 0, none⟩ y').setCell ⟨p + 2, 0, none⟩ z') p #[x'] ∧ Bk (((w.setCell ⟨p, 0, none⟩ x').setCell ⟨p + 1, 0, none⟩ y').setCell ⟨p + 2, 0, none⟩ z') (p + 1) #[y'] ∧ Bk (((w.setCell ⟨p, 0, none⟩ x').setCell ⟨p + 1, 0, none⟩ y').setCell ⟨p + 2, 0, none⟩ z') (p + 2) #[z'] :=
  ⟨((h0.set_ 0 x').far (p := ⟨p + 1, 0, none⟩) (by show p ≠ p + 1; omega) _).far (p := ⟨p + 2, 0, none⟩) (by show p ≠ p + 2; omega) _,
   ((h1.far (p := ⟨p, 0, none⟩) (by show p + 1 ≠ p; omega) _).set_ 0 y').far (p := ⟨p + 2, 0, none⟩) (by show p + 1 ≠ p + 2; omega) _,
   ((h2.far (p := ⟨p, 0, none⟩) (by show p + 2 ≠ p; omega) _).far (p := ⟨p + 1, 0, none⟩) (by show p + 2 ≠ p + 1; omega) _).set_ 0 z'⟩
set_option linter.unusedSimpArgs false in
set_option maxHeartbeats 4000000 in
theorem inflate_any (s : ByteArray) (most : Int) (w : World) (E : Nat → Addr) (hE : Errs w E) (hTb : Tabs w) (hs : s.size ≤ maxLen) :
    Calls Tryd.prog 14 #[.string s, .int .i64 most] w fun e w' => InfPost w w' E (Inf.infl s most) e := by
  have HE := Lib.hid hE
  have HTb := Lib.hid hTb
  have HBd := Lib.hid (fun w => bound_any s most w hs)
  obtain ⟨r, hr⟩ : ∃ r, Inf.infl s most = r := ⟨_, rfl⟩
  rw [hr]
  unfold Inf.infl at hr
  have hmf : ∀ (fn : Fn) (first cap : Array Value) (w : World), (Instr.makeFunc fn first cap).run Tryd.prog w = .ok (.func fn first cap) w := fun _ _ _ _ => rfl
  obtain ⟨p, hp⟩ : ∃ p, w.heap.size = p := ⟨_, rfl⟩
  have HP := Lib.hid hp
  by_cases hb : most < 0 ∨ 300000 < most ∨ 300000 < s.size
  · have hd : decide (most < 0 ∨ 300000 < most ∨ 300000 < s.size) = true := decide_eq_true hb
    rw [if_pos hb] at hr
    have HR := Lib.hid hr.symm
    clear hE hTb hr hb hp hs
    go_enter_defers Tryd.func14, Tryd.ntmps14
    go_wp2_with fail
    refine (HBd.out _).mono ?_
    rintro e _ ⟨rfl, rfl⟩
    rw [hd]
    go_wp2_with fail
    clear hd hmf
    rw [show w.heap.size + 1 + 1 = w.heap.size + 2 from rfl, HP.out]
    refine wp_world (fun wz => Ext w wz ∧ Bk wz p #[.string ⟨#[]⟩] ∧ Bk wz (p + 1) #[.int .i64 0] ∧ Bk wz (p + 2) #[.nilIface]) ⟨(((Ext.refl w).alloc _).alloc _).alloc _, Bk.old (Bk.old (Bk.at HP.out)), Bk.old (Bk.at (by simp [HP.out])), Bk.at (by simp [HP.out])⟩ ?_
    rintro w3 ⟨hX, h0, h1, h2⟩
    have HX := Lib.hid hX
    have H3 := Lib.hid (fun (x y z : Value) => set3_bk (x' := x) (y' := y) (z' := z) h0 h1 h2)
    have k0 := h0.cell 0
    have k1 := h1.cell 0
    have k2 := h2.cell 0
    have f0 := h0.frozen 0
    have f1 := h1.frozen 0
    have f2 := h2.frozen 0
    have ev := (err_cells HE.out hX).2
    have hg : (0 : Nat) < w.heap.size := World.block_lt_of_cell? w _ (err_cells HE.out (Ext.refl w)).2
    rw [HP.out] at hg
    have n0 : ¬ 0 = p := by omega
    have n1 : ¬ 0 = p + 1 := by omega
    clear hX h0 h1 h2 hg
    go_region
    all_goals (try go_wp2_with fail)
    all_goals
      obtain ⟨q0, q1, q2⟩ := H3.out (.string ⟨#[]⟩) (.int .i64 0) (.iface 210 (.pointer (some (E 1))))
      exact ⟨_, res_inflate p ⟨#[]⟩ 0 _ _ _ q0.drew q1.drew q2.drew rfl rfl rfl ⟨_, _, .inl rfl⟩, infpost_error HR.out (Below.drew (set3_ext HP.out HX.out)) rfl⟩
  · have hd : decide (most < 0 ∨ 300000 < most ∨ 300000 < s.size) = false := decide_eq_false hb
    rw [if_neg hb] at hr
    obtain ⟨m, rfl⟩ : ∃ m : Nat, most = m := ⟨most.toNat, by omega⟩
    have hm : m ≤ 300000 := by omega
    have hsz : s.size ≤ 300000 := by omega
    rw [Int.toNat_natCast] at hr
    have HR := Lib.hid hr
    obtain ⟨r0, hr0⟩ : ∃ r0, Inf.blocks s.data.toList m (8 * s.data.toList.length + 1) 0 [] [] = r0 := ⟨_, rfl⟩
    have HR0 := Lib.hid hr0
    clear hE hTb hr hb hp hs hr0
    go_enter_defers Tryd.func14, Tryd.ntmps14
    go_wp2_with fail
    refine (HBd.out _).mono ?_
    rintro e _ ⟨rfl, rfl⟩
    rw [hd]
    go_wp2_with fail
    clear hd
    rw [show w.heap.size + 1 + 1 = w.heap.size + 2 from rfl, HP.out]
    refine calls_world (fun wz => Ext w wz ∧ Bk wz p #[.string ⟨#[]⟩] ∧ Bk wz (p + 1) #[.int .i64 0] ∧ Bk wz (p + 2) #[.nilIface]) ⟨(((Ext.refl w).alloc _).alloc _).alloc _, Bk.old (Bk.old (Bk.at HP.out)), Bk.old (Bk.at (by simp [HP.out])), Bk.at (by simp [HP.out])⟩ ?_
    rintro w3 ⟨hX, h0, h1, h2⟩
    have HX := Lib.hid hX
    have H0 := Lib.hid h0
    have H1 := Lib.hid h1
    have H2 := Lib.hid h2
    have HE3 := Lib.hid (HE.out.ext hX)
    have HT3 := Lib.hid (HTb.out.ext hX)
    have HPL := Lib.hid (⟨by rw [← HP.out]; exact hX.size, h2.lt⟩ : p ≤ w3.heap.size ∧ p + 2 < w3.heap.size)
    clear hX h0 h1 h2
    refine (newReader_calls s w3 (by omega)).mono ?_
    rintro e w4 ⟨rfl, hr4, hx4⟩
    have HR4 := Lib.hid hr4
    have HX4 := Lib.hid hx4
    have hlt4 : w3.heap.size < w4.heap.size := hr4.lt
    have HL4 := Lib.hid hlt4
    clear hr4 hx4 hlt4
    go_wp2_with fail
    obtain ⟨B, hB⟩ : ∃ B, w3.heap.size = B := ⟨_, rfl⟩
    obtain ⟨R, hR⟩ : ∃ R, w4.heap.size = R := ⟨_, rfl⟩
    refine wp_world (fun wz => IGo w3 wz wz R B s 0 (.slice none 0 0) (.slice none 0 0) [] m) ?_ ?_
    · refine IGo.start ⟨⟨?_, ?_, World.ownsRow_nil _ _ _ _, ?_, (fun e => by cases e), (fun e => by cases e)⟩, HX4.out.alloc _, ?_, ?_, (fun k e => by cases e), Nat.zero_le _⟩
      · rw [hB]; exact Bk.at hR
      · have h := HR4.out
        rw [hB] at h
        exact ⟨ext_cell ((Ext.refl w4).alloc _) h.c0, ext_cell ((Ext.refl w4).alloc _) h.c1, by rw [World.frozen?_alloc_past _ _ _ h.lt]; exact h.f1, h.size, h.le⟩
      · have := HL4.out; omega
      · have := HL4.out; omega
      · omega
    rintro w5 hG
    have HG := Lib.hid hG
    rw [hR]
    clear hG hB hR
    go_loopg [] (8 * s.size) (fun k wr => ∃ (a : Nat) (v : Value) (out : List UInt8) (bs : List Inf.Blk) (FF : Nat), Hid (IGo w3 w5 wr R B s a (.slice none 0 0) v out m) ∧ Hid (Inf.blocks s.data.toList m FF a out bs = r0) ∧ Hid (8 * s.size - a < FF ∧ k = 8 * s.size - a) ∧ out.length ≤ m)
    case atStart => exact ⟨0, _, [], [], 8 * s.data.toList.length + 1, HG, HR0, Lib.hid ⟨by rw [list_size]; omega, by omega⟩, Nat.zero_le _⟩
    case round =>
      clear HG
      obtain ⟨a, v, out, bs, FF, H, HRb, HK, hout⟩ := hrel
      have HF0 : Hid (0 < FF) := Lib.hid (by have := HK.out; omega)
      go_wp2_with fail
      have hP := iblock_any R B a m s v out w3 wr E HE3.out HT3.out H.out.st hm hsz hout
      cases hs : Inf.block s.data.toList m a out with
      | error c =>
        have HQ := Lib.hid (inf_error HR0.out HR.out (Inf.blocks_err HF0.out HRb.out hs))
        refine hP.mono ?_
        intro e w9 h9
        obtain ⟨rfl, h8⟩ := h9.no hs
        have H8 := Lib.hid h8
        clear hP h9 h8 hs H
        unfold thrown
        refine leaves_cons (f := 35) (args := #[.pointer (some ⟨p, 0, none⟩), .pointer (some ⟨p + 1, 0, none⟩), .pointer (some ⟨p + 2, 0, none⟩)]) (by simp) (by simp [go_sem]) ?_
        refine (icatch p (E c) [] _ _ _ w9 (H0.out.ext H8.out) (H1.out.ext H8.out) (H2.out.ext H8.out)).mono ?_
        rintro e u' w8 ⟨rfl, rfl, hc⟩
        exact ⟨_, res_inflate p ⟨#[]⟩ 0 _ _ _ hc.h0 hc.h1 hc.h2 rfl rfl rfl ⟨_, _, .inl rfl⟩, infpost_error HQ.out (Below.trans (HX.out.trans H8.out) (by rw [HP.out]; exact hc.ext)) rfl⟩
      | ok q =>
        obtain ⟨last, a1, out1, b⟩ := q
        have hgr := Inf.block_grow hout hs
        refine hP.mono ?_
        intro e w6 h6
        obtain ⟨rfl, v', h8⟩ := h6.yes hs
        have H6 := Lib.hid (H.out.trans h8)
        clear h6 h8 hP H
        by_cases hl : last = 1
        · subst hl
          have HQ := Lib.hid (inf_ok HR0.out HR.out (Inf.blocks_last HF0.out HRb.out hs))
          have c0 := H6.out.bk.cell 0
          clear hs
          go_wp2_with fail
          refine (ralign_calls B 0 a1 s w6 H6.out.st.at_.rd H6.out.st.le).mono ?_
          rintro e w7 ⟨rfl, hR, hS⟩
          have hle := H6.out.st.le
          obtain ⟨used, hus⟩ : ∃ u, (a1 + 7) / 8 = u := ⟨_, rfl⟩
          rw [hus] at hR HQ
          obtain ⟨a7, ha7⟩ : ∃ x, used * 8 = x := ⟨_, rfl⟩
          rw [ha7] at hR
          have H7 := Lib.hid (H6.out.read hR hS (by omega))
          have hq1 : (a7 : Int).tdiv 8 = (used : Int) := by rw [Int.tdiv_eq_ediv_of_nonneg (by omega)]; omega
          have hq2 : (a7 : Int) / 8 = (used : Int) := by omega
          have hub : used ≤ 300000 := by omega
          have wu : ∀ z, z = (used : Int) → IntKind.i64.wrap z = z := by rintro _ rfl; rw [IntKind.wrap_i64]; omega
          obtain ⟨Lo, hLo⟩ : ∃ Lo, out1.length = Lo := ⟨_, rfl⟩
          have HL := Lib.hid hLo
          have hro := H7.out.row
          rw [hLo] at hro
          obtain ⟨xo, co, rfl⟩ := lit_row hro
          -- region
          clear hR hS hus ha7 hro hLo hle H6
          have H_7 := H7
          clear H7
          have n0 : ¬ p = R := by have := HPL.out; have := H_7.out.st.hR; omega
          have n1 : ¬ p + 1 = R := by have := HPL.out; have := H_7.out.st.hR; omega
          have n2 : ¬ p + 2 = R := by have := HPL.out; have := H_7.out.st.hR; omega
          go_wp2_with fail
          refine wp_noPanic ?_
          refine wp_region_held_drew (S := fun w' => w'.cell? ⟨R, 0, none⟩ = some (.pointer (some ⟨B, 0, none⟩)) ∧ w'.cell? ⟨R, 1, none⟩ = some (.slice xo Lo co)) (by kernel_rfl) ⟨H_7.out.bk.cell 0, H_7.out.bk.cell 1⟩ (fun hHeld => ?_)
          clear hHeld
          refine anyH_world (fun wz => Ext w7 wz) (show Ext w7 w7.drew from Below.drew (Ext.refl w7)) ?_
          rintro w8 h
          have H_8 := Lib.hid (H_7.out.ext h)
          clear h H_7
          have hHeld : w8.cell? ⟨R, 0, none⟩ = some (.pointer (some ⟨B, 0, none⟩)) ∧ w8.cell? ⟨R, 1, none⟩ = some (.slice xo Lo co) := ⟨H_8.out.bk.cell 0, H_8.out.bk.cell 1⟩
          refine wpAnyH_take (i := 0) (v := ?_) rfl (by kernel_rfl) (by kernel_rfl) (by kernel_rfl) (fun _ _ _ h => h) (Or.inl ⟨by kernel_rfl, ?_⟩) hHeld ?_
          rotate_left
          · intro w hSw
            (try dsimp only at hSw)
            go_split_ands
            go_simp
            (try with_reducible rfl)
          try simp only [Act.put, List.getElem_toArray, List.getElem_cons_succ, List.getElem_cons_zero, List.setIfInBounds_toArray, List.set_cons_zero, List.set_cons_succ]
          refine wpAnyH_take (i := 1) (v := ?_) rfl (by kernel_rfl) (by kernel_rfl) (by kernel_rfl) (fun _ _ _ h => h) (Or.inl ⟨by kernel_rfl, ?_⟩) hHeld ?_
          rotate_left
          · intro w hSw
            (try dsimp only at hSw)
            go_split_ands
            go_simp
            (try with_reducible rfl)
          try simp only [Act.put, List.getElem_toArray, List.getElem_cons_succ, List.getElem_cons_zero, List.setIfInBounds_toArray, List.set_cons_zero, List.set_cons_succ]
          refine wpAnyH_take (i := 2) (v := ?_) rfl (by kernel_rfl) (by kernel_rfl) (by kernel_rfl) (fun _ _ _ h => h) (Or.inl ⟨by kernel_rfl, ?_⟩) hHeld ?_
          rotate_left
          · intro w hSw
            (try dsimp only at hSw)
            go_split_ands
            go_simp
            (try with_reducible rfl)
          try simp only [Act.put, List.getElem_toArray, List.getElem_cons_succ, List.getElem_cons_zero, List.setIfInBounds_toArray, List.set_cons_zero, List.set_cons_succ]
          refine wpAnyH_take (i := 3) (v := ?_) rfl (by kernel_rfl) (by kernel_rfl) (by kernel_rfl) (fun _ _ _ h => h) (Or.inl ⟨by kernel_rfl, ?_⟩) hHeld ?_
          rotate_left
          · intro w hSw
            (try dsimp only at hSw)
            go_split_ands
            go_simp
            (try with_reducible rfl)
          try simp only [Act.put, List.getElem_toArray, List.getElem_cons_succ, List.getElem_cons_zero, List.setIfInBounds_toArray, List.set_cons_zero, List.set_cons_succ]
          refine wpAnyH_take (i := 5) (v := ?_) rfl (by kernel_rfl) (by kernel_rfl) (by kernel_rfl) (fun _ _ _ h => h) (Or.inl ⟨by kernel_rfl, ?_⟩) hHeld ?_
          rotate_left
          · intro w hSw
            (try dsimp only at hSw)
            go_split_ands
            go_simp
            (try with_reducible rfl)
          try simp only [Act.put, List.getElem_toArray, List.getElem_cons_succ, List.getElem_cons_zero, List.setIfInBounds_toArray, List.set_cons_zero, List.set_cons_succ]
          refine wpAnyH_take (i := 6) (v := ?_) rfl (by kernel_rfl) (by kernel_rfl) (by kernel_rfl) (fun _ _ _ h => h) (Or.inl ⟨by kernel_rfl, ?_⟩) hHeld ?_
          rotate_left
          · intro w hSw
            (try dsimp only at hSw)
            go_split_ands
            go_simp
            (try with_reducible rfl)
          try simp only [Act.put, List.getElem_toArray, List.getElem_cons_succ, List.getElem_cons_zero, List.setIfInBounds_toArray, List.set_cons_zero, List.set_cons_succ]
          refine wpAnyH_take (i := 7) (v := ?_) rfl (by kernel_rfl) (by kernel_rfl) (by kernel_rfl) (fun _ _ _ h => h) (Or.inl ⟨by kernel_rfl, ?_⟩) hHeld ?_
          rotate_left
          · intro w hSw
            (try dsimp only at hSw)
            go_split_ands
            go_simp
            (try with_reducible rfl)
          try simp only [Act.put, List.getElem_toArray, List.getElem_cons_succ, List.getElem_cons_zero, List.setIfInBounds_toArray, List.set_cons_zero, List.set_cons_succ]
          refine wpAnyH_take (i := 8) (v := ?_) rfl (by kernel_rfl) (by kernel_rfl) (by kernel_rfl) (fun _ _ _ h => h) (Or.inl ⟨by kernel_rfl, ?_⟩) hHeld ?_
          rotate_left
          · intro w hSw
            (try dsimp only at hSw)
            go_split_ands
            go_simp
            (try with_reducible rfl)
          try simp only [Act.put, List.getElem_toArray, List.getElem_cons_succ, List.getElem_cons_zero, List.setIfInBounds_toArray, List.set_cons_zero, List.set_cons_succ]
          refine wpAnyH_ready (rs := [4, 9]) (by kernel_rfl) (by simp) ?_
          refine AllReadyH.cons rfl (fun KK hK => ?_) (AllReadyH.cons rfl (fun KK hK => ?_) AllReadyH.nil)
          · clear hHeld
            have hro := H_8.out.row
            rw [HL.out] at hro
            have hcr := conv_row HL.out hro
            clear hro
            go_simp
            refine hK.out _ _ ⟨H_8.out.bk.cell 0, H_8.out.bk.cell 1⟩ (fun hHeld => ?_)
            clear hK KK hcr
            try simp only [Act.put, List.getElem_toArray, List.getElem_cons_succ, List.getElem_cons_zero, List.setIfInBounds_toArray, List.set_cons_zero, List.set_cons_succ]
            refine wpAnyH_ready (rs := [9]) (by kernel_rfl) (by simp) ?_
            refine AllReadyH.cons rfl (fun KK hK => ?_) AllReadyH.nil
            clear hHeld
            go_simp
            refine (at_calls B 0 a7 s _ H_8.out.st.at_.rd).mono ?_
            rintro e w9 ⟨rfl, rfl⟩
            go_simp
            refine hK.out _ _ ⟨H_8.out.bk.cell 0, H_8.out.bk.cell 1⟩ (fun hHeld => ?_)
            clear hK KK
            try simp only [Act.put, List.getElem_toArray, List.getElem_cons_succ, List.getElem_cons_zero, List.setIfInBounds_toArray, List.set_cons_zero, List.set_cons_succ]
            refine wpAnyH_take (i := 10) (v := ?_) rfl (by kernel_rfl) (by kernel_rfl) (by kernel_rfl) (fun _ _ _ h => h) (Or.inl ⟨by kernel_rfl, ?_⟩) hHeld ?_
            rotate_left
            · intro w hSw
              (try dsimp only at hSw)
              go_split_ands
              go_simp
              (try with_reducible rfl)
            try simp only [Act.put, List.getElem_toArray, List.getElem_cons_succ, List.getElem_cons_zero, List.setIfInBounds_toArray, List.set_cons_zero, List.set_cons_succ]
            refine wpAnyH_ready (rs := [11]) (by kernel_rfl) (by simp) ?_
            refine AllReadyH.cons rfl (fun KK hK => ?_) AllReadyH.nil
            clear hHeld
            have k0 := (H0.out.ext H_8.out.old).cell 0
            have f0 := (H0.out.ext H_8.out.old).frozen 0
            have k1 := (H1.out.ext H_8.out.old).cell 0
            have f1 := (H1.out.ext H_8.out.old).frozen 0
            have k2 := (H2.out.ext H_8.out.old).cell 0
            have f2 := (H2.out.ext H_8.out.old).frozen 0
            have c0 := H_8.out.bk.cell 0
            have c1 := H_8.out.bk.cell 1
            go_simp
            refine hK.out _ _ ⟨by simp [go_sem, c0, c1, n0, n1, n2], by simp [go_sem, c0, c1, n0, n1, n2]⟩ (fun hHeld => ?_)
            clear hK KK
            try simp only [Act.put, List.getElem_toArray, List.getElem_cons_succ, List.getElem_cons_zero, List.setIfInBounds_toArray, List.set_cons_zero, List.set_cons_succ]
            refine wpAnyH_ready (rs := [12]) (by kernel_rfl) (by simp) ?_
            refine AllReadyH.cons rfl (fun KK hK => ?_) AllReadyH.nil
            clear hHeld
            go_simp
            refine hK.out _ _ ⟨by simp [go_sem, c0, c1, n0, n1, n2], by simp [go_sem, c0, c1, n0, n1, n2]⟩ (fun hHeld => ?_)
            clear hK KK
            try simp only [Act.put, List.getElem_toArray, List.getElem_cons_succ, List.getElem_cons_zero, List.setIfInBounds_toArray, List.set_cons_zero, List.set_cons_succ]
            refine wpAnyH_ready (rs := [13]) (by kernel_rfl) (by simp) ?_
            refine AllReadyH.cons rfl (fun KK hK => ?_) AllReadyH.nil
            clear hHeld
            go_simp
            refine hK.out _ _ ⟨by simp [go_sem, c0, c1, n0, n1, n2], by simp [go_sem, c0, c1, n0, n1, n2]⟩ (fun hHeld => ?_)
            clear hK KK
            try simp only [Act.put, List.getElem_toArray, List.getElem_cons_succ, List.getElem_cons_zero, List.setIfInBounds_toArray, List.set_cons_zero, List.set_cons_succ]
            refine wpAnyH_done (by kernel_rfl) ?_ _
            clear hHeld
            simp only [noPanic]
            go_wp2_with fail
            obtain ⟨q0, q1, q2⟩ := set3_bk (x' := .string (tb out1)) (y' := .int .i64 (used : Int)) (z' := .nilIface) (H0.out.ext H_8.out.old) (H1.out.ext H_8.out.old) (H2.out.ext H_8.out.old)
            refine leaves_cons (f := 35) (args := #[.pointer (some ⟨p, 0, none⟩), .pointer (some ⟨p + 1, 0, none⟩), .pointer (some ⟨p + 2, 0, none⟩)]) (by simp) (by simp [go_sem]) ?_
            refine (icatch_idle _ _ _ _).mono ?_
            rintro e u' w'' ⟨rfl, rfl, rfl⟩
            exact ⟨_, res_inflate p (tb out1) (used : Int) _ _ _ q0 q1 q2 rfl rfl rfl ⟨3, .nilIface, .inr rfl⟩, infpost_ok HQ.out (set3_ext HP.out (HX.out.trans H_8.out.old)) rfl⟩
          · clear hHeld
            go_simp
            refine (at_calls B 0 a7 s _ H_8.out.st.at_.rd).mono ?_
            rintro e w9 ⟨rfl, rfl⟩
            go_simp
            refine hK.out _ _ ⟨H_8.out.bk.cell 0, H_8.out.bk.cell 1⟩ (fun hHeld => ?_)
            clear hK KK
            try simp only [Act.put, List.getElem_toArray, List.getElem_cons_succ, List.getElem_cons_zero, List.setIfInBounds_toArray, List.set_cons_zero, List.set_cons_succ]
            refine wpAnyH_take (i := 10) (v := ?_) rfl (by kernel_rfl) (by kernel_rfl) (by kernel_rfl) (fun _ _ _ h => h) (Or.inl ⟨by kernel_rfl, ?_⟩) hHeld ?_
            rotate_left
            · intro w hSw
              (try dsimp only at hSw)
              go_split_ands
              go_simp
              (try with_reducible rfl)
            try simp only [Act.put, List.getElem_toArray, List.getElem_cons_succ, List.getElem_cons_zero, List.setIfInBounds_toArray, List.set_cons_zero, List.set_cons_succ]
            refine wpAnyH_ready (rs := [4]) (by kernel_rfl) (by simp) ?_
            refine AllReadyH.cons rfl (fun KK hK => ?_) AllReadyH.nil
            clear hHeld
            have hro := H_8.out.row
            rw [HL.out] at hro
            have hcr := conv_row HL.out hro
            clear hro
            go_simp
            refine hK.out _ _ ⟨H_8.out.bk.cell 0, H_8.out.bk.cell 1⟩ (fun hHeld => ?_)
            clear hK KK hcr
            try simp only [Act.put, List.getElem_toArray, List.getElem_cons_succ, List.getElem_cons_zero, List.setIfInBounds_toArray, List.set_cons_zero, List.set_cons_succ]
            refine wpAnyH_ready (rs := [11]) (by kernel_rfl) (by simp) ?_
            refine AllReadyH.cons rfl (fun KK hK => ?_) AllReadyH.nil
            clear hHeld
            have k0 := (H0.out.ext H_8.out.old).cell 0
            have f0 := (H0.out.ext H_8.out.old).frozen 0
            have k1 := (H1.out.ext H_8.out.old).cell 0
            have f1 := (H1.out.ext H_8.out.old).frozen 0
            have k2 := (H2.out.ext H_8.out.old).cell 0
            have f2 := (H2.out.ext H_8.out.old).frozen 0
            have c0 := H_8.out.bk.cell 0
            have c1 := H_8.out.bk.cell 1
            go_simp
            refine hK.out _ _ ⟨by simp [go_sem, c0, c1, n0, n1, n2], by simp [go_sem, c0, c1, n0, n1, n2]⟩ (fun hHeld => ?_)
            clear hK KK
            try simp only [Act.put, List.getElem_toArray, List.getElem_cons_succ, List.getElem_cons_zero, List.setIfInBounds_toArray, List.set_cons_zero, List.set_cons_succ]
            refine wpAnyH_ready (rs := [12]) (by kernel_rfl) (by simp) ?_
            refine AllReadyH.cons rfl (fun KK hK => ?_) AllReadyH.nil
            clear hHeld
            go_simp
            refine hK.out _ _ ⟨by simp [go_sem, c0, c1, n0, n1, n2], by simp [go_sem, c0, c1, n0, n1, n2]⟩ (fun hHeld => ?_)
            clear hK KK
            try simp only [Act.put, List.getElem_toArray, List.getElem_cons_succ, List.getElem_cons_zero, List.setIfInBounds_toArray, List.set_cons_zero, List.set_cons_succ]
            refine wpAnyH_ready (rs := [13]) (by kernel_rfl) (by simp) ?_
            refine AllReadyH.cons rfl (fun KK hK => ?_) AllReadyH.nil
            clear hHeld
            go_simp
            refine hK.out _ _ ⟨by simp [go_sem, c0, c1, n0, n1, n2], by simp [go_sem, c0, c1, n0, n1, n2]⟩ (fun hHeld => ?_)
            clear hK KK
            try simp only [Act.put, List.getElem_toArray, List.getElem_cons_succ, List.getElem_cons_zero, List.setIfInBounds_toArray, List.set_cons_zero, List.set_cons_succ]
            refine wpAnyH_done (by kernel_rfl) ?_ _
            clear hHeld
            simp only [noPanic]
            go_wp2_with fail
            obtain ⟨q0, q1, q2⟩ := set3_bk (x' := .string (tb out1)) (y' := .int .i64 (used : Int)) (z' := .nilIface) (H0.out.ext H_8.out.old) (H1.out.ext H_8.out.old) (H2.out.ext H_8.out.old)
            refine leaves_cons (f := 35) (args := #[.pointer (some ⟨p, 0, none⟩), .pointer (some ⟨p + 1, 0, none⟩), .pointer (some ⟨p + 2, 0, none⟩)]) (by simp) (by simp [go_sem]) ?_
            refine (icatch_idle _ _ _ _).mono ?_
            rintro e u' w'' ⟨rfl, rfl, rfl⟩
            exact ⟨_, res_inflate p (tb out1) (used : Int) _ _ _ q0 q1 q2 rfl rfl rfl ⟨3, .nilIface, .inr rfl⟩, infpost_ok HQ.out (set3_ext HP.out (HX.out.trans H_8.out.old)) rfl⟩
        · have hd : decide (last = 1) = false := decide_eq_false hl
          obtain ⟨F2, hF2, hR2⟩ := Inf.blocks_go HF0.out HRb.out hs hl
          have HR2 := Lib.hid hR2
          clear hR2 hs
          go_wp2_with fail
          go_roundg (8 * s.size - a1)
          case measure => have := HK.out; have := H6.out.st.le; omega
          case rel => exact ⟨a1, v', out1, _, F2, H6, HR2, Lib.hid ⟨by have := HK.out; have := H6.out.st.le; omega, rfl⟩, hgr.2⟩
end Go.Proofs.YtnhbjgmfbcedaaaDoor
namespace Go.Proofs.YtnhbjgmfbcedaaaDoor
open Go.RowKit
set_option linter.unusedSimpArgs false
set_option maxRecDepth 100000
theorem infl_sto (t : ByteArray) (ht : t.size ≤ 250000) : ∃ bl, Inf.infl (tb (Sto.all (t.size + 1) t.data.toList)) (t.size : Int) = .ok (t.data.toList, (Sto.all (t.size + 1) t.data.toList).length, bl) := by
  have hl := Sto.all_length (t.size + 1) t.data.toList
  rw [list_size] at hl
  obtain ⟨bl, h⟩ := Sto.inf_all t.data.toList t.size (by rw [list_size]; exact Nat.le_refl _)
  rw [list_size] at h
  refine ⟨bl, ?_⟩
  unfold Inf.infl
  rw [if_neg (by rw [tb_size]; omega), tb_list, Int.toNat_natCast]
  exact h
set_option maxHeartbeats 2000000 in
theorem deflateStored_any (s : ByteArray) (times : Int) (w : World) (E : Nat → Addr) (hE : Errs w E) (hTb : Tabs w) (hs : s.size ≤ maxLen) :
    Calls Tryd.prog 3 #[.string s, .int .i64 times] w fun e w' => e = .returned (.bool true) ∧ Ext w w' := by
  have HE := Lib.hid hE
  have HTb := Lib.hid hTb
  have HBl := Lib.hid (fun w => blank_calls w)
  have HS := Lib.hid (fun (t : ByteArray) (ht : t.size ≤ 300000) (w : World) => Stored_calls t w ht)
  have HO := Lib.hid (fun (t : ByteArray) (ht : t.size ≤ 300000) (w : World) => storedOf_calls t w ht)
  have HI := Lib.hid (fun (t : ByteArray) (m : Int) (ht : t.size ≤ maxLen) (w : World) (hE : Errs w E) (hT : Tabs w) => inflate_any t m w E hE hT ht)
  unfold maxLen at hs
  clear hE hTb
  have skip : (500 < s.size ∨ times < 1 ∨ 400 < times) → Calls Tryd.prog 3 #[.string s, .int .i64 times] w fun e w' => e = .returned (.bool true) ∧ Ext w w' := by
    intro h
    by_cases h1 : 500 < s.size
    · have h1I : (500 : Int) < (s.size : Int) := by omega
      have t1 : decide ((500 : Int) < (s.size : Int)) = true := decide_eq_true h1I
      go_enter Tryd.func3, Tryd.ntmps3
      go_wp2_with fail
      refine (HBl.out _).mono ?_
      rintro e w1 ⟨rfl, h1⟩
      have X1 := Lib.hid (h1)
      clear h1
      go_wp2_with fail
      go_ret
      exact ⟨rfl, X1.out⟩
    · have t1 : decide ((500 : Int) < (s.size : Int)) = false := decide_eq_false (by omega)
      by_cases h2 : times < 1
      · have t2 : decide (times < 1) = true := decide_eq_true h2
        go_enter Tryd.func3, Tryd.ntmps3
        go_wp2_with fail
        refine (HBl.out _).mono ?_
        rintro e w1 ⟨rfl, h1⟩
        have X1 := Lib.hid (h1)
        clear h1
        go_wp2_with fail
        go_ret
        exact ⟨rfl, X1.out⟩
      · have t2 : decide (times < 1) = false := decide_eq_false h2
        have h3 : 400 < times := by omega
        have t3 : decide (400 < times) = true := decide_eq_true h3
        clear h
        go_enter Tryd.func3, Tryd.ntmps3
        go_wp2_with fail
        refine (HBl.out _).mono ?_
        rintro e w1 ⟨rfl, h1⟩
        have X1 := Lib.hid (h1)
        clear h1
        go_wp2_with fail
        go_ret
        exact ⟨rfl, X1.out⟩
  by_cases hq : 500 < s.size ∨ times < 1 ∨ 400 < times
  · exact skip hq
  · clear skip
    obtain ⟨m, rfl⟩ : ∃ m : Nat, times = m := ⟨times.toNat, by omega⟩
    have hs5 : s.size ≤ 500 := by omega
    have hm : 1 ≤ m ∧ m ≤ 400 := by omega
    have t1 : decide ((500 : Int) < (s.size : Int)) = false := decide_eq_false (by omega)
    have t2 : decide ((m : Int) < 1) = false := decide_eq_false (by omega)
    have t3 : decide ((400 : Int) < (m : Int)) = false := decide_eq_false (by omega)
    have n1 : ¬ 500 < s.size := by omega
    have n3 : ¬ 400 < m := by omega
    have n2 : ¬ m < 1 := by omega
    clear hq
    go_enter Tryd.func3, Tryd.ntmps3
    go_wp2_with fail
    refine (HBl.out _).mono ?_
    rintro e w1 ⟨rfl, h1⟩
    have X1 := Lib.hid (h1)
    clear h1
    go_wp2_with fail
    clear t1 t2 t3 n1 n2 n3
    go_loopw [6, 7] (fun u c wr => ∃ (T : ByteArray) (i : Nat), u = .string T ∧ c = .int .i64 (i : Int) ∧ i ≤ m ∧ T.size ≤ 500 * i ∧ Hid (Ext w wr)) (fun _ c _ => m - (intOf c).toNat)
    case atStart => exact ⟨⟨#[]⟩, 0, rfl, rfl, by omega, Nat.zero_le _, X1⟩
    case round =>
      clear X1
      obtain ⟨T, i, rfl, rfl, him, hT, X1⟩ := hrel
      by_cases hlt : i < m
      · have t1 : decide ((i : Int) < (m : Int)) = true := decide_eq_true (by omega)
        have n1 : i < m := hlt
        have q1 : ¬ 9223372036854775807 < T.size + s.size := by omega
        have wi : ∀ z, z = (i : Int) + 1 → IntKind.i64.wrap z = z := by rintro _ rfl; rw [IntKind.wrap_i64]; omega
        go_wp2_with fail
        go_roundw
        case rel => exact ⟨T ++ s, i + 1, rfl, by go_num, by omega, by rw [ByteArray.size_append]; omega, X1⟩
        case measure => simp [intOf]; omega
      · obtain rfl : i = m := by omega
        have t1 : decide ((i : Int) < (i : Int)) = false := decide_eq_false (by omega)
        have hTb2 : T.size ≤ 200000 := by omega
        obtain ⟨bl, hbl⟩ := infl_sto T (by omega)
        have hAl := Sto.all_length (T.size + 1) T.data.toList
        rw [list_size] at hAl
        obtain ⟨A, hA⟩ : ∃ A, Sto.all (T.size + 1) T.data.toList = A := ⟨_, rfl⟩
        have HS2 := Lib.hid (HS.out T (by omega))
        have HO2 := Lib.hid (HO.out T (by omega))
        rw [hA] at hbl hAl HS2 HO2
        obtain ⟨U, hU⟩ : ∃ U, tb A = U := ⟨_, rfl⟩
        have hUs : U.size = A.length := by rw [← hU, tb_size]
        rw [hU] at hbl HS2 HO2
        have hTT : tb T.data.toList = T := bts_ext (by rw [tb_list])
        have HI2 := Lib.hid (HI.out U (T.size : Int) (by unfold maxLen; omega))
        rw [hbl] at HI2
        unfold InfPost at HI2
        simp only [hTT, ← hUs] at HI2
        clear hA hU hbl hTT hAl hUs HS HO HI
        have e1 : (U.toList == U.toList) = true := beq_self_eq_true _
        have e2 : (T.toList == T.toList) = true := beq_self_eq_true _
        go_wp2_with fail
        refine (HS2.out _).mono ?_
        rintro e w2 ⟨rfl, h2⟩
        have X2 := Lib.hid (X1.out.trans h2)
        clear h2
        go_wp2_with fail
        refine (HO2.out _).mono ?_
        rintro e w3 ⟨rfl, h3⟩
        have X3 := Lib.hid (X2.out.trans h3)
        clear h3
        go_wp2_with fail
        refine (HI2.out _ (HE.out.ext X3.out) (HTb.out.ext X3.out)).mono ?_
        rintro e w4 ⟨h4, rfl⟩
        have X4 := Lib.hid (X3.out.trans h4)
        clear h4
        go_wp2_with fail
        go_ret
        exact ⟨rfl, X4.out⟩
end Go.Proofs.YtnhbjgmfbcedaaaDoor
namespace Go.Proofs.YtnhbjgmfbcedaaaDoor
open Go.RowKit Go.ChangeShapes
set_option linter.unusedSimpArgs false
set_option maxRecDepth 100000
def tabD (n : String) (zs : List Nat) : List (String × DataW Unit) := [(n, Lib.tabData .i64 (zs.map fun z => ((z : Nat) : Int)))]
theorem tab_row {l : List (String × DataW Unit)} {W : World} {n : String} {g m : Nat} {t : TypeId} {zs : List Nat} (h : laidMetH Tryd.prog l W) (hl : l.filter (fun x => x.1 == n) = tabD n zs)
    (hm : laidMetH Tryd.prog (tabD n zs) W = laidMet Tryd.prog (tabD n zs) W) (hg : Tryd.prog.globalNamed n = some g) (hty : (Tryd.prog.globals[g]?).map (·.type) = some t) (ht : Tryd.prog.underlying t = some (.array m 3)) (hct : Tryd.prog.cellsOf t = m) (hlen : zs.length = m) :
    ∀ k, k < m → W.cell? ⟨g, k, none⟩ = some (.int .i64 ((zs.getD k 0 : Nat) : Int)) := by
  have h1 := laidMetH.filter (fun x => x.1 == n) h
  rw [hl, hm] at h1
  have hT := Lib.tabIs_of_head (rest := []) hg hty ht Tryd.underlying3 (by kernel_rfl) hct h1
  intro k hk
  have := hT.cell hg k (by simp; omega)
  rw [this]
  simp [List.getD, hlen, hk]
theorem tabs_of_laid {l : List (String × DataW Unit)} {W : World} (h : laidMetH Tryd.prog l W)
    (h1 : l.filter (fun x => x.1 == "layercake/inflate.Lens") = tabD "layercake/inflate.Lens" Inf.lensL) (h2 : l.filter (fun x => x.1 == "layercake/inflate.LenBits") = tabD "layercake/inflate.LenBits" Inf.lensB)
    (h3 : l.filter (fun x => x.1 == "layercake/inflate.Dists") = tabD "layercake/inflate.Dists" Inf.distsL) (h4 : l.filter (fun x => x.1 == "layercake/inflate.DistBits") = tabD "layercake/inflate.DistBits" Inf.distsB)
    (h5 : l.filter (fun x => x.1 == "layercake/inflate.Order") = tabD "layercake/inflate.Order" Inf.orderL) : Tabs W :=
  ⟨tab_row h h1 rfl (by kernel_rfl) (by kernel_rfl) Tryd.underlying152 (by kernel_rfl) rfl,
   tab_row h h2 rfl (by kernel_rfl) (by kernel_rfl) Tryd.underlying152 (by kernel_rfl) rfl,
   tab_row h h3 rfl (by kernel_rfl) (by kernel_rfl) Tryd.underlying153 (by kernel_rfl) rfl,
   tab_row h h4 rfl (by kernel_rfl) (by kernel_rfl) Tryd.underlying153 (by kernel_rfl) rfl,
   tab_row h h5 rfl (by kernel_rfl) (by kernel_rfl) Tryd.underlying129 (by kernel_rfl) rfl⟩
end Go.Proofs.YtnhbjgmfbcedaaaDoor
namespace Go.Proofs.YtnhbjgmfbcedaaaDoor
open Go.ChangeShapes Go.WideShapes Go.ChangeAt Go.RowKit
set_option linter.unusedSimpArgs false
theorem law_readAll {H : Type} {enc : TypeId × Value → H} {P : Program} (hl : laidOutB P = true) {W W' : World} (sp : Nat → Bool) (hB : Below W.heap.size W W') :
    ∀ (ts : List TypeId) (vs : List Value) (ds : List (DataW H)) (ps : List MemPlace),
      (∀ t ∈ ts, P.readableRec t = true ∧ t < P.types.size) → (∀ p ∈ ps, p.block < W.heap.size) → (∀ p ∈ ps, sp p.block = true) →
      DataW.TrodAll enc P W 0 (fun _ => true) true ts vs ds ps → DataW.TrodAll enc P W' 0 sp true ts vs ds ps
  | [], [], [], _, _, _, _, h => h
  | t :: ts, v :: vs, d :: ds, ps, hr, hlt, hsp, h => by
    obtain ⟨p, q, h1, h2, rfl⟩ := h
    have ht := hr t (List.mem_cons_self ..)
    refine ⟨p, q, ?_, ?_, rfl⟩
    · exact WideElems.Trod_stays hl ht.1 ht.2 h1 (fun x hx => hB.same (hlt x (List.mem_append_left _ hx))) (fun x hx => hsp x (List.mem_append_left _ hx))
    · exact law_readAll hl sp hB ts vs ds q (fun t' ht' => hr t' (List.mem_cons_of_mem _ ht')) (fun x hx => hlt x (List.mem_append_right _ hx)) (fun x hx => hsp x (List.mem_append_right _ hx)) h2
  | [], [], _ :: _, _, _, _, _, h => h.elim
  | [], _ :: _, _, _, _, _, _, h => h.elim
  | _ :: _, [], _, _, _, _, _, h => h.elim
  | _ :: _, _ :: _, [], _, _, _, _, h => h.elim
theorem law_post {H : Type} {enc : TypeId × Value → H} {P : Program} (hl : laidOutB P = true) {f : Func} {s : ChangeSpec} {apart fresh handsOn : Bool} {W W' : World} {args : Array Value} {ds : List (DataW H)} {before : List MemPlace} {tb : TypeId}
    (hW : DataW.Whole enc P f.params.toList s.vars apart W args.toList ds [] before) (hv : s.vars = [])
    (hfn : s.fn H (ds ++ []) = { results := [.lit (.bool true)], args := ds })
    (hread : f.params.toList.all (fun t => P.readableRec t && decide (t < P.types.size)) = true)
    (hres : f.resultTypes = #[tb]) (hb : P.underlying tb = some .bool) (hB : Below W.heap.size W W') :
    s.post enc P f apart fresh handsOn false W args (.bool true) W' := by
  have hlt : ∀ p ∈ before, p.block < W.heap.size := fun p hp => hW.lt p hp
  have hr : ∀ t ∈ f.params.toList, P.readableRec t = true ∧ t < P.types.size := by
    intro t ht
    have := List.all_eq_true.1 hread t ht
    simpa using this
  have hW0 := hW
  obtain ⟨p, q, hA, hV, hpq, hfz, hnd⟩ := hW
  rw [hv] at hV
  have hq : q = [] := by simpa [DataW.TrodVars] using hV
  subst hq
  rw [List.append_nil] at hpq
  subst hpq
  have hargs : ∀ sp : Nat → Bool, (∀ x ∈ before, sp x.block = true) → DataW.TrodAll enc P W' 0 sp true f.params.toList args.toList ds before :=
    fun sp hsp => law_readAll hl sp hB _ _ _ _ hr hlt hsp hA
  have hold : ∀ x ∈ before, (fun b => decide (b < W.heap.size)) x.block = true := fun x hx => by simpa using hlt x hx
  have hresults : ∀ (b : Nat) (sp : Nat → Bool) (hd : Bool), DataW.TrodAll enc P W' b sp hd f.resultTypes.toList ((Value.bool true).resultList f.resultTypes.size) [.lit (.bool true)] [] := by
    intro b sp hd
    rw [hres]
    exact trodAll_mk1 (shut_bool hb true)
  refine ⟨ds, [], before, [], before, [], hW0, ?_, ?_, ?_, World.keptBut_mono (fun x hx => ⟨hx, ?_⟩) (hB.frame (· ∈ before)), fun _ => ?_⟩
  · rw [hfn]; exact hresults _ _ _
  · rw [hfn]; exact hargs _ hold
  · rw [hfn, hv]; rfl
  · exact Or.inr (Or.inl hx)
  · cases ‹false = true›
end Go.Proofs.YtnhbjgmfbcedaaaDoor
