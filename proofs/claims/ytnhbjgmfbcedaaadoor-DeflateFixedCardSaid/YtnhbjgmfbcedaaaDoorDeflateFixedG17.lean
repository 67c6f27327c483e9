/-
  The document's ExpandOf.
  faulted: an error's number and place.
  The laws' rows of tokens: tokens, wide.
  DeflateFixed's walk.
  The tables of package inflate, out of what a row lists.
  The package's errors, out of what a row lists.
  An argument that is a row of tokens, opened.
  The last step of every law's row, once: a call that returns true and turns nothing that was there meets the row's post.
-/
import Derived.Test.YtnhbjgmfbcedaaaDoorDeflateFixedG10
import Derived.Deep.RegionHeld3
import Derived.RegionTactic
import Derived.Test.YtnhbjgmfbcedaaaDoorDeflateFixedG2
import Derived.Laws.AppendOwnNone
import Derived.Test.YtnhbjgmfbcedaaaDoorDeflateFixedG12
import Derived.Test.YtnhbjgmfbcedaaaDoorDeflateFixedG16
import Derived.Test.YtnhbjgmfbcedaaaDoorDeflateFixedG5
import Derived.Lib.LaidTab
import Derived.LaidHandle
import Derived.LaidSub
import Derived.Stop.LaidTwo
import Derived.Test.YtnhbjgmfbcedaaaDoorDeflateFixedG4
import Derived.Test.YtnhbjgmfbcedaaaDoorDeflateFixedG1
import Derived.Lib.SmallJoins
import Derived.Test.YtnhbjgmfbcedaaaDoorRows
import Derived.ProofKit
import Derived.ShutString
import Derived.Below
import Derived.OpenShut
namespace Go.Proofs.YtnhbjgmfbcedaaaDoor
open Go.RowKit
set_option linter.unusedSimpArgs false
set_option linter.unusedVariables false
set_option maxRecDepth 100000
def ExpOfPost (w w' : World) (r : XRes) (e : Ending) : Prop :=
  Ext w w' ∧ ((∃ out, r = .ok out ∧ e = .returned (.tuple #[.string ⟨out.toArray⟩, .agg #[.int .i64 0, .int .i64 (-1)]])) ∨ (∃ c i : Nat, c < 9 ∧ r = .bad c i ∧ e = .returned (.tuple #[.string ⟨#[]⟩, .agg #[.int .i64 ((c : Int) + 1), .int .i64 (i : Int)]])))
theorem fine_any (w : World) : Calls Tryd.prog 58 #[] w fun e w' => e = .returned (.agg #[.int .i64 0, .int .i64 (-1)]) ∧ Ext w w' := by
  go_enter Tryd.func58, Tryd.ntmps58
  go_wp2
  exact bodyPost_ret (v := .agg #[.int .i64 0, .int .i64 (-1)]) (by simp [results, Tryd.results58, go_sem]) rfl ⟨rfl, by repeat (first | exact Ext.refl _ | refine Ext.alloc ?_ _ | refine Below.setCell ?_ (by simp <;> omega) _)⟩
theorem flt_set {w0 w : World} {b : Nat} {x y x' y' : Value} (hX : Ext w0 w) (hb : w0.heap.size ≤ b) (hB : Bk w b #[x, y]) :
    Ext w0 ((w.setCell ⟨b, 0, none⟩ x').setCell ⟨b, 1, none⟩ y') ∧ Bk ((w.setCell ⟨b, 0, none⟩ x').setCell ⟨b, 1, none⟩ y') b #[x', y'] :=
  ⟨(Below.setCell hX hb _).setCell hb _, (hB.set_ 0 x').set_ 1 y'⟩
set_option linter.unusedSimpArgs false in
set_option maxHeartbeats 4000000 in
theorem expandOf_any (x : Option Addr) (n cap : Nat) (tk : Nat → Tk) (w : World) (hx : Toks w x n tk) (hn : n ≤ maxLen) :
    Calls Tryd.prog 25 #[.slice x n cap] w fun e w' => ExpOfPost w w' (expL tk n) e := by
  have HX := Lib.hid hx
  clear hx
  unfold maxLen at hn
  obtain ⟨i0, hi0, hz0, hz1, hz2⟩ := info_parts byteinf
  go_enter Tryd.func25, Tryd.ntmps25
  go_wp2_with fail
  refine wp_world (fun wz => Ext w wz ∧ wz.heap.size = w.heap.size + 1 ∧ Bk wz (w.heap.size) #[.int .i64 0, .int .i64 0]) ⟨by repeat (first | exact Ext.refl _ | refine Ext.alloc ?_ _), by simp, by repeat (first | exact Bk.at (by simp) | refine Bk.old ?_)⟩ ?_
  rintro w1 ⟨hX, hZ, hB0⟩
  have XA := Lib.hid hX
  have BA := Lib.hid hB0
  have SZ := Lib.hid hZ
  clear hX hB0 hZ
  go_loopw [4, 5] (fun v c wr => ∃ (k : Nat) (out : List UInt8), k ≤ n ∧ c = .int .i64 k ∧ Hid (expL tk k = .ok out) ∧ Hid (wr.ownsRow w1.heap.size 5 1 v (out).length (bytesV (out))) ∧ Hid (Ext w1 wr)) (fun _ c _ => n - (intOf c).toNat)
  case atStart => exact ⟨0, [], by omega, rfl, Lib.hid rfl, Lib.hid (World.ownsRow_nil _ _ _ _), Lib.hid (Ext.refl _)⟩
  case round =>
    obtain ⟨k, out, hk, rfl, HL, HR, HW⟩ := hrel
    have hlen := expL_len HL.out
    by_cases hlt : k < n
    · obtain ⟨a, rfl⟩ := HX.out.isSome hlt
      obtain ⟨c0, c1, c2, okl, okd⟩ := (HX.out.ext (XA.out.trans HW.out)).2 a rfl k hlt
      have HSt := Lib.hid (expL_succ HL.out)
      have HBad := Lib.hid (fun c (h : stepX (tk k) k out = .bad c k) => expL_bad HL.out h hlt)
      generalize tk k = t at c0 c1 c2 okl okd HSt HBad
      obtain ⟨b, l, d⟩ := t
      simp only at c0 c1 c2 okl okd
      obtain ⟨l1, l2⟩ := okl
      obtain ⟨d1_, d2_⟩ := okd
      obtain ⟨L, hL⟩ : ∃ L, out.length = L := ⟨_, rfl⟩
      rw [hL] at HR hlen
      have HLL := Lib.hid hL
      clear hL
      obtain ⟨xo, co, rfl⟩ := row_lit HR.out
      have hsz : w1.heap.size ≤ wr.heap.size := HW.out.size
      by_cases q_l0 : l = 0
      · have t0_l0 : ((l == 0)) = true := beq_iff_eq.2 q_l0
        have t1_l0 : ((l != 0)) = false := by rw [q_l0]; rfl
        by_cases q_d0 : d = 0
        · have t0_d0 : ((d == 0)) = true := beq_iff_eq.2 q_d0
          have t1_d0 : ((d != 0)) = false := by rw [q_d0]; rfl
          have HLit : Hid (litP ⟨b, l, d⟩) := Lib.hid ⟨q_l0, q_d0⟩
          by_cases qb : 300000 < L + 1
          · have tq : decide ((300000 : Int) < (L : Int) + 1) = true := decide_eq_true (by omega)
            have HB : Hid (expL tk n = .bad 1 k) := Lib.hid (HBad.out 1 (stepX_lit_no HLit.out (by rw [HLL.out]; exact qb)))
            have XW := Lib.hid (XA.out.trans (HW.out.alloc (.cells #[.int .u8 (b.toNat : Int), .int .i64 l, .int .i64 d] 84)))
            have BW := Lib.hid (BA.out.ext (HW.out.alloc (.cells #[.int .u8 (b.toNat : Int), .int .i64 l, .int .i64 d] 84)))
            have r0 := BW.out.cell 0
            have s0 := BW.out.frozen 0
            have r1 := BW.out.cell 1
            have s1 := BW.out.frozen 1
            have FS := Lib.hid (flt_set (x' := .int .i64 2) (y' := .int .i64 (k : Int)) XW.out (Nat.le_refl _) BW.out)
            clear HSt HBad HL HR HLL
            clear q_l0 q_d0
            go_wp2_with fail
            obtain ⟨u0, u1⟩ : _ ∧ _ := ⟨FS.out.2.cell 0, FS.out.2.cell 1⟩
            exact bodyPost_ret (v := .tuple #[.string ⟨#[]⟩, .agg #[.int .i64 2, .int .i64 (k : Int)]]) (by simp [results, Tryd.results25, go_sem, u0, u1]) rfl ⟨FS.out.1, .inr ⟨1, k, by decide, HB.out, rfl⟩⟩
          · have tq : decide ((300000 : Int) < (L : Int) + 1) = false := decide_eq_false (by omega)
            have HS2 := Lib.hid (HSt.out.trans (stepX_lit HLit.out (by rw [HLL.out]; omega)))
            clear HSt HBad HL q_l0 q_d0 HLit
            go_wp2_with (at_builtin; refine wpList_append_own_at _ rfl _ _ 61 rfl w1.heap.size 5 i0 (.int .u8 0) 1 1 Tryd.underlying61 hi0 hz0 hz1 hz2 rfl (by decide) _ _ _ rfl ((HR.out.alloc _).alloc _) ⟨wr.heap.size + 1, 0, none⟩ 1 1 [.int .u8 (b.toNat : Int)] rfl rfl ?c1 (cells_one1 _) ?c3 ?c4 ?c5 ?_)
            case c3 => unfold maxLen; omega
            case c4 => omega
            case c5 => first | omega | (simp; omega)
            intro v' w2 hown hgrow _ _
            have hRR : ((wr.alloc (.cells #[.int .u8 (b.toNat : Int), .int .i64 l, .int .i64 d] 84)).alloc (.cells #[.int .u8 (b.toNat : Int)] 5)).ownsRow w1.heap.size 5 1 (.slice xo L co) out.length (bytesV out) := by rw [HLL.out]; exact (HR.out.alloc _).alloc _
            have P := row_push ((HW.out.alloc _).alloc _) hRR hgrow (by rw [HLL.out]; exact hown)
            have P1 := Lib.hid P.1
            have P2 := Lib.hid P.2
            clear P hown hgrow hRR c0 c1 c2
            go_wp2_with fail
            refine wp_loop_rounds 1 ?_
            rw [rounds_succ]
            go_wp2_with fail
            go_roundw
            case rel => exact ⟨k + 1, out ++ [b], by omega, by go_num, HS2, P1, P2⟩
            case measure => simp [intOf]; omega
        · have t0_d0 : ((d == 0)) = false := beq_eq_false_iff_ne.2 q_d0
          have t1_d0 : ((d != 0)) = true := bne_iff_ne.2 q_d0
          have HNL : Hid (¬ litP ⟨b, l, d⟩) := Lib.hid (fun h => q_d0 h.2)
          by_cases q_b0 : b ≠ 0
          · have t0_b0 : (((b.toNat : Int) == 0)) = false := beq_eq_false_iff_ne.2 (fun e => q_b0 (UInt8.toNat_inj.1 (by simpa using e)))
            have HB : Hid (expL tk n = .bad 2 k) := Lib.hid (HBad.out 2 (stepX_bad HNL.out (by rw [HLL.out]; exact .inl q_b0)))
            have XW := Lib.hid (XA.out.trans (HW.out.alloc (.cells #[.int .u8 (b.toNat : Int), .int .i64 l, .int .i64 d] 84)))
            have BW := Lib.hid (BA.out.ext (HW.out.alloc (.cells #[.int .u8 (b.toNat : Int), .int .i64 l, .int .i64 d] 84)))
            have r0 := BW.out.cell 0
            have s0 := BW.out.frozen 0
            have r1 := BW.out.cell 1
            have s1 := BW.out.frozen 1
            have FS := Lib.hid (flt_set (x' := .int .i64 3) (y' := .int .i64 (k : Int)) XW.out (Nat.le_refl _) BW.out)
            clear HSt HBad HL HR HLL
            clear q_l0 q_d0 q_b0
            go_wp2_with fail
            obtain ⟨u0, u1⟩ : _ ∧ _ := ⟨FS.out.2.cell 0, FS.out.2.cell 1⟩
            exact bodyPost_ret (v := .tuple #[.string ⟨#[]⟩, .agg #[.int .i64 3, .int .i64 (k : Int)]]) (by simp [results, Tryd.results25, go_sem, u0, u1]) rfl ⟨FS.out.1, .inr ⟨2, k, by decide, HB.out, rfl⟩⟩
          · have t0_b0 : (((b.toNat : Int) == 0)) = true := by have e : b = 0 := Classical.not_not.1 q_b0; subst e; rfl
            have q_l3 : l < 3 := by omega
            have t0_l3 : decide ((3 : Int) ≤ l) = false := decide_eq_false (by omega)
            have HB : Hid (expL tk n = .bad 2 k) := Lib.hid (HBad.out 2 (stepX_bad HNL.out (by rw [HLL.out]; exact .inr (.inl q_l3))))
            have XW := Lib.hid (XA.out.trans (HW.out.alloc (.cells #[.int .u8 (b.toNat : Int), .int .i64 l, .int .i64 d] 84)))
            have BW := Lib.hid (BA.out.ext (HW.out.alloc (.cells #[.int .u8 (b.toNat : Int), .int .i64 l, .int .i64 d] 84)))
            have r0 := BW.out.cell 0
            have s0 := BW.out.frozen 0
            have r1 := BW.out.cell 1
            have s1 := BW.out.frozen 1
            have FS := Lib.hid (flt_set (x' := .int .i64 3) (y' := .int .i64 (k : Int)) XW.out (Nat.le_refl _) BW.out)
            clear HSt HBad HL HR HLL
            clear q_l0 q_d0 q_b0 q_l3
            go_wp2_with fail
            obtain ⟨u0, u1⟩ : _ ∧ _ := ⟨FS.out.2.cell 0, FS.out.2.cell 1⟩
            exact bodyPost_ret (v := .tuple #[.string ⟨#[]⟩, .agg #[.int .i64 3, .int .i64 (k : Int)]]) (by simp [results, Tryd.results25, go_sem, u0, u1]) rfl ⟨FS.out.1, .inr ⟨2, k, by decide, HB.out, rfl⟩⟩
      · have t0_l0 : ((l == 0)) = false := beq_eq_false_iff_ne.2 q_l0
        have t1_l0 : ((l != 0)) = true := bne_iff_ne.2 q_l0
        have HNL : Hid (¬ litP ⟨b, l, d⟩) := Lib.hid (fun h => q_l0 h.1)
        by_cases q_b0 : b ≠ 0
        · have t0_b0 : (((b.toNat : Int) == 0)) = false := beq_eq_false_iff_ne.2 (fun e => q_b0 (UInt8.toNat_inj.1 (by simpa using e)))
          have HB : Hid (expL tk n = .bad 2 k) := Lib.hid (HBad.out 2 (stepX_bad HNL.out (by rw [HLL.out]; exact .inl q_b0)))
          have XW := Lib.hid (XA.out.trans (HW.out.alloc (.cells #[.int .u8 (b.toNat : Int), .int .i64 l, .int .i64 d] 84)))
          have BW := Lib.hid (BA.out.ext (HW.out.alloc (.cells #[.int .u8 (b.toNat : Int), .int .i64 l, .int .i64 d] 84)))
          have r0 := BW.out.cell 0
          have s0 := BW.out.frozen 0
          have r1 := BW.out.cell 1
          have s1 := BW.out.frozen 1
          have FS := Lib.hid (flt_set (x' := .int .i64 3) (y' := .int .i64 (k : Int)) XW.out (Nat.le_refl _) BW.out)
          clear HSt HBad HL HR HLL
          clear q_l0 q_b0
          go_wp2_with fail
          obtain ⟨u0, u1⟩ : _ ∧ _ := ⟨FS.out.2.cell 0, FS.out.2.cell 1⟩
          exact bodyPost_ret (v := .tuple #[.string ⟨#[]⟩, .agg #[.int .i64 3, .int .i64 (k : Int)]]) (by simp [results, Tryd.results25, go_sem, u0, u1]) rfl ⟨FS.out.1, .inr ⟨2, k, by decide, HB.out, rfl⟩⟩
        · have t0_b0 : (((b.toNat : Int) == 0)) = true := by have e : b = 0 := Classical.not_not.1 q_b0; subst e; rfl
          by_cases q_l3 : l < 3
          · have t0_l3 : (decide ((3 : Int) ≤ l)) = false := decide_eq_false (by omega)
            have HB : Hid (expL tk n = .bad 2 k) := Lib.hid (HBad.out 2 (stepX_bad HNL.out (by rw [HLL.out]; exact .inr (.inl q_l3))))
            have XW := Lib.hid (XA.out.trans (HW.out.alloc (.cells #[.int .u8 (b.toNat : Int), .int .i64 l, .int .i64 d] 84)))
            have BW := Lib.hid (BA.out.ext (HW.out.alloc (.cells #[.int .u8 (b.toNat : Int), .int .i64 l, .int .i64 d] 84)))
            have r0 := BW.out.cell 0
            have s0 := BW.out.frozen 0
            have r1 := BW.out.cell 1
            have s1 := BW.out.frozen 1
            have FS := Lib.hid (flt_set (x' := .int .i64 3) (y' := .int .i64 (k : Int)) XW.out (Nat.le_refl _) BW.out)
            clear HSt HBad HL HR HLL
            clear q_l0 q_b0 q_l3
            go_wp2_with fail
            obtain ⟨u0, u1⟩ : _ ∧ _ := ⟨FS.out.2.cell 0, FS.out.2.cell 1⟩
            exact bodyPost_ret (v := .tuple #[.string ⟨#[]⟩, .agg #[.int .i64 3, .int .i64 (k : Int)]]) (by simp [results, Tryd.results25, go_sem, u0, u1]) rfl ⟨FS.out.1, .inr ⟨2, k, by decide, HB.out, rfl⟩⟩
          · have t0_l3 : (decide ((3 : Int) ≤ l)) = true := decide_eq_true (by omega)
            by_cases q_l258 : 258 < l
            · have t0_l258 : (decide (l ≤ 258)) = false := decide_eq_false (by omega)
              have HB : Hid (expL tk n = .bad 2 k) := Lib.hid (HBad.out 2 (stepX_bad HNL.out (by rw [HLL.out]; exact .inr (.inr (.inl q_l258)))))
              have XW := Lib.hid (XA.out.trans (HW.out.alloc (.cells #[.int .u8 (b.toNat : Int), .int .i64 l, .int .i64 d] 84)))
              have BW := Lib.hid (BA.out.ext (HW.out.alloc (.cells #[.int .u8 (b.toNat : Int), .int .i64 l, .int .i64 d] 84)))
              have r0 := BW.out.cell 0
              have s0 := BW.out.frozen 0
              have r1 := BW.out.cell 1
              have s1 := BW.out.frozen 1
              have FS := Lib.hid (flt_set (x' := .int .i64 3) (y' := .int .i64 (k : Int)) XW.out (Nat.le_refl _) BW.out)
              clear HSt HBad HL HR HLL
              clear q_l0 q_b0 q_l3 q_l258
              go_wp2_with fail
              obtain ⟨u0, u1⟩ : _ ∧ _ := ⟨FS.out.2.cell 0, FS.out.2.cell 1⟩
              exact bodyPost_ret (v := .tuple #[.string ⟨#[]⟩, .agg #[.int .i64 3, .int .i64 (k : Int)]]) (by simp [results, Tryd.results25, go_sem, u0, u1]) rfl ⟨FS.out.1, .inr ⟨2, k, by decide, HB.out, rfl⟩⟩
            · have t0_l258 : (decide (l ≤ 258)) = true := decide_eq_true (by omega)
              by_cases q_d1 : d < 1
              · have t0_d1 : (decide (d < 1)) = true := decide_eq_true q_d1
                have HB : Hid (expL tk n = .bad 2 k) := Lib.hid (HBad.out 2 (stepX_bad HNL.out (by rw [HLL.out]; exact .inr (.inr (.inr (.inl q_d1))))))
                have XW := Lib.hid (XA.out.trans (HW.out.alloc (.cells #[.int .u8 (b.toNat : Int), .int .i64 l, .int .i64 d] 84)))
                have BW := Lib.hid (BA.out.ext (HW.out.alloc (.cells #[.int .u8 (b.toNat : Int), .int .i64 l, .int .i64 d] 84)))
                have r0 := BW.out.cell 0
                have s0 := BW.out.frozen 0
                have r1 := BW.out.cell 1
                have s1 := BW.out.frozen 1
                have FS := Lib.hid (flt_set (x' := .int .i64 3) (y' := .int .i64 (k : Int)) XW.out (Nat.le_refl _) BW.out)
                clear HSt HBad HL HR HLL
                clear q_l0 q_b0 q_l3 q_l258 q_d1
                go_wp2_with fail
                obtain ⟨u0, u1⟩ : _ ∧ _ := ⟨FS.out.2.cell 0, FS.out.2.cell 1⟩
                exact bodyPost_ret (v := .tuple #[.string ⟨#[]⟩, .agg #[.int .i64 3, .int .i64 (k : Int)]]) (by simp [results, Tryd.results25, go_sem, u0, u1]) rfl ⟨FS.out.1, .inr ⟨2, k, by decide, HB.out, rfl⟩⟩
              · have t0_d1 : (decide (d < 1)) = false := decide_eq_false q_d1
                by_cases q_d32 : 32768 < d
                · have t0_d32 : (decide (32768 < d)) = true := decide_eq_true q_d32
                  have HB : Hid (expL tk n = .bad 2 k) := Lib.hid (HBad.out 2 (stepX_bad HNL.out (by rw [HLL.out]; exact .inr (.inr (.inr (.inr (.inl q_d32)))))))
                  have XW := Lib.hid (XA.out.trans (HW.out.alloc (.cells #[.int .u8 (b.toNat : Int), .int .i64 l, .int .i64 d] 84)))
                  have BW := Lib.hid (BA.out.ext (HW.out.alloc (.cells #[.int .u8 (b.toNat : Int), .int .i64 l, .int .i64 d] 84)))
                  have r0 := BW.out.cell 0
                  have s0 := BW.out.frozen 0
                  have r1 := BW.out.cell 1
                  have s1 := BW.out.frozen 1
                  have FS := Lib.hid (flt_set (x' := .int .i64 3) (y' := .int .i64 (k : Int)) XW.out (Nat.le_refl _) BW.out)
                  clear HSt HBad HL HR HLL
                  clear q_l0 q_b0 q_l3 q_l258 q_d1 q_d32
                  go_wp2_with fail
                  obtain ⟨u0, u1⟩ : _ ∧ _ := ⟨FS.out.2.cell 0, FS.out.2.cell 1⟩
                  exact bodyPost_ret (v := .tuple #[.string ⟨#[]⟩, .agg #[.int .i64 3, .int .i64 (k : Int)]]) (by simp [results, Tryd.results25, go_sem, u0, u1]) rfl ⟨FS.out.1, .inr ⟨2, k, by decide, HB.out, rfl⟩⟩
                · have t0_d32 : (decide (32768 < d)) = false := decide_eq_false q_d32
                  by_cases q_dL : (L : Int) < d
                  · have t0_dL : (decide ((L : Int) < d)) = true := decide_eq_true q_dL
                    have HB : Hid (expL tk n = .bad 2 k) := Lib.hid (HBad.out 2 (stepX_bad HNL.out (by rw [HLL.out]; exact .inr (.inr (.inr (.inr (.inr (q_dL))))))))
                    have XW := Lib.hid (XA.out.trans (HW.out.alloc (.cells #[.int .u8 (b.toNat : Int), .int .i64 l, .int .i64 d] 84)))
                    have BW := Lib.hid (BA.out.ext (HW.out.alloc (.cells #[.int .u8 (b.toNat : Int), .int .i64 l, .int .i64 d] 84)))
                    have r0 := BW.out.cell 0
                    have s0 := BW.out.frozen 0
                    have r1 := BW.out.cell 1
                    have s1 := BW.out.frozen 1
                    have FS := Lib.hid (flt_set (x' := .int .i64 3) (y' := .int .i64 (k : Int)) XW.out (Nat.le_refl _) BW.out)
                    clear HSt HBad HL HR HLL
                    clear q_l0 q_b0 q_l3 q_l258 q_d1 q_d32 q_dL
                    go_wp2_with fail
                    obtain ⟨u0, u1⟩ : _ ∧ _ := ⟨FS.out.2.cell 0, FS.out.2.cell 1⟩
                    exact bodyPost_ret (v := .tuple #[.string ⟨#[]⟩, .agg #[.int .i64 3, .int .i64 (k : Int)]]) (by simp [results, Tryd.results25, go_sem, u0, u1]) rfl ⟨FS.out.1, .inr ⟨2, k, by decide, HB.out, rfl⟩⟩
                  · have t0_dL : (decide ((L : Int) < d)) = false := decide_eq_false q_dL
                    obtain ⟨l', hl'⟩ : ∃ l' : Nat, l = l' := ⟨l.toNat, by omega⟩
                    obtain ⟨d', hd'⟩ : ∃ d' : Nat, d = d' := ⟨d.toNat, by omega⟩
                    have HNB : Hid (¬ badP ⟨b, l, d⟩ out.length) := Lib.hid (by rw [HLL.out]; unfold badP; simp only [not_or]; exact ⟨q_b0, q_l3, q_l258, q_d1, q_d32, q_dL⟩)
                    have HLI := Lib.hid hl'
                    have HDI := Lib.hid hd'
                    by_cases qb : 300000 < L + l'
                    · have tq : decide ((300000 : Int) < (L : Int) + l) = true := decide_eq_true (by omega)
                      have HB : Hid (expL tk n = .bad 1 k) := Lib.hid (HBad.out 1 (stepX_copy_no HNL.out HNB.out (by exact HLI.out) (by rw [HLL.out]; exact qb)))
                      have XW := Lib.hid (XA.out.trans (HW.out.alloc (.cells #[.int .u8 (b.toNat : Int), .int .i64 l, .int .i64 d] 84)))
                      have BW := Lib.hid (BA.out.ext (HW.out.alloc (.cells #[.int .u8 (b.toNat : Int), .int .i64 l, .int .i64 d] 84)))
                      have r0 := BW.out.cell 0
                      have s0 := BW.out.frozen 0
                      have r1 := BW.out.cell 1
                      have s1 := BW.out.frozen 1
                      have FS := Lib.hid (flt_set (x' := .int .i64 2) (y' := .int .i64 (k : Int)) XW.out (Nat.le_refl _) BW.out)
                      clear HSt HBad HL HR HLL
                      clear q_l0 q_b0 q_d1 q_d32 q_dL hl' hd'
                      go_wp2_with fail
                      obtain ⟨u0, u1⟩ : _ ∧ _ := ⟨FS.out.2.cell 0, FS.out.2.cell 1⟩
                      exact bodyPost_ret (v := .tuple #[.string ⟨#[]⟩, .agg #[.int .i64 2, .int .i64 (k : Int)]]) (by simp [results, Tryd.results25, go_sem, u0, u1]) rfl ⟨FS.out.1, .inr ⟨1, k, by decide, HB.out, rfl⟩⟩
                    · have tq : decide ((300000 : Int) < (L : Int) + l) = false := decide_eq_false (by omega)
                      have HS2 := Lib.hid (HSt.out.trans (stepX_copy HNL.out HNB.out HLI.out HDI.out (by rw [HLL.out]; omega)))
                      clear HSt HBad HL HNL HNB
                      clear q_l0 q_b0 q_d32
                      have hR : wr.ownsRow w1.heap.size 5 1 (.slice xo L co) out.length (bytesV out) := by rw [HLL.out]; exact HR.out
                      have NB0 : Hid ((Value.slice xo L co).ownBlock ≠ some wr.heap.size) := Lib.hid (fun e => by have := (hR.lt _ e).2; omega)
                      have HR0 := Lib.hid (hR.alloc (.cells #[.int .u8 (b.toNat : Int), .int .i64 l, .int .i64 d] 84))
                      have BT0 : Hid (Bk (wr.alloc (.cells #[.int .u8 (b.toNat : Int), .int .i64 l, .int .i64 d] 84)) wr.heap.size #[.int .u8 (b.toNat : Int), .int .i64 l, .int .i64 d]) := Lib.hid (Bk.at rfl)
                      have HW0 := Lib.hid (HW.out.alloc (.cells #[.int .u8 (b.toNat : Int), .int .i64 l, .int .i64 d] 84))
                      clear hR
                      clear hl' hd'
                      go_wp2_with fail
                      clear c0 c1 c2
                      obtain ⟨T, hT⟩ : ∃ T, wr.heap.size = T := ⟨_, rfl⟩
                      rw [hT] at BT0 NB0 ⊢
                      clear hT
                      go_loopw [4, 10] (fun v c wx => ∃ j : Nat, j ≤ l' ∧ c = .int .i64 j ∧ Hid (wx.ownsRow w1.heap.size 5 1 v (copyL out d' j).length (bytesV (copyL out d' j))) ∧ Hid (Ext w1 wx) ∧ Hid (Bk wx T #[.int .u8 (b.toNat : Int), .int .i64 l, .int .i64 d]) ∧ Hid (v.ownBlock ≠ some T)) (fun _ c _ => l' - (intOf c).toNat)
                      case atStart => exact ⟨0, by omega, rfl, HR0, HW0, BT0, NB0⟩
                      case round =>
                        clear HR0 HW0 BT0 NB0 HR
                        obtain ⟨j, hj, rfl, HR, HW2, BT, NB⟩ := hrel
                        by_cases hlj : j < l'
                        · have hl' := HLI.out
                          have hd' := HDI.out
                          obtain ⟨U, hU⟩ : ∃ U, copyL out d' j = U := ⟨_, rfl⟩
                          have HUS : Hid (copyL out d' (j + 1) = U ++ [U.getD (U.length - d') 0]) := Lib.hid (by simp only [copyL, hU])
                          have hUl : U.length = L + j := by rw [← hU, copyL_length, HLL.out]
                          rw [hU] at HR
                          obtain ⟨M, hM⟩ : ∃ M, U.length = M := ⟨_, rfl⟩
                          rw [hM] at HR HUS hUl
                          have HM := Lib.hid hM
                          obtain ⟨y, hy⟩ : ∃ y, U.getD (M - d') 0 = y := ⟨_, rfl⟩
                          rw [hy] at HUS
                          obtain ⟨gb, cp, rfl, _, _⟩ := ownsRow_some HR.out (by omega)
                          obtain ⟨q, hq⟩ : ∃ q : Nat, M - d' = q := ⟨_, rfl⟩
                          have hc : wr.cell? ⟨gb, q, none⟩ = some (.int .u8 (y.toNat : Int)) := by
                            have hql : q < U.length := by omega
                            rw [HR.out.cellAt q (by omega), bytesV_get U q hql, ← hy, hq]
                            simp [List.getD, hql]
                          have hqI : (M : Int) - d = (q : Int) := by omega
                          have tj : decide ((j : Int) < l) = true := decide_eq_true (by omega)
                          have b2 := BT.out.cell 2
                          have hszx : w1.heap.size ≤ wr.heap.size := HW2.out.size
                          have HTl := Lib.hid BT.out.lt
                          have hqM : q < M := by omega
                          have HUU := Lib.hid (And.intro hU hy)
                          have hM2 : M ≤ 300000 := by omega
                          clear hU hy hM hq hUl hl' hd' q_dL q_d1 q_l258 q_l3
                          go_wp2_with (at_builtin; refine wpList_append_own_at _ rfl _ _ 61 rfl w1.heap.size 5 i0 (.int .u8 0) 1 1 Tryd.underlying61 hi0 hz0 hz1 hz2 rfl (by decide) _ _ _ rfl (HR.out.alloc _) ⟨wr.heap.size, 0, none⟩ 1 1 [.int .u8 (y.toNat : Int)] rfl rfl ?e1 (cells_one1 _) ?e3 ?e4 ?e5 ?_)
                          case e1 => exact (cell_one_new _ _ _)
                          case e3 => unfold maxLen; omega
                          case e4 => omega
                          case e5 => first | omega | (simp; omega)
                          intro v' w2 hown hgrow _ hat
                          have hRR : (wr.alloc (.cells #[.int .u8 (y.toNat : Int)] 5)).ownsRow w1.heap.size 5 1 (.slice (some ⟨gb, 0, none⟩) M cp) U.length (bytesV U) := by rw [HM.out]; exact HR.out.alloc _
                          have Q := row_push (HW2.out.alloc _) hRR hgrow (by rw [HM.out]; exact hown)
                          have P1 := Lib.hid Q.1
                          have P2 := Lib.hid Q.2
                          have P3 := Lib.hid ((BT.out.old (o := .cells #[.int .u8 (y.toNat : Int)] 5)).keeps (Keeps.grown hgrow) NB.out)
                          have P4 : Hid (v'.ownBlock ≠ some T) := Lib.hid (by
                            rcases hat with e | e
                            · rw [e]; exact NB.out
                            · rw [e]; intro e2; injection e2 with e2; have q := HTl.out; first | omega | (rw [World.size_alloc] at e2; omega))
                          rw [← HUS.out] at P1
                          clear Q hown hgrow hRR hat hc b2 hqI tj
                          go_wp2_with fail
                          go_roundw
                          case rel => exact ⟨j + 1, by omega, by go_num, P1, P2, P3, P4⟩
                          case measure => simp [intOf]; omega
                        · obtain rfl : j = l' := by omega
                          have tj : decide ((j : Int) < l) = false := decide_eq_false (by have := HLI.out; omega)
                          go_wp2_with fail
                          go_roundw
                          case rel => exact ⟨k + 1, copyL out d' j, by omega, by go_num, HS2, HR, HW2⟩
                          case measure => simp [intOf]; omega
    · obtain rfl : k = n := by omega
      have XW := Lib.hid (XA.out.trans HW.out)
      have BW := Lib.hid (BA.out.ext HW.out)
      go_wp2_with fail
      refine wp_region_held_drew (S := fun w' => w'.ownsRow w1.heap.size 5 1 u4 out.length (bytesV out)) (by kernel_rfl) HR.out (fun hHeld => ?_)
      refine wpAnyH_take (i := 0) (v := ?_) rfl (by kernel_rfl) (by kernel_rfl) (by kernel_rfl) (fun _ _ _ h => h) (Or.inl ⟨by kernel_rfl, ?_⟩) hHeld ?_
      rotate_left
      · intro w hSw
        go_simp
        (try with_reducible rfl)
      try simp only [Act.put, List.getElem_toArray, List.getElem_cons_succ, List.getElem_cons_zero, List.setIfInBounds_toArray, List.set_cons_zero, List.set_cons_succ]
      refine wpAnyH_take (i := 1) (v := ?_) rfl (by kernel_rfl) (by kernel_rfl) (by kernel_rfl) (fun _ _ _ h => h) (Or.inl ⟨by kernel_rfl, ?_⟩) hHeld ?_
      rotate_left
      · intro w hSw
        have hcv := row_conv hSw
        go_simp
        (try with_reducible rfl)
      try simp only [Act.put, List.getElem_toArray, List.getElem_cons_succ, List.getElem_cons_zero, List.setIfInBounds_toArray, List.set_cons_zero, List.set_cons_succ]
      refine wpAnyH_ready (rs := [2]) (by kernel_rfl) (by simp) ?_
      refine AllReadyH.cons rfl (fun KK hK => ?_) AllReadyH.nil
      clear hHeld
      go_simp
      refine (fine_any _).mono ?_
      rintro e w2 ⟨rfl, hx⟩
      have hf : Ext wr w2 := ⟨hx.os, hx.tape, hx.output, hx.size, hx.block⟩
      clear hx
      go_simp
      refine hK.out _ _ (ownsRow_kept (S := fun _ => False) HR.out (Ext.keeps (a := wr) hf) (fun _ _ => id)) (fun hHeld => ?_)
      clear hK KK
      try simp only [Act.put, List.getElem_toArray, List.getElem_cons_succ, List.getElem_cons_zero, List.setIfInBounds_toArray, List.set_cons_zero, List.set_cons_succ]
      refine wpAnyH_take (i := 3) (v := ?_) rfl (by kernel_rfl) (by kernel_rfl) (by kernel_rfl) (fun _ _ _ h => h) (Or.inl ⟨by kernel_rfl, ?_⟩) hHeld ?_
      rotate_left
      · intro w hSw
        go_simp
        (try with_reducible rfl)
      try simp only [Act.put, List.getElem_toArray, List.getElem_cons_succ, List.getElem_cons_zero, List.setIfInBounds_toArray, List.set_cons_zero, List.set_cons_succ]
      have XW2 := Lib.hid (XW.out.trans hf)
      have BW2 := Lib.hid (BW.out.ext hf)
      clear hf
      have r0 := BW2.out.cell 0
      have s0 := BW2.out.frozen 0
      have r1 := BW2.out.cell 1
      have s1 := BW2.out.frozen 1
      have FS := Lib.hid (flt_set (x' := .int .i64 0) (y' := .int .i64 (-1)) XW2.out (Nat.le_refl _) BW2.out)
      have HR2 := Lib.hid hHeld
      refine wpAnyH_ready (rs := [4]) (by kernel_rfl) (by simp) ?_
      refine AllReadyH.cons rfl (fun KK hK => ?_) AllReadyH.nil
      clear hHeld
      go_simp
      refine hK.out _ _ (ownsRow_setCell_other (ownsRow_setCell_other HR2.out (fun e => by have h1 : w1.heap.size ≤ w.heap.size := (HR2.out.lt _ e).1; have h2 := SZ.out; omega) _) (fun e => by have h1 : w1.heap.size ≤ w.heap.size := (HR2.out.lt _ e).1; have h2 := SZ.out; omega) _) (fun hHeld => ?_)
      clear hK KK hHeld
      try simp only [Act.put, List.getElem_toArray, List.getElem_cons_succ, List.getElem_cons_zero, List.setIfInBounds_toArray, List.set_cons_zero, List.set_cons_succ]
      refine wpAnyH_done (by kernel_rfl) ?_ _
      go_wp2_with fail
      obtain ⟨v0, v1⟩ : _ ∧ _ := ⟨FS.out.2.cell 0, FS.out.2.cell 1⟩
      exact bodyPost_ret (v := .tuple #[.string ⟨out.toArray⟩, .agg #[.int .i64 0, .int .i64 (-1)]]) (by simp [results, Tryd.results25, go_sem, v0, v1]) rfl ⟨FS.out.1, .inl ⟨out, HL.out, rfl⟩⟩
end Go.Proofs.YtnhbjgmfbcedaaaDoor
namespace Go.Proofs.YtnhbjgmfbcedaaaDoor
open Go.RowKit
set_option linter.unusedSimpArgs false
set_option linter.unusedVariables false
set_option maxRecDepth 100000
theorem faulted_any (w : World) (E : Nat → Addr) (hE : Errs w E) (v : Value) (c a n b : Int) (h : ErrV w E v c a) : Calls Tryd.prog 26 #[v, .agg #[.int .i64 n, .int .i64 b]] w fun e w' => e = .returned (.bool (decide (c = n ∧ (c = 0 ∨ a = b)))) ∧ Ext w w' := by
  have h' := h.ext ((Ext.refl w).alloc (.cells #[.int .i64 n, .int .i64 b] 45))
  have hE' := hE.ext ((Ext.refl w).alloc (.cells #[.int .i64 n, .int .i64 b] 45))
  have HH := Lib.hid h'
  have HE := Lib.hid hE'
  clear h h' hE hE'
  have fin : ∀ w2, Ext (w.alloc (.cells #[.int .i64 n, .int .i64 b] 45)) w2 → Ext w w2 ∧ w2.cell? ⟨w.heap.size, 0, none⟩ = some (.int .i64 n) ∧ w2.cell? ⟨w.heap.size, 1, none⟩ = some (.int .i64 b) := by
    intro w2 h2
    refine ⟨((Ext.refl w).alloc _).trans h2, (h2.cell (p := ⟨w.heap.size, 0, none⟩) (by simp)).trans (by simp), (h2.cell (p := ⟨w.heap.size, 1, none⟩) (by simp)).trans (by simp)⟩
  have FIN := Lib.hid fin
  clear fin
  by_cases hc : c = n
  · subst hc
    by_cases h0 : c = 0
    · have t0 : (c == 0) = true := beq_iff_eq.2 h0
      have H0 := Lib.hid h0
      clear h0
      go_enter Tryd.func26, Tryd.ntmps26
      go_wp2_with fail
      refine (code_any _ E HE.out _ _ _ HH.out).mono ?_
      rintro e w2 ⟨rfl, h2⟩
      obtain ⟨f1, f2, f3⟩ := FIN.out _ h2
      have F1 := Lib.hid f1
      clear f1 h2
      go_wp2_with fail
      go_ret
      exact ⟨ret_bool (by rw [Bool.eq_iff_iff]; simp [H0.out]), F1.out⟩
    · have t0 : (c == 0) = false := beq_eq_false_iff_ne.2 h0
      go_enter Tryd.func26, Tryd.ntmps26
      go_wp2_with fail
      refine (code_any _ E HE.out _ _ _ HH.out).mono ?_
      rintro e w2 ⟨rfl, h2⟩
      obtain ⟨f1, f2, f3⟩ := FIN.out _ h2
      have F1 := Lib.hid f1
      clear f1 h2
      go_wp2_with fail
      go_ret
      exact ⟨ret_bool (by rw [Bool.eq_iff_iff]; simp [h0]), F1.out⟩
  · have t1 : (c == n) = false := beq_eq_false_iff_ne.2 hc
    go_enter Tryd.func26, Tryd.ntmps26
    go_wp2_with fail
    refine (code_any _ E HE.out _ _ _ HH.out).mono ?_
    rintro e w2 ⟨rfl, h2⟩
    obtain ⟨f1, f2, f3⟩ := FIN.out _ h2
    have F1 := Lib.hid f1
    clear f1 h2
    go_wp2_with fail
    go_ret
    exact ⟨ret_bool (by rw [Bool.eq_iff_iff]; simp [hc]), F1.out⟩
end Go.Proofs.YtnhbjgmfbcedaaaDoor
namespace Go.Proofs.YtnhbjgmfbcedaaaDoor
open Go.RowKit
set_option linter.unusedSimpArgs false
set_option linter.unusedVariables false
set_option maxRecDepth 100000
/-- the cells of tokens, one behind the other -/
def cellT (tk : Nat → Tk) (j : Nat) : Value := if j % 3 = 0 then .int .u8 ((tk (j / 3)).b.toNat : Int) else if j % 3 = 1 then .int .i64 (tk (j / 3)).l else .int .i64 (tk (j / 3)).d
def tkV (n : Nat) (tk : Nat → Tk) : List Value := (List.range (n * 3)).map (cellT tk)
theorem tkV_length (n : Nat) (tk : Nat → Tk) : (tkV n tk).length = n * 3 := by simp [tkV]
theorem tkV_get (n : Nat) (tk : Nat → Tk) (j : Nat) (h : j < n * 3) : (tkV n tk)[j]? = some (cellT tk j) := by simp [tkV, h]
theorem cellT_0 (tk : Nat → Tk) (i : Nat) : cellT tk (i * 3) = .int .u8 ((tk i).b.toNat : Int) := by
  unfold cellT; rw [if_pos (by omega), show i * 3 / 3 = i by omega]
theorem cellT_1 (tk : Nat → Tk) (i : Nat) : cellT tk (i * 3 + 1) = .int .i64 (tk i).l := by
  unfold cellT; rw [if_neg (by omega), if_pos (by omega), show (i * 3 + 1) / 3 = i by omega]
theorem cellT_2 (tk : Nat → Tk) (i : Nat) : cellT tk (i * 3 + 2) = .int .i64 (tk i).d := by
  unfold cellT; rw [if_neg (by omega), if_neg (by omega), show (i * 3 + 2) / 3 = i by omega]
theorem tk_one (n : Nat) (tk : Nat → Tk) : ∀ u ∈ tkV n tk, u.oneCell' = true := by
  intro u hu
  obtain ⟨j, _, rfl⟩ := List.mem_map.1 hu
  unfold cellT; split
  · rfl
  · split <;> rfl
theorem add_add3 (a : Addr) (i c : Nat) (hc : c ≠ 0) : a.add (i * 3 + c) = ⟨(a.add (i * 3)).block, (a.add (i * 3)).off + c, none⟩ := by
  unfold Addr.add
  rw [if_neg (by omega)]
  split
  · rename_i h
    have : i = 0 := by omega
    subst this; simp
  · simp [Nat.add_assoc]
theorem Toks.cells {w : World} {a : Addr} {n : Nat} {tk : Nat → Tk} (h : Toks w (some a) n tk) (j : Nat) (u : Value) (hj : (tkV n tk)[j]? = some u) : w.cell? (a.add j) = some u := by
  have hl : j < n * 3 := by
    rcases Nat.lt_or_ge j (n * 3) with q | q
    · exact q
    · rw [List.getElem?_eq_none (by rw [tkV_length]; exact q)] at hj; cases hj
  rw [tkV_get _ _ _ hl] at hj
  injection hj with hj
  subst hj
  obtain ⟨c0, c1, c2, _⟩ := h.2 a rfl (j / 3) (by omega)
  obtain ⟨i, c, rfl, hc⟩ : ∃ i c, j = i * 3 + c ∧ c < 3 := ⟨j / 3, j % 3, by omega, by omega⟩
  rw [show (i * 3 + c) / 3 = i by omega] at c0 c1 c2
  match c, hc with
  | 0, _ => rw [Nat.add_zero, cellT_0]; exact c0
  | 1, _ => rw [cellT_1, add_add3 _ _ _ (by decide)]; exact c1
  | 2, _ => rw [cellT_2, add_add3 _ _ _ (by decide)]; exact c2
theorem Toks.of_own {w : World} {base : Nat} {v : Value} {n : Nat} {tk : Nat → Tk} (h : w.ownsRow base 84 3 v n (tkV n tk)) (hb : ∀ i, i < n → (tk i).Ok) :
    ∃ x c, v = .slice x n c ∧ Toks w x n tk := by
  rcases ownsRow_slice h with ⟨rfl, h0⟩ | ⟨g, cap, rfl⟩
  · subst h0; exact ⟨none, 0, rfl, fun _ => rfl, fun a h => by cases h⟩
  · refine ⟨some ⟨g, 0, none⟩, cap, rfl, (fun h => by cases h), fun a ha i hi => ?_⟩
    injection ha with ha; subst ha
    rw [add_plain]
    refine ⟨?_, ?_, ?_, hb i hi⟩
    · rw [h.cellAt _ (by omega), tkV_get _ _ _ (by omega), cellT_0]
    · show w.cell? ⟨g, i * 3 + 1, none⟩ = _; rw [h.cellAt _ (by omega), tkV_get _ _ _ (by omega), cellT_1]
    · show w.cell? ⟨g, i * 3 + 2, none⟩ = _; rw [h.cellAt _ (by omega), tkV_get _ _ _ (by omega), cellT_2]
theorem Toks.oks {w : World} {x : Option Addr} {n : Nat} {tk : Nat → Tk} (h : Toks w x n tk) : ∀ i, i < n → (tk i).Ok := by
  intro i hi
  obtain ⟨a, rfl⟩ := h.isSome hi
  exact (h.2 a rfl i hi).2.2.2
theorem tokinf : (Tryd.prog.info? 84).map (fun i => (i.zero, i.size, i.bytes)) = some (some (.agg #[.int .u8 0, .int .i64 0, .int .i64 0]), 3, 24) := by kernel_rfl
def TokPost (w' : World) (n : Nat) (tk : Nat → Tk) (e : Ending) : Prop := ∃ ox oc, e = .returned (.slice ox n oc) ∧ Toks w' ox n tk
theorem tokens_any (x : Option Addr) (n cap : Nat) (tk : Nat → Tk) (w : World) (hx : Toks w x n tk) (h0 : x = none → cap = 0) (hn : n ≤ 100000) :
    Calls Tryd.prog 24 #[.slice x n cap] w fun e w' => TokPost w' n tk e ∧ Ext w w' := by
  obtain ⟨i0, hi0, hz0, hz1, hz2⟩ := info_parts tokinf
  have HX := Lib.hid hx
  clear hx
  cases x with
  | none =>
    obtain rfl := HX.out.1 rfl
    obtain rfl := h0 rfl
    go_enter Tryd.func24, Tryd.ntmps24
    go_wp2_with (at_builtin; refine wpList_append_own_none rfl _ _ 32 rfl 0 84 i0 3 Tryd.underlying32 hi0 (.slice none 0 0) 0 [] rfl (World.ownsRow_nil _ _ _ _) rfl ?_)
    go_ret
    exact ⟨⟨none, 0, rfl, fun _ => rfl, fun a h => by cases h⟩, Ext.refl _⟩
  | some a =>
    go_enter Tryd.func24, Tryd.ntmps24
    go_wp2_with (at_builtin; refine wpList_append_own_at _ rfl _ _ 32 rfl w.heap.size 84 i0 _ 3 24 Tryd.underlying32 hi0 hz0 hz1 hz2 rfl (by decide) (.slice none 0 0) 0 [] rfl (World.ownsRow_nil _ _ _ _) a n cap (tkV n tk) rfl (tkV_length _ _) HX.out.cells (tk_one _ _) ?c3 ?c4 (Nat.le_refl _) ?_)
    case c3 => unfold maxLen; omega
    case c4 => omega
    intro v' w1 hown hgrow _ _
    have hE : Ext w w1 := (Keeps.grown hgrow).below (Nat.le_refl _) (fun k _ q => by cases q)
    (try simp only [Nat.zero_add, List.nil_append] at hown)
    obtain ⟨ox, oc, rfl, ht⟩ := Toks.of_own hown HX.out.oks
    have HT := Lib.hid ht
    have HE := Lib.hid hE
    clear hown hgrow ht hE
    go_wp2_with fail
    go_ret
    exact ⟨⟨ox, oc, rfl, HT.out⟩, HE.out⟩
theorem wide_big (x : Option Addr) (n cap : Nat) (tk : Nat → Tk) (w : World) (hx : Toks w x n tk) (hn : n ≤ maxLen) (h : 300 < n) :
    Calls Tryd.prog 22 #[.slice x n cap] w fun e w' => e = .returned (.bool false) ∧ w = w' := by
  have HX := Lib.hid hx
  clear hx
  unfold maxLen at hn
  go_enter Tryd.func22, Tryd.ntmps22
  go_wp2
  go_loop [3, 4] (fun s c => ∃ (k : Nat) (z : Int), k ≤ n ∧ c = .int .i64 k ∧ s = .int .i64 z) (fun _ c => n - (intOf c).toNat)
  case atStart => exact ⟨0, 0, by omega, rfl, rfl⟩
  case round =>
    obtain ⟨k, z, hk, rfl, rfl⟩ := hrel
    by_cases hlt : k < n
    · obtain ⟨a, rfl⟩ := HX.out.isSome hlt
      obtain ⟨c0, c1, c2, okl, okd⟩ := HX.out.2 a rfl k hlt
      obtain ⟨l, hl⟩ : ∃ l, (tk k).l = l := ⟨_, rfl⟩
      rw [hl] at c1 okl
      obtain ⟨l1, l2⟩ := okl
      clear c0 c2 okd hl
      by_cases q0 : 0 < l
      · by_cases q1 : l ≤ 258
        · have t0 : decide ((0 : Int) < l) = true := decide_eq_true q0
          have t1 : decide (l ≤ 258) = true := decide_eq_true q1
          go_wp2_with fail
          go_round
          case rel => exact ⟨k + 1, _, by omega, by go_num, rfl⟩
          case measure => simp [intOf]; omega
        · have t0 : decide ((0 : Int) < l) = true := decide_eq_true q0
          have t1 : decide (l ≤ 258) = false := decide_eq_false q1
          go_wp2_with fail
          go_round
          case rel => exact ⟨k + 1, _, by omega, by go_num, rfl⟩
          case measure => simp [intOf]; omega
      · have t0 : decide ((0 : Int) < l) = false := decide_eq_false q0
        go_wp2_with fail
        go_round
        case rel => exact ⟨k + 1, _, by omega, by go_num, rfl⟩
        case measure => simp [intOf]; omega
    · obtain rfl : k = n := by omega
      go_wp2_with fail
      go_ret
      exact ⟨rfl, rfl⟩
theorem wide_small (x : Option Addr) (n cap : Nat) (tk : Nat → Tk) (w : World) (hx : Toks w x n tk) (hn : n ≤ 300) :
    Calls Tryd.prog 22 #[.slice x n cap] w fun e w' => (e = .returned (.bool true) ∨ e = .returned (.bool false)) ∧ w = w' := by
  have HX := Lib.hid hx
  clear hx
  go_enter Tryd.func22, Tryd.ntmps22
  go_wp2
  go_loop [3, 4] (fun s c => ∃ (k : Nat) (z : Int), k ≤ n ∧ c = .int .i64 k ∧ s = .int .i64 z ∧ 0 ≤ z ∧ z ≤ k * 258) (fun _ c => n - (intOf c).toNat)
  case atStart => exact ⟨0, 0, by omega, rfl, rfl, by omega, by omega⟩
  case round =>
    obtain ⟨k, z, hk, rfl, rfl, z0, z1⟩ := hrel
    by_cases hlt : k < n
    · obtain ⟨a, rfl⟩ := HX.out.isSome hlt
      obtain ⟨c0, c1, c2, okl, okd⟩ := HX.out.2 a rfl k hlt
      obtain ⟨l, hl⟩ : ∃ l, (tk k).l = l := ⟨_, rfl⟩
      rw [hl] at c1 okl
      obtain ⟨l1, l2⟩ := okl
      clear c0 c2 okd hl
      by_cases q0 : 0 < l
      · by_cases q1 : l ≤ 258
        · have t0 : decide ((0 : Int) < l) = true := decide_eq_true q0
          have t1 : decide (l ≤ 258) = true := decide_eq_true q1
          go_wp2_with fail
          go_round
          case rel => exact ⟨k + 1, z + l, by omega, by go_num, rfl, by omega, by omega⟩
          case measure => simp [intOf]; omega
        · have t0 : decide ((0 : Int) < l) = true := decide_eq_true q0
          have t1 : decide (l ≤ 258) = false := decide_eq_false q1
          go_wp2_with fail
          go_round
          case rel => exact ⟨k + 1, z, by omega, by go_num, rfl, by omega, by omega⟩
          case measure => simp [intOf]; omega
      · have t0 : decide ((0 : Int) < l) = false := decide_eq_false q0
        go_wp2_with fail
        go_round
        case rel => exact ⟨k + 1, z, by omega, by go_num, rfl, by omega, by omega⟩
        case measure => simp [intOf]; omega
    · obtain rfl : k = n := by omega
      by_cases q : z ≤ 6000
      · have t0 : decide (z ≤ 6000) = true := decide_eq_true q
        go_wp2_with fail
        go_ret
        exact ⟨.inl rfl, rfl⟩
      · have t0 : decide (z ≤ 6000) = false := decide_eq_false q
        go_wp2_with fail
        go_ret
        exact ⟨.inr rfl, rfl⟩
end Go.Proofs.YtnhbjgmfbcedaaaDoor
namespace Go.Proofs.YtnhbjgmfbcedaaaDoor
open Go.RowKit
set_option linter.unusedSimpArgs false
set_option linter.unusedVariables false
set_option maxRecDepth 100000
theorem infl_fix {ts : List Tk} {o' : List UInt8} (hM : Dfl.Means [] ts o') (ho : o'.length ≤ 300000) {l : List UInt8} (hl : l.length ≤ 300000) (h1 : l.length = ((Dfl.fixedB ts).length + 7) / 8) (h2 : Crc.num l = Bts.val (Dfl.fixedB ts)) :
    ∃ bl, Inf.infl (⟨l.toArray⟩ : ByteArray) (o'.length : Int) = .ok (o', l.length, bl) := by
  have hA := Dfl.at_text (post := []) h1 h2
  rw [List.append_nil] at hA
  obtain ⟨bl, h⟩ := Dfl.fixed_read hM hA (most := o'.length) (Nat.le_refl _)
  rw [← h1] at h
  refine ⟨bl, ?_⟩
  unfold Inf.infl
  have hsz : (⟨l.toArray⟩ : ByteArray).size = l.length := rfl
  rw [if_neg (by rw [hsz]; omega), Int.toNat_natCast]
  exact h
set_option maxHeartbeats 2000000 in
theorem deflateFixed_any (x : Option Addr) (n cap : Nat) (tk : Nat → Tk) (w : World) (E : Nat → Addr) (hE : Errs w E) (hTb : Tabs w) (hx : Toks w x n tk) (h0 : x = none → cap = 0) (hn : n ≤ maxLen) :
    Calls Tryd.prog 8 #[.slice x n cap] w fun e w' => e = .returned (.bool true) ∧ Ext w w' := by
  have HE := Lib.hid hE
  have HX := Lib.hid hx
  have HTb := Lib.hid hTb
  clear hE hx hTb
  by_cases hb : 300 < n
  · go_enter Tryd.func8, Tryd.ntmps8
    go_wp2_with fail
    refine (blank_calls _).mono ?_
    rintro e w1 ⟨rfl, h1⟩
    have X1 := Lib.hid (h1)
    clear h1
    go_wp2_with fail
    refine (wide_big x n cap tk _ (HX.out.ext X1.out) hn hb).mono ?_
    rintro e w2 ⟨rfl, rfl⟩
    go_wp2_with fail
    go_ret
    exact ⟨rfl, X1.out⟩
  have hn3 : n ≤ 300 := by omega
  clear hb
  go_enter Tryd.func8, Tryd.ntmps8
  go_wp2_with fail
  refine (blank_calls _).mono ?_
  rintro e w1 ⟨rfl, h1⟩
  have X1 := Lib.hid (h1)
  clear h1
  go_wp2_with fail
  refine (wide_small x n cap tk _ (HX.out.ext X1.out) hn3).mono ?_
  rintro e w2 ⟨rfl | rfl, rfl⟩
  · go_wp2_with fail
    refine (tokens_any x n cap tk _ (HX.out.ext X1.out) h0 (by omega)).mono ?_
    rintro e w3 ⟨⟨ox, oc, rfl, ht⟩, h3⟩
    have X3 := Lib.hid (X1.out.trans h3)
    have T3 := Lib.hid (ht)
    clear h3 ht
    go_wp2_with fail
    refine (fixedD_any ox n oc tk _ E (HE.out.ext X3.out) (HTb.out.ext X3.out) T3.out hn).mono ?_
    rintro e w4 ⟨h4, hr⟩
    have X4 := Lib.hid (X3.out.trans h4)
    clear h4
    rcases hr with ⟨out, l, ho, hl1, hl2, rfl⟩ | ⟨c, i, F, hc, hi, ho, rfl, hF⟩
    · have HO := Lib.hid ho
      have hM := Dfl.means_exp n out ho
      have hol := expL_len ho
      have hts : (List.map tk (List.range n)).length = n := by simp
      have hbl := Dfl.fixedB_len hM.ok
      rw [hts] at hbl
      have hok := exp_ok ho
      have hls : l.length ≤ 5000 := by omega
      obtain ⟨bl, hinf⟩ := infl_fix hM hol (by omega) hl1 hl2
      have HL := Lib.hid (And.intro hl1 hl2)
      have HBL := Lib.hid (show (Bts.low 3 3 ++ (Dfl.toksB Inf.fixF 288 Inf.fiveF 32 ((List.range n).map tk) ++ Dfl.wordB Inf.fixF 288 256)).length ≤ 1000000 from by show (Dfl.fixedB _).length ≤ 1000000; omega)
      have HOK := Lib.hid hok
      have HI := Lib.hid (fun (w : World) (hE : Errs w E) (hT : Tabs w) => inflate_any ⟨l.toArray⟩ (out.length : Int) w E hE hT (by show l.length ≤ maxLen; unfold maxLen; omega))
      rw [hinf] at HI
      unfold InfPost at HI
      simp only at HI
      have hto : tb out = ⟨out.toArray⟩ := tb_eq out
      rw [hto] at HI
      clear ho hM hts hbl hok hinf hl1 hl2 hto
      go_wp2_with fail
      refine (expandOf_any x n cap tk _ (HX.out.ext X4.out) hn).mono ?_
      rintro e w5 ⟨h5, hr⟩
      have X5 := Lib.hid (X4.out.trans h5)
      rw [HO.out] at hr
      rcases hr with ⟨out', ho', rfl⟩ | ⟨c, i, _, ho', _⟩
      · injection ho' with ho'
        subst ho'
        clear h5
        have e1 : ((⟨l.toArray⟩ : ByteArray).toList == (⟨l.toArray⟩ : ByteArray).toList) = true := beq_self_eq_true _
        have e2 : ((⟨out.toArray⟩ : ByteArray).toList == (⟨out.toArray⟩ : ByteArray).toList) = true := beq_self_eq_true _
        have e3 : (out.toArray == out.toArray) = true := by simp
        have e4 : (l.toArray == l.toArray) = true := by simp
        go_wp2_with fail
        refine (fixedOf_any x n cap tk _ (HX.out.ext (X5.out.trans ((Ext.refl _).alloc _))) (by omega) HOK.out HBL.out).mono ?_
        rintro e w6 ⟨⟨l2, q1, q2, rfl⟩, h6⟩
        obtain rfl : l2 = l := Crc.num_inj _ _ (q1.trans HL.out.1.symm) (q2.trans HL.out.2.symm)
        have X6 := Lib.hid (X5.out.trans (((Ext.refl _).alloc _).trans h6))
        clear h6 q1 q2
        go_wp2_with fail
        refine (HI.out _ (HE.out.ext X6.out) (HTb.out.ext X6.out)).mono ?_
        rintro e w7 ⟨h7, rfl⟩
        have X7 := Lib.hid (X6.out.trans h7)
        clear h7
        have e5 : ((l2.length : Int) == (l2.length : Int)) = true := beq_self_eq_true _
        go_wp2_with fail
        go_ret
        exact ⟨rfl, X7.out⟩
      · cases ho'
    · have HO := Lib.hid ho
      have HV := Lib.hid (ErrV.fault c F i hc hF (by omega) hi : ErrV w4 E _ ((c : Int) + 1) i)
      clear ho hF
      go_wp2_with fail
      refine (expandOf_any x n cap tk _ (HX.out.ext X4.out) hn).mono ?_
      rintro e w5 ⟨h5, hr⟩
      have X5 := Lib.hid (X4.out.trans h5)
      have V5 := Lib.hid (HV.out.ext h5)
      rw [HO.out] at hr
      rcases hr with ⟨out', ho', _⟩ | ⟨c', i', _, ho', rfl⟩
      · cases ho'
      · injection ho' with e1 e2
        subst e1 e2
        clear h5 HO HV
        have t0 : decide ((0 : Int) < (c : Int) + 1) = true := decide_eq_true (by omega)
        go_wp2_with fail
        refine calls_world (fun wz => Ext w5 wz ∧ wz.heap.size = w5.heap.size + 1 ∧ Bk wz (w5.heap.size) #[.int .i64 ((c : Int) + 1), .int .i64 (i : Int)]) ⟨by repeat (first | exact Ext.refl _ | refine Ext.alloc ?_ _), by simp, by repeat (first | exact Bk.at (by simp) | refine Bk.old ?_)⟩ ?_
        rintro w6 ⟨hX, hZ, hB0⟩
        have X6 := Lib.hid (X5.out.trans hX)
        have V6 := Lib.hid (V5.out.ext hX)
        clear hX hZ hB0
        refine (faulted_any _ E (HE.out.ext X6.out) _ _ _ ((c : Int) + 1) i V6.out).mono ?_
        rintro e w7 ⟨he, h7⟩
        obtain rfl : e = .returned (.bool true) := by rw [he]; exact ret_bool (by simp)
        have X7 := Lib.hid (X6.out.trans h7)
        clear he h7
        go_wp2_with fail
        go_ret
        exact ⟨rfl, X7.out⟩
  · go_wp2_with fail
    go_ret
    exact ⟨rfl, X1.out⟩
end Go.Proofs.YtnhbjgmfbcedaaaDoor
namespace Go.Proofs.YtnhbjgmfbcedaaaDoor
open Go.RowKit Go.ChangeShapes
set_option linter.unusedSimpArgs false
set_option linter.unusedVariables false
set_option maxRecDepth 100000
def tabD (n : String) (zs : List Nat) : List (String × DataW Unit) := [(n, Lib.tabData .i64 (zs.map fun z => ((z : Nat) : Int)))]
theorem tab_row {l : List (String × DataW Unit)} {W : World} {n : String} {g m : Nat} {t : TypeId} {zs : List Nat} (h : laidMetH Tryd.prog l W) (hl : l.filter (fun x => x.1 == n) = tabD n zs)
    (hm : laidMetH Tryd.prog (tabD n zs) W = laidMet Tryd.prog (tabD n zs) W) (hg : Tryd.prog.globalNamed n = some g) (hty : (Tryd.prog.globals[g]?).map (·.type) = some t) (ht : Tryd.prog.underlying t = some (.array m 3)) (hct : Tryd.prog.cellsOf t = m) (hlen : zs.length = m) :
    ∀ k, k < m → W.cell? ⟨g, k, none⟩ = some (.int .i64 ((zs.getD k 0 : Nat) : Int)) := by
  have h1 := laidMetH.filter (fun x => x.1 == n) h
  rw [hl, hm] at h1
  have hT := Lib.tabIs_of_head (rest := []) hg hty ht Tryd.underlying3 (by kernel_rfl) hct h1
  intro k hk
  have := hT.cell hg k (by simp; omega)
  rw [this]
  simp [List.getD, hlen, hk]
theorem tabs_of_laid {l : List (String × DataW Unit)} {W : World} (h : laidMetH Tryd.prog l W)
    (h1 : l.filter (fun x => x.1 == "layercake/inflate.Lens") = tabD "layercake/inflate.Lens" Inf.lensL) (h2 : l.filter (fun x => x.1 == "layercake/inflate.LenBits") = tabD "layercake/inflate.LenBits" Inf.lensB)
    (h3 : l.filter (fun x => x.1 == "layercake/inflate.Dists") = tabD "layercake/inflate.Dists" Inf.distsL) (h4 : l.filter (fun x => x.1 == "layercake/inflate.DistBits") = tabD "layercake/inflate.DistBits" Inf.distsB)
    (h5 : l.filter (fun x => x.1 == "layercake/inflate.Order") = tabD "layercake/inflate.Order" Inf.orderL) : Tabs W :=
  ⟨tab_row h h1 rfl (by kernel_rfl) (by kernel_rfl) Tryd.underlying152 (by kernel_rfl) rfl,
   tab_row h h2 rfl (by kernel_rfl) (by kernel_rfl) Tryd.underlying152 (by kernel_rfl) rfl,
   tab_row h h3 rfl (by kernel_rfl) (by kernel_rfl) Tryd.underlying153 (by kernel_rfl) rfl,
   tab_row h h4 rfl (by kernel_rfl) (by kernel_rfl) Tryd.underlying153 (by kernel_rfl) rfl,
   tab_row h h5 rfl (by kernel_rfl) (by kernel_rfl) Tryd.underlying129 (by kernel_rfl) rfl⟩
end Go.Proofs.YtnhbjgmfbcedaaaDoor
namespace Go.Proofs.YtnhbjgmfbcedaaaDoor
open Go.RowKit Go.ChangeShapes
set_option linter.unusedSimpArgs false
set_option linter.unusedVariables false
set_option maxRecDepth 100000
theorem rowName : (Tryd.prog.cutTypes.find? (·.1 == "internal/reflectlite.rtype")).map (·.2) = some 190 := by kernel_rfl
theorem oneRow : ((List.range Tryd.prog.types.size).filter fun t => Tryd.prog.rowNamed t [101, 114, 114, 111, 114]) = [24] := by kernel_rfl
theorem etName : Tryd.prog.globalNamed "errors.errorType" = some 14 := by kernel_rfl
theorem errType_of_laid {l : List (String × DataW Unit)} {W : World} (h : laidMetH Tryd.prog l W)
    (hl : l.filter (fun x => x.1 == "errors.errorType") = [("errors.errorType", .iface "internal/reflectlite.rtype" (.agg [.ptr (.lit (.string [101, 114, 114, 111, 114]))]))]) : ErrType W := by
  have h1 := laidMetH.filter (fun x => x.1 == "errors.errorType") h
  rw [hl] at h1
  have h' : laidMet Tryd.prog [] W ∧ handlesMet Tryd.prog [("errors.errorType", .iface "internal/reflectlite.rtype" (.agg [.ptr (.lit (.string [101, 114, 114, 111, 114]))]))] W := h1
  obtain ⟨name, u, ty, e1, e2, e3, e4, e5⟩ := h'.2 _ (List.mem_singleton.2 rfl)
  have en : name = [101, 114, 114, 111, 114] := (Option.some.inj e1).symm
  subst en
  obtain rfl := Option.some.inj (rowName.symm.trans e2)
  have hm : ty ∈ (List.range Tryd.prog.types.size).filter fun t => Tryd.prog.rowNamed t [101, 114, 114, 111, 114] := List.mem_filter.2 ⟨List.mem_range.2 e3, e4⟩
  rw [oneRow] at hm
  obtain rfl := List.mem_singleton.1 hm
  have hh : typeHandle Tryd.prog 24 = hdl 24 := by kernel_rfl
  rw [hh] at e5
  unfold ErrType
  simpa using World.var?_cell etName e5 0
theorem sentinel_row {l : List (String × DataW Unit)} {W : World} {n : String} {g : Nat} {text : List UInt8} {ti : TypeId} {ms : Array (String × TypeId)} (h : laidMetH Tryd.prog l W)
    (hl : l.filter (fun x => x.1 == n) = [(n, .iface "*errors.errorString" (.ptr (.agg [.lit (.string text)])))]) (hg : Tryd.prog.globalNamed n = some g)
    (ht : (Tryd.prog.globals[g]?).map (·.type) = some ti) (hi : Tryd.prog.underlying ti = some (.interface ms)) :
    ∃ (E : Addr), W.cell? ⟨g, 0, none⟩ = some (sentV E) ∧ (∃ s : ByteArray, W.cell? E = some (.string s) ∧ s.data.toList = text) ∧ ∃ c t, W.heap[E.block]? = some (.cells c t (0, 0)) := by
  have h1 := laidMetH.filter (fun x => x.1 == n) h
  rw [hl] at h1
  have h2 : laidMet Tryd.prog [(n, .iface "*errors.errorString" (.ptr (.agg [.lit (.string text)])))] W := h1
  obtain ⟨ps, ⟨g0, t0, cs0, f0, p0, q0, hg0, ht0, hv0, hd0, _, e0⟩, _, hrows⟩ := h2
  obtain rfl := Option.some.inj (hg.symm.trans hg0)
  obtain rfl := Option.some.inj (ht.symm.trans ht0)
  subst e0
  obtain ⟨l0⟩ := cs0
  have ok0 : ∀ u v, l0 = [.iface u v] → Value.okWide Tryd.prog W .any 0 u v := fun u v e => by
    subst e
    exact (hrows g 0 (by simp [MemPlace.row])).2 u v (by simpa using World.var?_cell hg0 hv0 0)
  obtain ⟨a0, s0, rfl, hc0, hs0, hz0, rfl⟩ := errorString_of_trod hi sent_row Tryd.underlying210 Tryd.underlying229 rfl rfl Tryd.underlying9 (by kernel_rfl) (by kernel_rfl) hd0 ok0
  obtain ⟨c, t, hb⟩ := (hrows a0.block a0.off (by simp [MemPlace.row])).1
  exact ⟨a0, by unfold sentV; simpa using World.var?_cell hg0 hv0 0, ⟨s0, hc0, hs0⟩, c, t, hb⟩
def nameE : Nat → String
  | 0 => "layercake/api.ErrText"
  | 1 => "layercake/api.ErrBound"
  | 2 => "layercake/api.ErrShape"
  | 3 => "layercake/api.ErrSum"
  | 4 => "layercake/api.ErrName"
  | 5 => "layercake/api.ErrNone"
  | 6 => "layercake/api.ErrColors"
  | 7 => "layercake/api.ErrFull"
  | _ => "layercake/api.ErrPower"
def textE : Nat → List UInt8
  | 0 => [108, 97, 121, 101, 114, 99, 97, 107, 101, 58, 32, 116, 101, 120, 116]
  | 1 => [108, 97, 121, 101, 114, 99, 97, 107, 101, 58, 32, 98, 111, 117, 110, 100]
  | 2 => [108, 97, 121, 101, 114, 99, 97, 107, 101, 58, 32, 115, 104, 97, 112, 101]
  | 3 => [108, 97, 121, 101, 114, 99, 97, 107, 101, 58, 32, 115, 117, 109]
  | 4 => [108, 97, 121, 101, 114, 99, 97, 107, 101, 58, 32, 110, 97, 109, 101]
  | 5 => [108, 97, 121, 101, 114, 99, 97, 107, 101, 58, 32, 110, 111, 110, 101]
  | 6 => [108, 97, 121, 101, 114, 99, 97, 107, 101, 58, 32, 99, 111, 108, 111, 114, 115]
  | 7 => [108, 97, 121, 101, 114, 99, 97, 107, 101, 58, 32, 102, 117, 108, 108]
  | _ => [108, 97, 121, 101, 114, 99, 97, 107, 101, 58, 32, 112, 111, 119, 101, 114]
def errD (k : Nat) : List (String × DataW Unit) := [(nameE k, .iface "*errors.errorString" (.ptr (.agg [.lit (.string (textE k))])))]
theorem textE_ne : ∀ j, j < 9 → ∀ k, k < 9 → j ≠ k → textE j ≠ textE k := by decide
theorem errs_of_laid {l : List (String × DataW Unit)} {W : World} (h : laidMetH Tryd.prog l W)
    (het : l.filter (fun x => x.1 == "errors.errorType") = [("errors.errorType", .iface "internal/reflectlite.rtype" (.agg [.ptr (.lit (.string [101, 114, 114, 111, 114]))]))])
    (hl0 : l.filter (fun x => x.1 == nameE 0) = errD 0) (hl1 : l.filter (fun x => x.1 == nameE 1) = errD 1) (hl2 : l.filter (fun x => x.1 == nameE 2) = errD 2)
    (hl3 : l.filter (fun x => x.1 == nameE 3) = errD 3) (hl4 : l.filter (fun x => x.1 == nameE 4) = errD 4) (hl5 : l.filter (fun x => x.1 == nameE 5) = errD 5)
    (hl6 : l.filter (fun x => x.1 == nameE 6) = errD 6) (hl7 : l.filter (fun x => x.1 == nameE 7) = errD 7) (hl8 : l.filter (fun x => x.1 == nameE 8) = errD 8) :
    ∃ E, Errs W E ∧ ∀ k, k < 9 → ∃ s : ByteArray, W.cell? (E k) = some (.string s) ∧ s.data.toList = textE k := by
  have key : ∀ k, k < 9 → ∃ (E : Addr), W.cell? ⟨gk k, 0, none⟩ = some (sentV E) ∧ (∃ s : ByteArray, W.cell? E = some (.string s) ∧ s.data.toList = textE k) ∧ ∃ c t, W.heap[E.block]? = some (.cells c t (0, 0)) := by
    intro k hk
    match k, hk with
    | 0, _ => exact sentinel_row h hl0 (by kernel_rfl) (by kernel_rfl) Tryd.underlying24
    | 1, _ => exact sentinel_row h hl1 (by kernel_rfl) (by kernel_rfl) Tryd.underlying24
    | 2, _ => exact sentinel_row h hl2 (by kernel_rfl) (by kernel_rfl) Tryd.underlying24
    | 3, _ => exact sentinel_row h hl3 (by kernel_rfl) (by kernel_rfl) Tryd.underlying24
    | 4, _ => exact sentinel_row h hl4 (by kernel_rfl) (by kernel_rfl) Tryd.underlying24
    | 5, _ => exact sentinel_row h hl5 (by kernel_rfl) (by kernel_rfl) Tryd.underlying24
    | 6, _ => exact sentinel_row h hl6 (by kernel_rfl) (by kernel_rfl) Tryd.underlying24
    | 7, _ => exact sentinel_row h hl7 (by kernel_rfl) (by kernel_rfl) Tryd.underlying24
    | 8, _ => exact sentinel_row h hl8 (by kernel_rfl) (by kernel_rfl) Tryd.underlying24
  let E : Nat → Addr := fun k => if hk : k < 9 then (key k hk).choose else ⟨0, 0, none⟩
  have hE : ∀ k (hk : k < 9), E k = (key k hk).choose := fun k hk => by simp [E, hk]
  refine ⟨E, ⟨errType_of_laid h het, fun k hk => ?_, fun k hk => ?_, fun j k hj hk hjk => ?_⟩, fun k hk => ?_⟩
  · rw [hE k hk]; exact (key k hk).choose_spec.1
  · rw [hE k hk]; exact (key k hk).choose_spec.2.2
  · rw [hE j hj, hE k hk]
    intro e
    obtain ⟨s, h1, h2⟩ := (key j hj).choose_spec.2.1
    obtain ⟨s', h3, h4⟩ := (key k hk).choose_spec.2.1
    rw [e, h3] at h1
    injection h1 with h1; injection h1 with h1
    subst h1
    exact textE_ne j hj k hk hjk (h2.symm.trans h4)
  · rw [hE k hk]; exact (key k hk).choose_spec.2.1
end Go.Proofs.YtnhbjgmfbcedaaaDoor
namespace Go.Proofs.YtnhbjgmfbcedaaaDoor
open Go.ChangeShapes Go.WideShapes Go.RowKit Go.Deep Go.Joins
set_option linter.unusedSimpArgs false
set_option linter.unusedVariables false
set_option maxRecDepth 100000
theorem tok_byte {H : Type} {enc : TypeId × Value → H} {w : World} {base : Nat} {spare : Nat → Bool} {held : Bool} {n : Nat} {v : Value} {y : DataW H × List MemPlace} (h : DataW.trod enc Tryd.prog w base spare held n 5 [v] = some y) : ∃ b : UInt8, v = .int .u8 (b.toNat : Int) := by
  obtain ⟨k, e, _, wf⟩ := DataW.trod_int Tryd.underlying5 h
  simp only [List.cons.injEq, and_true] at e
  obtain ⟨h0, h1⟩ := bounds_u8 wf
  refine ⟨UInt8.ofNat k.toNat, ?_⟩
  rw [e, UInt8.toNat_ofNat']
  exact congrArg (Value.int .u8) (by omega)
theorem tok_int {H : Type} {enc : TypeId × Value → H} {w : World} {base : Nat} {spare : Nat → Bool} {held : Bool} {n : Nat} {v : Value} {y : DataW H × List MemPlace} (h : DataW.trod enc Tryd.prog w base spare held n 3 [v] = some y) : ∃ k : Int, v = .int .i64 k ∧ -9223372036854775808 ≤ k ∧ k ≤ 9223372036854775807 := by
  obtain ⟨k, e, _, wf⟩ := DataW.trod_int Tryd.underlying3 h
  simp only [List.cons.injEq, and_true] at e
  exact ⟨k, e, bounds_i64 wf⟩
theorem open_toks {H : Type} {enc : TypeId × Value → H} {w : World} {base : Nat} {spare : Nat → Bool} {held : Bool} {v : Value} {d : DataW H} {pl : List MemPlace}
    (h : DataW.Trod enc Tryd.prog w base spare held 32 v d pl) (hv : ∃ x len cap, v = .slice x len cap) :
    ∃ (a : Option Addr) (n cap : Nat) (tk : Nat → Tk), v = .slice a n cap ∧ n ≤ maxLen ∧ (a = none → cap = 0) ∧ Toks w a n tk := by
  obtain ⟨x, len, cap, rfl⟩ := hv
  obtain ⟨fuel, hf⟩ := h
  rcases open_recs Tryd.underlying32 Tryd.underlying84 (by kernel_rfl) (show Tryd.prog.cellsOf 84 = _ by kernel_rfl) hf with h0 | ⟨a, n, c, h0, hn, hc, hf⟩
  · simp [Value.cells] at h0
    obtain ⟨rfl, rfl, rfl⟩ := h0
    exact ⟨none, 0, 0, fun _ => ⟨0, 0, 0⟩, rfl, Nat.zero_le _, fun _ => rfl, fun _ => rfl, fun a h => by cases h⟩
  · simp [Value.cells] at h0
    obtain ⟨rfl, rfl, rfl⟩ := h0
    have key : ∀ i, i < len → ∃ p : Tk, w.cell? (a.add (i * 3)) = some (.int .u8 (p.b.toNat : Int)) ∧ w.cell? ⟨(a.add (i * 3)).block, (a.add (i * 3)).off + 1, none⟩ = some (.int .i64 p.l) ∧ w.cell? ⟨(a.add (i * 3)).block, (a.add (i * 3)).off + 2, none⟩ = some (.int .i64 p.d) ∧ p.Ok := by
      intro i hi
      obtain ⟨v0, y0, n0, c0, t0⟩ := hf i hi 0 _ rfl
      obtain ⟨v1, y1, n1, c1, t1⟩ := hf i hi 1 _ rfl
      obtain ⟨v2, y2, n2, c2, t2⟩ := hf i hi 2 _ rfl
      obtain ⟨k0, rfl⟩ := tok_byte t0
      obtain ⟨k1, rfl, b1⟩ := tok_int t1
      obtain ⟨k2, rfl, b2⟩ := tok_int t2
      exact ⟨⟨k0, k1, k2⟩, c0, cell_add (by decide) c1, cell_add (by decide) c2, ⟨b1, b2⟩⟩
    haveI : Inhabited Tk := ⟨⟨0, 0, 0⟩⟩
    obtain ⟨tk, htk⟩ := Go.Deep.choose_lt (α := Tk) key
    exact ⟨some a, len, cap, tk, rfl, by omega, (fun h => by cases h), (fun h => by cases h), fun a' ha i hi => by injection ha with ha; subst ha; exact htk i hi⟩
end Go.Proofs.YtnhbjgmfbcedaaaDoor
namespace Go.Proofs.YtnhbjgmfbcedaaaDoor
open Go.ChangeShapes Go.WideShapes Go.ChangeAt Go.RowKit
set_option linter.unusedSimpArgs false
set_option linter.unusedVariables false
theorem law_readAll {H : Type} {enc : TypeId × Value → H} {P : Program} (hl : laidOutB P = true) {W W' : World} (sp : Nat → Bool) (hB : Below W.heap.size W W') :
    ∀ (ts : List TypeId) (vs : List Value) (ds : List (DataW H)) (ps : List MemPlace),
      (∀ t ∈ ts, P.readableRec t = true ∧ t < P.types.size) → (∀ p ∈ ps, p.block < W.heap.size) → (∀ p ∈ ps, sp p.block = true) →
      DataW.TrodAll enc P W 0 (fun _ => true) true ts vs ds ps → DataW.TrodAll enc P W' 0 sp true ts vs ds ps
  | [], [], [], _, _, _, _, h => h
  | t :: ts, v :: vs, d :: ds, ps, hr, hlt, hsp, h => by
    obtain ⟨p, q, h1, h2, rfl⟩ := h
    have ht := hr t (List.mem_cons_self ..)
    refine ⟨p, q, ?_, ?_, rfl⟩
    · exact WideElems.Trod_stays hl ht.1 ht.2 h1 (fun x hx => hB.same (hlt x (List.mem_append_left _ hx))) (fun x hx => hsp x (List.mem_append_left _ hx))
    · exact law_readAll hl sp hB ts vs ds q (fun t' ht' => hr t' (List.mem_cons_of_mem _ ht')) (fun x hx => hlt x (List.mem_append_right _ hx)) (fun x hx => hsp x (List.mem_append_right _ hx)) h2
  | [], [], _ :: _, _, _, _, _, h => h.elim
  | [], _ :: _, _, _, _, _, _, h => h.elim
  | _ :: _, [], _, _, _, _, _, h => h.elim
  | _ :: _, _ :: _, [], _, _, _, _, h => h.elim
theorem law_post {H : Type} {enc : TypeId × Value → H} {P : Program} (hl : laidOutB P = true) {f : Func} {s : ChangeSpec} {apart fresh handsOn : Bool} {W W' : World} {args : Array Value} {ds : List (DataW H)} {before : List MemPlace} {tb : TypeId}
    (hW : DataW.Whole enc P f.params.toList s.vars apart W args.toList ds [] before) (hv : s.vars = [])
    (hfn : s.fn H (ds ++ []) = { results := [.lit (.bool true)], args := ds })
    (hread : f.params.toList.all (fun t => P.readableRec t && decide (t < P.types.size)) = true)
    (hres : f.resultTypes = #[tb]) (hb : P.underlying tb = some .bool) (hB : Below W.heap.size W W') :
    s.post enc P f apart fresh handsOn false W args (.bool true) W' := by
  have hlt : ∀ p ∈ before, p.block < W.heap.size := fun p hp => hW.lt p hp
  have hr : ∀ t ∈ f.params.toList, P.readableRec t = true ∧ t < P.types.size := by
    intro t ht
    have := List.all_eq_true.1 hread t ht
    simpa using this
  have hW0 := hW
  obtain ⟨p, q, hA, hV, hpq, hfz, hnd⟩ := hW
  rw [hv] at hV
  have hq : q = [] := by simpa [DataW.TrodVars] using hV
  subst hq
  rw [List.append_nil] at hpq
  subst hpq
  have hargs : ∀ sp : Nat → Bool, (∀ x ∈ before, sp x.block = true) → DataW.TrodAll enc P W' 0 sp true f.params.toList args.toList ds before :=
    fun sp hsp => law_readAll hl sp hB _ _ _ _ hr hlt hsp hA
  have hold : ∀ x ∈ before, (fun b => decide (b < W.heap.size)) x.block = true := fun x hx => by simpa using hlt x hx
  have hresults : ∀ (b : Nat) (sp : Nat → Bool) (hd : Bool), DataW.TrodAll enc P W' b sp hd f.resultTypes.toList ((Value.bool true).resultList f.resultTypes.size) [.lit (.bool true)] [] := by
    intro b sp hd
    rw [hres]
    exact trodAll_mk1 (shut_bool hb true)
  refine ⟨ds, [], before, [], before, [], hW0, ?_, ?_, ?_, World.keptBut_mono (fun x hx => ⟨hx, ?_⟩) (hB.frame (· ∈ before)), fun _ => ?_⟩
  · rw [hfn]; exact hresults _ _ _
  · rw [hfn]; exact hargs _ hold
  · rw [hfn, hv]; rfl
  · exact Or.inr (Or.inl hx)
  · cases ‹false = true›
end Go.Proofs.YtnhbjgmfbcedaaaDoor
