/-
  The document's ExpandOf.
  faulted: an error's number and place.
  The laws' rows of tokens: tokens, wide.
  A writer of bits: Align.
  A writer of bits: Bytes, behind what is aligned.
  deflate.stored, deflate.Stored.
-/
import Derived.Test.YtnhbjgmfbcedaaaDoorDeflateDynamicG1
import Derived.Test.YtnhbjgmfbcedaaaDoorDeflateDynamicG14
import Derived.Deep.RegionHeld3
import Derived.RegionTactic
import Derived.Test.YtnhbjgmfbcedaaaDoorDeflateDynamicG2
import Derived.Laws.AppendOwnNone
import Derived.Test.YtnhbjgmfbcedaaaDoorDeflateDynamicG3
import Derived.Test.YtnhbjgmfbcedaaaDoorDeflateDynamicG4
import Derived.Test.YtnhbjgmfbcedaaaDoorDeflateDynamicG6
import Derived.Deep.LoopGhost
import Derived.Deep.DeepCutAuto
import Derived.Deep.CutBlock
set_option linter.unusedSimpArgs false
set_option linter.unusedVariables false
set_option maxRecDepth 100000
namespace Go.Proofs.YtnhbjgmfbcedaaaDoor
open Go.RowKit
def ExpOfPost (w w' : World) (r : XRes) (e : Ending) : Prop :=
 Ext w w' ∧ ((∃ out, r = .ok out ∧ e = .returned (.tuple #[.string ⟨out.toArray⟩, .agg #[.int .i64 0, .int .i64 (-1)]])) ∨ (∃ c i : Nat, c < 9 ∧ r = .bad c i ∧ e = .returned (.tuple #[.string ⟨#[]⟩, .agg #[.int .i64 ((c : Int) + 1), .int .i64 (i : Int)]])))
theorem fine_any (w : World) : Calls Tryd.prog 58 #[] w fun e w' => e = .returned (.agg #[.int .i64 0, .int .i64 (-1)]) ∧ Ext w w' := by
 go_enter Tryd.func58, Tryd.ntmps58
 go_wp2
 exact bodyPost_ret (v := .agg #[.int .i64 0, .int .i64 (-1)]) (by simp [results, Tryd.results58, go_sem]) rfl ⟨rfl, by repeat (first | exact Ext.refl _ | refine Ext.alloc ?_ _ | refine Below.setCell ?_ (by simp <;> omega) _)⟩
theorem flt_set {w0 w : World} {b : Nat} {x y x' y' : Value} (hX : Ext w0 w) (hb : w0.heap.size ≤ b) (hB : Bk w b #[x, y]) :
  Ext w0 ((w.setCell ⟨b, 0, none⟩ x').setCell ⟨b, 1, none⟩ y') ∧ Bk ((w.setCell ⟨b, 0, none⟩ x').setCell ⟨b, 1, none⟩ y') b #[x', y'] :=
 ⟨(Below.setCell hX hb _).setCell hb _, (hB.set_ 0 x').set_ 1 y'⟩
set_option linter.unusedSimpArgs false in
set_option maxHeartbeats 4000000 in
theorem expandOf_any (x : Option Addr) (n cap : Nat) (tk : Nat → Tk) (w : World) (hx : Toks w x n tk) (hn : n ≤ maxLen) :
  Calls Tryd.prog 25 #[.slice x n cap] w fun e w' => ExpOfPost w w' (expL tk n) e := by
 have HX := Lib.hid hx;clear hx;unfold maxLen at hn;obtain ⟨i0, hi0, hz0, hz1, hz2⟩ := info_parts byteinf;go_enter Tryd.func25, Tryd.ntmps25
 go_wp2_with fail;refine wp_world (fun wz => Ext w wz ∧ wz.heap.size = w.heap.size + 1 ∧ Bk wz (w.heap.size) #[.int .i64 0, .int .i64 0]) ⟨by repeat (first | exact Ext.refl _ | refine Ext.alloc ?_ _), by simp, by repeat (first | exact Bk.at (by simp) | refine Bk.old ?_)⟩ ?_;rintro w1 ⟨hX, hZ, hB0⟩;have XA := Lib.hid hX;have BA := Lib.hid hB0;have SZ := Lib.hid hZ;clear hX hB0 hZ;go_loopw [4, 5] (fun v c wr => ∃ (k : Nat) (out : List UInt8), k ≤ n ∧ c = .int .i64 k ∧ Hid (expL tk k = .ok out) ∧ Hid (wr.ownsRow w1.heap.size 5 1 v (out).length (bytesV (out))) ∧ Hid (Ext w1 wr)) (fun _ c _ => n - (intOf c).toNat)
 case atStart => exact ⟨0, [], by omega, rfl, Lib.hid rfl, Lib.hid (World.ownsRow_nil _ _ _ _), Lib.hid (Ext.refl _)⟩
 case round =>
  obtain ⟨k, out, hk, rfl, HL, HR, HW⟩ := hrel;have hlen := expL_len HL.out;by_cases hlt : k < n
  ·obtain ⟨a, rfl⟩ := HX.out.isSome hlt;obtain ⟨c0, c1, c2, okl, okd⟩ := (HX.out.ext (XA.out.trans HW.out)).2 a rfl k hlt;have HSt := Lib.hid (expL_succ HL.out);have HBad := Lib.hid (fun c (h : stepX (tk k) k out = .bad c k) => expL_bad HL.out h hlt);generalize tk k = t at c0 c1 c2 okl okd HSt HBad;obtain ⟨b, l, d⟩ := t;simp only at c0 c1 c2 okl okd;obtain ⟨l1, l2⟩ := okl;obtain ⟨d1_, d2_⟩ := okd;obtain ⟨L, hL⟩ : ∃ L, out.length = L := ⟨_, rfl⟩;rw [hL] at HR hlen;have HLL := Lib.hid hL;clear hL;obtain ⟨xo, co, rfl⟩ := row_lit HR.out;have hsz : w1.heap.size ≤ wr.heap.size := HW.out.size;by_cases q_l0 : l = 0
   ·have t0_l0 : ((l == 0)) = true := beq_iff_eq.2 q_l0;have t1_l0 : ((l != 0)) = false := by rw [q_l0]; rfl
    by_cases q_d0 : d = 0
    ·have t0_d0 : ((d == 0)) = true := beq_iff_eq.2 q_d0;have t1_d0 : ((d != 0)) = false := by rw [q_d0]; rfl
     have HLit : Hid (litP ⟨b, l, d⟩) := Lib.hid ⟨q_l0, q_d0⟩;by_cases qb : 300000 < L + 1
     ·have tq : decide ((300000 : Int) < (L : Int) + 1) = true := decide_eq_true (by omega);have HB : Hid (expL tk n = .bad 1 k) := Lib.hid (HBad.out 1 (stepX_lit_no HLit.out (by rw [HLL.out]; exact qb)));have XW := Lib.hid (XA.out.trans (HW.out.alloc (.cells #[.int .u8 (b.toNat : Int), .int .i64 l, .int .i64 d] 84)));have BW := Lib.hid (BA.out.ext (HW.out.alloc (.cells #[.int .u8 (b.toNat : Int), .int .i64 l, .int .i64 d] 84)));have r0 := BW.out.cell 0;have s0 := BW.out.frozen 0;have r1 := BW.out.cell 1;have s1 := BW.out.frozen 1;have FS := Lib.hid (flt_set (x' := .int .i64 2) (y' := .int .i64 (k : Int)) XW.out (Nat.le_refl _) BW.out);clear HSt HBad HL HR HLL;clear q_l0 q_d0;go_wp2_with fail;obtain ⟨u0, u1⟩ : _ ∧ _ := ⟨FS.out.2.cell 0, FS.out.2.cell 1⟩;exact bodyPost_ret (v := .tuple #[.string ⟨#[]⟩, .agg #[.int .i64 2, .int .i64 (k : Int)]]) (by simp [results, Tryd.results25, go_sem, u0, u1]) rfl ⟨FS.out.1, .inr ⟨1, k, by decide, HB.out, rfl⟩⟩
     ·have tq : decide ((300000 : Int) < (L : Int) + 1) = false := decide_eq_false (by omega);have HS2 := Lib.hid (HSt.out.trans (stepX_lit HLit.out (by rw [HLL.out]; omega)));clear HSt HBad HL q_l0 q_d0 HLit;go_wp2_with (at_builtin; refine wpList_append_own_at _ rfl _ _ 61 rfl w1.heap.size 5 i0 (.int .u8 0) 1 1 Tryd.underlying61 hi0 hz0 hz1 hz2 rfl (by decide) _ _ _ rfl ((HR.out.alloc _).alloc _) ⟨wr.heap.size + 1, 0, none⟩ 1 1 [.int .u8 (b.toNat : Int)] rfl rfl ?c1 (cells_one1 _) ?c3 ?c4 ?c5 ?_)
      case c3 => unfold maxLen; omega
      case c4 => omega
      case c5 => first | omega | (simp; omega)
      intro v' w2 hown hgrow _ _;have hRR : ((wr.alloc (.cells #[.int .u8 (b.toNat : Int), .int .i64 l, .int .i64 d] 84)).alloc (.cells #[.int .u8 (b.toNat : Int)] 5)).ownsRow w1.heap.size 5 1 (.slice xo L co) out.length (bytesV out) := by rw [HLL.out]; exact (HR.out.alloc _).alloc _
      have P := row_push ((HW.out.alloc _).alloc _) hRR hgrow (by rw [HLL.out]; exact hown);have P1 := Lib.hid P.1;have P2 := Lib.hid P.2;clear P hown hgrow hRR c0 c1 c2;go_wp2_with fail;refine wp_loop_rounds 1 ?_;rw [rounds_succ];go_wp2_with fail;go_roundw
      case rel => exact ⟨k + 1, out ++ [b], by omega, by go_num, HS2, P1, P2⟩
      case measure => simp [intOf]; omega
    ·have t0_d0 : ((d == 0)) = false := beq_eq_false_iff_ne.2 q_d0;have t1_d0 : ((d != 0)) = true := bne_iff_ne.2 q_d0;have HNL : Hid (¬ litP ⟨b, l, d⟩) := Lib.hid (fun h => q_d0 h.2);by_cases q_b0 : b ≠ 0
     ·have t0_b0 : (((b.toNat : Int) == 0)) = false := beq_eq_false_iff_ne.2 (fun e => q_b0 (UInt8.toNat_inj.1 (by simpa using e)));have HB : Hid (expL tk n = .bad 2 k) := Lib.hid (HBad.out 2 (stepX_bad HNL.out (by rw [HLL.out]; exact .inl q_b0)));have XW := Lib.hid (XA.out.trans (HW.out.alloc (.cells #[.int .u8 (b.toNat : Int), .int .i64 l, .int .i64 d] 84)));have BW := Lib.hid (BA.out.ext (HW.out.alloc (.cells #[.int .u8 (b.toNat : Int), .int .i64 l, .int .i64 d] 84)));have r0 := BW.out.cell 0;have s0 := BW.out.frozen 0;have r1 := BW.out.cell 1;have s1 := BW.out.frozen 1;have FS := Lib.hid (flt_set (x' := .int .i64 3) (y' := .int .i64 (k : Int)) XW.out (Nat.le_refl _) BW.out);clear HSt HBad HL HR HLL;clear q_l0 q_d0 q_b0;go_wp2_with fail;obtain ⟨u0, u1⟩ : _ ∧ _ := ⟨FS.out.2.cell 0, FS.out.2.cell 1⟩;exact bodyPost_ret (v := .tuple #[.string ⟨#[]⟩, .agg #[.int .i64 3, .int .i64 (k : Int)]]) (by simp [results, Tryd.results25, go_sem, u0, u1]) rfl ⟨FS.out.1, .inr ⟨2, k, by decide, HB.out, rfl⟩⟩
     ·have t0_b0 : (((b.toNat : Int) == 0)) = true := by have e : b = 0 := Classical.not_not.1 q_b0; subst e; rfl
      have q_l3 : l < 3 := by omega
      have t0_l3 : decide ((3 : Int) ≤ l) = false := decide_eq_false (by omega);have HB : Hid (expL tk n = .bad 2 k) := Lib.hid (HBad.out 2 (stepX_bad HNL.out (by rw [HLL.out]; exact .inr (.inl q_l3))));have XW := Lib.hid (XA.out.trans (HW.out.alloc (.cells #[.int .u8 (b.toNat : Int), .int .i64 l, .int .i64 d] 84)));have BW := Lib.hid (BA.out.ext (HW.out.alloc (.cells #[.int .u8 (b.toNat : Int), .int .i64 l, .int .i64 d] 84)));have r0 := BW.out.cell 0;have s0 := BW.out.frozen 0;have r1 := BW.out.cell 1;have s1 := BW.out.frozen 1;have FS := Lib.hid (flt_set (x' := .int .i64 3) (y' := .int .i64 (k : Int)) XW.out (Nat.le_refl _) BW.out);clear HSt HBad HL HR HLL;clear q_l0 q_d0 q_b0 q_l3;go_wp2_with fail;obtain ⟨u0, u1⟩ : _ ∧ _ := ⟨FS.out.2.cell 0, FS.out.2.cell 1⟩;exact bodyPost_ret (v := .tuple #[.string ⟨#[]⟩, .agg #[.int .i64 3, .int .i64 (k : Int)]]) (by simp [results, Tryd.results25, go_sem, u0, u1]) rfl ⟨FS.out.1, .inr ⟨2, k, by decide, HB.out, rfl⟩⟩
   ·have t0_l0 : ((l == 0)) = false := beq_eq_false_iff_ne.2 q_l0;have t1_l0 : ((l != 0)) = true := bne_iff_ne.2 q_l0;have HNL : Hid (¬ litP ⟨b, l, d⟩) := Lib.hid (fun h => q_l0 h.1);by_cases q_b0 : b ≠ 0
    ·have t0_b0 : (((b.toNat : Int) == 0)) = false := beq_eq_false_iff_ne.2 (fun e => q_b0 (UInt8.toNat_inj.1 (by simpa using e)));have HB : Hid (expL tk n = .bad 2 k) := Lib.hid (HBad.out 2 (stepX_bad HNL.out (by rw [HLL.out]; exact .inl q_b0)));have XW := Lib.hid (XA.out.trans (HW.out.alloc (.cells #[.int .u8 (b.toNat : Int), .int .i64 l, .int .i64 d] 84)));have BW := Lib.hid (BA.out.ext (HW.out.alloc (.cells #[.int .u8 (b.toNat : Int), .int .i64 l, .int .i64 d] 84)));have r0 := BW.out.cell 0;have s0 := BW.out.frozen 0;have r1 := BW.out.cell 1;have s1 := BW.out.frozen 1;have FS := Lib.hid (flt_set (x' := .int .i64 3) (y' := .int .i64 (k : Int)) XW.out (Nat.le_refl _) BW.out);clear HSt HBad HL HR HLL;clear q_l0 q_b0;go_wp2_with fail;obtain ⟨u0, u1⟩ : _ ∧ _ := ⟨FS.out.2.cell 0, FS.out.2.cell 1⟩;exact bodyPost_ret (v := .tuple #[.string ⟨#[]⟩, .agg #[.int .i64 3, .int .i64 (k : Int)]]) (by simp [results, Tryd.results25, go_sem, u0, u1]) rfl ⟨FS.out.1, .inr ⟨2, k, by decide, HB.out, rfl⟩⟩
    ·have t0_b0 : (((b.toNat : Int) == 0)) = true := by have e : b = 0 := Classical.not_not.1 q_b0; subst e; rfl
     by_cases q_l3 : l < 3
     ·have t0_l3 : (decide ((3 : Int) ≤ l)) = false := decide_eq_false (by omega);have HB : Hid (expL tk n = .bad 2 k) := Lib.hid (HBad.out 2 (stepX_bad HNL.out (by rw [HLL.out]; exact .inr (.inl q_l3))));have XW := Lib.hid (XA.out.trans (HW.out.alloc (.cells #[.int .u8 (b.toNat : Int), .int .i64 l, .int .i64 d] 84)));have BW := Lib.hid (BA.out.ext (HW.out.alloc (.cells #[.int .u8 (b.toNat : Int), .int .i64 l, .int .i64 d] 84)));have r0 := BW.out.cell 0;have s0 := BW.out.frozen 0;have r1 := BW.out.cell 1;have s1 := BW.out.frozen 1;have FS := Lib.hid (flt_set (x' := .int .i64 3) (y' := .int .i64 (k : Int)) XW.out (Nat.le_refl _) BW.out);clear HSt HBad HL HR HLL;clear q_l0 q_b0 q_l3;go_wp2_with fail;obtain ⟨u0, u1⟩ : _ ∧ _ := ⟨FS.out.2.cell 0, FS.out.2.cell 1⟩;exact bodyPost_ret (v := .tuple #[.string ⟨#[]⟩, .agg #[.int .i64 3, .int .i64 (k : Int)]]) (by simp [results, Tryd.results25, go_sem, u0, u1]) rfl ⟨FS.out.1, .inr ⟨2, k, by decide, HB.out, rfl⟩⟩
     ·have t0_l3 : (decide ((3 : Int) ≤ l)) = true := decide_eq_true (by omega);by_cases q_l258 : 258 < l
      ·have t0_l258 : (decide (l ≤ 258)) = false := decide_eq_false (by omega);have HB : Hid (expL tk n = .bad 2 k) := Lib.hid (HBad.out 2 (stepX_bad HNL.out (by rw [HLL.out]; exact .inr (.inr (.inl q_l258)))));have XW := Lib.hid (XA.out.trans (HW.out.alloc (.cells #[.int .u8 (b.toNat : Int), .int .i64 l, .int .i64 d] 84)));have BW := Lib.hid (BA.out.ext (HW.out.alloc (.cells #[.int .u8 (b.toNat : Int), .int .i64 l, .int .i64 d] 84)));have r0 := BW.out.cell 0;have s0 := BW.out.frozen 0;have r1 := BW.out.cell 1;have s1 := BW.out.frozen 1;have FS := Lib.hid (flt_set (x' := .int .i64 3) (y' := .int .i64 (k : Int)) XW.out (Nat.le_refl _) BW.out);clear HSt HBad HL HR HLL;clear q_l0 q_b0 q_l3 q_l258;go_wp2_with fail;obtain ⟨u0, u1⟩ : _ ∧ _ := ⟨FS.out.2.cell 0, FS.out.2.cell 1⟩;exact bodyPost_ret (v := .tuple #[.string ⟨#[]⟩, .agg #[.int .i64 3, .int .i64 (k : Int)]]) (by simp [results, Tryd.results25, go_sem, u0, u1]) rfl ⟨FS.out.1, .inr ⟨2, k, by decide, HB.out, rfl⟩⟩
      ·have t0_l258 : (decide (l ≤ 258)) = true := decide_eq_true (by omega);by_cases q_d1 : d < 1
       ·have t0_d1 : (decide (d < 1)) = true := decide_eq_true q_d1;have HB : Hid (expL tk n = .bad 2 k) := Lib.hid (HBad.out 2 (stepX_bad HNL.out (by rw [HLL.out]; exact .inr (.inr (.inr (.inl q_d1))))));have XW := Lib.hid (XA.out.trans (HW.out.alloc (.cells #[.int .u8 (b.toNat : Int), .int .i64 l, .int .i64 d] 84)));have BW := Lib.hid (BA.out.ext (HW.out.alloc (.cells #[.int .u8 (b.toNat : Int), .int .i64 l, .int .i64 d] 84)));have r0 := BW.out.cell 0;have s0 := BW.out.frozen 0;have r1 := BW.out.cell 1;have s1 := BW.out.frozen 1;have FS := Lib.hid (flt_set (x' := .int .i64 3) (y' := .int .i64 (k : Int)) XW.out (Nat.le_refl _) BW.out);clear HSt HBad HL HR HLL;clear q_l0 q_b0 q_l3 q_l258 q_d1;go_wp2_with fail;obtain ⟨u0, u1⟩ : _ ∧ _ := ⟨FS.out.2.cell 0, FS.out.2.cell 1⟩;exact bodyPost_ret (v := .tuple #[.string ⟨#[]⟩, .agg #[.int .i64 3, .int .i64 (k : Int)]]) (by simp [results, Tryd.results25, go_sem, u0, u1]) rfl ⟨FS.out.1, .inr ⟨2, k, by decide, HB.out, rfl⟩⟩
       ·have t0_d1 : (decide (d < 1)) = false := decide_eq_false q_d1;by_cases q_d32 : 32768 < d
        ·have t0_d32 : (decide (32768 < d)) = true := decide_eq_true q_d32;have HB : Hid (expL tk n = .bad 2 k) := Lib.hid (HBad.out 2 (stepX_bad HNL.out (by rw [HLL.out]; exact .inr (.inr (.inr (.inr (.inl q_d32)))))));have XW := Lib.hid (XA.out.trans (HW.out.alloc (.cells #[.int .u8 (b.toNat : Int), .int .i64 l, .int .i64 d] 84)));have BW := Lib.hid (BA.out.ext (HW.out.alloc (.cells #[.int .u8 (b.toNat : Int), .int .i64 l, .int .i64 d] 84)));have r0 := BW.out.cell 0;have s0 := BW.out.frozen 0;have r1 := BW.out.cell 1;have s1 := BW.out.frozen 1;have FS := Lib.hid (flt_set (x' := .int .i64 3) (y' := .int .i64 (k : Int)) XW.out (Nat.le_refl _) BW.out);clear HSt HBad HL HR HLL;clear q_l0 q_b0 q_l3 q_l258 q_d1 q_d32;go_wp2_with fail;obtain ⟨u0, u1⟩ : _ ∧ _ := ⟨FS.out.2.cell 0, FS.out.2.cell 1⟩;exact bodyPost_ret (v := .tuple #[.string ⟨#[]⟩, .agg #[.int .i64 3, .int .i64 (k : Int)]]) (by simp [results, Tryd.results25, go_sem, u0, u1]) rfl ⟨FS.out.1, .inr ⟨2, k, by decide, HB.out, rfl⟩⟩
        ·have t0_d32 : (decide (32768 < d)) = false := decide_eq_false q_d32;by_cases q_dL : (L : Int) < d
         ·have t0_dL : (decide ((L : Int) < d)) = true := decide_eq_true q_dL;have HB : Hid (expL tk n = .bad 2 k) := Lib.hid (HBad.out 2 (stepX_bad HNL.out (by rw [HLL.out]; exact .inr (.inr (.inr (.inr (.inr (q_dL))))))));have XW := Lib.hid (XA.out.trans (HW.out.alloc (.cells #[.int .u8 (b.toNat : Int), .int .i64 l, .int .i64 d] 84)));have BW := Lib.hid (BA.out.ext (HW.out.alloc (.cells #[.int .u8 (b.toNat : Int), .int .i64 l, .int .i64 d] 84)));have r0 := BW.out.cell 0;have s0 := BW.out.frozen 0;have r1 := BW.out.cell 1;have s1 := BW.out.frozen 1;have FS := Lib.hid (flt_set (x' := .int .i64 3) (y' := .int .i64 (k : Int)) XW.out (Nat.le_refl _) BW.out);clear HSt HBad HL HR HLL;clear q_l0 q_b0 q_l3 q_l258 q_d1 q_d32 q_dL;go_wp2_with fail;obtain ⟨u0, u1⟩ : _ ∧ _ := ⟨FS.out.2.cell 0, FS.out.2.cell 1⟩;exact bodyPost_ret (v := .tuple #[.string ⟨#[]⟩, .agg #[.int .i64 3, .int .i64 (k : Int)]]) (by simp [results, Tryd.results25, go_sem, u0, u1]) rfl ⟨FS.out.1, .inr ⟨2, k, by decide, HB.out, rfl⟩⟩
         ·have t0_dL : (decide ((L : Int) < d)) = false := decide_eq_false q_dL;obtain ⟨l', hl'⟩ : ∃ l' : Nat, l = l' := ⟨l.toNat, by omega⟩;obtain ⟨d', hd'⟩ : ∃ d' : Nat, d = d' := ⟨d.toNat, by omega⟩;have HNB : Hid (¬ badP ⟨b, l, d⟩ out.length) := Lib.hid (by rw [HLL.out]; unfold badP; simp only [not_or]; exact ⟨q_b0, q_l3, q_l258, q_d1, q_d32, q_dL⟩);have HLI := Lib.hid hl';have HDI := Lib.hid hd';by_cases qb : 300000 < L + l'
          ·have tq : decide ((300000 : Int) < (L : Int) + l) = true := decide_eq_true (by omega);have HB : Hid (expL tk n = .bad 1 k) := Lib.hid (HBad.out 1 (stepX_copy_no HNL.out HNB.out (by exact HLI.out) (by rw [HLL.out]; exact qb)));have XW := Lib.hid (XA.out.trans (HW.out.alloc (.cells #[.int .u8 (b.toNat : Int), .int .i64 l, .int .i64 d] 84)));have BW := Lib.hid (BA.out.ext (HW.out.alloc (.cells #[.int .u8 (b.toNat : Int), .int .i64 l, .int .i64 d] 84)));have r0 := BW.out.cell 0;have s0 := BW.out.frozen 0;have r1 := BW.out.cell 1;have s1 := BW.out.frozen 1;have FS := Lib.hid (flt_set (x' := .int .i64 2) (y' := .int .i64 (k : Int)) XW.out (Nat.le_refl _) BW.out);clear HSt HBad HL HR HLL;clear q_l0 q_b0 q_d1 q_d32 q_dL hl' hd';go_wp2_with fail;obtain ⟨u0, u1⟩ : _ ∧ _ := ⟨FS.out.2.cell 0, FS.out.2.cell 1⟩;exact bodyPost_ret (v := .tuple #[.string ⟨#[]⟩, .agg #[.int .i64 2, .int .i64 (k : Int)]]) (by simp [results, Tryd.results25, go_sem, u0, u1]) rfl ⟨FS.out.1, .inr ⟨1, k, by decide, HB.out, rfl⟩⟩
          ·have tq : decide ((300000 : Int) < (L : Int) + l) = false := decide_eq_false (by omega);have HS2 := Lib.hid (HSt.out.trans (stepX_copy HNL.out HNB.out HLI.out HDI.out (by rw [HLL.out]; omega)));clear HSt HBad HL HNL HNB;clear q_l0 q_b0 q_d32;have hR : wr.ownsRow w1.heap.size 5 1 (.slice xo L co) out.length (bytesV out) := by rw [HLL.out]; exact HR.out
           have NB0 : Hid ((Value.slice xo L co).ownBlock ≠ some wr.heap.size) := Lib.hid (fun e => by have := (hR.lt _ e).2; omega);have HR0 := Lib.hid (hR.alloc (.cells #[.int .u8 (b.toNat : Int), .int .i64 l, .int .i64 d] 84));have BT0 : Hid (Bk (wr.alloc (.cells #[.int .u8 (b.toNat : Int), .int .i64 l, .int .i64 d] 84)) wr.heap.size #[.int .u8 (b.toNat : Int), .int .i64 l, .int .i64 d]) := Lib.hid (Bk.at rfl);have HW0 := Lib.hid (HW.out.alloc (.cells #[.int .u8 (b.toNat : Int), .int .i64 l, .int .i64 d] 84));clear hR;clear hl' hd';go_wp2_with fail;clear c0 c1 c2;obtain ⟨T, hT⟩ : ∃ T, wr.heap.size = T := ⟨_, rfl⟩;rw [hT] at BT0 NB0 ⊢;clear hT;go_loopw [4, 10] (fun v c wx => ∃ j : Nat, j ≤ l' ∧ c = .int .i64 j ∧ Hid (wx.ownsRow w1.heap.size 5 1 v (copyL out d' j).length (bytesV (copyL out d' j))) ∧ Hid (Ext w1 wx) ∧ Hid (Bk wx T #[.int .u8 (b.toNat : Int), .int .i64 l, .int .i64 d]) ∧ Hid (v.ownBlock ≠ some T)) (fun _ c _ => l' - (intOf c).toNat)
           case atStart => exact ⟨0, by omega, rfl, HR0, HW0, BT0, NB0⟩
           case round =>
            clear HR0 HW0 BT0 NB0 HR;obtain ⟨j, hj, rfl, HR, HW2, BT, NB⟩ := hrel;by_cases hlj : j < l'
            ·have hl' := HLI.out;have hd' := HDI.out;obtain ⟨U, hU⟩ : ∃ U, copyL out d' j = U := ⟨_, rfl⟩;have HUS : Hid (copyL out d' (j + 1) = U ++ [U.getD (U.length - d') 0]) := Lib.hid (by simp only [copyL, hU]);have hUl : U.length = L + j := by rw [← hU, copyL_length, HLL.out]
             rw [hU] at HR;obtain ⟨M, hM⟩ : ∃ M, U.length = M := ⟨_, rfl⟩;rw [hM] at HR HUS hUl;have HM := Lib.hid hM;obtain ⟨y, hy⟩ : ∃ y, U.getD (M - d') 0 = y := ⟨_, rfl⟩;rw [hy] at HUS;obtain ⟨gb, cp, rfl, _, _⟩ := ownsRow_some HR.out (by omega);obtain ⟨q, hq⟩ : ∃ q : Nat, M - d' = q := ⟨_, rfl⟩;have hc : wr.cell? ⟨gb, q, none⟩ = some (.int .u8 (y.toNat : Int)) := by
              have hql : q < U.length := by omega
              rw [HR.out.cellAt q (by omega), bytesV_get U q hql, ← hy, hq];simp [List.getD, hql]
             have hqI : (M : Int) - d = (q : Int) := by omega
             have tj : decide ((j : Int) < l) = true := decide_eq_true (by omega);have b2 := BT.out.cell 2;have hszx : w1.heap.size ≤ wr.heap.size := HW2.out.size;have HTl := Lib.hid BT.out.lt;have hqM : q < M := by omega
             have HUU := Lib.hid (And.intro hU hy);have hM2 : M ≤ 300000 := by omega
             clear hU hy hM hq hUl hl' hd' q_dL q_d1 q_l258 q_l3;go_wp2_with (at_builtin; refine wpList_append_own_at _ rfl _ _ 61 rfl w1.heap.size 5 i0 (.int .u8 0) 1 1 Tryd.underlying61 hi0 hz0 hz1 hz2 rfl (by decide) _ _ _ rfl (HR.out.alloc _) ⟨wr.heap.size, 0, none⟩ 1 1 [.int .u8 (y.toNat : Int)] rfl rfl ?e1 (cells_one1 _) ?e3 ?e4 ?e5 ?_)
             case e1 => exact (cell_one_new _ _ _)
             case e3 => unfold maxLen; omega
             case e4 => omega
             case e5 => first | omega | (simp; omega)
             intro v' w2 hown hgrow _ hat;have hRR : (wr.alloc (.cells #[.int .u8 (y.toNat : Int)] 5)).ownsRow w1.heap.size 5 1 (.slice (some ⟨gb, 0, none⟩) M cp) U.length (bytesV U) := by rw [HM.out]; exact HR.out.alloc _
             have Q := row_push (HW2.out.alloc _) hRR hgrow (by rw [HM.out]; exact hown);have P1 := Lib.hid Q.1;have P2 := Lib.hid Q.2;have P3 := Lib.hid ((BT.out.old (o := .cells #[.int .u8 (y.toNat : Int)] 5)).keeps (Keeps.grown hgrow) NB.out);have P4 : Hid (v'.ownBlock ≠ some T) := Lib.hid (by
              rcases hat with e | e
              ·rw [e]; exact NB.out
              ·rw [e]; intro e2; injection e2 with e2; have q := HTl.out; first | omega | (rw [World.size_alloc] at e2; omega))
             rw [← HUS.out] at P1;clear Q hown hgrow hRR hat hc b2 hqI tj;go_wp2_with fail;go_roundw
             case rel => exact ⟨j + 1, by omega, by go_num, P1, P2, P3, P4⟩
             case measure => simp [intOf]; omega
            ·obtain rfl : j = l' := by omega
             have tj : decide ((j : Int) < l) = false := decide_eq_false (by have := HLI.out; omega);go_wp2_with fail;go_roundw
             case rel => exact ⟨k + 1, copyL out d' j, by omega, by go_num, HS2, HR, HW2⟩
             case measure => simp [intOf]; omega
  ·obtain rfl : k = n := by omega
   have XW := Lib.hid (XA.out.trans HW.out);have BW := Lib.hid (BA.out.ext HW.out);go_wp2_with fail;refine wp_region_held_drew (S := fun w' => w'.ownsRow w1.heap.size 5 1 u4 out.length (bytesV out)) (by kernel_rfl) HR.out (fun hHeld => ?_);refine tkH 0 (v := ?_) rfl hHeld ?_ ?_;rotate_left
   ·intro w hSw;go_simp;(try with_reducible rfl)
   (try simp only [Act.put, xa, xb, xc, xd, xe, xf]);refine tkH 1 (v := ?_) rfl hHeld ?_ ?_;rotate_left
   ·intro w hSw;have hcv := row_conv hSw;go_simp;(try with_reducible rfl)
   (try simp only [Act.put, xa, xb, xc, xd, xe, xf]);refine wpAnyH_ready (rs := [2]) (by kernel_rfl) (by simp) ?_;refine AllReadyH.cons rfl (fun KK hK => ?_) AllReadyH.nil;clear hHeld;go_simp;refine (fine_any _).mono ?_;rintro e w2 ⟨rfl, hx⟩;have hf : Ext wr w2 := ⟨hx.os, hx.tape, hx.output, hx.size, hx.block⟩;clear hx;go_simp;refine hK.out _ _ (ownsRow_kept (S := fun _ => False) HR.out (Ext.keeps (a := wr) hf) (fun _ _ => id)) (fun hHeld => ?_);clear hK KK;(try simp only [Act.put, xa, xb, xc, xd, xe, xf]);refine tkH 3 (v := ?_) rfl hHeld ?_ ?_;rotate_left
   ·intro w hSw;go_simp;(try with_reducible rfl)
   (try simp only [Act.put, xa, xb, xc, xd, xe, xf]);have XW2 := Lib.hid (XW.out.trans hf);have BW2 := Lib.hid (BW.out.ext hf);clear hf;have r0 := BW2.out.cell 0;have s0 := BW2.out.frozen 0;have r1 := BW2.out.cell 1;have s1 := BW2.out.frozen 1;have FS := Lib.hid (flt_set (x' := .int .i64 0) (y' := .int .i64 (-1)) XW2.out (Nat.le_refl _) BW2.out);have HR2 := Lib.hid hHeld;refine wpAnyH_ready (rs := [4]) (by kernel_rfl) (by simp) ?_;refine AllReadyH.cons rfl (fun KK hK => ?_) AllReadyH.nil;clear hHeld;go_simp;refine hK.out _ _ (ownsRow_setCell_other (ownsRow_setCell_other HR2.out (fun e => by have h1 : w1.heap.size ≤ w.heap.size := (HR2.out.lt _ e).1; have h2 := SZ.out; omega) _) (fun e => by have h1 : w1.heap.size ≤ w.heap.size := (HR2.out.lt _ e).1; have h2 := SZ.out; omega) _) (fun hHeld => ?_);clear hK KK hHeld;(try simp only [Act.put, xa, xb, xc, xd, xe, xf]);refine wpAnyH_done (by kernel_rfl) ?_ _;go_wp2_with fail;obtain ⟨v0, v1⟩ : _ ∧ _ := ⟨FS.out.2.cell 0, FS.out.2.cell 1⟩;exact bodyPost_ret (v := .tuple #[.string ⟨out.toArray⟩, .agg #[.int .i64 0, .int .i64 (-1)]]) (by simp [results, Tryd.results25, go_sem, v0, v1]) rfl ⟨FS.out.1, .inl ⟨out, HL.out, rfl⟩⟩
end Go.Proofs.YtnhbjgmfbcedaaaDoor
namespace Go.Proofs.YtnhbjgmfbcedaaaDoor
open Go.RowKit
theorem faulted_any (w : World) (E : Nat → Addr) (hE : Errs w E) (v : Value) (c a n b : Int) (h : ErrV w E v c a) : Calls Tryd.prog 26 #[v, .agg #[.int .i64 n, .int .i64 b]] w fun e w' => e = .returned (.bool (decide (c = n ∧ (c = 0 ∨ a = b)))) ∧ Ext w w' := by
  have h' := h.ext ((Ext.refl w).alloc (.cells #[.int .i64 n, .int .i64 b] 45));have hE' := hE.ext ((Ext.refl w).alloc (.cells #[.int .i64 n, .int .i64 b] 45));have HH := Lib.hid h';have HE := Lib.hid hE';clear h h' hE hE';have fin : ∀ w2, Ext (w.alloc (.cells #[.int .i64 n, .int .i64 b] 45)) w2 → Ext w w2 ∧ w2.cell? ⟨w.heap.size, 0, none⟩ = some (.int .i64 n) ∧ w2.cell? ⟨w.heap.size, 1, none⟩ = some (.int .i64 b) := by
    intro w2 h2;refine ⟨((Ext.refl w).alloc _).trans h2, (h2.cell (p := ⟨w.heap.size, 0, none⟩) (by simp)).trans (by simp), (h2.cell (p := ⟨w.heap.size, 1, none⟩) (by simp)).trans (by simp)⟩
  have FIN := Lib.hid fin
  clear fin
  by_cases hc : c = n
  · subst hc;by_cases h0 : c = 0
    · have t0 : (c == 0) = true := beq_iff_eq.2 h0;have H0 := Lib.hid h0;clear h0;go_enter Tryd.func26, Tryd.ntmps26
      go_wp2_with fail;refine (code_any _ E HE.out _ _ _ HH.out).mono ?_;rintro e w2 ⟨rfl, h2⟩;obtain ⟨f1, f2, f3⟩ := FIN.out _ h2;have F1 := Lib.hid f1;clear f1 h2;go_wp2_with fail;go_ret;exact ⟨ret_bool (by rw [Bool.eq_iff_iff]; simp [H0.out]), F1.out⟩
    · have t0 : (c == 0) = false := beq_eq_false_iff_ne.2 h0;go_enter Tryd.func26, Tryd.ntmps26
      go_wp2_with fail;refine (code_any _ E HE.out _ _ _ HH.out).mono ?_;rintro e w2 ⟨rfl, h2⟩;obtain ⟨f1, f2, f3⟩ := FIN.out _ h2;have F1 := Lib.hid f1;clear f1 h2;go_wp2_with fail;go_ret;exact ⟨ret_bool (by rw [Bool.eq_iff_iff]; simp [h0]), F1.out⟩
  · have t1 : (c == n) = false := beq_eq_false_iff_ne.2 hc;go_enter Tryd.func26, Tryd.ntmps26
    go_wp2_with fail;refine (code_any _ E HE.out _ _ _ HH.out).mono ?_;rintro e w2 ⟨rfl, h2⟩;obtain ⟨f1, f2, f3⟩ := FIN.out _ h2;have F1 := Lib.hid f1;clear f1 h2;go_wp2_with fail;go_ret;exact ⟨ret_bool (by rw [Bool.eq_iff_iff]; simp [hc]), F1.out⟩
end Go.Proofs.YtnhbjgmfbcedaaaDoor
namespace Go.Proofs.YtnhbjgmfbcedaaaDoor
open Go.RowKit
/-- the cells of tokens, one behind the other -/
def cellT (tk : Nat → Tk) (j : Nat) : Value := if j % 3 = 0 then .int .u8 ((tk (j / 3)).b.toNat : Int) else if j % 3 = 1 then .int .i64 (tk (j / 3)).l else .int .i64 (tk (j / 3)).d
def tkV (n : Nat) (tk : Nat → Tk) : List Value := (List.range (n * 3)).map (cellT tk)
theorem tkV_length (n : Nat) (tk : Nat → Tk) : (tkV n tk).length = n * 3 := by simp [tkV]
theorem tkV_get (n : Nat) (tk : Nat → Tk) (j : Nat) (h : j < n * 3) : (tkV n tk)[j]? = some (cellT tk j) := by simp [tkV, h]
theorem cellT_0 (tk : Nat → Tk) (i : Nat) : cellT tk (i * 3) = .int .u8 ((tk i).b.toNat : Int) := by
 unfold cellT; rw [if_pos (by omega), show i * 3 / 3 = i by omega]
theorem cellT_1 (tk : Nat → Tk) (i : Nat) : cellT tk (i * 3 + 1) = .int .i64 (tk i).l := by
 unfold cellT; rw [if_neg (by omega), if_pos (by omega), show (i * 3 + 1) / 3 = i by omega]
theorem cellT_2 (tk : Nat → Tk) (i : Nat) : cellT tk (i * 3 + 2) = .int .i64 (tk i).d := by
 unfold cellT; rw [if_neg (by omega), if_neg (by omega), show (i * 3 + 2) / 3 = i by omega]
theorem tk_one (n : Nat) (tk : Nat → Tk) : ∀ u ∈ tkV n tk, u.oneCell' = true := by
 intro u hu;obtain ⟨j, _, rfl⟩ := List.mem_map.1 hu;unfold cellT; split
 ·rfl
 ·split <;> rfl
theorem add_add3 (a : Addr) (i c : Nat) (hc : c ≠ 0) : a.add (i * 3 + c) = ⟨(a.add (i * 3)).block, (a.add (i * 3)).off + c, none⟩ := by
 unfold Addr.add;rw [if_neg (by omega)];split
 ·rename_i h;have : i = 0 := by omega
  subst this; simp
 ·simp [Nat.add_assoc]
theorem Toks.cells {w : World} {a : Addr} {n : Nat} {tk : Nat → Tk} (h : Toks w (some a) n tk) (j : Nat) (u : Value) (hj : (tkV n tk)[j]? = some u) : w.cell? (a.add j) = some u := by
 have hl : j < n * 3 := by
  rcases Nat.lt_or_ge j (n * 3) with q | q
  ·exact q
  ·rw [List.getElem?_eq_none (by rw [tkV_length]; exact q)] at hj; cases hj
 rw [tkV_get _ _ _ hl] at hj;injection hj with hj;subst hj;obtain ⟨c0, c1, c2, _⟩ := h.2 a rfl (j / 3) (by omega);obtain ⟨i, c, rfl, hc⟩ : ∃ i c, j = i * 3 + c ∧ c < 3 := ⟨j / 3, j % 3, by omega, by omega⟩;rw [show (i * 3 + c) / 3 = i by omega] at c0 c1 c2;match c, hc with
 | 0, _ => rw [Nat.add_zero, cellT_0]; exact c0
 | 1, _ => rw [cellT_1, add_add3 _ _ _ (by decide)]; exact c1
 | 2, _ => rw [cellT_2, add_add3 _ _ _ (by decide)]; exact c2
theorem Toks.of_own {w : World} {base : Nat} {v : Value} {n : Nat} {tk : Nat → Tk} (h : w.ownsRow base 84 3 v n (tkV n tk)) (hb : ∀ i, i < n → (tk i).Ok) :
  ∃ x c, v = .slice x n c ∧ Toks w x n tk := by
 rcases ownsRow_slice h with ⟨rfl, h0⟩ | ⟨g, cap, rfl⟩
 ·subst h0; exact ⟨none, 0, rfl, fun _ => rfl, fun a h => by cases h⟩
 ·refine ⟨some ⟨g, 0, none⟩, cap, rfl, (fun h => by cases h), fun a ha i hi => ?_⟩;injection ha with ha; subst ha;rw [add_plain];refine ⟨?_, ?_, ?_, hb i hi⟩
  ·rw [h.cellAt _ (by omega), tkV_get _ _ _ (by omega), cellT_0]
  ·show w.cell? ⟨g, i * 3 + 1, none⟩ = _; rw [h.cellAt _ (by omega), tkV_get _ _ _ (by omega), cellT_1]
  ·show w.cell? ⟨g, i * 3 + 2, none⟩ = _; rw [h.cellAt _ (by omega), tkV_get _ _ _ (by omega), cellT_2]
theorem Toks.oks {w : World} {x : Option Addr} {n : Nat} {tk : Nat → Tk} (h : Toks w x n tk) : ∀ i, i < n → (tk i).Ok := by
 intro i hi;obtain ⟨a, rfl⟩ := h.isSome hi;exact (h.2 a rfl i hi).2.2.2
theorem tokinf : (Tryd.prog.info? 84).map (fun i => (i.zero, i.size, i.bytes)) = some (some (.agg #[.int .u8 0, .int .i64 0, .int .i64 0]), 3, 24) := by kernel_rfl
def TokPost (w' : World) (n : Nat) (tk : Nat → Tk) (e : Ending) : Prop := ∃ ox oc, e = .returned (.slice ox n oc) ∧ Toks w' ox n tk
theorem tokens_any (x : Option Addr) (n cap : Nat) (tk : Nat → Tk) (w : World) (hx : Toks w x n tk) (h0 : x = none → cap = 0) (hn : n ≤ 100000) :
  Calls Tryd.prog 24 #[.slice x n cap] w fun e w' => TokPost w' n tk e ∧ Ext w w' := by
 obtain ⟨i0, hi0, hz0, hz1, hz2⟩ := info_parts tokinf;have HX := Lib.hid hx;clear hx;cases x with
 | none =>
  obtain rfl := HX.out.1 rfl;obtain rfl := h0 rfl;go_enter Tryd.func24, Tryd.ntmps24
  go_wp2_with (at_builtin; refine wpList_append_own_none rfl _ _ 32 rfl 0 84 i0 3 Tryd.underlying32 hi0 (.slice none 0 0) 0 [] rfl (World.ownsRow_nil _ _ _ _) rfl ?_);go_ret;exact ⟨⟨none, 0, rfl, fun _ => rfl, fun a h => by cases h⟩, Ext.refl _⟩
 | some a =>
  go_enter Tryd.func24, Tryd.ntmps24
  go_wp2_with (at_builtin; refine wpList_append_own_at _ rfl _ _ 32 rfl w.heap.size 84 i0 _ 3 24 Tryd.underlying32 hi0 hz0 hz1 hz2 rfl (by decide) (.slice none 0 0) 0 [] rfl (World.ownsRow_nil _ _ _ _) a n cap (tkV n tk) rfl (tkV_length _ _) HX.out.cells (tk_one _ _) ?c3 ?c4 (Nat.le_refl _) ?_)
  case c3 => unfold maxLen; omega
  case c4 => omega
  intro v' w1 hown hgrow _ _;have hE : Ext w w1 := (Keeps.grown hgrow).below (Nat.le_refl _) (fun k _ q => by cases q);(try simp only [Nat.zero_add, List.nil_append] at hown);obtain ⟨ox, oc, rfl, ht⟩ := Toks.of_own hown HX.out.oks;have HT := Lib.hid ht;have HE := Lib.hid hE;clear hown hgrow ht hE;go_wp2_with fail;go_ret;exact ⟨⟨ox, oc, rfl, HT.out⟩, HE.out⟩
theorem wide_big (x : Option Addr) (n cap : Nat) (tk : Nat → Tk) (w : World) (hx : Toks w x n tk) (hn : n ≤ maxLen) (h : 300 < n) :
  Calls Tryd.prog 22 #[.slice x n cap] w fun e w' => e = .returned (.bool false) ∧ w = w' := by
 have HX := Lib.hid hx;clear hx;unfold maxLen at hn;go_enter Tryd.func22, Tryd.ntmps22
 go_wp2
 go_loop [3, 4] (fun s c => ∃ (k : Nat) (z : Int), k ≤ n ∧ c = .int .i64 k ∧ s = .int .i64 z) (fun _ c => n - (intOf c).toNat)
 case atStart => exact ⟨0, 0, by omega, rfl, rfl⟩
 case round =>
  obtain ⟨k, z, hk, rfl, rfl⟩ := hrel;by_cases hlt : k < n
  ·obtain ⟨a, rfl⟩ := HX.out.isSome hlt;obtain ⟨c0, c1, c2, okl, okd⟩ := HX.out.2 a rfl k hlt;obtain ⟨l, hl⟩ : ∃ l, (tk k).l = l := ⟨_, rfl⟩;rw [hl] at c1 okl;obtain ⟨l1, l2⟩ := okl;clear c0 c2 okd hl;by_cases q0 : 0 < l
   ·by_cases q1 : l ≤ 258
    ·have t0 : decide ((0 : Int) < l) = true := decide_eq_true q0;have t1 : decide (l ≤ 258) = true := decide_eq_true q1;go_wp2_with fail;go_round
     case rel => exact ⟨k + 1, _, by omega, by go_num, rfl⟩
     case measure => simp [intOf]; omega
    ·have t0 : decide ((0 : Int) < l) = true := decide_eq_true q0;have t1 : decide (l ≤ 258) = false := decide_eq_false q1;go_wp2_with fail;go_round
     case rel => exact ⟨k + 1, _, by omega, by go_num, rfl⟩
     case measure => simp [intOf]; omega
   ·have t0 : decide ((0 : Int) < l) = false := decide_eq_false q0;go_wp2_with fail;go_round
    case rel => exact ⟨k + 1, _, by omega, by go_num, rfl⟩
    case measure => simp [intOf]; omega
  ·obtain rfl : k = n := by omega
   go_wp2_with fail;go_ret;exact ⟨rfl, rfl⟩
theorem wide_small (x : Option Addr) (n cap : Nat) (tk : Nat → Tk) (w : World) (hx : Toks w x n tk) (hn : n ≤ 300) :
  Calls Tryd.prog 22 #[.slice x n cap] w fun e w' => (e = .returned (.bool true) ∨ e = .returned (.bool false)) ∧ w = w' := by
 have HX := Lib.hid hx;clear hx;go_enter Tryd.func22, Tryd.ntmps22
 go_wp2
 go_loop [3, 4] (fun s c => ∃ (k : Nat) (z : Int), k ≤ n ∧ c = .int .i64 k ∧ s = .int .i64 z ∧ 0 ≤ z ∧ z ≤ k * 258) (fun _ c => n - (intOf c).toNat)
 case atStart => exact ⟨0, 0, by omega, rfl, rfl, by omega, by omega⟩
 case round =>
  obtain ⟨k, z, hk, rfl, rfl, z0, z1⟩ := hrel;by_cases hlt : k < n
  ·obtain ⟨a, rfl⟩ := HX.out.isSome hlt;obtain ⟨c0, c1, c2, okl, okd⟩ := HX.out.2 a rfl k hlt;obtain ⟨l, hl⟩ : ∃ l, (tk k).l = l := ⟨_, rfl⟩;rw [hl] at c1 okl;obtain ⟨l1, l2⟩ := okl;clear c0 c2 okd hl;by_cases q0 : 0 < l
   ·by_cases q1 : l ≤ 258
    ·have t0 : decide ((0 : Int) < l) = true := decide_eq_true q0;have t1 : decide (l ≤ 258) = true := decide_eq_true q1;go_wp2_with fail;go_round
     case rel => exact ⟨k + 1, z + l, by omega, by go_num, rfl, by omega, by omega⟩
     case measure => simp [intOf]; omega
    ·have t0 : decide ((0 : Int) < l) = true := decide_eq_true q0;have t1 : decide (l ≤ 258) = false := decide_eq_false q1;go_wp2_with fail;go_round
     case rel => exact ⟨k + 1, z, by omega, by go_num, rfl, by omega, by omega⟩
     case measure => simp [intOf]; omega
   ·have t0 : decide ((0 : Int) < l) = false := decide_eq_false q0;go_wp2_with fail;go_round
    case rel => exact ⟨k + 1, z, by omega, by go_num, rfl, by omega, by omega⟩
    case measure => simp [intOf]; omega
  ·obtain rfl : k = n := by omega
   by_cases q : z ≤ 6000
   ·have t0 : decide (z ≤ 6000) = true := decide_eq_true q;go_wp2_with fail;go_ret;exact ⟨.inl rfl, rfl⟩
   ·have t0 : decide (z ≤ 6000) = false := decide_eq_false q;go_wp2_with fail;go_ret;exact ⟨.inr rfl, rfl⟩
end Go.Proofs.YtnhbjgmfbcedaaaDoor
namespace Go.Proofs.YtnhbjgmfbcedaaaDoor
open Go.RowKit
theorem align_calls (B o n V : Nat) (v : Value) (w : World) (hW : WAt w B o v V n) (hn : n < 1099511627776) :
    Calls Tryd.prog 73 #[.pointer (some ⟨B, o, none⟩)] w fun e w' => e = .returned (.tuple #[]) ∧ WAt w' B o v V ((n + 7) / 8 * 8) ∧ WStep w w' B o v v := by
  obtain ⟨c0, c1, f0, f1, ⟨l, hl, hV, hown⟩, hap, hlt⟩ := hW;have a3 : (⟨B, o + 1, none⟩ : Addr) ≠ ⟨B, o, none⟩ := by intro e; injection e with _ e2; omega
  have e8 : (8 : Int) * (l.length : Int) = (((n + 7) / 8 * 8 : Nat) : Int) := by rw [hl]; omega
  have hlenI : (l.length : Int) ≤ 1099511627776 := by omega
  have fin : ∀ m : Nat, WAt ((w.setCell ⟨B, o + 1, none⟩ (.int .i64 ((8 : Int) * (l.length : Int)))).drewN m) B o v V ((n + 7) / 8 * 8) ∧ WStep w ((w.setCell ⟨B, o + 1, none⟩ (.int .i64 ((8 : Int) * (l.length : Int)))).drewN m) B o v v := by
    intro m;rw [e8];refine ⟨⟨?_, ?_, ?_, ?_, ⟨l, by omega, hV, ?_⟩, hap, ?_⟩, ⟨?_, ?_, ?_, ?_⟩⟩
    · exact (World.cell?_setCell_other _ _ _ _ a3).trans c0
    · exact World.cell?_setCell_same _ _ _ c1
    · show World.frozen? (World.setCell _ _ _) _ = _; rw [World.frozen?_setCell]; exact f0
    · show World.frozen? (World.setCell _ _ _) _ = _; rw [World.frozen?_setCell]; exact f1
    · exact ownsRow_setCell_other hown hap _
    · exact Nat.lt_of_lt_of_le hlt (Nat.pow_le_pow_right (by decide) (by omega))
    · exact ((Keeps.refl _ w).setCell (.inl (.inl rfl)) _).drewN m
    · intro j h1 h2;have b1 : (⟨B, o + 1, none⟩ : Addr) ≠ ⟨B, j, none⟩ := by intro e; injection e with _ e2; exact h2 e2.symm
      exact World.cell?_setCell_other _ _ _ _ b1
    · intro j; show World.frozen? (World.setCell _ _ _) _ = _; rw [World.frozen?_setCell]
    · intro k hk; exact .inl hk
  have HF := Lib.hid fin
  have H8 := Lib.hid e8;rcases ownsRow_slice hown with ⟨rfl, h0⟩ | ⟨g, cap, rfl⟩
  · have HL := Lib.hid hl;have H0 := Lib.hid h0;rw [h0] at HF;clear hl hV h0 fin e8;go_enter Tryd.func73, Tryd.ntmps73
    go_wp2
    go_end0;exact ⟨rfl, HF.out 0⟩
  · have HL := Lib.hid hl;clear hl hV fin e8;go_enter Tryd.func73, Tryd.ntmps73
    go_wp2
    go_end0;exact ⟨rfl, HF.out 0⟩
end Go.Proofs.YtnhbjgmfbcedaaaDoor
namespace Go.Proofs.YtnhbjgmfbcedaaaDoor
open Go.RowKit
set_option maxHeartbeats 1000000 in
theorem bytes_calls (B o n V : Nat) (v : Value) (s : ByteArray) (w : World) (hW : WAt w B o v V n) (h8 : n % 8 = 0) (hn : n + 8 * s.size < 1099511627776) :
  Calls Tryd.prog 74 #[.pointer (some ⟨B, o, none⟩), .string s] w fun e w' => e = .returned (.tuple #[]) ∧ ∃ v', WAt w' B o v' (V + Crc.num s.data.toList * 2 ^ n) (n + 8 * s.size) ∧ WStep w w' B o v v' := by
 obtain ⟨i0, hi0, hz0, hz1, hz2⟩ := info_parts u8inf;have HA := Lib.hid (align_calls B o n V v w hW (by omega));rw [show (n + 7) / 8 * 8 = n by omega] at HA;clear hW;go_enter Tryd.func74, Tryd.ntmps74
 go_wp2_with fail;refine HA.out.mono ?_;rintro e w2 ⟨rfl, hW2, hS2⟩;obtain ⟨c0, c1, f0, f1, ⟨l, hl, hV, hown⟩, hap, hlt⟩ := hW2;obtain ⟨N, hN⟩ : ∃ N, l.length = N := ⟨_, rfl⟩;have hlN := hN;rw [hN] at hown hl;obtain ⟨x, c, rfl⟩ := lit_row hown;have HO := Lib.hid hown;have HN := Lib.hid hN;have HV := Lib.hid hV;have HS2 := Lib.hid hS2;have HP := Lib.hid (And.intro hap hlt);have hB : B < w2.heap.size := World.block_lt_of_cell? w2 _ c0;have HB := Lib.hid hB;have H8 := Lib.hid h8;have HL := Lib.hid hl;have hNb : N ≤ 140737488355328 := by omega
 have hSb : N + s.size ≤ 140737488355328 := by omega
 have F0 := Lib.hid f0;have F1 := Lib.hid f1;have C1 := Lib.hid c1;clear hown hN hlN hV hS2 hap hlt hl h8 HA;go_wp2_with (at_builtin; refine wpList_app_string rfl _ _ 61 9 rfl 0 5 i0 Tryd.underlying61 Tryd.underlying9 hi0 hz0 hz1 hz2 _ _ _ rfl HO.out s rfl ?c3 ?c4 (Nat.zero_le _) ?_)
 case c3 => unfold maxLen; omega
 case c4 => omega
 intro v8 w8 hown hgrow hat;obtain ⟨x8, c8, rfl⟩ := lit_row hown;have K : Keeps (fun k => (Value.slice x N c).ownBlock = some k) w2 w8 := Keeps.grown hgrow;have nB : ¬ (Value.slice x N c).ownBlock = some B := HP.out.1;have k0 : w8.cell? ⟨B, o, none⟩ = some (.slice x N c) := (K.cell (p := ⟨B, o, none⟩) HB.out nB).trans c0;have k1 : w8.cell? ⟨B, o + 1, none⟩ = some (.int .i64 (n : Int)) := (K.cell (p := ⟨B, o + 1, none⟩) HB.out nB).trans c1;have g0 : w8.frozen? ⟨B, o, none⟩ = false := (K.frozen (p := ⟨B, o, none⟩) HB.out nB).trans f0;have g1 : w8.frozen? ⟨B, o + 1, none⟩ = false := (K.frozen (p := ⟨B, o + 1, none⟩) HB.out nB).trans f1;have nB8 : (Value.slice x8 (N + s.size) c8).ownBlock ≠ some B := by
  rcases hat with q | q
  ·rw [q]; exact nB
  ·rw [q]; intro e; injection e with e; have := HB.out; omega
 have hnew : ∀ k, (Value.slice x8 (N + s.size) c8).ownBlock = some k → (Value.slice x N c).ownBlock = some k ∨ w2.heap.size ≤ k := by
  intro k hk;rcases hat with q | q
  ·rw [q] at hk; exact .inl hk
  ·rw [q] at hk; injection hk with hk; exact .inr (by omega)
 have a3 : (⟨B, o + 1, none⟩ : Addr) ≠ ⟨B, o, none⟩ := by intro e; injection e with _ e2; omega
 have e8 : (8 : Int) * ((N + s.size : Nat) : Int) = ((n + 8 * s.size : Nat) : Int) := by have := HL.out; have := H8.out; omega
 have HF : Hid (WAt ((w8.setCell ⟨B, o, none⟩ (.slice x8 (N + s.size) c8)).setCell ⟨B, o + 1, none⟩ (.int .i64 ((8 : Int) * ((N + s.size : Nat) : Int)))) B o (.slice x8 (N + s.size) c8) (V + Crc.num s.data.toList * 2 ^ n) (n + 8 * s.size) ∧ WStep w2 ((w8.setCell ⟨B, o, none⟩ (.slice x8 (N + s.size) c8)).setCell ⟨B, o + 1, none⟩ (.int .i64 ((8 : Int) * ((N + s.size : Nat) : Int)))) B o (.slice x N c) (.slice x8 (N + s.size) c8)) := Lib.hid (by
  rw [e8];have hl8 : (l ++ s.data.toList).length = N + s.size := by rw [List.length_append, HN.out]; rfl
  have e1 : 2 ^ n = 2 ^ (8 * l.length) := by rw [HN.out, HL.out]; congr 1; have := H8.out; omega
  have hnum : Crc.num (l ++ s.data.toList) = V + Crc.num s.data.toList * 2 ^ n := by rw [numcat, HV.out, e1]
  refine ⟨⟨?_, ?_, ?_, ?_, ⟨l ++ s.data.toList, by rw [hl8]; have := HL.out; have := H8.out; omega, hnum, ?_⟩, nB8, ?_⟩, ⟨?_, ?_, ?_, hnew⟩⟩
  ·exact (World.cell?_setCell_other _ _ _ _ a3).trans (World.cell?_setCell_same _ _ _ k0)
  ·exact World.cell?_setCell_same _ _ _ ((World.cell?_setCell_other _ _ _ _ (fun e => a3 e.symm)).trans k1)
  ·rw [World.frozen?_setCell, World.frozen?_setCell]; exact g0
  ·rw [World.frozen?_setCell, World.frozen?_setCell]; exact g1
  ·rw [hl8, show bytesV (l ++ s.data.toList) = bytesV l ++ Lib.strCells s by rw [strCells_eq]; simp [bytesV]];exact ownsRow_setCell_other (ownsRow_setCell_other hown nB8 _) nB8 _
  ·rw [← hnum];have h := Crc.num_lt (l ++ s.data.toList);rw [hl8] at h;rw [show n + 8 * s.size = 8 * (N + s.size) by have := HL.out; have := H8.out; omega];exact h
  ·exact ((K.mono (fun _ _ q => .inr q)).setCell (p := ⟨B, o, none⟩) (.inl (.inl rfl)) _).setCell (p := ⟨B, o + 1, none⟩) (.inl (.inl rfl)) _
  ·intro j h1 h2;have b0 : (⟨B, o, none⟩ : Addr) ≠ ⟨B, j, none⟩ := by intro e; injection e with _ e2; exact h1 e2.symm
   have b1 : (⟨B, o + 1, none⟩ : Addr) ≠ ⟨B, j, none⟩ := by intro e; injection e with _ e2; exact h2 e2.symm
   exact ((World.cell?_setCell_other _ _ _ _ b1).trans (World.cell?_setCell_other _ _ _ _ b0)).trans (K.cell (p := ⟨B, j, none⟩) HB.out nB)
  ·intro j;rw [World.frozen?_setCell, World.frozen?_setCell];exact K.frozen (p := ⟨B, j, none⟩) HB.out nB)
 clear hown hgrow hat K nB nB8 hnew e8 c0 c1 f0 f1;go_wp2_with fail;go_end0;exact ⟨rfl, _, HF.out.1, HS2.out.trans HF.out.2⟩
end Go.Proofs.YtnhbjgmfbcedaaaDoor
namespace Go.Proofs.YtnhbjgmfbcedaaaDoor
open Go.RowKit
theorem xor16 (n : Nat) (h : n < 65536) : bits BinOp.xor IntKind.u32 (n : Int) 65535 = ((65535 - n : Nat) : Int) := by
 rw [show (65535 : Int) = ((65535 : Nat) : Int) from rfl, u32_xor_nat n 65535 (by omega) (by decide), xor_ones n h]
theorem num_blk (done p : List UInt8) (last : Nat) (hl : last < 2) (hp : p.length ≤ 65535) : Crc.num done + last * 2 ^ (8 * done.length) + p.length * 2 ^ (8 * (done.length + 1)) + (65535 - p.length) * 2 ^ (8 * (done.length + 1) + 16) + Crc.num p * 2 ^ (8 * (done.length + 1) + 16 + 16) = Crc.num (done ++ Sto.blk last p) := by
 rw [numcat];have hM : Crc.num (Sto.blk last p) = last + 256 * (p.length % 256 + 256 * (p.length / 256 + 256 * ((255 - p.length % 256) + 256 * ((255 - p.length / 256) + 256 * Crc.num p)))) := by
  unfold Sto.blk;simp only [List.cons_append, List.nil_append, Crc.num];rw [Sto.ofNat_toNat _ (by omega), Sto.ofNat_toNat _ (by omega), Sto.ofNat_toNat _ (by omega), Sto.ofNat_toNat _ (by omega), Sto.ofNat_toNat _ (by omega)]
 rw [hM];obtain ⟨X, hX⟩ : ∃ X, 2 ^ (8 * done.length) = X := ⟨_, rfl⟩;have e1 : 2 ^ (8 * (done.length + 1)) = X * 256 := by rw [← hX, Nat.mul_add, Nat.pow_add]
 have e2 : 2 ^ (8 * (done.length + 1) + 16) = X * 16777216 := by rw [Nat.pow_add, e1, Nat.mul_assoc]
 have e3 : 2 ^ (8 * (done.length + 1) + 16 + 16) = X * 1099511627776 := by rw [Nat.pow_add, e2, Nat.mul_assoc]
 rw [hX, e1, e2, e3];obtain ⟨n, hn⟩ : ∃ n, p.length = n := ⟨_, rfl⟩;rw [hn] at hp ⊢;generalize Crc.num p = z;generalize Crc.num done = q;have e4 : last + 256 * (n % 256 + 256 * (n / 256 + 256 * ((255 - n % 256) + 256 * ((255 - n / 256) + 256 * z)))) = last + n * 256 + (65535 - n) * 16777216 + z * 1099511627776 := by omega
 rw [e4];simp only [Nat.add_mul, Nat.mul_comm X, Nat.mul_assoc, Nat.add_assoc]
structure StoGo (w0 wr : World) (B : Nat) (v : Value) (done : List UInt8) : Prop where
 at_ : WAt wr B 0 v (Crc.num done) (8 * done.length)
 ext : Ext w0 wr
 nb : w0.heap.size ≤ B
 nv : ∀ k, v.ownBlock = some k → w0.heap.size ≤ k
theorem StoGo.step {w0 wr w' : World} {B : Nat} {v v' : Value} (he : Ext w0 wr) (hb : w0.heap.size ≤ B) (hv : ∀ k, v.ownBlock = some k → w0.heap.size ≤ k) (hs : WStep wr w' B 0 v v') : Ext w0 w' ∧ ∀ k, v'.ownBlock = some k → w0.heap.size ≤ k := by
 refine ⟨Below.trans he (hs.keeps.below he.size (fun k hk q => ?_)), fun k q => ?_⟩
 ·rcases q with q | q
  ·omega
  ·have := hv k q; omega
 ·rcases hs.new k q with r | r
  ·exact hv k r
  ·have := he.size; omega
set_option linter.unusedSimpArgs false in
set_option maxHeartbeats 4000000 in
theorem stored_calls (t : ByteArray) (w : World) (ht : t.size ≤ 300000) :
  Calls Tryd.prog 32 #[.string t] w fun e w' => e = .returned (.string (tb (Sto.all (t.size + 1) t.data.toList))) ∧ Ext w w' := by
 obtain ⟨A, hA⟩ : ∃ A, Sto.all (t.size + 1) t.data.toList = A := ⟨_, rfl⟩;rw [hA];have hAl : A.length ≤ 300100 := by rw [← hA]; have := Sto.all_length (t.size + 1) t.data.toList; rw [list_size] at this; omega
 have HA := Lib.hid hA;clear hA;go_enter Tryd.func32, Tryd.ntmps32
 go_upto_block 0 with fail;obtain ⟨B, hB⟩ : ∃ B, w.heap.size = B := ⟨_, rfl⟩;refine wp_world (fun wz => Hid (StoGo w wz B (.slice none 0 0) [])) (Lib.hid ⟨⟨?_, ?_, ?_, ?_, ⟨[], rfl, rfl, World.ownsRow_nil _ _ _ _⟩, (by intro e; cases e), by simp [Crc.num]⟩, (Ext.refl w).alloc _, by omega, fun k q => by cases q⟩) ?_
 ·subst hB; exact World.cell?_alloc_at _ _ _ _ rfl
 ·subst hB; exact World.cell?_alloc_at _ _ _ _ rfl
 ·subst hB; exact World.frozen?_alloc_at _ _ _ _ rfl
 ·subst hB; exact World.frozen?_alloc_at _ _ _ _ rfl
 rw [hB];have HBB := Lib.hid hB;clear hB;rintro w1 HS;go_wp2_with fail;go_loopw [0] (fun y wr => ∃ (R : ByteArray) (done : List UInt8) (k : Nat) (v : Value), y = .string R ∧ R.size ≤ t.size ∧ Hid (done ++ Sto.all k R.data.toList = A) ∧ Hid (R.size < k) ∧ Hid (StoGo w wr B v done)) (fun y _ => match y with | .string R => R.size | _ => 0)
 case atStart => exact ⟨t, [], t.size + 1, _, rfl, Nat.le_refl _, Lib.hid (by rw [List.nil_append]; exact HA.out), Lib.hid (Nat.lt_succ_self _), HS⟩
 case round =>
  clear HS HA;obtain ⟨R, done, k, v, rfl, hRt, HD, HK, HS⟩ := hrel;obtain ⟨d, hd⟩ : ∃ d, done.length = d := ⟨_, rfl⟩;have hdb : d ≤ 300100 := by have := congrArg List.length HD.out; rw [List.length_append] at this; omega
  have HDl := Lib.hid hd;have HAt := Lib.hid HS.out.at_;rw [hd] at HAt;have HE := Lib.hid HS.out.ext;have HNB := Lib.hid HS.out.nb;have HNV := Lib.hid HS.out.nv;obtain ⟨V, hV⟩ : ∃ V, Crc.num done = V := ⟨_, rfl⟩;rw [hV] at HAt;have HV := Lib.hid hV;obtain ⟨k, rfl⟩ : ∃ j, k = j + 1 := ⟨k - 1, by have := HK.out; omega⟩;clear HS hd hV;by_cases h6 : R.size ≤ 65535
  ·obtain ⟨n, hn⟩ : ∃ n, R.size = n := ⟨_, rfl⟩;have HNn := Lib.hid hn;have t1 : ((n : Int) == (R.size : Int)) = true := beq_iff_eq.2 (by omega);have HDA : Hid (done ++ Sto.blk 1 R.data.toList = A) := Lib.hid (by rw [← HD.out, Sto.all_last (by rw [list_size]; exact h6)]);have hnR : n ≤ R.size := by omega
   have hnRI : (n : Int) ≤ (R.size : Int) := by omega
   have hn0 : (0 : Int) ≤ (n : Int) := by omega
   have hnt : ((n : Nat) : Int).toNat = n := by omega
   have hmn : (if (R.size : Int) < 65535 then (R.size : Int) else 65535) = (n : Int) := by split <;> omega
   have hn6 : n < 65536 := by omega
   have wn : ∀ z, z = (n : Int) → IntKind.u32.wrap z = z := by rintro _ rfl; unfold IntKind.wrap; simp [IntKind.bits, IntKind.signed]; omega
   have hkm : (n : Int) % 4294967296 = (n : Int) := by omega
   have hxo := xor16 n hn6;obtain ⟨y, hy⟩ : ∃ y, 65535 - n = y := ⟨_, rfl⟩;rw [hy] at hxo;have HY := Lib.hid hy;have hy6 : y < 65536 := by omega
   clear hy;(try clear hn);go_wp2_with fail;refine (put_in B 0 (8 * d) V 1 3 _ _ HAt.out (by decide) (by decide) (by omega)).mono ?_;rintro e w2 ⟨rfl, v2, h2, s2⟩;have HAt2 := Lib.hid h2;obtain ⟨q1, q2⟩ := StoGo.step HE.out HNB.out HNV.out s2;have HE2 := Lib.hid q1;have HNV2 := Lib.hid q2;clear h2 s2 q1 q2 HAt HE HNV;go_wp2_with fail;refine (align_calls B 0 _ _ _ _ HAt2.out (by omega)).mono ?_;rintro e w3 ⟨rfl, h3, s3⟩;rw [show (8 * d + 3 + 7) / 8 * 8 = 8 * (d + 1) by omega] at h3;have HAt3 := Lib.hid h3;obtain ⟨q1, q2⟩ := StoGo.step HE2.out HNB.out HNV2.out s3;have HE3 := Lib.hid q1;have HNV3 := Lib.hid q2;clear h3 s3 q1 q2 HAt2 HE2 HNV2;go_wp2_with fail;refine (put_in B 0 _ _ n 16 _ _ HAt3.out (by decide) (by omega) (by omega)).mono ?_;rintro e w4 ⟨rfl, v4, h4, s4⟩;have HAt4 := Lib.hid h4;obtain ⟨q1, q2⟩ := StoGo.step HE3.out HNB.out HNV3.out s4;have HE4 := Lib.hid q1;have HNV4 := Lib.hid q2;clear h4 s4 q1 q2 HAt3 HE3 HNV3;go_wp2_with fail;refine (put_in B 0 _ _ y 16 _ _ HAt4.out (by decide) (by omega) (by omega)).mono ?_;rintro e w5 ⟨rfl, v5, h5, s5⟩;have HAt5 := Lib.hid h5;obtain ⟨q1, q2⟩ := StoGo.step HE4.out HNB.out HNV4.out s5;have HE5 := Lib.hid q1;have HNV5 := Lib.hid q2;clear h5 s5 q1 q2 HAt4 HE4 HNV4 wn hkm hxo;obtain ⟨P, hP⟩ : ∃ P, R.extract 0 n = P := ⟨_, rfl⟩;have hPs : P.size = n := by rw [← hP]; simp; omega
   have hPl : P.data.toList = R.data.toList.take n := by rw [← hP, ex_list]; simp
   have HPl := Lib.hid hPl;have HPs := Lib.hid hPs;have hb5 : 8 * (d + 1) + 16 + 16 + 8 * P.size < 1099511627776 := by omega
   clear hPl hPs;go_wp2_with fail;(try rw [hP]);refine (bytes_calls B 0 _ _ _ P _ HAt5.out (by omega) hb5).mono ?_;rintro e w6 ⟨rfl, v6, h6x, s6⟩;clear hP;have HF : Hid (StoGo w w6 B v6 (done ++ Sto.blk 1 P.data.toList)) := Lib.hid (by
    obtain ⟨q1, q2⟩ := StoGo.step HE5.out HNB.out HNV5.out s6;refine ⟨?_, q1, HNB.out, q2⟩;have hpl : P.data.toList.length = n := by rw [list_size]; exact HPs.out
    have e1 := num_blk done P.data.toList 1 (by decide) (by omega);rw [HDl.out, HV.out, hpl, HY.out] at e1;rw [← e1, List.length_append, HDl.out, Sto.blk_length, hpl, show 8 * (d + (5 + n)) = 8 * (d + 1) + 16 + 16 + 8 * n by omega];rw [HPs.out] at h6x;exact h6x)
   clear h6x s6 HAt5 HE5 HNV5;have HPR : Hid (P.data.toList = R.data.toList) := Lib.hid (by rw [HPl.out, List.take_of_length_le (by rw [list_size, HNn.out]; exact Nat.le_refl _)]);have hE : R.extract n R.size = ⟨#[]⟩ := by rw [HNn.out]; apply bts_ext; rw [ex_list]; simp
   go_wp2_with fail;refine (text_calls B 0 _ _ _ _ HF.out.at_).mono ?_;rintro e w7 ⟨⟨l, hl, hV, rfl⟩, h7⟩;subst h7;have hlA : l = A := by
    have e1 : l = done ++ Sto.blk 1 P.data.toList := Crc.num_inj _ _ (by rw [hl]; omega) hV;rw [e1, HPR.out, HDA.out]
   subst hlA;go_wp2_with fail;go_ret;refine ⟨?_, HF.out.ext⟩;rw [tb_eq];rfl
  ·have t1 : ((65535 : Int) == (R.size : Int)) = false := beq_eq_false_iff_ne.2 (by omega);obtain ⟨n, hn⟩ : ∃ n, n = 65535 := ⟨_, rfl⟩;have HN := Lib.hid hn;have hnI : (65535 : Int) = (n : Int) := by omega
   rw [hnI] at t1;have HDA : Hid (done ++ (Sto.blk 0 (R.data.toList.take n) ++ Sto.all k (R.data.toList.drop n)) = A) := Lib.hid (by rw [← HD.out, Sto.all_more (by rw [list_size]; exact h6), hn]);clear hnI;have hnR : n ≤ R.size := by omega
   have hnRI : (n : Int) ≤ (R.size : Int) := by omega
   have hn0 : (0 : Int) ≤ (n : Int) := by omega
   have hnt : ((n : Nat) : Int).toNat = n := by omega
   have hmn : (if (R.size : Int) < 65535 then (R.size : Int) else 65535) = (n : Int) := by split <;> omega
   have hn6 : n < 65536 := by omega
   have wn : ∀ z, z = (n : Int) → IntKind.u32.wrap z = z := by rintro _ rfl; unfold IntKind.wrap; simp [IntKind.bits, IntKind.signed]; omega
   have hkm : (n : Int) % 4294967296 = (n : Int) := by omega
   have hxo := xor16 n hn6;obtain ⟨y, hy⟩ : ∃ y, 65535 - n = y := ⟨_, rfl⟩;rw [hy] at hxo;have HY := Lib.hid hy;have hy6 : y < 65536 := by omega
   clear hy;(try clear hn);go_wp2_with fail;refine (put_in B 0 (8 * d) V 0 3 _ _ HAt.out (by decide) (by decide) (by omega)).mono ?_;rintro e w2 ⟨rfl, v2, h2, s2⟩;have HAt2 := Lib.hid h2;obtain ⟨q1, q2⟩ := StoGo.step HE.out HNB.out HNV.out s2;have HE2 := Lib.hid q1;have HNV2 := Lib.hid q2;clear h2 s2 q1 q2 HAt HE HNV;go_wp2_with fail;refine (align_calls B 0 _ _ _ _ HAt2.out (by omega)).mono ?_;rintro e w3 ⟨rfl, h3, s3⟩;rw [show (8 * d + 3 + 7) / 8 * 8 = 8 * (d + 1) by omega] at h3;have HAt3 := Lib.hid h3;obtain ⟨q1, q2⟩ := StoGo.step HE2.out HNB.out HNV2.out s3;have HE3 := Lib.hid q1;have HNV3 := Lib.hid q2;clear h3 s3 q1 q2 HAt2 HE2 HNV2;go_wp2_with fail;refine (put_in B 0 _ _ n 16 _ _ HAt3.out (by decide) (by omega) (by omega)).mono ?_;rintro e w4 ⟨rfl, v4, h4, s4⟩;have HAt4 := Lib.hid h4;obtain ⟨q1, q2⟩ := StoGo.step HE3.out HNB.out HNV3.out s4;have HE4 := Lib.hid q1;have HNV4 := Lib.hid q2;clear h4 s4 q1 q2 HAt3 HE3 HNV3;go_wp2_with fail;refine (put_in B 0 _ _ y 16 _ _ HAt4.out (by decide) (by omega) (by omega)).mono ?_;rintro e w5 ⟨rfl, v5, h5, s5⟩;have HAt5 := Lib.hid h5;obtain ⟨q1, q2⟩ := StoGo.step HE4.out HNB.out HNV4.out s5;have HE5 := Lib.hid q1;have HNV5 := Lib.hid q2;clear h5 s5 q1 q2 HAt4 HE4 HNV4 wn hkm hxo;obtain ⟨P, hP⟩ : ∃ P, R.extract 0 n = P := ⟨_, rfl⟩;have hPs : P.size = n := by rw [← hP]; simp; omega
   have hPl : P.data.toList = R.data.toList.take n := by rw [← hP, ex_list]; simp
   have HPl := Lib.hid hPl;have HPs := Lib.hid hPs;have hb5 : 8 * (d + 1) + 16 + 16 + 8 * P.size < 1099511627776 := by omega
   clear hPl hPs;go_wp2_with fail;(try rw [hP]);refine (bytes_calls B 0 _ _ _ P _ HAt5.out (by omega) hb5).mono ?_;rintro e w6 ⟨rfl, v6, h6x, s6⟩;clear hP;have HF : Hid (StoGo w w6 B v6 (done ++ Sto.blk 0 P.data.toList)) := Lib.hid (by
    obtain ⟨q1, q2⟩ := StoGo.step HE5.out HNB.out HNV5.out s6;refine ⟨?_, q1, HNB.out, q2⟩;have hpl : P.data.toList.length = n := by rw [list_size]; exact HPs.out
    have e1 := num_blk done P.data.toList 0 (by decide) (by omega);rw [HDl.out, HV.out, hpl, HY.out] at e1;rw [← e1, List.length_append, HDl.out, Sto.blk_length, hpl, show 8 * (d + (5 + n)) = 8 * (d + 1) + 16 + 16 + 8 * n by omega];rw [HPs.out] at h6x;exact h6x)
   clear h6x s6 HAt5 HE5 HNV5;obtain ⟨S, hS⟩ : ∃ S, R.extract n R.size = S := ⟨_, rfl⟩;have hSs : S.size = R.size - n := by rw [← hS]; simp
   have hSl : S.data.toList = R.data.toList.drop n := by rw [← hS, ex_list, List.take_of_length_le (by rw [List.length_drop, list_size]; omega)]
   have hne : S.toList.isEmpty = false := emp_no S (by omega);have HSl := Lib.hid hSl;have HSs := Lib.hid hSs;clear hSl hSs;go_wp2_with fail;go_roundw
   case rel => exact ⟨S, done ++ Sto.blk 0 P.data.toList, k, _, rfl, by have := HSs.out; omega, Lib.hid (by rw [List.append_assoc, HPl.out, HSl.out]; exact HDA.out), Lib.hid (by have := HSs.out; have := HK.out; have := HN.out; omega), HF⟩
   case measure => show S.size < R.size; have := HSs.out; have := HN.out; omega
theorem Stored_calls (t : ByteArray) (w : World) (ht : t.size ≤ 300000) :
  Calls Tryd.prog 12 #[.string t] w fun e w' => e = .returned (.tuple #[.string (tb (Sto.all (t.size + 1) t.data.toList)), .nilIface]) ∧ Ext w w' := by
 have HS := Lib.hid (fun w => stored_calls t w ht);have t1 : decide ((300000 : Int) < (t.size : Int)) = false := decide_eq_false (by omega);have n1 : ¬ 300000 < t.size := by omega
 go_enter Tryd.func12, Tryd.ntmps12
 go_wp2_with fail;refine (HS.out _).mono ?_;rintro e w2 ⟨rfl, h2⟩;go_wp2_with fail;go_ret2;exact ⟨rfl, h2⟩
theorem blank_calls (w : World) : Calls Tryd.prog 11 #[] w fun e w' => e = .returned (.bool true) ∧ Ext w w' := by
 have HS := Lib.hid (fun w => Stored_calls ⟨#[]⟩ w (by decide));have e1 : tb (Sto.all ((⟨#[]⟩ : ByteArray).size + 1) (⟨#[]⟩ : ByteArray).data.toList) = ⟨#[1, 0, 0, 255, 255]⟩ := by rw [tb_eq]; rfl
 rw [e1] at HS;clear e1;go_enter Tryd.func11, Tryd.ntmps11
 go_wp2_with fail;refine (HS.out _).mono ?_;rintro e w2 ⟨rfl, h2⟩;go_wp2_with fail;go_ret;exact ⟨rfl, h2⟩
end Go.Proofs.YtnhbjgmfbcedaaaDoor
