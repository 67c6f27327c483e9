/-
  match.Expand.
  Tokens that mean something are not too many, and each is right.
  deflate.Dynamic.
  An argument that is a slice of whole numbers, opened.
  The laws' ints: a row of its own.
  The laws' sameTokens at equal rows, and cost of best lengths.
  The document's bits: Byte, Low, High.
  The document's bits of a text, and the number of bits.
  The document's reader of packed texts: its memory; ok, fail, align, get.
-/
import Derived.Test.YtnhbjgmfbcedaaaDoorDeflateDynamicG1
import Derived.Test.YtnhbjgmfbcedaaaDoorDeflateDynamicG3
import Derived.Test.YtnhbjgmfbcedaaaDoorDeflateDynamicG2
import Derived.RegionTactic
import Derived.Test.YtnhbjgmfbcedaaaDoorDeflateDynamicG6
import Derived.Test.YtnhbjgmfbcedaaaDoorDeflateDynamicG13
import Derived.Laws.AppendOwnNone
import Derived.Test.YtnhbjgmfbcedaaaDoorDeflateDynamicG11
import Derived.Outline
import Derived.Test.YtnhbjgmfbcedaaaDoorDeflateDynamicG4
import Derived.Test.YtnhbjgmfbcedaaaDoorDeflateDynamicG5
set_option linter.unusedSimpArgs false
set_option linter.unusedVariables false
set_option maxRecDepth 100000
namespace Go.Proofs.YtnhbjgmfbcedaaaDoor
open Go.RowKit
def ExpPost (w w' : World) (E : Nat → Addr) (r : XRes) (e : Ending) : Prop :=
 Ext w w' ∧ ((∃ out, r = .ok out ∧ e = .returned (.tuple #[.string ⟨out.toArray⟩, .nilIface])) ∨ (∃ c i F : Nat, c < 9 ∧ (i : Int) ≤ 9223372036854775807 ∧ r = .bad c i ∧ e = .returned (.tuple #[.string ⟨#[]⟩, .iface 108 (.pointer (some ⟨F, 0, none⟩))]) ∧ w'.heap[F]? = some (.cells #[.int .i64 (i : Int), sentV (E c)] 112 (0, 0))))
theorem exp_err {w wz : World} {E : Nat → Addr} {k c : Nat} {r : XRes} (hX : Ext w wz) (hc : c < 9) (hk : (k : Int) ≤ 9223372036854775807) (h : r = .bad c k) :
  ExpPost w (wz.drew.alloc (.cells #[.int .i64 (k : Int), .iface 210 (.pointer (some (E c)))] 112)) E r (.returned (.tuple #[.string ⟨#[]⟩, .iface 108 (.pointer (some ⟨wz.heap.size, 0, none⟩))])) :=
 ⟨(show Ext w wz.drew from Below.drew hX).alloc _, .inr ⟨c, k, wz.heap.size, hc, hk, h, rfl, heap_alloc_new wz.drew _⟩⟩
theorem exp_fin {w wz : World} {E : Nat → Addr} {r : XRes} {out : List UInt8} (hX : Ext w wz) (h : r = .ok out) : ExpPost w wz E r (.returned (.tuple #[.string ⟨out.toArray⟩, .nilIface])) := ⟨hX, .inl ⟨out, h, rfl⟩⟩
theorem cells_one1 (b : Int) : ∀ u ∈ [Value.int .u8 b], u.oneCell' = true := by intro u hu; rw [List.mem_singleton.1 hu]; rfl
theorem row_lit {w : World} {base : Nat} {e : TypeId} {size : Nat} {v : Value} {n : Nat} {xs : List Value} (h : w.ownsRow base e size v n xs) : ∃ x c, v = .slice x n c := by
 rcases ownsRow_slice h with ⟨h1, h2⟩ | ⟨g, cap, h1⟩
 ·exact ⟨none, 0, by rw [h1, h2]⟩
 ·exact ⟨_, cap, h1⟩
set_option linter.unusedSimpArgs false in
set_option maxHeartbeats 4000000 in
theorem expand_any (x : Option Addr) (n cap : Nat) (tk : Nat → Tk) (w : World) (E : Nat → Addr) (hE : Errs w E) (hx : Toks w x n tk) (hn : n ≤ maxLen) :
  Calls Tryd.prog 57 #[.slice x n cap] w fun e w' => ExpPost w w' E (expL tk n) e := by
 have HE := Lib.hid hE;have HX := Lib.hid hx;clear hE hx;unfold maxLen at hn;obtain ⟨i0, hi0, hz0, hz1, hz2⟩ := info_parts byteinf;go_enter Tryd.func57, Tryd.ntmps57
 go_wp2_with fail;go_loopw [4, 10] (fun v c wr => ∃ (k : Nat) (out : List UInt8), k ≤ n ∧ c = .int .i64 k ∧ Hid (expL tk k = .ok out) ∧ Hid (wr.ownsRow w.heap.size 5 1 v (out).length (bytesV (out))) ∧ Hid (Ext w wr)) (fun _ c _ => n - (intOf c).toNat)
 case atStart => exact ⟨0, [], by omega, rfl, Lib.hid rfl, Lib.hid (World.ownsRow_nil _ _ _ _), Lib.hid (Ext.refl _)⟩
 case round =>
  obtain ⟨k, out, hk, rfl, HL, HR, HW⟩ := hrel;have hlen := expL_len HL.out;by_cases hlt : k < n
  ·obtain ⟨a, rfl⟩ := HX.out.isSome hlt;obtain ⟨c0, c1, c2, okl, okd⟩ := (HX.out.ext HW.out).2 a rfl k hlt;have HSt := Lib.hid (expL_succ HL.out);have HBad := Lib.hid (fun c (h : stepX (tk k) k out = .bad c k) => expL_bad HL.out h hlt);generalize tk k = t at c0 c1 c2 okl okd HSt HBad;obtain ⟨b, l, d⟩ := t;simp only at c0 c1 c2 okl okd;obtain ⟨l1, l2⟩ := okl;obtain ⟨d1_, d2_⟩ := okd;obtain ⟨L, hL⟩ : ∃ L, out.length = L := ⟨_, rfl⟩;rw [hL] at HR hlen;have HLL := Lib.hid hL;clear hL;obtain ⟨xo, co, rfl⟩ := row_lit HR.out;have hsz : w.heap.size ≤ wr.heap.size := HW.out.size;by_cases q_l0 : l = 0
   ·have t_l0 : (l == 0) = true := beq_iff_eq.2 q_l0;by_cases q_d0 : d = 0
    ·have t_d0 : (d == 0) = true := beq_iff_eq.2 q_d0;have HLit : Hid (litP ⟨b, l, d⟩) := Lib.hid ⟨q_l0, q_d0⟩;by_cases qb : 300000 < L + 1
     ·have tq : decide ((300000 : Int) < (L : Int) + 1) = true := decide_eq_true (by omega);have HB : Hid (expL tk n = .bad 1 k) := Lib.hid (HBad.out 1 (stepX_lit_no HLit.out (by rw [HLL.out]; exact qb)));clear HSt HBad HL HR HLL;clear q_l0 q_d0;go_wp2_with fail;refine wp_world (fun wz => Ext wr wz ∧ wz.heap.size = wr.heap.size + 1 ∧ Bk wz (wr.heap.size) #[.int .u8 (b.toNat : Int), .int .i64 l, .int .i64 d]) ⟨by repeat (first | exact Ext.refl _ | refine Ext.alloc ?_ _), by simp, by repeat (first | exact Bk.at (by simp) | refine Bk.old ?_)⟩ ?_;rintro wz ⟨hX, hZ, hB0⟩;have XZ := Lib.hid (HW.out.trans hX);have hv := (HE.out.ext XZ.out).var 1 (by decide);simp only [gk, sentV] at hv;clear hX hZ hB0 c0 c1 c2;go_region;all_goals
       (try go_wp2_with fail);go_ret2;exact exp_err XZ.out (by decide) (by omega) HB.out
     ·have tq : decide ((300000 : Int) < (L : Int) + 1) = false := decide_eq_false (by omega);have HS2 := Lib.hid (HSt.out.trans (stepX_lit HLit.out (by rw [HLL.out]; omega)));clear HSt HBad HL q_l0 q_d0 HLit;go_wp2_with (at_builtin; refine wpList_append_own_at _ rfl _ _ 61 rfl w.heap.size 5 i0 (.int .u8 0) 1 1 Tryd.underlying61 hi0 hz0 hz1 hz2 rfl (by decide) _ _ _ rfl ((HR.out.alloc _).alloc _) ⟨wr.heap.size + 1, 0, none⟩ 1 1 [.int .u8 (b.toNat : Int)] rfl rfl ?c1 (cells_one1 _) ?c3 ?c4 ?c5 ?_)
      case c3 => unfold maxLen; omega
      case c4 => omega
      case c5 => first | omega | (simp; omega)
      intro v' w1 hown hgrow _ _;have hRR : ((wr.alloc (.cells #[.int .u8 (b.toNat : Int), .int .i64 l, .int .i64 d] 84)).alloc (.cells #[.int .u8 (b.toNat : Int)] 5)).ownsRow w.heap.size 5 1 (.slice xo L co) out.length (bytesV out) := by rw [HLL.out]; exact (HR.out.alloc _).alloc _
      have P := row_push ((HW.out.alloc _).alloc _) hRR hgrow (by rw [HLL.out]; exact hown);have P1 := Lib.hid P.1;have P2 := Lib.hid P.2;clear P hown hgrow hRR c0 c1 c2;go_wp2_with fail;go_roundw
      case rel => exact ⟨k + 1, out ++ [b], by omega, by go_num, HS2, P1, P2⟩
      case measure => simp [intOf]; omega
    ·have t_d0 : (d == 0) = false := beq_eq_false_iff_ne.2 q_d0;have HNL : Hid (¬ litP ⟨b, l, d⟩) := Lib.hid (fun h => q_d0 h.2);by_cases q_b0 : b ≠ 0
     ·have t_b0 : ((b.toNat : Int) != 0) = true := by rw [bne_iff_ne]; intro e; exact q_b0 (UInt8.toNat_inj.1 (by simpa using e))
      have HB : Hid (expL tk n = .bad 2 k) := Lib.hid (HBad.out 2 (stepX_bad HNL.out (by rw [HLL.out]; exact .inl q_b0)));clear HSt HBad HL HR HLL;clear q_l0 q_d0 q_b0;go_wp2_with fail;refine wp_world (fun wz => Ext wr wz ∧ wz.heap.size = wr.heap.size + 1 ∧ Bk wz (wr.heap.size) #[.int .u8 (b.toNat : Int), .int .i64 l, .int .i64 d]) ⟨by repeat (first | exact Ext.refl _ | refine Ext.alloc ?_ _), by simp, by repeat (first | exact Bk.at (by simp) | refine Bk.old ?_)⟩ ?_;rintro wz ⟨hX, hZ, hB0⟩;have XZ := Lib.hid (HW.out.trans hX);have hv := (HE.out.ext XZ.out).var 2 (by decide);simp only [gk, sentV] at hv;clear hX hZ hB0 c0 c1 c2;go_region;all_goals
       (try go_wp2_with fail);go_ret2;exact exp_err XZ.out (by decide) (by omega) HB.out
     ·have t_b0 : ((b.toNat : Int) != 0) = false := by have e : b = 0 := Classical.not_not.1 q_b0; subst e; rfl
      have q_l3 : l < 3 := by omega
      have t_l3 : decide (l < 3) = true := decide_eq_true q_l3;have HB : Hid (expL tk n = .bad 2 k) := Lib.hid (HBad.out 2 (stepX_bad HNL.out (by rw [HLL.out]; exact .inr (.inl q_l3))));clear HSt HBad HL HR HLL;clear q_l0 q_d0 q_b0 q_l3;go_wp2_with fail;refine wp_world (fun wz => Ext wr wz ∧ wz.heap.size = wr.heap.size + 1 ∧ Bk wz (wr.heap.size) #[.int .u8 (b.toNat : Int), .int .i64 l, .int .i64 d]) ⟨by repeat (first | exact Ext.refl _ | refine Ext.alloc ?_ _), by simp, by repeat (first | exact Bk.at (by simp) | refine Bk.old ?_)⟩ ?_;rintro wz ⟨hX, hZ, hB0⟩;have XZ := Lib.hid (HW.out.trans hX);have hv := (HE.out.ext XZ.out).var 2 (by decide);simp only [gk, sentV] at hv;clear hX hZ hB0 c0 c1 c2;go_region;all_goals
       (try go_wp2_with fail);go_ret2;exact exp_err XZ.out (by decide) (by omega) HB.out
   ·have t_l0 : (l == 0) = false := beq_eq_false_iff_ne.2 q_l0;have HNL : Hid (¬ litP ⟨b, l, d⟩) := Lib.hid (fun h => q_l0 h.1);by_cases q_b0 : b ≠ 0
    ·have t_b0 : ((b.toNat : Int) != 0) = true := by rw [bne_iff_ne]; intro e; exact q_b0 (UInt8.toNat_inj.1 (by simpa using e))
     have HB : Hid (expL tk n = .bad 2 k) := Lib.hid (HBad.out 2 (stepX_bad HNL.out (by rw [HLL.out]; exact .inl q_b0)));clear HSt HBad HL HR HLL;clear q_l0 q_b0;go_wp2_with fail;refine wp_world (fun wz => Ext wr wz ∧ wz.heap.size = wr.heap.size + 1 ∧ Bk wz (wr.heap.size) #[.int .u8 (b.toNat : Int), .int .i64 l, .int .i64 d]) ⟨by repeat (first | exact Ext.refl _ | refine Ext.alloc ?_ _), by simp, by repeat (first | exact Bk.at (by simp) | refine Bk.old ?_)⟩ ?_;rintro wz ⟨hX, hZ, hB0⟩;have XZ := Lib.hid (HW.out.trans hX);have hv := (HE.out.ext XZ.out).var 2 (by decide);simp only [gk, sentV] at hv;clear hX hZ hB0 c0 c1 c2;go_region;all_goals
      (try go_wp2_with fail);go_ret2;exact exp_err XZ.out (by decide) (by omega) HB.out
    ·have t_b0 : ((b.toNat : Int) != 0) = false := by have e : b = 0 := Classical.not_not.1 q_b0; subst e; rfl
     by_cases q_l3 : l < 3
     ·have t_l3 : (decide (l < 3)) = true := decide_eq_true q_l3;have HB : Hid (expL tk n = .bad 2 k) := Lib.hid (HBad.out 2 (stepX_bad HNL.out (by rw [HLL.out]; exact .inr (.inl q_l3))));clear HSt HBad HL HR HLL;clear q_l0 q_b0 q_l3;go_wp2_with fail;refine wp_world (fun wz => Ext wr wz ∧ wz.heap.size = wr.heap.size + 1 ∧ Bk wz (wr.heap.size) #[.int .u8 (b.toNat : Int), .int .i64 l, .int .i64 d]) ⟨by repeat (first | exact Ext.refl _ | refine Ext.alloc ?_ _), by simp, by repeat (first | exact Bk.at (by simp) | refine Bk.old ?_)⟩ ?_;rintro wz ⟨hX, hZ, hB0⟩;have XZ := Lib.hid (HW.out.trans hX);have hv := (HE.out.ext XZ.out).var 2 (by decide);simp only [gk, sentV] at hv;clear hX hZ hB0 c0 c1 c2;go_region;all_goals
       (try go_wp2_with fail);go_ret2;exact exp_err XZ.out (by decide) (by omega) HB.out
     ·have t_l3 : (decide (l < 3)) = false := decide_eq_false q_l3;by_cases q_l258 : 258 < l
      ·have t_l258 : (decide (258 < l)) = true := decide_eq_true q_l258;have HB : Hid (expL tk n = .bad 2 k) := Lib.hid (HBad.out 2 (stepX_bad HNL.out (by rw [HLL.out]; exact .inr (.inr (.inl q_l258)))));clear HSt HBad HL HR HLL;clear q_l0 q_b0 q_l3 q_l258;go_wp2_with fail;refine wp_world (fun wz => Ext wr wz ∧ wz.heap.size = wr.heap.size + 1 ∧ Bk wz (wr.heap.size) #[.int .u8 (b.toNat : Int), .int .i64 l, .int .i64 d]) ⟨by repeat (first | exact Ext.refl _ | refine Ext.alloc ?_ _), by simp, by repeat (first | exact Bk.at (by simp) | refine Bk.old ?_)⟩ ?_;rintro wz ⟨hX, hZ, hB0⟩;have XZ := Lib.hid (HW.out.trans hX);have hv := (HE.out.ext XZ.out).var 2 (by decide);simp only [gk, sentV] at hv;clear hX hZ hB0 c0 c1 c2;go_region;all_goals
        (try go_wp2_with fail);go_ret2;exact exp_err XZ.out (by decide) (by omega) HB.out
      ·have t_l258 : (decide (258 < l)) = false := decide_eq_false q_l258;by_cases q_d1 : d < 1
       ·have t_d1 : (decide (d < 1)) = true := decide_eq_true q_d1;have HB : Hid (expL tk n = .bad 2 k) := Lib.hid (HBad.out 2 (stepX_bad HNL.out (by rw [HLL.out]; exact .inr (.inr (.inr (.inl q_d1))))));clear HSt HBad HL HR HLL;clear q_l0 q_b0 q_l3 q_l258 q_d1;go_wp2_with fail;refine wp_world (fun wz => Ext wr wz ∧ wz.heap.size = wr.heap.size + 1 ∧ Bk wz (wr.heap.size) #[.int .u8 (b.toNat : Int), .int .i64 l, .int .i64 d]) ⟨by repeat (first | exact Ext.refl _ | refine Ext.alloc ?_ _), by simp, by repeat (first | exact Bk.at (by simp) | refine Bk.old ?_)⟩ ?_;rintro wz ⟨hX, hZ, hB0⟩;have XZ := Lib.hid (HW.out.trans hX);have hv := (HE.out.ext XZ.out).var 2 (by decide);simp only [gk, sentV] at hv;clear hX hZ hB0 c0 c1 c2;go_region;all_goals
         (try go_wp2_with fail);go_ret2;exact exp_err XZ.out (by decide) (by omega) HB.out
       ·have t_d1 : (decide (d < 1)) = false := decide_eq_false q_d1;by_cases q_d32 : 32768 < d
        ·have t_d32 : (decide (32768 < d)) = true := decide_eq_true q_d32;have HB : Hid (expL tk n = .bad 2 k) := Lib.hid (HBad.out 2 (stepX_bad HNL.out (by rw [HLL.out]; exact .inr (.inr (.inr (.inr (.inl q_d32)))))));clear HSt HBad HL HR HLL;clear q_l0 q_b0 q_l3 q_l258 q_d1 q_d32;go_wp2_with fail;refine wp_world (fun wz => Ext wr wz ∧ wz.heap.size = wr.heap.size + 1 ∧ Bk wz (wr.heap.size) #[.int .u8 (b.toNat : Int), .int .i64 l, .int .i64 d]) ⟨by repeat (first | exact Ext.refl _ | refine Ext.alloc ?_ _), by simp, by repeat (first | exact Bk.at (by simp) | refine Bk.old ?_)⟩ ?_;rintro wz ⟨hX, hZ, hB0⟩;have XZ := Lib.hid (HW.out.trans hX);have hv := (HE.out.ext XZ.out).var 2 (by decide);simp only [gk, sentV] at hv;clear hX hZ hB0 c0 c1 c2;go_region;all_goals
          (try go_wp2_with fail);go_ret2;exact exp_err XZ.out (by decide) (by omega) HB.out
        ·have t_d32 : (decide (32768 < d)) = false := decide_eq_false q_d32;by_cases q_dL : (L : Int) < d
         ·have t_dL : (decide ((L : Int) < d)) = true := decide_eq_true q_dL;have HB : Hid (expL tk n = .bad 2 k) := Lib.hid (HBad.out 2 (stepX_bad HNL.out (by rw [HLL.out]; exact .inr (.inr (.inr (.inr (.inr (q_dL))))))));clear HSt HBad HL HR HLL;clear q_l0 q_b0 q_l3 q_l258 q_d1 q_d32 q_dL;go_wp2_with fail;refine wp_world (fun wz => Ext wr wz ∧ wz.heap.size = wr.heap.size + 1 ∧ Bk wz (wr.heap.size) #[.int .u8 (b.toNat : Int), .int .i64 l, .int .i64 d]) ⟨by repeat (first | exact Ext.refl _ | refine Ext.alloc ?_ _), by simp, by repeat (first | exact Bk.at (by simp) | refine Bk.old ?_)⟩ ?_;rintro wz ⟨hX, hZ, hB0⟩;have XZ := Lib.hid (HW.out.trans hX);have hv := (HE.out.ext XZ.out).var 2 (by decide);simp only [gk, sentV] at hv;clear hX hZ hB0 c0 c1 c2;go_region;all_goals
           (try go_wp2_with fail);go_ret2;exact exp_err XZ.out (by decide) (by omega) HB.out
         ·have t_dL : (decide ((L : Int) < d)) = false := decide_eq_false q_dL;obtain ⟨l', hl'⟩ : ∃ l' : Nat, l = l' := ⟨l.toNat, by omega⟩;obtain ⟨d', hd'⟩ : ∃ d' : Nat, d = d' := ⟨d.toNat, by omega⟩;have HNB : Hid (¬ badP ⟨b, l, d⟩ out.length) := Lib.hid (by rw [HLL.out]; unfold badP; simp only [not_or]; exact ⟨q_b0, q_l3, q_l258, q_d1, q_d32, q_dL⟩);have HLI := Lib.hid hl';have HDI := Lib.hid hd';by_cases qb : 300000 < L + l'
          ·have tq : decide ((300000 : Int) < (L : Int) + l) = true := decide_eq_true (by omega);have HB : Hid (expL tk n = .bad 1 k) := Lib.hid (HBad.out 1 (stepX_copy_no HNL.out HNB.out (by exact HLI.out) (by rw [HLL.out]; exact qb)));clear HSt HBad HL HR HLL;clear q_l0 q_b0 q_d1 q_d32 q_dL hl' hd';go_wp2_with fail;refine wp_world (fun wz => Ext wr wz ∧ wz.heap.size = wr.heap.size + 1 ∧ Bk wz (wr.heap.size) #[.int .u8 (b.toNat : Int), .int .i64 l, .int .i64 d]) ⟨by repeat (first | exact Ext.refl _ | refine Ext.alloc ?_ _), by simp, by repeat (first | exact Bk.at (by simp) | refine Bk.old ?_)⟩ ?_;rintro wz ⟨hX, hZ, hB0⟩;have XZ := Lib.hid (HW.out.trans hX);have hv := (HE.out.ext XZ.out).var 1 (by decide);simp only [gk, sentV] at hv;clear hX hZ hB0 c0 c1 c2;go_region;all_goals
            (try go_wp2_with fail);go_ret2;exact exp_err XZ.out (by decide) (by omega) HB.out
          ·have tq : decide ((300000 : Int) < (L : Int) + l) = false := decide_eq_false (by omega);have HS2 := Lib.hid (HSt.out.trans (stepX_copy HNL.out HNB.out HLI.out HDI.out (by rw [HLL.out]; omega)));clear HSt HBad HL HNL HNB;clear q_l0 q_b0 q_d32;have hR : wr.ownsRow w.heap.size 5 1 (.slice xo L co) out.length (bytesV out) := by rw [HLL.out]; exact HR.out
           have NB0 : Hid ((Value.slice xo L co).ownBlock ≠ some wr.heap.size) := Lib.hid (fun e => by have := (hR.lt _ e).2; omega);have HR0 := Lib.hid (hR.alloc (.cells #[.int .u8 (b.toNat : Int), .int .i64 l, .int .i64 d] 84));have BT0 : Hid (Bk (wr.alloc (.cells #[.int .u8 (b.toNat : Int), .int .i64 l, .int .i64 d] 84)) wr.heap.size #[.int .u8 (b.toNat : Int), .int .i64 l, .int .i64 d]) := Lib.hid (Bk.at rfl);have HW0 := Lib.hid (HW.out.alloc (.cells #[.int .u8 (b.toNat : Int), .int .i64 l, .int .i64 d] 84));clear hR;clear hl' hd';go_wp2_with fail;clear c0 c1 c2 t_l0 t_b0 t_l3 t_l258 t_d1 t_d32 t_dL tq;obtain ⟨T, hT⟩ : ∃ T, wr.heap.size = T := ⟨_, rfl⟩;rw [hT] at BT0 NB0 ⊢;clear hT;go_loopw [4, 81] (fun v c wr => ∃ j : Nat, j ≤ l' ∧ c = .int .i64 j ∧ Hid (wr.ownsRow w.heap.size 5 1 v (copyL out d' j).length (bytesV (copyL out d' j))) ∧ Hid (Ext w wr) ∧ Hid (Bk wr T #[.int .u8 (b.toNat : Int), .int .i64 l, .int .i64 d]) ∧ Hid (v.ownBlock ≠ some T)) (fun _ c _ => l' - (intOf c).toNat)
           case atStart => exact ⟨0, by omega, rfl, HR0, HW0, BT0, NB0⟩
           case round =>
            clear HR0 HW0 BT0 NB0 HR;obtain ⟨j, hj, rfl, HR, HW2, BT, NB⟩ := hrel;by_cases hlj : j < l'
            ·have hl' := HLI.out;have hd' := HDI.out;obtain ⟨U, hU⟩ : ∃ U, copyL out d' j = U := ⟨_, rfl⟩;have HUS : Hid (copyL out d' (j + 1) = U ++ [U.getD (U.length - d') 0]) := Lib.hid (by simp only [copyL, hU]);have hUl : U.length = L + j := by rw [← hU, copyL_length, HLL.out]
             rw [hU] at HR;obtain ⟨M, hM⟩ : ∃ M, U.length = M := ⟨_, rfl⟩;rw [hM] at HR HUS hUl;have HM := Lib.hid hM;obtain ⟨y, hy⟩ : ∃ y, U.getD (M - d') 0 = y := ⟨_, rfl⟩;rw [hy] at HUS;obtain ⟨gb, cp, rfl, _, _⟩ := ownsRow_some HR.out (by omega);obtain ⟨q, hq⟩ : ∃ q : Nat, M - d' = q := ⟨_, rfl⟩;have hc : wr.cell? ⟨gb, q, none⟩ = some (.int .u8 (y.toNat : Int)) := by
              have hql : q < U.length := by omega
              rw [HR.out.cellAt q (by omega), bytesV_get U q hql, ← hy, hq];simp [List.getD, hql]
             have hqI : (M : Int) - d = (q : Int) := by omega
             have tj : decide ((j : Int) < l) = true := decide_eq_true (by omega);have b2 := BT.out.cell 2;have hszx : w.heap.size ≤ wr.heap.size := HW2.out.size;have HTl := Lib.hid BT.out.lt;have hqM : q < M := by omega
             have HUU := Lib.hid (And.intro hU hy);have hM2 : M ≤ 300000 := by omega
             clear hU hy hM hq hUl hl' hd' q_dL q_d1 q_l258 q_l3;go_wp2_with (at_builtin; refine wpList_append_own_at _ rfl _ _ 61 rfl w.heap.size 5 i0 (.int .u8 0) 1 1 Tryd.underlying61 hi0 hz0 hz1 hz2 rfl (by decide) _ _ _ rfl (HR.out.alloc _) ⟨wr.heap.size, 0, none⟩ 1 1 [.int .u8 (y.toNat : Int)] rfl rfl ?e1 (cells_one1 _) ?e3 ?e4 ?e5 ?_)
             case e1 => exact (cell_one_new _ _ _)
             case e3 => unfold maxLen; omega
             case e4 => omega
             case e5 => first | omega | (simp; omega)
             intro v' w1 hown hgrow _ hat;have hRR : (wr.alloc (.cells #[.int .u8 (y.toNat : Int)] 5)).ownsRow w.heap.size 5 1 (.slice (some ⟨gb, 0, none⟩) M cp) U.length (bytesV U) := by rw [HM.out]; exact HR.out.alloc _
             have Q := row_push (HW2.out.alloc _) hRR hgrow (by rw [HM.out]; exact hown);have P1 := Lib.hid Q.1;have P2 := Lib.hid Q.2;have P3 := Lib.hid ((BT.out.old (o := .cells #[.int .u8 (y.toNat : Int)] 5)).keeps (Keeps.grown hgrow) NB.out);have P4 : Hid (v'.ownBlock ≠ some T) := Lib.hid (by
              rcases hat with e | e
              ·rw [e]; exact NB.out
              ·rw [e]; intro e2; injection e2 with e2; have q := HTl.out; first | omega | (rw [World.size_alloc] at e2; omega))
             rw [← HUS.out] at P1;clear Q hown hgrow hRR hat hc b2 hqI tj;go_wp2_with fail;go_roundw
             case rel => exact ⟨j + 1, by omega, by go_num, P1, P2, P3, P4⟩
             case measure => simp [intOf]; omega
            ·obtain rfl : j = l' := by omega
             have tj : decide ((j : Int) < l) = false := decide_eq_false (by have := HLI.out; omega);go_wp2_with fail;go_roundw
             case rel => exact ⟨k + 1, copyL out d' j, by omega, by go_num, HS2, HR, HW2⟩
             case measure => simp [intOf]; omega
  ·obtain rfl : k = n := by omega
   have hcr := row_conv HR.out;go_wp2_with fail;go_ret2;exact exp_fin HW.out HL.out
end Go.Proofs.YtnhbjgmfbcedaaaDoor
namespace Go.Proofs.YtnhbjgmfbcedaaaDoor
open Go.RowKit
theorem exp_many {tk : Nat → Tk} {n : Nat} {out : List UInt8} (h : expL tk n = .ok out) : n ≤ 300000 := by
  have h1 := (Dfl.means_exp n out h).many;have h2 := expL_len h;simp at h1;omega
theorem exp_ok {tk : Nat → Tk} {n : Nat} {out : List UInt8} (h : expL tk n = .ok out) : ∀ i, i < n → (tk i).l = 0 ∨ (3 ≤ (tk i).l ∧ (tk i).l ≤ 258 ∧ 1 ≤ (tk i).d ∧ (tk i).d ≤ 32768) :=
  fun i hi => (Dfl.means_exp n out h).ok (tk i) (List.mem_map.2 ⟨i, List.mem_range.2 hi, rfl⟩)
end Go.Proofs.YtnhbjgmfbcedaaaDoor
namespace Go.Proofs.YtnhbjgmfbcedaaaDoor
open Go.RowKit
/-- what packing tokens in a dynamic block leaves -/
def DynPost (w w' : World) (E : Nat → Addr) (r : XRes) (ts : List Tk) (e : Ending) : Prop :=
  Ext w w' ∧ ((∃ out many far few rs l, r = .ok out ∧ Dfl.DynOk ts many far few rs ∧ l.length = ((Dfl.dynB ts many far few rs).length + 7) / 8 ∧ Crc.num l = Bts.val (Dfl.dynB ts many far few rs) ∧ e = .returned (.tuple #[.string ⟨l.toArray⟩, .nilIface])) ∨
    (∃ c i F : Nat, c < 9 ∧ (i : Int) ≤ 9223372036854775807 ∧ r = .bad c i ∧ e = .returned (.tuple #[.string ⟨#[]⟩, .iface 108 (.pointer (some ⟨F, 0, none⟩))]) ∧ w'.heap[F]? = some (.cells #[.int .i64 (i : Int), sentV (E c)] 112 (0, 0))))
theorem dynamicD_any (x : Option Addr) (n cap : Nat) (tk : Nat → Tk) (w : World) (E : Nat → Addr) (hE : Errs w E) (hTb : Tabs w) (hx : Toks w x n tk) (hn : n ≤ maxLen) :
    Calls Tryd.prog 28 #[.slice x n cap] w fun e w' => DynPost w w' E (expL tk n) ((List.range n).map tk) e := by
  have HE := Lib.hid hE;have HX := Lib.hid hx;have HTb := Lib.hid hTb;clear hE hx hTb;go_enter Tryd.func28, Tryd.ntmps28
  go_wp2_with fail;refine (expand_any x n cap tk _ E HE.out HX.out hn).mono ?_;rintro e w1 ⟨h1, hr⟩;have X1 := Lib.hid h1;clear h1;rcases hr with ⟨out, ho, rfl⟩ | ⟨c, i, F, hc, hi, ho, rfl, hF⟩
  · have HO := Lib.hid ho;clear ho;go_wp2_with fail;have hE1 := HE.out.ext X1.out;refine (dynamic_any x n cap tk w1 (HX.out.ext X1.out) (HTb.out.ext X1.out) _ _ (hE1.var 1 (by decide)) (hE1.var 2 (by decide)) (Nat.le_trans (exp_many HO.out) (by decide)) (exp_ok HO.out)).mono ?_;rintro e w2 ⟨⟨many, far, few, rs, l, h0, h1, h2, rfl⟩, hX⟩;have HQ := Lib.hid (And.intro h0 (And.intro h1 h2));have X2 := Lib.hid (X1.out.trans hX);clear h0 h1 h2 hX hE1;go_wp2_with fail;go_ret2;exact ⟨X2.out, .inl ⟨out, many, far, few, rs, l, HO.out, HQ.out.1, HQ.out.2.1, HQ.out.2.2, rfl⟩⟩
  · have HO := Lib.hid ho;have HF := Lib.hid hF;clear ho hF;go_wp2_with fail;go_ret2;exact ⟨X1.out, .inr ⟨c, i, F, hc, hi, HO.out, rfl, HF.out⟩⟩
end Go.Proofs.YtnhbjgmfbcedaaaDoor
namespace Go.Proofs.YtnhbjgmfbcedaaaDoor
open Go.RowKit Go.ChangeShapes Go.WideShapes
end Go.Proofs.YtnhbjgmfbcedaaaDoor
namespace Go.Proofs.YtnhbjgmfbcedaaaDoor
open Go.RowKit Go.ChangeShapes Go.WideShapes
theorem ints_calls (x : Option Addr) (len cap : Nat) (f : Nat → Int) (w : World) (hx : Ints w x len f) (hl : len ≤ 1099511627776) (hx0 : x = none → cap = 0) :
    Calls Tryd.prog 67 #[.slice x len cap] w fun e w' => (∃ v, e = .returned v ∧ IntsV w' v len f) ∧ Ext w w' := by
  obtain ⟨i0, hi, hz0, hz1, hz2⟩ := info_parts i64info;cases x with
  | none =>
    obtain rfl := hx.1 rfl;obtain rfl := hx0 rfl;go_enter Tryd.func67, Tryd.ntmps67
    go_wp2_with (at_builtin; refine wpList_append_own_none rfl _ _ 31 rfl 0 3 i0 1 Tryd.underlying31 hi (.slice none 0 0) 0 [] rfl (World.ownsRow_nil _ _ _ _) rfl ?_);go_ret;exact ⟨⟨_, rfl, none, 0, rfl, hx⟩, Below.refl _ _⟩
  | some a =>
    have HX := Lib.hid hx;have hcell : ∀ j u, (intsV len f)[j]? = some u → w.cell? (a.add j) = some u := by
      intro j u hj;have hj' : j < len := by have := (List.getElem?_eq_some_iff.1 hj).1; simpa [intsV] using this
      rw [intsV_get len f j hj'] at hj;rw [(hx.2 a rfl j hj').1, hj]
    have HC := Lib.hid hcell;clear hx hcell;go_enter Tryd.func67, Tryd.ntmps67
    go_wp2_with (at_builtin; refine wpList_append_own _ rfl _ _ 31 rfl w.heap.size 3 i0 (.int .i64 0) 1 8 Tryd.underlying31 hi hz0 hz1 hz2 rfl (by decide) (.slice none 0 0) 0 [] rfl (World.ownsRow_nil _ _ _ _) a len cap (intsV len f) rfl ?c0 HC.out ?c2 ?c3 ?c4 ?c5 ?_)
    case c0 => simp [intsV]
    case c2 => intro u hu; simp [intsV] at hu; obtain ⟨i, _, rfl⟩ := hu; rfl
    case c3 => unfold maxLen; omega
    case c4 => omega
    case c5 => simp
    intro v' w' hown hgrow _;obtain ⟨y, c, rfl, hy⟩ := Ints.of_own hown (fun i hi => (HX.out.2 a rfl i hi).2);have hE : Ext w w' := (Keeps.grown hgrow).below (Nat.le_refl _) (fun k _ q => by cases q);have HY := Lib.hid hy;have HE := Lib.hid hE;clear hown hgrow hy hE;go_wp2_with fail;go_ret;exact ⟨⟨_, rfl, y, c, rfl, HY.out⟩, HE.out⟩
end Go.Proofs.YtnhbjgmfbcedaaaDoor
namespace Go.Proofs.YtnhbjgmfbcedaaaDoor
open Go.RowKit
theorem sameTokens_any (x y : Option Addr) (n c d : Nat) (tk : Nat → Tk) (w : World) (hx : Toks w x n tk) (hy : Toks w y n tk) (hn : n ≤ 100000) :
  Calls Tryd.prog 29 #[.slice x n c, .slice y n d] w fun e w' => e = .returned (.bool true) ∧ Ext w w' := by
 have HX := Lib.hid hx;have HY := Lib.hid hy;clear hx hy;go_enter Tryd.func29, Tryd.ntmps29
 go_wp2_with fail;go_loopw [5] (fun c wr => ∃ (k : Nat), k ≤ n ∧ c = .int .i64 k ∧ Hid (Ext w wr)) (fun c _ => n - (intOf c).toNat)
 case atStart => exact ⟨0, by omega, rfl, Lib.hid (Ext.refl _)⟩
 case round =>
  obtain ⟨k, hk, rfl, HW⟩ := hrel;by_cases hlt : k < n
  ·have hx1 := HX.out.ext HW.out;have hy1 := HY.out.ext HW.out;obtain ⟨a, rfl⟩ := hx1.isSome hlt;obtain ⟨b, rfl⟩ := hy1.isSome hlt;obtain ⟨c0, c1, c2, _⟩ := hx1.2 a rfl k hlt;obtain ⟨d0, d1, d2, _⟩ := hy1.2 b rfl k hlt;generalize tk k = t at c0 c1 c2 d0 d1 d2;clear hx1 hy1;have t0 : decide ((k : Int) < (n : Int)) = true := decide_eq_true (by omega);have wi : IntKind.i64.wrap ((k : Int) + 1) = ((k + 1 : Nat) : Int) := by rw [IntKind.wrap_i64]; omega
   go_wp2_with fail;go_region;all_goals
    go_wp2_with fail;go_roundw
    case rel => exact ⟨k + 1, by omega, by go_num, Lib.hid (show Ext w wr.drew from Below.drew HW.out)⟩
    case measure => simp [intOf]; omega
  ·have t0 : decide ((k : Int) < (n : Int)) = false := decide_eq_false (by omega);go_wp2_with fail;go_ret;exact ⟨rfl, HW.out⟩
theorem Ints.has {w : World} {x : Option Addr} {n i : Nat} {f : Nat → Int} (h : Ints w x n f) (hi : i < n) : ∃ a, x = some a := by
 cases x with
 | none => have := h.1 rfl; omega
 | some a => exact ⟨a, rfl⟩
set_option maxHeartbeats 2000000 in
/-- best lengths, cut where only zeros follow, cost what the best ones cost -/
theorem cost_any (x y : Option Addr) (len cap m c : Nat) (f g : Nat → Int) (w : World) (ES : Value) (hS : w.cell? ⟨3, 0, none⟩ = some ES) (hx : Ints w x len f) (hx0 : x = none → cap = 0) (hy : Ints w y m g) (hf : lenGood f len 15) (hu : (Pkg.used (cntN f) len).length ≤ 2 ^ 15) (hm : m ≤ len)
  (hg : ∀ j, j < len → ∃ n : Nat, lenF f len 15 j = (n : Int) ∧ n ≤ 15 ∧ (0 < f j → 0 < n) ∧ (j < m → g j = (n : Int)) ∧ (m ≤ j → n = 0)) :
  Calls Tryd.prog 30 #[.slice x len cap, .slice y m c] w fun e w' => e = .returned (.tuple #[.bool true, .bool true]) ∧ Ext w w' := by
 have hlen := hf.1;have HF := Lib.hid hf.2.2.2;have HFG := Lib.hid hf;have HX := Lib.hid hx;have HY := Lib.hid hy;have HS := Lib.hid hS;have HU := Lib.hid hu;have HG := Lib.hid hg;clear hf hx hy hS hu hg;go_enter Tryd.func30, Tryd.ntmps30
 go_wp2_with fail;refine (ints_calls x len cap f w HX.out (by omega) hx0).mono ?_;rintro e w1 ⟨⟨v, rfl, p, q, rfl, hi⟩, h1⟩;have HI := Lib.hid hi;have X1 := Lib.hid h1;clear hi h1;go_wp2_with fail;refine (lengths_good p len q f 15 w1 HI.out ES ((X1.out.cell (World.block_lt_of_cell? w _ HS.out)).trans HS.out) HFG.out).mono ?_;rintro e w2 ⟨hX, hr⟩;rcases hr with ⟨hbad, _⟩ | ⟨_, b, rfl, hb, _⟩
 ·have := HU.out; omega
 have HB := Lib.hid hb;have X2 := Lib.hid (X1.out.trans hX);clear hX hb X1 HI;go_wp2_with fail;go_loopw [8, 9, 10] (fun sx sy c wr => ∃ (k S : Nat), k ≤ len ∧ c = .int .i64 k ∧ sx = .int .i64 S ∧ sy = .int .i64 S ∧ S ≤ k * 15728640 ∧ Hid (Ext w2 wr)) (fun _ _ c _ => len - (intOf c).toNat)
 case atStart => exact ⟨0, 0, by omega, rfl, rfl, rfl, by omega, Lib.hid (Ext.refl _)⟩
 case round =>
  obtain ⟨k, S, hk, rfl, rfl, rfl, hS, HW⟩ := hrel;by_cases hlt : k < len
  ·have t0 : decide ((k : Int) < (len : Int)) = true := decide_eq_true (by omega);have wi : IntKind.i64.wrap ((k : Int) + 1) = ((k + 1 : Nat) : Int) := by rw [IntKind.wrap_i64]; omega
   obtain ⟨n, hn, hn15, hpos, hgj, hz⟩ := HG.out k hlt;have hfk := HF.out k hlt;obtain ⟨a, ha⟩ : ∃ a : Nat, f k = (a : Int) := ⟨(f k).toNat, by omega⟩;have hx1 := HX.out.ext (X2.out.trans HW.out);obtain ⟨xa', rfl⟩ := hx1.has hlt;have kx := (hx1.2 xa' rfl k hlt).1;have kb := ((HB.out.ext HW.out).2 _ rfl k hlt).1;rw [add_plain, hn] at kb;rw [ha] at kx hpos hfk;obtain ⟨P, hP⟩ : ∃ P : Nat, a * n = P := ⟨_, rfl⟩;have hPl : P ≤ 15728640 := by rw [← hP]; exact Nat.le_trans (Nat.mul_le_mul (show a ≤ 1048576 by omega) hn15) (by decide)
   have eP : (a : Int) * (n : Int) = (P : Int) := by rw [← hP]; exact (Int.natCast_mul a n).symm
   obtain ⟨S2, hS2⟩ : ∃ S2, S + P = S2 := ⟨_, rfl⟩;have eS : (S : Int) + (P : Int) = (S2 : Int) := by omega
   have wP : ∀ z, z = (P : Int) → IntKind.i64.wrap z = z := by intro z hz; rw [IntKind.wrap_i64]; omega
   have wS : ∀ z, z = (S2 : Int) → IntKind.i64.wrap z = z := by intro z hz; rw [IntKind.wrap_i64]; omega
   have HS2 := Lib.hid hS2;by_cases hkm : k < m
   ·have t1 : decide ((k : Int) < (m : Int)) = true := decide_eq_true (by omega);have hy1 := HY.out.ext (X2.out.trans HW.out);obtain ⟨ya, rfl⟩ := hy1.has hkm;have ky := (hy1.2 ya rfl k hkm).1;rw [hgj hkm] at ky;clear hy1 hx1 hn ha hP hS2 hgj hz;by_cases ha0 : 0 < a
    ·have t2 : decide ((0 : Int) < (a : Int)) = true := decide_eq_true (by omega);have t3 : ((n : Int) == 0) = false := beq_eq_false_iff_ne.2 (by have := hpos (by omega); omega);clear hpos hfk;go_wp2_with fail;go_region;all_goals
      go_wp2_with fail;go_roundw
      case rel => exact ⟨k + 1, S2, by omega, by go_num, rfl, rfl, by have := HS2.out; omega, Lib.hid (show Ext w2 wr.drew from Below.drew HW.out)⟩
      case measure => simp [intOf]; omega
    ·have t2 : decide ((0 : Int) < (a : Int)) = false := decide_eq_false (by omega);clear hpos hfk;go_wp2_with fail;go_region;all_goals
      go_wp2_with fail;go_roundw
      case rel => exact ⟨k + 1, S2, by omega, by go_num, rfl, rfl, by have := HS2.out; omega, Lib.hid (show Ext w2 wr.drew from Below.drew HW.out)⟩
      case measure => simp [intOf]; omega
   ·have t1 : decide ((k : Int) < (m : Int)) = false := decide_eq_false (by omega);obtain rfl := hz (by omega);have ha0 : a = 0 := by
     rcases Nat.eq_zero_or_pos a with q | q
     ·exact q
     ·have := hpos (by omega); omega
    have t2 : decide ((0 : Int) < (a : Int)) = false := decide_eq_false (by omega);subst ha0;obtain rfl : 0 = P := by rw [← hP]
    have w0 : ∀ z, z = 0 → IntKind.i64.wrap z = z := by intro z hz; rw [IntKind.wrap_i64]; omega
    have wS' : ∀ z, z = (S : Int) → IntKind.i64.wrap z = z := by intro z hz; rw [IntKind.wrap_i64]; omega
    simp only [Int.ofNat_zero] at kb kx;have hSn : S ≤ (k + 1) * 15728640 := by rw [Nat.add_mul]; exact Nat.le_trans hS (Nat.le_add_right _ _)
    clear hx1 hn ha hP hS2 hgj hz hpos hfk eS eP wS wP;go_wp2_with fail;go_region;all_goals
     go_wp2_with fail;go_roundw
     case rel => exact ⟨k + 1, S, by omega, by go_num, by first | with_reducible rfl | simp, by first | with_reducible rfl | simp, hSn, Lib.hid (show Ext w2 wr.drew from Below.drew HW.out)⟩
     case measure => simp [intOf]; omega
  ·have t0 : decide ((k : Int) < (len : Int)) = false := decide_eq_false (by omega);have t1 : decide ((S : Int) ≤ (S : Int)) = true := decide_eq_true (by omega);go_wp2_with fail;go_ret2;exact ⟨rfl, X2.out.trans HW.out⟩
end Go.Proofs.YtnhbjgmfbcedaaaDoor
namespace Go.Proofs.YtnhbjgmfbcedaaaDoor
open Go.RowKit
theorem byte_any (k : Nat) (hk : k < 256) (w : World) : Calls Tryd.prog 33 #[.int .i64 (k : Int)] w fun e w' => e = .returned (.string ⟨#[UInt8.ofNat k]⟩) ∧ Ext w w' := by
  have hcr : (convert 61 9 (.slice (some ⟨w.heap.size, 0, none⟩) 1 1)).run Tryd.prog (w.alloc (.cells #[.int .u8 (k : Int)] 5)) = .ok (.string ⟨#[UInt8.ofNat k]⟩) (w.alloc (.cells #[.int .u8 (k : Int)] 5)) := by
    refine run_convert_bytes_back (P := Tryd.prog) (w.alloc (.cells #[.int .u8 (k : Int)] 5)) 61 9 5 ⟨w.heap.size, 0, none⟩ 1 [UInt8.ofNat k] Tryd.underlying61 Tryd.underlying5 Tryd.underlying9 (fun j hj => ?_);obtain rfl : j = 0 := by simpa using hj
    rw [add_plain]; simp; omega
  go_enter Tryd.func33, Tryd.ntmps33
  go_wp2_with fail;go_ret;exact ⟨rfl, (Ext.refl _).alloc _⟩
/-- bits as a text -/
@[irreducible] def bs (L : List Bool) : ByteArray := ⟨(Bts.str L).toArray⟩
theorem bs_list (L : List Bool) : (bs L).data.toList = Bts.str L := by unfold bs; rfl
theorem bs_size (L : List Bool) : (bs L).size = L.length := by show (bs L).data.size = _; rw [← Array.length_toList, bs_list, Bts.str_length]
theorem bytes_ext {a b : ByteArray} (h : a.data.toList = b.data.toList) : a = b := by
  obtain ⟨⟨a⟩⟩ := a; obtain ⟨⟨b⟩⟩ := b; simp at h; rw [h]
theorem bytes_cat (a b : ByteArray) : (a ++ b).data.toList = a.data.toList ++ b.data.toList := by simp
theorem bs_append (L M : List Bool) : bs L ++ bs M = bs (L ++ M) := bytes_ext (by rw [bytes_cat, bs_list, bs_list, bs_list, Bts.str_append])
theorem bs_one (b : Bool) : (⟨#[Bts.ch b]⟩ : ByteArray) = bs [b] := bytes_ext (by rw [bs_list]; rfl)
theorem bs_nil : ByteArray.empty = bs [] := bytes_ext (by rw [bs_list]; rfl)
theorem ch_of (y : Nat) : UInt8.ofNat (48 + y % 2) = Bts.ch (y % 2 == 1) := by
  rcases Nat.mod_two_eq_zero_or_one y with h | h <;> rw [h] <;> rfl
theorem bit_any (y : Nat) (w : World) : Calls Tryd.prog 33 #[.int .i64 (48 + (y : Int) % 2)] w fun e w' => e = .returned (.string (bs [y % 2 == 1])) ∧ Ext w w' := by
  have h := byte_any (48 + y % 2) (by omega) w;rw [ch_of, bs_one] at h;rw [show (48 + (y : Int) % 2) = ((48 + y % 2 : Nat) : Int) by omega];exact h
end Go.Proofs.YtnhbjgmfbcedaaaDoor
namespace Go.Proofs.YtnhbjgmfbcedaaaDoor
open Go.RowKit
theorem val_allB (l : List UInt8) : Bts.val (Bts.allB l) = Crc.num l := by
 induction l with
 | nil => rfl
 | cons b l ih =>
  simp only [Bts.allB, Crc.num];rw [Bts.val_append, Bts.val_low, Bts.low_length, ih, Nat.mod_eq_of_lt b.toNat_lt]; omega
theorem bits_any (s : ByteArray) (w : World) (hs : s.size ≤ 1000000) :
  Calls Tryd.prog 40 #[.string s] w fun e w' => e = .returned (.string (bs (Bts.allB s.data.toList))) ∧ Ext w w' := by
 obtain ⟨i0, hi0, hz0, hz1, hz2⟩ := info_parts u8info;obtain ⟨w2, hmk, hown, hgrow⟩ := run_make_own (P := Tryd.prog) w w.heap.size 61 5 i0 (.int .u8 0) 1 Tryd.underlying61 hi0 hz0 hz1 .i64 .i64 (8 * s.size) (by rw [hz2]; omega) (by unfold maxLen; omega) (Nat.le_refl _);have HO := Lib.hid hown;have HG : Hid (Ext w w2) := (Keeps.grown hgrow).below (Nat.le_refl _) (fun k _ q => by cases q);rw [show ((8 * s.size : Nat) : Int) = 8 * (s.size : Int) by omega] at hmk;clear hown hgrow;go_enter Tryd.func40, Tryd.ntmps40
 go_wp2_with fail;clear hmk;have HO0 : Hid (w2.ownsRow w.heap.size 5 1 (.slice (some ⟨w.heap.size, 0, none⟩) 0 (8 * s.size)) (Bts.str (Bts.allB (s.data.toList.take 0))).length (bytesV (Bts.str (Bts.allB (s.data.toList.take 0))))) := HO;clear HO;go_loopw [3, 4] (fun u c wr => ∃ i : Nat, i ≤ s.size ∧ c = .int .i64 i ∧ Hid (wr.ownsRow w.heap.size 5 1 u (Bts.str (Bts.allB (s.data.toList.take i))).length (bytesV (Bts.str (Bts.allB (s.data.toList.take i))))) ∧ Hid (Ext w wr)) (fun _ c _ => s.size - (intOf c).toNat)
 case atStart => exact ⟨0, by omega, rfl, HO0, HG⟩
 case round =>
  obtain ⟨i, hi, rfl, HR, HX⟩ := hrel;by_cases hlt : i < s.size
  ·obtain ⟨b, hb⟩ : ∃ b, s[i].toNat = b := ⟨_, rfl⟩;have hb256 : b < 256 := by rw [← hb]; exact s[i].toNat_lt
   have hts : Bts.allB (s.data.toList.take (i + 1)) = Bts.allB (s.data.toList.take i) ++ Bts.low b 8 := by
    rw [List.take_succ_eq_append_getElem (by simpa using hlt), Bts.allB_append, ← hb]; simp [Bts.allB]; rfl
   have hlen : (Bts.allB (s.data.toList.take i)).length ≤ 8 * i := by rw [Bts.allB_length]; simp; omega
   have HTS := Lib.hid hts;obtain ⟨L, hL⟩ : ∃ L, Bts.allB (s.data.toList.take i) = L := ⟨_, rfl⟩;rw [hL] at HR hlen;have HLL := Lib.hid hL;have HB := Lib.hid hb;clear hts hL;go_wp2_with fail;clear hb;go_loopw [3, 5, 6] (fun v n c wx => ∃ k : Nat, k ≤ 8 ∧ c = .int .i64 k ∧ n = .int .i64 ((b / 2 ^ k : Nat) : Int) ∧ Hid (wx.ownsRow w.heap.size 5 1 v (Bts.str (L ++ Bts.low b k)).length (bytesV (Bts.str (L ++ Bts.low b k)))) ∧ Hid (Ext w wx)) (fun _ _ c _ => 8 - (intOf c).toNat)
   case atStart => exact ⟨0, by omega, rfl, by simp, by simpa [Bts.low] using HR, HX⟩
   case round =>
    obtain ⟨k, hk, rfl, rfl, HR2, HX2⟩ := hrel;by_cases hlk : k < 8
    ·obtain ⟨y, hy⟩ : ∃ y, b / 2 ^ k = y := ⟨_, rfl⟩;have hy2 : b / 2 ^ (k + 1) = y / 2 := by rw [Nat.pow_succ, ← Nat.div_div_eq_div_mul, hy]
     have hyl : y < 256 := by rw [← hy]; exact Nat.lt_of_le_of_lt (Nat.div_le_self _ _) hb256
     have HLW : Hid (Bts.str (L ++ Bts.low b (k + 1)) = Bts.str (L ++ Bts.low b k) ++ [Bts.ch (y % 2 == 1)]) := Lib.hid (by rw [Bts.low, hy, ← List.append_assoc, Bts.str_append (L ++ _)]; rfl);obtain ⟨M, hM⟩ : ∃ M, Bts.str (L ++ Bts.low b k) = M := ⟨_, rfl⟩;have hMl : M.length ≤ 8 * i + 8 := by rw [← hM, Bts.str_length, List.length_append, Bts.low_length]; omega
     rw [hM] at HR2 HLW;rw [hy];have HY2 := Lib.hid hy2;clear hy hy2 hM;go_wp2_with (at_builtin; refine wpList_append_own _ rfl _ _ 61 rfl w.heap.size 5 i0 (.int .u8 0) 1 1 Tryd.underlying61 hi0 hz0 hz1 hz2 rfl (by decide) _ _ _ rfl (HR2.out.alloc _) ⟨wr.heap.size, 0, none⟩ 1 1 [.int .u8 (48 + (y : Int) % 2)] rfl rfl ?c1 ?c2 ?c3 ?c4 ?c5 ?_)
     case c1 => exact (cell_one_new _ _ _)
     case c2 => intro u hu; simp at hu; subst hu; rfl
     case c3 => unfold maxLen; omega
     case c4 => omega
     case c5 => have := HX2.out.size; simp; omega
     intro v' w' hown' hgrow _;have hE : Ext w w' := Below.trans (HX2.out.alloc _) ((Keeps.grown hgrow).below (HX2.out.alloc _).size (fun k hk e => by have := (HR2.out.lt k e).1; omega));have hO : w'.ownsRow w.heap.size 5 1 v' (Bts.str (L ++ Bts.low b (k + 1))).length (bytesV (Bts.str (L ++ Bts.low b (k + 1)))) := by
      rw [HLW.out];have e : Value.int IntKind.u8 (48 + (y : Int) % 2) = .int .u8 ((Bts.ch (y % 2 == 1)).toNat : Int) := by
       rw [Bts.ch_toNat, Bts.bit_val]; go_num
      have q := hown';rw [e] at q;simpa [bytesV] using q
     have HE := Lib.hid hE;have HO := Lib.hid hO;clear hE hO hown' hgrow HR2 HX2;go_wp2_with fail;go_roundw
     case rel => exact ⟨k + 1, by omega, by go_num, by rw [HY2.out]; go_num, HO, HE⟩
     case measure => simp [intOf]; omega
    ·obtain rfl : k = 8 := by omega
     go_wp2_with fail;go_roundw
     case rel => exact ⟨i + 1, by omega, by go_num, by rw [HTS.out, HLL.out]; exact HR2, HX2⟩
     case measure => simp [intOf]; omega
  ·obtain rfl : i = s.size := by omega
   obtain ⟨L, hL⟩ : ∃ L, Bts.str (Bts.allB (s.data.toList.take s.size)) = L := ⟨_, rfl⟩;have HBS : Hid (bs (Bts.allB s.data.toList) = ⟨L.toArray⟩) := Lib.hid (by rw [← hL, List.take_of_length_le (by simp)]; exact bytes_ext (by rw [bs_list]));rw [hL] at HR;clear hL;rcases ownsRow_slice HR.out with ⟨rfl, h0⟩ | ⟨g, cap, rfl⟩
   ·obtain rfl := List.eq_nil_of_length_eq_zero h0;have hcr : (convert 61 9 (.slice none 0 0)).run Tryd.prog wr = .ok (.string ⟨([] : List UInt8).toArray⟩) wr := by
     rw [run_convert_bytes_string wr 61 9 5 none 0 0 Tryd.underlying61 Tryd.underlying5 Tryd.underlying9];rfl
    go_wp2_with fail;go_ret;exact ⟨by rw [HBS.out]; rfl, HX.out⟩
   ·have hcr : (convert 61 9 (.slice (some ⟨g, 0, none⟩) L.length cap)).run Tryd.prog wr = .ok (.string ⟨L.toArray⟩) wr := by
     refine run_convert_bytes_back (P := Tryd.prog) wr 61 9 5 ⟨g, 0, none⟩ _ L Tryd.underlying61 Tryd.underlying5 Tryd.underlying9 (fun j hj => ?_);rw [add_plain, HR.out.cellAt _ (by omega), bytesV_get L _ hj]
    go_wp2_with fail;go_ret;exact ⟨by rw [HBS.out]; rfl, HX.out⟩
theorem str_get (L : List Bool) (s : ByteArray) (hs : s.data.toList = Bts.str L) (i : Nat) (h : i < s.size) (hL : i < L.length) : s[i].toNat = 48 + (if L[i] = true then 1 else 0) := by
 rw [← Bts.ch_toNat];congr 1
 have e : s[i] = s.data.toList[i]'(by simpa using h) := rfl;rw [e];simp only [hs, Bts.str, List.getElem_map]
theorem lowOf_any (L : List Bool) (w : World) (h : L.length ≤ 32) :
  Calls Tryd.prog 85 #[.string (bs L)] w fun e w' => e = .returned (.int .u32 (Bts.val L : Int)) ∧ w = w' := by
 have hz := bs_size L;have hs : (bs L).size ≤ 32 := by omega
 have HS := Lib.hid (bs_list L);have HZ := Lib.hid hz;clear hz;generalize bs L = s at *;go_enter Tryd.func85, Tryd.ntmps85
 go_wp2_with fail;go_loop [3, 4] (fun n c => ∃ d : Nat, d ≤ s.size ∧ c = .int .i64 ((d : Int) - 1) ∧ n = .int .u32 (Bts.val (L.drop d) : Int)) (fun _ c => (intOf c + 1).toNat)
 case atStart => exact ⟨s.size, by omega, rfl, by rw [List.drop_of_length_le (by rw [HZ.out]; exact Nat.le_refl _)]; rfl⟩
 case round =>
  obtain ⟨d, hd, rfl, rfl⟩ := hrel;by_cases hlt : 0 < d
  ·obtain ⟨j, rfl⟩ : ∃ j, d = j + 1 := ⟨d - 1, by omega⟩;have hjL : j < L.length := by have := HZ.out; omega
   have hb := str_get L s HS.out j hd hjL;have hv : Bts.val (L.drop j) = (if L[j] = true then 1 else 0) + 2 * Bts.val (L.drop (j + 1)) := by rw [List.drop_eq_getElem_cons hjL]; rfl
   have hvl : Bts.val (L.drop j) < 4294967296 := by
    refine Nat.lt_of_lt_of_le (Bts.val_lt _) (Nat.le_trans (Nat.pow_le_pow_right (n := 2) (by decide) (?_ : _ ≤ 32)) (by decide));rw [List.length_drop]; omega
   have hb2 : (if L[j] = true then 1 else 0) ≤ 1 := by split <;> omega
   obtain ⟨b, hbb⟩ : ∃ b, (if L[j] = true then 1 else 0) = b := ⟨_, rfl⟩;rw [hbb] at hb hv hb2;obtain ⟨V, hV⟩ : ∃ V, Bts.val (L.drop (j + 1)) = V := ⟨_, rfl⟩;rw [hV] at hv;have HV := Lib.hid hv;have hVl : b + 2 * V < 4294967296 := by rw [← hv]; exact hvl
   clear hv hvl hbb;rw [show (((j + 1 : Nat) : Int) - 1) = (j : Int) by omega, hV];clear hV;go_wp2_with fail;go_round
   case rel => exact ⟨j, by omega, rfl, by rw [HV.out]; go_num⟩
   case measure => first | (simp [intOf]; done) | (simp [intOf]; omega)
  ·obtain rfl : d = 0 := by omega
   rw [show (((0 : Nat) : Int) - 1) = -1 by omega];go_wp2_with fail;go_ret;exact ⟨by simp, rfl⟩
end Go.Proofs.YtnhbjgmfbcedaaaDoor
namespace Go.Proofs.YtnhbjgmfbcedaaaDoor
open Go.RowKit
/-- a reader's cells: its bits, its place, its error's number; the others by a function -/
def qc (T : ByteArray) (a e : Nat) (x : Nat → Value) : Array Value := #[.string T, .int .i64 (a : Int), x 2, x 3, .int .i64 (e : Int), x 5, x 6, x 7, x 8, x 9, x 10, x 11]
theorem qc_congr {T : ByteArray} {a e : Nat} {x y : Nat → Value} (h : ∀ i, i < 12 → x i = y i) : qc T a e x = qc T a e y := by
 unfold qc; rw [h 2 (by decide), h 3 (by decide), h 5 (by decide), h 6 (by decide), h 7 (by decide), h 8 (by decide), h 9 (by decide), h 10 (by decide), h 11 (by decide)]
def xset (x : Nat → Value) (i : Nat) (v : Value) : Nat → Value := fun j => if j = i then v else x j
theorem rok_any (Q a e : Nat) (T : ByteArray) (x : Nat → Value) (w : World) (hB : Bk w Q (qc T a e x)) :
  Calls Tryd.prog 42 #[.pointer (some ⟨Q, 0, none⟩)] w fun r w' => r = .returned (.bool (decide (e = 0))) ∧ w' = w := by
 have c4 := hB.cell 4;simp only [qc] at c4;clear hB;go_enter Tryd.func42, Tryd.ntmps42
 go_wp2_with fail;go_ret;exact ⟨ret_bool (by rw [Bool.eq_iff_iff]; simp), rfl⟩
theorem Bk.put1 {w : World} {Q a e : Nat} {T : ByteArray} {x : Nat → Value} (h : Bk w Q (qc T a e x)) (a' : Nat) : Bk (w.setCell ⟨Q, 1, none⟩ (.int .i64 (a' : Int))) Q (qc T a' e x) := by
 have := h.set_ 1 (.int .i64 (a' : Int)); simpa [qc] using this
theorem Bk.put4 {w : World} {Q a e : Nat} {T : ByteArray} {x : Nat → Value} (h : Bk w Q (qc T a e x)) (e' : Nat) : Bk (w.setCell ⟨Q, 4, none⟩ (.int .i64 (e' : Int))) Q (qc T a e' x) := by
 have := h.set_ 4 (.int .i64 (e' : Int)); simpa [qc] using this
theorem Bk.putx {w : World} {Q a e : Nat} {T : ByteArray} {x : Nat → Value} (h : Bk w Q (qc T a e x)) (i : Nat) (hi : i = 2 ∨ i = 5 ∨ i = 6 ∨ i = 7 ∨ i = 8 ∨ i = 9 ∨ i = 10 ∨ i = 11) (v : Value) : Bk (w.setCell ⟨Q, i, none⟩ v) Q (qc T a e (xset x i v)) := by
 have := h.set_ i v;rcases hi with rfl | rfl | rfl | rfl | rfl | rfl | rfl | rfl <;> simpa [qc, xset] using this
theorem keepQ {w : World} {Q i : Nat} {v : Value} : Keeps (fun k => k = Q) w (w.setCell ⟨Q, i, none⟩ v) := (Keeps.refl (fun k => k = Q) w).setCell (p := ⟨Q, i, none⟩) (.inl rfl) v
def fl (e c : Nat) : Nat := if e = 0 then c else e
theorem rfail_any (Q a e c : Nat) (T : ByteArray) (x : Nat → Value) (w : World) (hB : Bk w Q (qc T a e x)) :
  Calls Tryd.prog 49 #[.pointer (some ⟨Q, 0, none⟩), .int .i64 (c : Int)] w fun r w' => r = .returned (.tuple #[]) ∧ Bk w' Q (qc T a (fl e c) x) ∧ Keeps (fun k => k = Q) w w' := by
 have c4 := hB.cell 4;have f4 := hB.frozen 4;simp only [qc] at c4;by_cases he : e = 0
 ·subst he;have H := Lib.hid (hB.put4 c);clear hB;go_enter Tryd.func49, Tryd.ntmps49
  go_wp2_with fail;go_end0;exact ⟨rfl, H.out, keepQ⟩
 ·have hf : fl e c = e := if_neg he;have t1 : ((e : Int) == 0) = false := beq_eq_false_iff_ne.2 (by omega);rw [hf];have H := Lib.hid hB;clear hB;go_enter Tryd.func49, Tryd.ntmps49
  go_wp2_with fail;go_end0;exact ⟨rfl, H.out, Keeps.refl _ _⟩
theorem ralgn_any (Q a e : Nat) (T : ByteArray) (x : Nat → Value) (w : World) (hB : Bk w Q (qc T a e x)) (ha : a ≤ 100000000) :
  Calls Tryd.prog 50 #[.pointer (some ⟨Q, 0, none⟩)] w fun r w' => r = .returned (.tuple #[]) ∧ Bk w' Q (qc T ((a + 7) / 8 * 8) e x) ∧ Keeps (fun k => k = Q) w w' := by
 have c1 := hB.cell 1;have f1 := hB.frozen 1;simp only [qc] at c1;have e8 : ((a : Int) + 7) / 8 * 8 = (((a + 7) / 8 * 8 : Nat) : Int) := by omega
 have H := Lib.hid (hB.put1 ((a + 7) / 8 * 8));rw [← e8] at H;have H8 := Lib.hid e8;clear hB e8;go_enter Tryd.func50, Tryd.ntmps50
 go_wp2_with fail;go_end0;exact ⟨rfl, H.out, keepQ⟩
/-- the number that stands next -/
theorem bits_num (L : List UInt8) (a k : Nat) (_h : a + k ≤ 8 * L.length) : Bts.val (((Bts.allB L).drop a).take k) = Crc.num L / 2 ^ a % 2 ^ k := by
 rw [Bts.val_take, Bts.val_drop, val_allB]
theorem bs_extract (M : List Bool) (a b : Nat) (_h : a ≤ b) : (bs M).extract a b = bs ((M.drop a).take (b - a)) := by
 apply bytes_ext;rw [ex_list, bs_list, bs_list];simp [Bts.str, List.map_drop, List.map_take]
def GPost (Q : Nat) (T : ByteArray) (a e : Nat) (x : Nat → Value) (w : World) (g : Except Nat (Nat × Nat)) (r : Ending) (w' : World) : Prop :=
 Keeps (fun k => k = Q) w w' ∧ if e = 0 then
  match g with
  | .ok (n, a') => r = .returned (.int .i64 (n : Int)) ∧ Bk w' Q (qc T a' 0 x)
  | .error c => r = .returned (.int .i64 0) ∧ Bk w' Q (qc T a (c + 1) x)
 else r = .returned (.int .i64 0) ∧ Bk w' Q (qc T a e x)
set_option linter.unusedSimpArgs false in
set_option maxHeartbeats 4000000 in
theorem qget_any (Q a e k : Nat) (L : List UInt8) (x : Nat → Value) (w : World) (hB : Bk w Q (qc (bs (Bts.allB L)) a e x)) (hk : k ≤ 16) (ha : a ≤ 8 * L.length) (hL : L.length ≤ 300000) :
  Calls Tryd.prog 43 #[.pointer (some ⟨Q, 0, none⟩), .int .i64 (k : Int)] w fun r w' => GPost Q (bs (Bts.allB L)) a e x w (Inf.get L k a) r w' := by
 have HO := Lib.hid (fun (w : World) (h : Bk w Q (qc (bs (Bts.allB L)) a e x)) => rok_any Q a e (bs (Bts.allB L)) x w h);have hsz : (bs (Bts.allB L)).size = 8 * L.length := by rw [bs_size, Bts.allB_length]
 obtain ⟨T, hT⟩ : ∃ T, bs (Bts.allB L) = T := ⟨_, rfl⟩;rw [hT] at hB hsz HO ⊢;have HT := Lib.hid hT;have HB := Lib.hid hB;have c0 := hB.cell 0;have c1 := hB.cell 1;have f1 := hB.frozen 1;simp only [qc] at c0 c1;have HSZ := Lib.hid hsz;obtain ⟨Z, hZ⟩ : ∃ Z, T.size = Z := ⟨_, rfl⟩;clear hB hT;by_cases he : e = 0
 ·subst he;have hd : decide (0 = 0) = true := rfl;obtain ⟨A, hA⟩ : ∃ A, a + k = A := ⟨_, rfl⟩;have hAI : (a : Int) + (k : Int) = (A : Int) := by omega
  have wA : ∀ z, z = (A : Int) → IntKind.i64.wrap z = z := by rintro _ rfl; rw [IntKind.wrap_i64]; omega
  rw [hZ] at hsz;by_cases hlt : Z < A
  ·have t1 : decide ((Z : Int) < (A : Int)) = true := decide_eq_true (by omega);have HG : Hid (Inf.get L k a = .error 0) := Lib.hid (by unfold Inf.get; rw [if_neg (by omega)]);clear hsz hA;go_enter Tryd.func43, Tryd.ntmps43
   go_wp2_with fail;refine wp_regionQ (by kernel_rfl) (by kernel_rfl) ?_;refine wpQ_yes (by kernel_rfl) (fun K hK => ?_);go_simp;refine hK _ ?_;clear hK K;refine wpQ_yes (by kernel_rfl) (fun K hK => ?_);go_simp;refine ⟨_, HO.out _ HB.out.drew, hK _ ?_⟩;clear hK K;refine wpQ_yes (by kernel_rfl) (fun K hK => ?_);go_simp;refine hK _ ?_;clear hK K;refine wpQ_yes (by kernel_rfl) (fun K hK => ?_);go_simp;refine hK _ ?_;clear hK K;refine wpQ_yes (by kernel_rfl) (fun K hK => ?_);go_simp;refine hK _ ?_;clear hK K;refine wpQ_yes (by kernel_rfl) (fun K hK => ?_);go_simp;refine hK _ ?_;clear hK K;refine wpQ_yes (by kernel_rfl) (fun K hK => ?_);go_simp;refine hK _ ?_;clear hK K;refine wpQ_yes (by kernel_rfl) (fun K hK => ?_);go_simp;refine hK _ ?_;clear hK K;refine wpQ_yes (by kernel_rfl) (fun K hK => ?_);go_simp;refine hK _ ?_;clear hK K;refine wpQ_yes (by kernel_rfl) (fun K hK => ?_);go_simp;refine hK _ ?_;clear hK K;refine wpQ_yes (by kernel_rfl) (fun K hK => ?_);go_simp;refine hK _ ?_;clear hK K;refine wpQ_yes (by kernel_rfl) (fun K hK => ?_);go_simp;refine hK _ ?_;clear hK K;refine wpQ_yes (by kernel_rfl) (fun K hK => ?_);go_simp;refine hK _ ?_;clear hK K;refine wpQ_yes (by kernel_rfl) (fun K hK => ?_);go_simp;refine hK _ ?_;clear hK K;refine wpQ_yes (by kernel_rfl) (fun K hK => ?_);go_simp;refine hK _ ?_;clear hK K;refine wpQ_yes (by kernel_rfl) (fun K hK => ?_);go_simp;refine hK _ ?_;clear hK K;refine wpQ_yes (by kernel_rfl) (fun K hK => ?_);go_simp;refine hK _ ?_;clear hK K;refine wpQ_nil ?_
   go_wp2_with fail;refine (rfail_any Q a 0 1 T x _ HB.out.drew).mono ?_;rintro r w1 ⟨rfl, hB1, hK1⟩;have HB1 := Lib.hid hB1;have HK1 := Lib.hid hK1;clear hB1 hK1;go_wp2_with fail;go_ret;refine ⟨⟨HK1.out.os, HK1.out.tape, HK1.out.output, HK1.out.size, HK1.out.block⟩, ?_⟩;rw [if_pos rfl, HG.out];exact ⟨rfl, HB1.out⟩
  ·have t1 : decide ((Z : Int) < (A : Int)) = false := decide_eq_false (by omega);have hAL : A ≤ 8 * L.length := by omega
   have HG : Hid (Inf.get L k a = .ok (Crc.num L / 2 ^ a % 2 ^ k, A)) := Lib.hid (by unfold Inf.get; rw [if_pos (by omega), hA]);obtain ⟨M, hM⟩ : ∃ M, ((Bts.allB L).drop a).take k = M := ⟨_, rfl⟩;have hML : M.length ≤ 32 := by rw [← hM, List.length_take]; omega
   have hext : T.extract a A = bs M := by rw [← HT.out, bs_extract _ _ _ (by omega), ← hM, show A - a = k by omega]
   have hval : Bts.val M = Crc.num L / 2 ^ a % 2 ^ k := by rw [← hM]; exact bits_num L a k (by omega)
   obtain ⟨nn, hnn⟩ : ∃ nn, Bts.val M = nn := ⟨_, rfl⟩;have hnb : nn < 65536 := by
    rw [← hnn, hval];exact Nat.lt_of_lt_of_le (Nat.mod_lt _ (Nat.two_pow_pos _)) (Nat.pow_le_pow_right (by decide) hk)
   have HV : Hid (Crc.num L / 2 ^ a % 2 ^ k = nn) := Lib.hid (hval.symm.trans hnn);have HLow := Lib.hid (fun (w : World) => still_of (lowOf_any M w hML));rw [hnn] at HLow;have wn : ∀ z, z = (nn : Int) → IntKind.i64.wrap z = z := by rintro _ rfl; rw [IntKind.wrap_i64]; omega
   have hBA := HB.out.drew.put1 A;have HBA := Lib.hid hBA;have k0 := hBA.cell 0;have k1 := hBA.cell 1;simp only [qc] at k0 k1;have hsub : (A : Int) - (k : Int) = (a : Int) := by omega
   have wa : ∀ z, z = (a : Int) → IntKind.i64.wrap z = z := by rintro _ rfl; rw [IntKind.wrap_i64]; omega
   have haA : a ≤ A := by omega
   have haA2 : (a : Int) ≤ (A : Int) := by omega
   have hAZ : A ≤ Z := by omega
   have hAZ2 : (A : Int) ≤ (Z : Int) := by omega
   have ha0 : (0 : Int) ≤ (a : Int) := by omega
   have hat : ((a : Nat) : Int).toNat = a := by omega
   have hAt : ((A : Nat) : Int).toNat = A := by omega
   clear hsz hA hM hval hnn hBA;go_enter Tryd.func43, Tryd.ntmps43
   go_wp2_with fail;refine wp_regionQ (by kernel_rfl) (by kernel_rfl) ?_;refine wpQ_yes (by kernel_rfl) (fun K hK => ?_);go_simp;refine hK _ ?_;clear hK K;refine wpQ_yes (by kernel_rfl) (fun K hK => ?_);go_simp;refine ⟨_, HO.out _ HB.out.drew, hK _ ?_⟩;clear hK K;refine wpQ_yes (by kernel_rfl) (fun K hK => ?_);go_simp;refine hK _ ?_;clear hK K;refine wpQ_yes (by kernel_rfl) (fun K hK => ?_);go_simp;refine hK _ ?_;clear hK K;refine wpQ_yes (by kernel_rfl) (fun K hK => ?_);go_simp;refine hK _ ?_;clear hK K;refine wpQ_yes (by kernel_rfl) (fun K hK => ?_);go_simp;refine hK _ ?_;clear hK K;refine wpQ_yes (by kernel_rfl) (fun K hK => ?_);go_simp;refine hK _ ?_;clear hK K;refine wpQ_yes (by kernel_rfl) (fun K hK => ?_);go_simp;refine hK _ ?_;clear hK K;refine wpQ_yes (by kernel_rfl) (fun K hK => ?_);go_simp;refine hK _ ?_;clear hK K;refine wpQ_yes (by kernel_rfl) (fun K hK => ?_);go_simp;refine hK _ ?_;clear hK K;refine wpQ_yes (by kernel_rfl) (fun K hK => ?_);go_simp;refine hK _ ?_;clear hK K;refine wpQ_yes (by kernel_rfl) (fun K hK => ?_);go_simp;refine hK _ ?_;clear hK K;refine wpQ_yes (by kernel_rfl) (fun K hK => ?_);go_simp;refine hK _ ?_;clear hK K;refine wpQ_yes (by kernel_rfl) (fun K hK => ?_);go_simp;refine hK _ ?_;clear hK K;refine wpQ_yes (by kernel_rfl) (fun K hK => ?_);go_simp;refine hK _ ?_;clear hK K;refine wpQ_yes (by kernel_rfl) (fun K hK => ?_);go_simp;refine hK _ ?_;clear hK K;refine wpQ_yes (by kernel_rfl) (fun K hK => ?_);go_simp;refine hK _ ?_;clear hK K;refine wpQ_nil ?_
   go_wp2_with fail;refine wp_world (fun wz => Bk wz Q (qc T A 0 x) ∧ Keeps (fun k => k = Q) w wz) ⟨HBA.out, (Keeps.refl (fun k => k = Q) w).drew.setCell (p := ⟨Q, 1, none⟩) (.inl rfl) _⟩ ?_;rintro w2 ⟨h2, hK2⟩;have H2 := Lib.hid h2;have HK2 := Lib.hid hK2;have j0 := h2.cell 0;have j1 := h2.cell 1;simp only [qc] at j0 j1;clear h2 hK2 k0 k1 c0 c1 f1 t1 hlt;refine wp_regionQ (by kernel_rfl) (by kernel_rfl) ?_;refine wpQ_yes (by kernel_rfl) (fun K hK => ?_);go_simp;refine hK _ ?_;clear hK K;refine wpQ_yes (by kernel_rfl) (fun K hK => ?_);go_simp;refine hK _ ?_;clear hK K;refine wpQ_yes (by kernel_rfl) (fun K hK => ?_);go_simp;refine hK _ ?_;clear hK K;refine wpQ_yes (by kernel_rfl) (fun K hK => ?_);go_simp;refine hK _ ?_;clear hK K;refine wpQ_yes (by kernel_rfl) (fun K hK => ?_);go_simp;refine hK _ ?_;clear hK K;refine wpQ_yes (by kernel_rfl) (fun K hK => ?_);go_simp;refine hK _ ?_;clear hK K;refine wpQ_yes (by kernel_rfl) (fun K hK => ?_);go_simp;refine hK _ ?_;clear hK K;refine wpQ_yes (by kernel_rfl) (fun K hK => ?_);go_simp;refine hK _ ?_;clear hK K;refine wpQ_yes (by kernel_rfl) (fun K hK => ?_);go_simp;refine hK _ ?_;clear hK K;refine wpQ_yes (by kernel_rfl) (fun K hK => ?_);go_simp;refine hK _ ?_;clear hK K;refine wpQ_yes (by kernel_rfl) (fun K hK => ?_);go_simp;refine hK _ ?_;clear hK K;refine wpQ_yes (by kernel_rfl) (fun K hK => ?_);go_simp;refine hK _ ?_;clear hK K;refine wpQ_yes (by kernel_rfl) (fun K hK => ?_);go_simp;refine hK _ ?_;clear hK K;refine wpQ_yes (by kernel_rfl) (fun K hK => ?_)
   go_simp;refine hK _ ?_;clear hK K;refine wpQ_yes (by kernel_rfl) (fun K hK => ?_);go_simp;refine hK _ ?_;clear hK K;refine wpQ_yes (by kernel_rfl) (fun K hK => ?_);go_simp;refine ⟨_, HLow.out _, hK _ ?_⟩;clear hK K;refine wpQ_yes (by kernel_rfl) (fun K hK => ?_);go_simp;refine hK _ ?_;clear hK K;refine wpQ_yes (by kernel_rfl) (fun K hK => ?_);go_simp;refine hK _ ?_;clear hK K;refine wpQ_nil ?_;go_wp2_with fail;go_ret;refine ⟨HK2.out.drew, ?_⟩;rw [if_pos rfl, HG.out, HV.out];exact ⟨rfl, H2.out⟩
 ·have hd : decide (e = 0) = false := decide_eq_false he;have hfl : fl e 1 = e := if_neg he;go_enter Tryd.func43, Tryd.ntmps43
  go_wp2_with fail;refine wp_regionQ (by kernel_rfl) (by kernel_rfl) ?_;refine wpQ_yes (by kernel_rfl) (fun K hK => ?_);go_simp;refine hK _ ?_;clear hK K;refine wpQ_yes (by kernel_rfl) (fun K hK => ?_);go_simp;refine ⟨_, HO.out _ HB.out.drew, hK _ ?_⟩;clear hK K;refine wpQ_yes (by kernel_rfl) (fun K hK => ?_);go_simp;refine hK _ ?_;clear hK K;refine wpQ_yes (by kernel_rfl) (fun K hK => ?_);go_simp;refine hK _ ?_;clear hK K;refine wpQ_no (by kernel_rfl) ?_;(try simp only [Act.put, xa, xb, xc, xd, xe, xf]);refine wpQ_no (by kernel_rfl) ?_;(try simp only [Act.put, xa, xb, xc, xd, xe, xf]);refine wpQ_no (by kernel_rfl) ?_;(try simp only [Act.put, xa, xb, xc, xd, xe, xf]);refine wpQ_no (by kernel_rfl) ?_;(try simp only [Act.put, xa, xb, xc, xd, xe, xf]);refine wpQ_no (by kernel_rfl) ?_;(try simp only [Act.put, xa, xb, xc, xd, xe, xf]);refine wpQ_no (by kernel_rfl) ?_;(try simp only [Act.put, xa, xb, xc, xd, xe, xf]);refine wpQ_no (by kernel_rfl) ?_;(try simp only [Act.put, xa, xb, xc, xd, xe, xf]);refine wpQ_no (by kernel_rfl) ?_;(try simp only [Act.put, xa, xb, xc, xd, xe, xf]);refine wpQ_no (by kernel_rfl) ?_;(try simp only [Act.put, xa, xb, xc, xd, xe, xf]);refine wpQ_no (by kernel_rfl) ?_;(try simp only [Act.put, xa, xb, xc, xd, xe, xf]);refine wpQ_no (by kernel_rfl) ?_;(try simp only [Act.put, xa, xb, xc, xd, xe, xf]);refine wpQ_no (by kernel_rfl) ?_;(try simp only [Act.put, xa, xb, xc, xd, xe, xf]);refine wpQ_yes (by kernel_rfl) (fun K hK => ?_);go_simp;refine hK _ ?_;clear hK K
  refine wpQ_nil ?_;go_wp2_with fail;refine (rfail_any Q a e 1 T x _ HB.out.drew).mono ?_;rintro r w1 ⟨rfl, hB1, hK1⟩;rw [hfl] at hB1;have HB1 := Lib.hid hB1;have HK1 := Lib.hid hK1;clear hB1 hK1;go_wp2_with fail;go_ret;refine ⟨⟨HK1.out.os, HK1.out.tape, HK1.out.output, HK1.out.size, HK1.out.block⟩, ?_⟩;rw [if_neg he];exact ⟨rfl, HB1.out⟩
end Go.Proofs.YtnhbjgmfbcedaaaDoor
