/-
  match.Expand.
  Tokens that mean something are not too many, and each is right.
  deflate.Dynamic.
-/
import Derived.Test.YtnhbjgmfbcedaaaDoorDeflateTwiceG1
import Derived.Test.YtnhbjgmfbcedaaaDoorDeflateTwiceG3
import Derived.RegionTactic
import Derived.Test.YtnhbjgmfbcedaaaDoorDeflateTwiceG5
import Derived.Test.YtnhbjgmfbcedaaaDoorDeflateTwiceG12
set_option linter.unusedSimpArgs false
set_option linter.unusedVariables false
set_option maxRecDepth 100000
namespace Go.Proofs.YtnhbjgmfbcedaaaDoor
open Go.RowKit
def ExpPost (w w' : World) (E : Nat → Addr) (r : XRes) (e : Ending) : Prop :=
 Ext w w' ∧ ((∃ out, r = .ok out ∧ e = .returned (.tuple #[.string ⟨out.toArray⟩, .nilIface])) ∨ (∃ c i F : Nat, c < 9 ∧ (i : Int) ≤ 9223372036854775807 ∧ r = .bad c i ∧ e = .returned (.tuple #[.string ⟨#[]⟩, .iface 108 (.pointer (some ⟨F, 0, none⟩))]) ∧ w'.heap[F]? = some (.cells #[.int .i64 (i : Int), sentV (E c)] 112 (0, 0))))
theorem exp_err {w wz : World} {E : Nat → Addr} {k c : Nat} {r : XRes} (hX : Ext w wz) (hc : c < 9) (hk : (k : Int) ≤ 9223372036854775807) (h : r = .bad c k) :
  ExpPost w (wz.drew.alloc (.cells #[.int .i64 (k : Int), .iface 210 (.pointer (some (E c)))] 112)) E r (.returned (.tuple #[.string ⟨#[]⟩, .iface 108 (.pointer (some ⟨wz.heap.size, 0, none⟩))])) :=
 ⟨(show Ext w wz.drew from Below.drew hX).alloc _, .inr ⟨c, k, wz.heap.size, hc, hk, h, rfl, heap_alloc_new wz.drew _⟩⟩
theorem exp_fin {w wz : World} {E : Nat → Addr} {r : XRes} {out : List UInt8} (hX : Ext w wz) (h : r = .ok out) : ExpPost w wz E r (.returned (.tuple #[.string ⟨out.toArray⟩, .nilIface])) := ⟨hX, .inl ⟨out, h, rfl⟩⟩
theorem cells_one1 (b : Int) : ∀ u ∈ [Value.int .u8 b], u.oneCell' = true := by intro u hu; rw [List.mem_singleton.1 hu]; rfl
theorem row_lit {w : World} {base : Nat} {e : TypeId} {size : Nat} {v : Value} {n : Nat} {xs : List Value} (h : w.ownsRow base e size v n xs) : ∃ x c, v = .slice x n c := by
 rcases ownsRow_slice h with ⟨h1, h2⟩ | ⟨g, cap, h1⟩
 ·exact ⟨none, 0, by rw [h1, h2]⟩
 ·exact ⟨_, cap, h1⟩
set_option linter.unusedSimpArgs false in
set_option maxHeartbeats 4000000 in
theorem expand_any (x : Option Addr) (n cap : Nat) (tk : Nat → Tk) (w : World) (E : Nat → Addr) (hE : Errs w E) (hx : Toks w x n tk) (hn : n ≤ maxLen) :
  Calls Tryd.prog 57 #[.slice x n cap] w fun e w' => ExpPost w w' E (expL tk n) e := by
 have HE := Lib.hid hE;have HX := Lib.hid hx;clear hE hx;unfold maxLen at hn;obtain ⟨i0, hi0, hz0, hz1, hz2⟩ := info_parts byteinf;go_enter Tryd.func57, Tryd.ntmps57
 go_wp2_with fail;go_loopw [4, 10] (fun v c wr => ∃ (k : Nat) (out : List UInt8), k ≤ n ∧ c = .int .i64 k ∧ Hid (expL tk k = .ok out) ∧ Hid (wr.ownsRow w.heap.size 5 1 v (out).length (bytesV (out))) ∧ Hid (Ext w wr)) (fun _ c _ => n - (intOf c).toNat)
 case atStart => exact ⟨0, [], by omega, rfl, Lib.hid rfl, Lib.hid (World.ownsRow_nil _ _ _ _), Lib.hid (Ext.refl _)⟩
 case round =>
  obtain ⟨k, out, hk, rfl, HL, HR, HW⟩ := hrel;have hlen := expL_len HL.out;by_cases hlt : k < n
  ·obtain ⟨a, rfl⟩ := HX.out.isSome hlt;obtain ⟨c0, c1, c2, okl, okd⟩ := (HX.out.ext HW.out).2 a rfl k hlt;have HSt := Lib.hid (expL_succ HL.out);have HBad := Lib.hid (fun c (h : stepX (tk k) k out = .bad c k) => expL_bad HL.out h hlt);generalize tk k = t at c0 c1 c2 okl okd HSt HBad;obtain ⟨b, l, d⟩ := t;simp only at c0 c1 c2 okl okd;obtain ⟨l1, l2⟩ := okl;obtain ⟨d1_, d2_⟩ := okd;obtain ⟨L, hL⟩ : ∃ L, out.length = L := ⟨_, rfl⟩;rw [hL] at HR hlen;have HLL := Lib.hid hL;clear hL;obtain ⟨xo, co, rfl⟩ := row_lit HR.out;have hsz : w.heap.size ≤ wr.heap.size := HW.out.size;by_cases q_l0 : l = 0
   ·have t_l0 : (l == 0) = true := beq_iff_eq.2 q_l0;by_cases q_d0 : d = 0
    ·have t_d0 : (d == 0) = true := beq_iff_eq.2 q_d0;have HLit : Hid (litP ⟨b, l, d⟩) := Lib.hid ⟨q_l0, q_d0⟩;by_cases qb : 300000 < L + 1
     ·have tq : decide ((300000 : Int) < (L : Int) + 1) = true := decide_eq_true (by omega);have HB : Hid (expL tk n = .bad 1 k) := Lib.hid (HBad.out 1 (stepX_lit_no HLit.out (by rw [HLL.out]; exact qb)));clear HSt HBad HL HR HLL;clear q_l0 q_d0;go_wp2_with fail;refine wp_world (fun wz => Ext wr wz ∧ wz.heap.size = wr.heap.size + 1 ∧ Bk wz (wr.heap.size) #[.int .u8 (b.toNat : Int), .int .i64 l, .int .i64 d]) ⟨by repeat (first | exact Ext.refl _ | refine Ext.alloc ?_ _), by simp, by repeat (first | exact Bk.at (by simp) | refine Bk.old ?_)⟩ ?_;rintro wz ⟨hX, hZ, hB0⟩;have XZ := Lib.hid (HW.out.trans hX);have hv := (HE.out.ext XZ.out).var 1 (by decide);simp only [gk, sentV] at hv;clear hX hZ hB0 c0 c1 c2;go_region;all_goals
       (try go_wp2_with fail);go_ret2;exact exp_err XZ.out (by decide) (by omega) HB.out
     ·have tq : decide ((300000 : Int) < (L : Int) + 1) = false := decide_eq_false (by omega);have HS2 := Lib.hid (HSt.out.trans (stepX_lit HLit.out (by rw [HLL.out]; omega)));clear HSt HBad HL q_l0 q_d0 HLit;go_wp2_with (at_builtin; refine wpList_append_own_at _ rfl _ _ 61 rfl w.heap.size 5 i0 (.int .u8 0) 1 1 Tryd.underlying61 hi0 hz0 hz1 hz2 rfl (by decide) _ _ _ rfl ((HR.out.alloc _).alloc _) ⟨wr.heap.size + 1, 0, none⟩ 1 1 [.int .u8 (b.toNat : Int)] rfl rfl ?c1 (cells_one1 _) ?c3 ?c4 ?c5 ?_)
      case c3 => unfold maxLen; omega
      case c4 => omega
      case c5 => first | omega | (simp; omega)
      intro v' w1 hown hgrow _ _;have hRR : ((wr.alloc (.cells #[.int .u8 (b.toNat : Int), .int .i64 l, .int .i64 d] 84)).alloc (.cells #[.int .u8 (b.toNat : Int)] 5)).ownsRow w.heap.size 5 1 (.slice xo L co) out.length (bytesV out) := by rw [HLL.out]; exact (HR.out.alloc _).alloc _
      have P := row_push ((HW.out.alloc _).alloc _) hRR hgrow (by rw [HLL.out]; exact hown);have P1 := Lib.hid P.1;have P2 := Lib.hid P.2;clear P hown hgrow hRR c0 c1 c2;go_wp2_with fail;go_roundw
      case rel => exact ⟨k + 1, out ++ [b], by omega, by go_num, HS2, P1, P2⟩
      case measure => simp [intOf]; omega
    ·have t_d0 : (d == 0) = false := beq_eq_false_iff_ne.2 q_d0;have HNL : Hid (¬ litP ⟨b, l, d⟩) := Lib.hid (fun h => q_d0 h.2);by_cases q_b0 : b ≠ 0
     ·have t_b0 : ((b.toNat : Int) != 0) = true := by rw [bne_iff_ne]; intro e; exact q_b0 (UInt8.toNat_inj.1 (by simpa using e))
      have HB : Hid (expL tk n = .bad 2 k) := Lib.hid (HBad.out 2 (stepX_bad HNL.out (by rw [HLL.out]; exact .inl q_b0)));clear HSt HBad HL HR HLL;clear q_l0 q_d0 q_b0;go_wp2_with fail;refine wp_world (fun wz => Ext wr wz ∧ wz.heap.size = wr.heap.size + 1 ∧ Bk wz (wr.heap.size) #[.int .u8 (b.toNat : Int), .int .i64 l, .int .i64 d]) ⟨by repeat (first | exact Ext.refl _ | refine Ext.alloc ?_ _), by simp, by repeat (first | exact Bk.at (by simp) | refine Bk.old ?_)⟩ ?_;rintro wz ⟨hX, hZ, hB0⟩;have XZ := Lib.hid (HW.out.trans hX);have hv := (HE.out.ext XZ.out).var 2 (by decide);simp only [gk, sentV] at hv;clear hX hZ hB0 c0 c1 c2;go_region;all_goals
       (try go_wp2_with fail);go_ret2;exact exp_err XZ.out (by decide) (by omega) HB.out
     ·have t_b0 : ((b.toNat : Int) != 0) = false := by have e : b = 0 := Classical.not_not.1 q_b0; subst e; rfl
      have q_l3 : l < 3 := by omega
      have t_l3 : decide (l < 3) = true := decide_eq_true q_l3;have HB : Hid (expL tk n = .bad 2 k) := Lib.hid (HBad.out 2 (stepX_bad HNL.out (by rw [HLL.out]; exact .inr (.inl q_l3))));clear HSt HBad HL HR HLL;clear q_l0 q_d0 q_b0 q_l3;go_wp2_with fail;refine wp_world (fun wz => Ext wr wz ∧ wz.heap.size = wr.heap.size + 1 ∧ Bk wz (wr.heap.size) #[.int .u8 (b.toNat : Int), .int .i64 l, .int .i64 d]) ⟨by repeat (first | exact Ext.refl _ | refine Ext.alloc ?_ _), by simp, by repeat (first | exact Bk.at (by simp) | refine Bk.old ?_)⟩ ?_;rintro wz ⟨hX, hZ, hB0⟩;have XZ := Lib.hid (HW.out.trans hX);have hv := (HE.out.ext XZ.out).var 2 (by decide);simp only [gk, sentV] at hv;clear hX hZ hB0 c0 c1 c2;go_region;all_goals
       (try go_wp2_with fail);go_ret2;exact exp_err XZ.out (by decide) (by omega) HB.out
   ·have t_l0 : (l == 0) = false := beq_eq_false_iff_ne.2 q_l0;have HNL : Hid (¬ litP ⟨b, l, d⟩) := Lib.hid (fun h => q_l0 h.1);by_cases q_b0 : b ≠ 0
    ·have t_b0 : ((b.toNat : Int) != 0) = true := by rw [bne_iff_ne]; intro e; exact q_b0 (UInt8.toNat_inj.1 (by simpa using e))
     have HB : Hid (expL tk n = .bad 2 k) := Lib.hid (HBad.out 2 (stepX_bad HNL.out (by rw [HLL.out]; exact .inl q_b0)));clear HSt HBad HL HR HLL;clear q_l0 q_b0;go_wp2_with fail;refine wp_world (fun wz => Ext wr wz ∧ wz.heap.size = wr.heap.size + 1 ∧ Bk wz (wr.heap.size) #[.int .u8 (b.toNat : Int), .int .i64 l, .int .i64 d]) ⟨by repeat (first | exact Ext.refl _ | refine Ext.alloc ?_ _), by simp, by repeat (first | exact Bk.at (by simp) | refine Bk.old ?_)⟩ ?_;rintro wz ⟨hX, hZ, hB0⟩;have XZ := Lib.hid (HW.out.trans hX);have hv := (HE.out.ext XZ.out).var 2 (by decide);simp only [gk, sentV] at hv;clear hX hZ hB0 c0 c1 c2;go_region;all_goals
      (try go_wp2_with fail);go_ret2;exact exp_err XZ.out (by decide) (by omega) HB.out
    ·have t_b0 : ((b.toNat : Int) != 0) = false := by have e : b = 0 := Classical.not_not.1 q_b0; subst e; rfl
     by_cases q_l3 : l < 3
     ·have t_l3 : (decide (l < 3)) = true := decide_eq_true q_l3;have HB : Hid (expL tk n = .bad 2 k) := Lib.hid (HBad.out 2 (stepX_bad HNL.out (by rw [HLL.out]; exact .inr (.inl q_l3))));clear HSt HBad HL HR HLL;clear q_l0 q_b0 q_l3;go_wp2_with fail;refine wp_world (fun wz => Ext wr wz ∧ wz.heap.size = wr.heap.size + 1 ∧ Bk wz (wr.heap.size) #[.int .u8 (b.toNat : Int), .int .i64 l, .int .i64 d]) ⟨by repeat (first | exact Ext.refl _ | refine Ext.alloc ?_ _), by simp, by repeat (first | exact Bk.at (by simp) | refine Bk.old ?_)⟩ ?_;rintro wz ⟨hX, hZ, hB0⟩;have XZ := Lib.hid (HW.out.trans hX);have hv := (HE.out.ext XZ.out).var 2 (by decide);simp only [gk, sentV] at hv;clear hX hZ hB0 c0 c1 c2;go_region;all_goals
       (try go_wp2_with fail);go_ret2;exact exp_err XZ.out (by decide) (by omega) HB.out
     ·have t_l3 : (decide (l < 3)) = false := decide_eq_false q_l3;by_cases q_l258 : 258 < l
      ·have t_l258 : (decide (258 < l)) = true := decide_eq_true q_l258;have HB : Hid (expL tk n = .bad 2 k) := Lib.hid (HBad.out 2 (stepX_bad HNL.out (by rw [HLL.out]; exact .inr (.inr (.inl q_l258)))));clear HSt HBad HL HR HLL;clear q_l0 q_b0 q_l3 q_l258;go_wp2_with fail;refine wp_world (fun wz => Ext wr wz ∧ wz.heap.size = wr.heap.size + 1 ∧ Bk wz (wr.heap.size) #[.int .u8 (b.toNat : Int), .int .i64 l, .int .i64 d]) ⟨by repeat (first | exact Ext.refl _ | refine Ext.alloc ?_ _), by simp, by repeat (first | exact Bk.at (by simp) | refine Bk.old ?_)⟩ ?_;rintro wz ⟨hX, hZ, hB0⟩;have XZ := Lib.hid (HW.out.trans hX);have hv := (HE.out.ext XZ.out).var 2 (by decide);simp only [gk, sentV] at hv;clear hX hZ hB0 c0 c1 c2;go_region;all_goals
        (try go_wp2_with fail);go_ret2;exact exp_err XZ.out (by decide) (by omega) HB.out
      ·have t_l258 : (decide (258 < l)) = false := decide_eq_false q_l258;by_cases q_d1 : d < 1
       ·have t_d1 : (decide (d < 1)) = true := decide_eq_true q_d1;have HB : Hid (expL tk n = .bad 2 k) := Lib.hid (HBad.out 2 (stepX_bad HNL.out (by rw [HLL.out]; exact .inr (.inr (.inr (.inl q_d1))))));clear HSt HBad HL HR HLL;clear q_l0 q_b0 q_l3 q_l258 q_d1;go_wp2_with fail;refine wp_world (fun wz => Ext wr wz ∧ wz.heap.size = wr.heap.size + 1 ∧ Bk wz (wr.heap.size) #[.int .u8 (b.toNat : Int), .int .i64 l, .int .i64 d]) ⟨by repeat (first | exact Ext.refl _ | refine Ext.alloc ?_ _), by simp, by repeat (first | exact Bk.at (by simp) | refine Bk.old ?_)⟩ ?_;rintro wz ⟨hX, hZ, hB0⟩;have XZ := Lib.hid (HW.out.trans hX);have hv := (HE.out.ext XZ.out).var 2 (by decide);simp only [gk, sentV] at hv;clear hX hZ hB0 c0 c1 c2;go_region;all_goals
         (try go_wp2_with fail);go_ret2;exact exp_err XZ.out (by decide) (by omega) HB.out
       ·have t_d1 : (decide (d < 1)) = false := decide_eq_false q_d1;by_cases q_d32 : 32768 < d
        ·have t_d32 : (decide (32768 < d)) = true := decide_eq_true q_d32;have HB : Hid (expL tk n = .bad 2 k) := Lib.hid (HBad.out 2 (stepX_bad HNL.out (by rw [HLL.out]; exact .inr (.inr (.inr (.inr (.inl q_d32)))))));clear HSt HBad HL HR HLL;clear q_l0 q_b0 q_l3 q_l258 q_d1 q_d32;go_wp2_with fail;refine wp_world (fun wz => Ext wr wz ∧ wz.heap.size = wr.heap.size + 1 ∧ Bk wz (wr.heap.size) #[.int .u8 (b.toNat : Int), .int .i64 l, .int .i64 d]) ⟨by repeat (first | exact Ext.refl _ | refine Ext.alloc ?_ _), by simp, by repeat (first | exact Bk.at (by simp) | refine Bk.old ?_)⟩ ?_;rintro wz ⟨hX, hZ, hB0⟩;have XZ := Lib.hid (HW.out.trans hX);have hv := (HE.out.ext XZ.out).var 2 (by decide);simp only [gk, sentV] at hv;clear hX hZ hB0 c0 c1 c2;go_region;all_goals
          (try go_wp2_with fail);go_ret2;exact exp_err XZ.out (by decide) (by omega) HB.out
        ·have t_d32 : (decide (32768 < d)) = false := decide_eq_false q_d32;by_cases q_dL : (L : Int) < d
         ·have t_dL : (decide ((L : Int) < d)) = true := decide_eq_true q_dL;have HB : Hid (expL tk n = .bad 2 k) := Lib.hid (HBad.out 2 (stepX_bad HNL.out (by rw [HLL.out]; exact .inr (.inr (.inr (.inr (.inr (q_dL))))))));clear HSt HBad HL HR HLL;clear q_l0 q_b0 q_l3 q_l258 q_d1 q_d32 q_dL;go_wp2_with fail;refine wp_world (fun wz => Ext wr wz ∧ wz.heap.size = wr.heap.size + 1 ∧ Bk wz (wr.heap.size) #[.int .u8 (b.toNat : Int), .int .i64 l, .int .i64 d]) ⟨by repeat (first | exact Ext.refl _ | refine Ext.alloc ?_ _), by simp, by repeat (first | exact Bk.at (by simp) | refine Bk.old ?_)⟩ ?_;rintro wz ⟨hX, hZ, hB0⟩;have XZ := Lib.hid (HW.out.trans hX);have hv := (HE.out.ext XZ.out).var 2 (by decide);simp only [gk, sentV] at hv;clear hX hZ hB0 c0 c1 c2;go_region;all_goals
           (try go_wp2_with fail);go_ret2;exact exp_err XZ.out (by decide) (by omega) HB.out
         ·have t_dL : (decide ((L : Int) < d)) = false := decide_eq_false q_dL;obtain ⟨l', hl'⟩ : ∃ l' : Nat, l = l' := ⟨l.toNat, by omega⟩;obtain ⟨d', hd'⟩ : ∃ d' : Nat, d = d' := ⟨d.toNat, by omega⟩;have HNB : Hid (¬ badP ⟨b, l, d⟩ out.length) := Lib.hid (by rw [HLL.out]; unfold badP; simp only [not_or]; exact ⟨q_b0, q_l3, q_l258, q_d1, q_d32, q_dL⟩);have HLI := Lib.hid hl';have HDI := Lib.hid hd';by_cases qb : 300000 < L + l'
          ·have tq : decide ((300000 : Int) < (L : Int) + l) = true := decide_eq_true (by omega);have HB : Hid (expL tk n = .bad 1 k) := Lib.hid (HBad.out 1 (stepX_copy_no HNL.out HNB.out (by exact HLI.out) (by rw [HLL.out]; exact qb)));clear HSt HBad HL HR HLL;clear q_l0 q_b0 q_d1 q_d32 q_dL hl' hd';go_wp2_with fail;refine wp_world (fun wz => Ext wr wz ∧ wz.heap.size = wr.heap.size + 1 ∧ Bk wz (wr.heap.size) #[.int .u8 (b.toNat : Int), .int .i64 l, .int .i64 d]) ⟨by repeat (first | exact Ext.refl _ | refine Ext.alloc ?_ _), by simp, by repeat (first | exact Bk.at (by simp) | refine Bk.old ?_)⟩ ?_;rintro wz ⟨hX, hZ, hB0⟩;have XZ := Lib.hid (HW.out.trans hX);have hv := (HE.out.ext XZ.out).var 1 (by decide);simp only [gk, sentV] at hv;clear hX hZ hB0 c0 c1 c2;go_region;all_goals
            (try go_wp2_with fail);go_ret2;exact exp_err XZ.out (by decide) (by omega) HB.out
          ·have tq : decide ((300000 : Int) < (L : Int) + l) = false := decide_eq_false (by omega);have HS2 := Lib.hid (HSt.out.trans (stepX_copy HNL.out HNB.out HLI.out HDI.out (by rw [HLL.out]; omega)));clear HSt HBad HL HNL HNB;clear q_l0 q_b0 q_d32;have hR : wr.ownsRow w.heap.size 5 1 (.slice xo L co) out.length (bytesV out) := by rw [HLL.out]; exact HR.out
           have NB0 : Hid ((Value.slice xo L co).ownBlock ≠ some wr.heap.size) := Lib.hid (fun e => by have := (hR.lt _ e).2; omega);have HR0 := Lib.hid (hR.alloc (.cells #[.int .u8 (b.toNat : Int), .int .i64 l, .int .i64 d] 84));have BT0 : Hid (Bk (wr.alloc (.cells #[.int .u8 (b.toNat : Int), .int .i64 l, .int .i64 d] 84)) wr.heap.size #[.int .u8 (b.toNat : Int), .int .i64 l, .int .i64 d]) := Lib.hid (Bk.at rfl);have HW0 := Lib.hid (HW.out.alloc (.cells #[.int .u8 (b.toNat : Int), .int .i64 l, .int .i64 d] 84));clear hR;clear hl' hd';go_wp2_with fail;clear c0 c1 c2 t_l0 t_b0 t_l3 t_l258 t_d1 t_d32 t_dL tq;obtain ⟨T, hT⟩ : ∃ T, wr.heap.size = T := ⟨_, rfl⟩;rw [hT] at BT0 NB0 ⊢;clear hT;go_loopw [4, 81] (fun v c wr => ∃ j : Nat, j ≤ l' ∧ c = .int .i64 j ∧ Hid (wr.ownsRow w.heap.size 5 1 v (copyL out d' j).length (bytesV (copyL out d' j))) ∧ Hid (Ext w wr) ∧ Hid (Bk wr T #[.int .u8 (b.toNat : Int), .int .i64 l, .int .i64 d]) ∧ Hid (v.ownBlock ≠ some T)) (fun _ c _ => l' - (intOf c).toNat)
           case atStart => exact ⟨0, by omega, rfl, HR0, HW0, BT0, NB0⟩
           case round =>
            clear HR0 HW0 BT0 NB0 HR;obtain ⟨j, hj, rfl, HR, HW2, BT, NB⟩ := hrel;by_cases hlj : j < l'
            ·have hl' := HLI.out;have hd' := HDI.out;obtain ⟨U, hU⟩ : ∃ U, copyL out d' j = U := ⟨_, rfl⟩;have HUS : Hid (copyL out d' (j + 1) = U ++ [U.getD (U.length - d') 0]) := Lib.hid (by simp only [copyL, hU]);have hUl : U.length = L + j := by rw [← hU, copyL_length, HLL.out]
             rw [hU] at HR;obtain ⟨M, hM⟩ : ∃ M, U.length = M := ⟨_, rfl⟩;rw [hM] at HR HUS hUl;have HM := Lib.hid hM;obtain ⟨y, hy⟩ : ∃ y, U.getD (M - d') 0 = y := ⟨_, rfl⟩;rw [hy] at HUS;obtain ⟨gb, cp, rfl, _, _⟩ := ownsRow_some HR.out (by omega);obtain ⟨q, hq⟩ : ∃ q : Nat, M - d' = q := ⟨_, rfl⟩;have hc : wr.cell? ⟨gb, q, none⟩ = some (.int .u8 (y.toNat : Int)) := by
              have hql : q < U.length := by omega
              rw [HR.out.cellAt q (by omega), bytesV_get U q hql, ← hy, hq];simp [List.getD, hql]
             have hqI : (M : Int) - d = (q : Int) := by omega
             have tj : decide ((j : Int) < l) = true := decide_eq_true (by omega);have b2 := BT.out.cell 2;have hszx : w.heap.size ≤ wr.heap.size := HW2.out.size;have HTl := Lib.hid BT.out.lt;have hqM : q < M := by omega
             have HUU := Lib.hid (And.intro hU hy);have hM2 : M ≤ 300000 := by omega
             clear hU hy hM hq hUl hl' hd' q_dL q_d1 q_l258 q_l3;go_wp2_with (at_builtin; refine wpList_append_own_at _ rfl _ _ 61 rfl w.heap.size 5 i0 (.int .u8 0) 1 1 Tryd.underlying61 hi0 hz0 hz1 hz2 rfl (by decide) _ _ _ rfl (HR.out.alloc _) ⟨wr.heap.size, 0, none⟩ 1 1 [.int .u8 (y.toNat : Int)] rfl rfl ?e1 (cells_one1 _) ?e3 ?e4 ?e5 ?_)
             case e1 => exact (cell_one_new _ _ _)
             case e3 => unfold maxLen; omega
             case e4 => omega
             case e5 => first | omega | (simp; omega)
             intro v' w1 hown hgrow _ hat;have hRR : (wr.alloc (.cells #[.int .u8 (y.toNat : Int)] 5)).ownsRow w.heap.size 5 1 (.slice (some ⟨gb, 0, none⟩) M cp) U.length (bytesV U) := by rw [HM.out]; exact HR.out.alloc _
             have Q := row_push (HW2.out.alloc _) hRR hgrow (by rw [HM.out]; exact hown);have P1 := Lib.hid Q.1;have P2 := Lib.hid Q.2;have P3 := Lib.hid ((BT.out.old (o := .cells #[.int .u8 (y.toNat : Int)] 5)).keeps (Keeps.grown hgrow) NB.out);have P4 : Hid (v'.ownBlock ≠ some T) := Lib.hid (by
              rcases hat with e | e
              ·rw [e]; exact NB.out
              ·rw [e]; intro e2; injection e2 with e2; have q := HTl.out; first | omega | (rw [World.size_alloc] at e2; omega))
             rw [← HUS.out] at P1;clear Q hown hgrow hRR hat hc b2 hqI tj;go_wp2_with fail;go_roundw
             case rel => exact ⟨j + 1, by omega, by go_num, P1, P2, P3, P4⟩
             case measure => simp [intOf]; omega
            ·obtain rfl : j = l' := by omega
             have tj : decide ((j : Int) < l) = false := decide_eq_false (by have := HLI.out; omega);go_wp2_with fail;go_roundw
             case rel => exact ⟨k + 1, copyL out d' j, by omega, by go_num, HS2, HR, HW2⟩
             case measure => simp [intOf]; omega
  ·obtain rfl : k = n := by omega
   have hcr := row_conv HR.out;go_wp2_with fail;go_ret2;exact exp_fin HW.out HL.out
end Go.Proofs.YtnhbjgmfbcedaaaDoor
namespace Go.Proofs.YtnhbjgmfbcedaaaDoor
open Go.RowKit
theorem exp_many {tk : Nat → Tk} {n : Nat} {out : List UInt8} (h : expL tk n = .ok out) : n ≤ 300000 := by
  have h1 := (Dfl.means_exp n out h).many;have h2 := expL_len h;simp at h1;omega
theorem exp_ok {tk : Nat → Tk} {n : Nat} {out : List UInt8} (h : expL tk n = .ok out) : ∀ i, i < n → (tk i).l = 0 ∨ (3 ≤ (tk i).l ∧ (tk i).l ≤ 258 ∧ 1 ≤ (tk i).d ∧ (tk i).d ≤ 32768) :=
  fun i hi => (Dfl.means_exp n out h).ok (tk i) (List.mem_map.2 ⟨i, List.mem_range.2 hi, rfl⟩)
end Go.Proofs.YtnhbjgmfbcedaaaDoor
namespace Go.Proofs.YtnhbjgmfbcedaaaDoor
open Go.RowKit
/-- what packing tokens in a dynamic block leaves -/
def DynPost (w w' : World) (E : Nat → Addr) (r : XRes) (ts : List Tk) (e : Ending) : Prop :=
  Ext w w' ∧ ((∃ out many far few rs l, r = .ok out ∧ Dfl.DynOk ts many far few rs ∧ l.length = ((Dfl.dynB ts many far few rs).length + 7) / 8 ∧ Crc.num l = Bts.val (Dfl.dynB ts many far few rs) ∧ e = .returned (.tuple #[.string ⟨l.toArray⟩, .nilIface])) ∨
    (∃ c i F : Nat, c < 9 ∧ (i : Int) ≤ 9223372036854775807 ∧ r = .bad c i ∧ e = .returned (.tuple #[.string ⟨#[]⟩, .iface 108 (.pointer (some ⟨F, 0, none⟩))]) ∧ w'.heap[F]? = some (.cells #[.int .i64 (i : Int), sentV (E c)] 112 (0, 0))))
theorem dynamicD_any (x : Option Addr) (n cap : Nat) (tk : Nat → Tk) (w : World) (E : Nat → Addr) (hE : Errs w E) (hTb : Tabs w) (hx : Toks w x n tk) (hn : n ≤ maxLen) :
    Calls Tryd.prog 28 #[.slice x n cap] w fun e w' => DynPost w w' E (expL tk n) ((List.range n).map tk) e := by
  have HE := Lib.hid hE;have HX := Lib.hid hx;have HTb := Lib.hid hTb;clear hE hx hTb;go_enter Tryd.func28, Tryd.ntmps28
  go_wp2_with fail;refine (expand_any x n cap tk _ E HE.out HX.out hn).mono ?_;rintro e w1 ⟨h1, hr⟩;have X1 := Lib.hid h1;clear h1;rcases hr with ⟨out, ho, rfl⟩ | ⟨c, i, F, hc, hi, ho, rfl, hF⟩
  · have HO := Lib.hid ho;clear ho;go_wp2_with fail;have hE1 := HE.out.ext X1.out;refine (dynamic_any x n cap tk w1 (HX.out.ext X1.out) (HTb.out.ext X1.out) _ _ (hE1.var 1 (by decide)) (hE1.var 2 (by decide)) (Nat.le_trans (exp_many HO.out) (by decide)) (exp_ok HO.out)).mono ?_;rintro e w2 ⟨⟨many, far, few, rs, l, h0, h1, h2, rfl⟩, hX⟩;have HQ := Lib.hid (And.intro h0 (And.intro h1 h2));have X2 := Lib.hid (X1.out.trans hX);clear h0 h1 h2 hX hE1;go_wp2_with fail;go_ret2;exact ⟨X2.out, .inl ⟨out, many, far, few, rs, l, HO.out, HQ.out.1, HQ.out.2.1, HQ.out.2.2, rfl⟩⟩
  · have HO := Lib.hid ho;have HF := Lib.hid hF;clear ho hF;go_wp2_with fail;go_ret2;exact ⟨X1.out, .inr ⟨c, i, F, hc, hi, HO.out, rfl, HF.out⟩⟩
end Go.Proofs.YtnhbjgmfbcedaaaDoor
