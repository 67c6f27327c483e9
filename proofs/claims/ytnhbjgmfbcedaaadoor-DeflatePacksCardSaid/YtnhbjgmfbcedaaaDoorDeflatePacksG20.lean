/-
  the document's reader: a dynamic block's lengths.
-/
import Derived.Test.YtnhbjgmfbcedaaaDoorDeflatePacksG1
import Derived.Test.YtnhbjgmfbcedaaaDoorDeflatePacksG19
import Derived.Test.YtnhbjgmfbcedaaaDoorDeflatePacksG11
import Derived.Test.YtnhbjgmfbcedaaaDoorDeflatePacksG4
import Derived.Deep.DeepCutAuto
import Derived.Deep.CutBlock
set_option linter.unusedSimpArgs false
set_option linter.unusedVariables false
set_option maxRecDepth 100000
namespace Go.Proofs.YtnhbjgmfbcedaaaDoor
open Go.RowKit
/-- the order in which short lengths stand -/
def ordA : Array Value := #[.int .i64 16, .int .i64 17, .int .i64 18, .int .i64 0, .int .i64 8, .int .i64 7, .int .i64 9, .int .i64 6, .int .i64 10, .int .i64 5, .int .i64 11, .int .i64 4, .int .i64 12, .int .i64 3, .int .i64 13, .int .i64 2, .int .i64 14, .int .i64 1, .int .i64 15]
theorem order_cells (i : Nat) (hi : i < 19) : ordA[i]? = some (.int .i64 ((Inf.orderL.getD i 0 : Nat) : Int)) := by
 have e : ordA = (Inf.orderL.map fun z => Value.int .i64 ((z : Nat) : Int)).toArray := rfl;have hl : i < Inf.orderL.length := hi;rw [e];simp [List.getD, hl]
theorem QGo.off {w wr w' : World} {Q a e : Nat} {T : ByteArray} {x : Nat → Value} {v0 vo : Value} {out : List UInt8} {S : Nat → Prop} (h : QGo w wr Q T a e x v0 vo out) (hk : Keeps S wr w') (hS : ∀ k, S k → w.heap.size ≤ k) (hQ : ¬ S Q) (hv : ∀ k, vo.ownBlock = some k → ¬ S k) : QGo w w' Q T a e x v0 vo out :=
 ⟨h.bk.keeps hk hQ, h.x2, ownsRow_kept h.row hk hv, h.nq, ⟨h.step.keeps.trans hk (fun i hi q => by have := hS i q; omega), h.step.new⟩⟩
theorem QGo.set56 {w wr : World} {Q a e : Nat} {T : ByteArray} {x : Nat → Value} {v0 vo : Value} {out : List UInt8} (h : QGo w wr Q T a e x v0 vo out) (v1 v2 : Value) : QGo w ((wr.setCell ⟨Q, 5, none⟩ v1).setCell ⟨Q, 6, none⟩ v2) Q T a e (xset (xset x 5 v1) 6 v2) v0 vo out ∧ Keeps (fun k => k = Q) wr ((wr.setCell ⟨Q, 5, none⟩ v1).setCell ⟨Q, 6, none⟩ v2) := by
 have hk : Keeps (fun k => k = Q) wr ((wr.setCell ⟨Q, 5, none⟩ v1).setCell ⟨Q, 6, none⟩ v2) := ((Keeps.refl (fun k => k = Q) _).setCell (p := ⟨Q, 5, none⟩) (.inl rfl) _).setCell (p := ⟨Q, 6, none⟩) (.inl rfl) _;have hb := (h.bk.putx 5 (by simp) v1).putx 6 (by simp) v2;exact ⟨⟨hb, by simp [xset]; exact h.x2, ownsRow_kept h.row hk (fun k q e => h.nq (by rw [q, e])), h.nq, h.step.trans ⟨hk.mono (fun _ _ q => .inl q), fun _ q => .inl q⟩⟩, hk⟩
theorem ints_take {w : World} {b g n c : Nat} {l : List Nat} (h : w.ownsRow b 3 1 (.slice (some ⟨g, 0, none⟩) n c) n (intsV n (Inf.fn l))) (_ : l.length = n) (hb : ∀ x ∈ l, x ≤ 18) (m : Nat) (hm : m ≤ n) : Ints w (some ⟨g, 0, none⟩) m (Inf.fn (l.take m)) := by
 refine ⟨fun e => (by cases e), fun p hp i hi => ?_⟩;injection hp with hp; subst hp;rw [add_plain];have e : Inf.fn (l.take m) i = Inf.fn l i := by unfold Inf.fn; simp [List.getD, hi]
 have := fn_le hb i;rw [e];exact ⟨by rw [h.cellAt i (by omega), intsV_get _ _ i (by omega)], by omega, by omega⟩
theorem ints_drop {w : World} {b g n c : Nat} {l : List Nat} (h : w.ownsRow b 3 1 (.slice (some ⟨g, 0, none⟩) n c) n (intsV n (Inf.fn l))) (_ : l.length = n) (hb : ∀ x ∈ l, x ≤ 18) (m k : Nat) (hm : m + k = n) : Ints w (some ⟨g, m, none⟩) k (Inf.fn (l.drop m)) := by
 refine ⟨fun e => (by cases e), fun p hp i hi => ?_⟩;injection hp with hp; subst hp;have e : Inf.fn (l.drop m) i = Inf.fn l (m + i) := by unfold Inf.fn; simp [List.getD, List.getElem?_drop]
 have := fn_le hb (m + i);rw [e, show (⟨g, m, none⟩ : Addr).add i = ⟨g, m + i, none⟩ by unfold Addr.add; split <;> simp_all];exact ⟨by rw [h.cellAt (m + i) (by omega), intsV_get _ _ (m + i) (by omega)], by omega, by omega⟩
def StE {α : Type} (e : Nat) (rr : Except Nat α) (P : Prop) : Prop := (e = 0 ∧ P) ∨ (e = 1 ∧ .error 0 = rr)
theorem StE.bad {α : Type} {rr : Except Nat α} {P : Prop} (h : .error 0 = rr) : StE 1 rr P := .inr ⟨rfl, h⟩
theorem StE.good {α : Type} {rr : Except Nat α} {P : Prop} (h : P) : StE 0 rr P := .inl ⟨rfl, h⟩
theorem wr64 {z v : Int} (h : z = v) (h0 : 0 ≤ v) (h1 : v ≤ 1000000000000) : IntKind.i64.wrap z = z := by subst h; rw [IntKind.wrap_i64]; omega
def QDPost (w : World) (Q : Nat) (T : ByteArray) (x : Nat → Value) (vo : Value) (out : List UInt8) (r : Except Nat (List Nat × List Nat × Nat)) (e : Ending) (w' : World) : Prop :=
 match r with
 | .ok (l, d, a) => ∃ vs vd x' p c q b, e = .returned (.tuple #[vs, vd]) ∧ QGo w w' Q T a 0 x' vo vo out ∧ (∀ i, i ≠ 5 → i ≠ 6 → x' i = x i) ∧ Cw w' Q vs (Inf.fn l) l.length ∧ Cw w' Q vd (Inf.fn d) d.length ∧ (∀ C l' c', vs = .slice (some ⟨C, 0, none⟩) l' c' → w.heap.size ≤ C) ∧ (∀ C l' c', vd = .slice (some ⟨C, 0, none⟩) l' c' → w.heap.size ≤ C) ∧ x' 5 = .slice (some p) l.length c ∧ x' 6 = .slice (some q) d.length b ∧ Ints w' (some p) l.length (Inf.fn l) ∧ Ints w' (some q) d.length (Inf.fn d) ∧ w.heap.size ≤ p.block ∧ w.heap.size ≤ q.block
 | .error c => ∃ vs vd a x', e = .returned (.tuple #[vs, vd]) ∧ QGo w w' Q T a (c + 1) x' vo vo out ∧ ∀ i, i ≠ 5 → i ≠ 6 → x' i = x i
set_option linter.unusedSimpArgs false in
set_option maxHeartbeats 8000000 in
theorem qdyn_any (Q a : Nat) (L : List UInt8) (x : Nat → Value) (vo : Value) (out : List UInt8) (w : World) (hG : QGo w w Q (bs (Bts.allB L)) a 0 x vo vo out) (ha : a ≤ 8 * L.length) (hL : L.length ≤ 300000) :
  Calls Tryd.prog 48 #[.pointer (some ⟨Q, 0, none⟩)] w fun r w' => QDPost w Q (bs (Bts.allB L)) x vo out (Inf.dyn L a) r w' := by
 have H_0 := Lib.hid hG;obtain ⟨rr, hr⟩ : ∃ rr, Inf.dyn L a = rr := ⟨_, rfl⟩;rw [hr];rw [Inf.dyn_eq] at hr;have HR := Lib.hid hr;clear hG hr;go_enter Tryd.func48, Tryd.ntmps48
 go_upto_region 1 with fail;go_cut [4] (fun s4 wx => ∃ (mm a1 e : Nat), s4 = .int .i64 (mm : Int) ∧ 257 ≤ mm ∧ mm ≤ 288 ∧ a1 ≤ 8 * L.length ∧ Hid (QGo w wx Q (bs (Bts.allB L)) a1 e x vo vo out) ∧ Hid (StE e rr (∃ m, m + 257 = mm ∧ Inf.get L 5 a = .ok (m, a1))))
 case first =>
  as_aux_lemma =>
   go_wp2_with fail;cases hg : Inf.get L 5 a with
   | error c =>
    obtain rfl := (Inf.get_error hg).1;have HQ : Hid (.error 0 = rr) := Lib.hid (by have h := HR.out; simp only [hg] at h; exact h);refine (qget_any Q a 0 5 L x _ H_0.out.bk (by omega) (by omega) hL).mono ?_;rintro r w_1 ⟨hK, hP⟩;rw [if_pos rfl, hg] at hP;obtain ⟨rfl, hB⟩ := hP;have H_1 := Lib.hid (H_0.out.quiet hK hB);clear H_0;clear hK hB;(try go_wp2_with fail);go_meet
    exact ⟨257, a, 1, by first | rfl | simp, by omega, by omega, by omega, H_1, Lib.hid (StE.bad HQ.out)⟩
   | ok q =>
    obtain ⟨n, b⟩ := q;obtain ⟨z1, z2, z3, z4⟩ := Inf.get_ok hg;clear z4;have hnb : n < 32 := z3;have hbl : b ≤ 8 * L.length := by omega
    clear z1 z2 z3;have HG := Lib.hid hg;refine (qget_any Q a 0 5 L x _ H_0.out.bk (by omega) (by omega) hL).mono ?_;rintro r w_2 ⟨hK, hP⟩;rw [if_pos rfl, hg] at hP;obtain ⟨rfl, hB⟩ := hP;have H_1 := Lib.hid (H_0.out.quiet hK hB);clear H_0;clear hK hB;obtain ⟨nn, hnn⟩ : ∃ nn, n + 257 = nn := ⟨_, rfl⟩;have hnI : (n : Int) + 257 = (nn : Int) := by omega
    have wn : ∀ z, z = (nn : Int) → IntKind.i64.wrap z = z := fun z hz => wr64 hz (by omega) (by omega);have HNN := Lib.hid hnn;clear hg hnn;(try go_wp2_with fail);go_meet
    exact ⟨nn, b, 0, rfl, by have := HNN.out; omega, by have := HNN.out; omega, hbl, H_1, Lib.hid (StE.good ⟨n, HNN.out, HG.out⟩)⟩
 case rest =>
  clear H_0;obtain ⟨mm, a1, e, rfl, hm1, hm2, hal1, H_0, HS⟩ := hcut;go_upto_region 2 with fail;go_cut [5] (fun s5 wx => ∃ (ff a2 e : Nat), s5 = .int .i64 (ff : Int) ∧ 1 ≤ ff ∧ ff ≤ 32 ∧ a2 ≤ 8 * L.length ∧ Hid (QGo w wx Q (bs (Bts.allB L)) a2 e x vo vo out) ∧ Hid (StE e rr (∃ m q, m + 257 = mm ∧ q + 1 = ff ∧ Inf.get L 5 a = .ok (m, a1) ∧ Inf.get L 5 a1 = .ok (q, a2))))
  case first =>
   as_aux_lemma =>
    rcases HS.out with ⟨he, m, hmm, hg1⟩ | ⟨he, hbad⟩
    ·subst he;clear HS;have HMM := Lib.hid hmm;have HG1 := Lib.hid hg1;go_wp2_with fail;cases hg : Inf.get L 5 a1 with
     | error c =>
      obtain rfl := (Inf.get_error hg).1;have HQ : Hid (.error 0 = rr) := Lib.hid (by have h := HR.out; simp only [hg1, hg] at h; exact h);refine (qget_any Q a1 0 5 L x _ H_0.out.bk (by omega) (by omega) hL).mono ?_;rintro r w_3 ⟨hK, hP⟩;rw [if_pos rfl, hg] at hP;obtain ⟨rfl, hB⟩ := hP;have H_1 := Lib.hid (H_0.out.quiet hK hB);clear H_0;clear hK hB;(try go_wp2_with fail);go_meet
      exact ⟨1, a1, 1, by first | rfl | simp, by omega, by omega, by omega, H_1, Lib.hid (StE.bad HQ.out)⟩
     | ok q =>
      obtain ⟨n, b⟩ := q;obtain ⟨z1, z2, z3, z4⟩ := Inf.get_ok hg;clear z4;have hnb : n < 32 := z3;have hbl : b ≤ 8 * L.length := by omega
      clear z1 z2 z3;have HG := Lib.hid hg;refine (qget_any Q a1 0 5 L x _ H_0.out.bk (by omega) (by omega) hL).mono ?_;rintro r w_4 ⟨hK, hP⟩;rw [if_pos rfl, hg] at hP;obtain ⟨rfl, hB⟩ := hP;have H_1 := Lib.hid (H_0.out.quiet hK hB);clear H_0;clear hK hB;obtain ⟨nn, hnn⟩ : ∃ nn, n + 1 = nn := ⟨_, rfl⟩;have hnI : (n : Int) + 1 = (nn : Int) := by omega
      have wn : ∀ z, z = (nn : Int) → IntKind.i64.wrap z = z := fun z hz => wr64 hz (by omega) (by omega);have HNN := Lib.hid hnn;clear hg hnn;(try go_wp2_with fail);go_meet
      exact ⟨nn, b, 0, rfl, by have := HNN.out; omega, by have := HNN.out; omega, hbl, H_1, Lib.hid (StE.good ⟨m, n, HMM.out, HNN.out, HG1.out, HG.out⟩)⟩
    ·subst he;have HQ := Lib.hid hbad;clear hbad HS;go_wp2_with fail;refine (qget_any Q a1 1 5 L x _ H_0.out.bk (by omega) (by omega) hL).mono ?_;rintro r w_5 ⟨hK, hP⟩;rw [if_neg (by omega)] at hP;obtain ⟨rfl, hB⟩ := hP;have H_1 := Lib.hid (H_0.out.quiet hK hB);clear H_0;clear hK hB;(try go_wp2_with fail);go_meet
     exact ⟨1, a1, 1, by first | rfl | simp, by omega, by omega, by omega, H_1, Lib.hid (StE.bad HQ.out)⟩
  case rest =>
   clear H_0;obtain ⟨ff, a2, e2, rfl, hf1, hf2, hal2, H_0, HS2⟩ := hcut;clear HS;have HS := HS2;clear HS2;go_upto_region 3 with fail;go_cut [6] (fun s6 wx => ∃ (few a3 e : Nat), s6 = .int .i64 (few : Int) ∧ 4 ≤ few ∧ few ≤ 19 ∧ a3 ≤ 8 * L.length ∧ Hid (QGo w wx Q (bs (Bts.allB L)) a3 e x vo vo out) ∧ Hid (StE e rr ((if 286 < mm ∨ 30 < ff then .error 0 else Inf.dynMid L mm ff (Inf.smalls L few 0 a3 (fun _ => 0))) = rr)))
   case first =>
    as_aux_lemma =>
     rcases HS.out with ⟨he, m, q, hmm, hff, hg1, hg2⟩ | ⟨he, hbad⟩
     ·subst he;clear HS;have HMM := Lib.hid hmm;have HFF := Lib.hid hff;have HG1 := Lib.hid hg1;have HG2 := Lib.hid hg2;go_wp2_with fail;cases hg : Inf.get L 4 a2 with
      | error c =>
       obtain rfl := (Inf.get_error hg).1;have HQ : Hid (.error 0 = rr) := Lib.hid (by have h := HR.out; simp only [hg1, hg2, hg] at h; exact h);refine (qget_any Q a2 0 4 L x _ H_0.out.bk (by omega) (by omega) hL).mono ?_;rintro r w_6 ⟨hK, hP⟩;rw [if_pos rfl, hg] at hP;obtain ⟨rfl, hB⟩ := hP;have H_1 := Lib.hid (H_0.out.quiet hK hB);clear H_0;clear hK hB;(try go_wp2_with fail);go_meet
       exact ⟨4, a2, 1, by first | rfl | simp, by omega, by omega, by omega, H_1, Lib.hid (StE.bad HQ.out)⟩
      | ok q =>
       obtain ⟨n, b⟩ := q;obtain ⟨z1, z2, z3, z4⟩ := Inf.get_ok hg;clear z4;have hnb : n < 16 := z3;have hbl : b ≤ 8 * L.length := by omega
       clear z1 z2 z3;have HG := Lib.hid hg;refine (qget_any Q a2 0 4 L x _ H_0.out.bk (by omega) (by omega) hL).mono ?_;rintro r w_7 ⟨hK, hP⟩;rw [if_pos rfl, hg] at hP;obtain ⟨rfl, hB⟩ := hP;have H_1 := Lib.hid (H_0.out.quiet hK hB);clear H_0;clear hK hB;obtain ⟨nn, hnn⟩ : ∃ nn, n + 4 = nn := ⟨_, rfl⟩;have hnI : (n : Int) + 4 = (nn : Int) := by omega
       have wn : ∀ z, z = (nn : Int) → IntKind.i64.wrap z = z := fun z hz => wr64 hz (by omega) (by omega);have HNN := Lib.hid hnn;clear hg hnn;(try go_wp2_with fail);go_meet
       exact ⟨nn, b, 0, rfl, by have := HNN.out; omega, by have := HNN.out; omega, hbl, H_1, Lib.hid (StE.good (by have h := HR.out; simp only [HG1.out, HG2.out, HG.out, HMM.out, HFF.out, HNN.out] at h; exact h))⟩
     ·subst he;have HQ := Lib.hid hbad;clear hbad HS;go_wp2_with fail;refine (qget_any Q a2 1 4 L x _ H_0.out.bk (by omega) (by omega) hL).mono ?_;rintro r w_8 ⟨hK, hP⟩;rw [if_neg (by omega)] at hP;obtain ⟨rfl, hB⟩ := hP;have H_1 := Lib.hid (H_0.out.quiet hK hB);clear H_0;clear hK hB;(try go_wp2_with fail);go_meet
      exact ⟨4, a2, 1, by first | rfl | simp, by omega, by omega, by omega, H_1, Lib.hid (StE.bad HQ.out)⟩
   case rest =>
    clear H_0;obtain ⟨few, a3, e3, rfl, hw1, hw2, hal3, H_0, HS3⟩ := hcut;clear HS HR;have HS := HS3;clear HS3;go_upto_region 4 with fail;go_cut [32] (fun s32 wx => ∃ (bb : Bool), s32 = .bool bb ∧ bb = decide (286 < mm ∨ 30 < ff) ∧ Hid (QGo w wx Q (bs (Bts.allB L)) a3 e3 x vo vo out))
    case first =>
     as_aux_lemma =>
      by_cases hb1 : 286 < mm
      ·have t1 : decide ((286 : Int) < (mm : Int)) = true := decide_eq_true (by omega);(try go_wp2_with fail);go_meet
       exact ⟨true, rfl, (decide_eq_true (.inl hb1)).symm, H_0⟩
      ·have t1 : decide ((286 : Int) < (mm : Int)) = false := decide_eq_false (by omega);by_cases hb2 : 30 < ff
       ·have t2 : decide ((30 : Int) < (ff : Int)) = true := decide_eq_true (by omega);(try go_wp2_with fail);go_meet
        exact ⟨true, rfl, (decide_eq_true (.inr hb2)).symm, H_0⟩
       ·have t2 : decide ((30 : Int) < (ff : Int)) = false := decide_eq_false (by omega);(try go_wp2_with fail);go_meet
        exact ⟨false, rfl, (decide_eq_false (by omega)).symm, H_0⟩
    case rest =>
     clear H_0;obtain ⟨bb, rfl, hbb, H_0⟩ := hcut;go_upto_if 32 with fail
     go_cut [] (fun wx => ∃ (e : Nat), Hid (QGo w wx Q (bs (Bts.allB L)) a3 e x vo vo out) ∧ Hid (StE e rr (Inf.dynMid L mm ff (Inf.smalls L few 0 a3 (fun _ => 0)) = rr)))
     case first =>
      as_aux_lemma =>
       rcases HS.out with ⟨he, hg⟩ | ⟨he, hbad⟩
       ·subst he;clear HS;have HG := Lib.hid hg;clear hg;cases bb with
        | true =>
         have HBB := Lib.hid (of_decide_eq_true hbb.symm);clear hbb;go_wp2_with fail;refine (rfail_any Q a3 0 1 (bs (Bts.allB L)) x _ H_0.out.bk).mono ?_;rintro r w_9 ⟨rfl, hB, hK⟩;rw [show fl 0 1 = 1 from rfl] at hB;have H_1 := Lib.hid (H_0.out.quiet hK hB);clear H_0;clear hK hB;(try go_wp2_with fail);go_meet
         exact ⟨1, H_1, Lib.hid (StE.bad (by have h := HG.out; rw [if_pos HBB.out] at h; exact h))⟩
        | false =>
         have HBB := Lib.hid (of_decide_eq_false hbb.symm);clear hbb;(try go_wp2_with fail);go_meet
         exact ⟨0, H_0, Lib.hid (StE.good (by have h := HG.out; rw [if_neg HBB.out] at h; exact h))⟩
       ·subst he;have HQ := Lib.hid hbad;clear hbad HS;clear hbb;cases bb with
        | true =>
         go_wp2_with fail;refine (rfail_any Q a3 1 1 (bs (Bts.allB L)) x _ H_0.out.bk).mono ?_;rintro r w_10 ⟨rfl, hB, hK⟩;rw [show fl 1 1 = 1 from if_neg (by omega)] at hB;have H_1 := Lib.hid (H_0.out.quiet hK hB);clear H_0;clear hK hB;(try go_wp2_with fail);go_meet
         exact ⟨1, H_1, Lib.hid (StE.bad HQ.out)⟩
        | false =>
         (try go_wp2_with fail);go_meet
         exact ⟨1, H_0, Lib.hid (StE.bad HQ.out)⟩
     case rest =>
      clear H_0;obtain ⟨e4, H_0, HS4⟩ := hcut;clear HS;have HS := HS4;clear HS4;have hmk := fun w => run_make_row' (P := Tryd.prog) 31 3 (.int .i64 0) 8 Tryd.underlying31 i64info rfl .i64 .i64 19 (by omega) (by omega) w;simp only [show ((19 : Nat) : Int) = 19 from rfl] at hmk;go_upto_block 0 with fail;clear hmk hbb;obtain ⟨O, hO⟩ : ∃ O, wc.heap.size = O := ⟨_, rfl⟩;have HLo : Hid (w.heap.size ≤ O ∧ Q < O ∧ ∀ k, vo.ownBlock = some k → k < O) := Lib.hid (by rw [← hO]; exact ⟨H_0.out.step.keeps.size, H_0.out.bk.lt, fun k q => ownsRow_lt H_0.out.row q⟩);refine wp_world (fun wz => Ext wc wz ∧ Cs wz O 19 .i64 (fun i => ((Inf.orderL.getD i 0 : Nat) : Int)) ∧ Cs wz (O + 1) 19 .i64 (fun _ => 0)) ⟨((Ext.refl wc).alloc _).alloc _, ?_, ?_⟩ ?_
      ·intro i hi;subst hO;rw [World.cell?_alloc_past _ _ _ (by simp), World.frozen?_alloc_past _ _ _ (by simp), World.cell?_alloc_at _ _ _ _ rfl, World.frozen?_alloc_at _ _ _ _ rfl];exact ⟨order_cells i hi, rfl⟩
      ·rw [made_eq, show O + 1 = (wc.alloc (.cells ordA 3)).heap.size by simp [hO]];exact Cs.born _ _ _ _ _
      rintro w_s ⟨hX, hc1, hc2⟩;rw [hO];have H_1 := Lib.hid (H_0.out.ext hX);clear H_0;have CO_0 := Lib.hid hc1;have CS_0 := Lib.hid hc2;clear hX hc1 hc2 hO;go_cut [] (fun wx => ∃ (a e : Nat) (f : Nat → Int), a ≤ 8 * L.length ∧ Hid (QGo w wx Q (bs (Bts.allB L)) a e x vo vo out) ∧ Hid (Cs wx (O + 1) 19 .i64 f) ∧ Hid (StE e rr (Inf.dynMid L mm ff (.ok (f, a)) = rr)) ∧ Hid (∀ j, 0 ≤ f j ∧ f j ≤ 7))
      case first =>
       as_aux_lemma =>
        go_wp2_with fail;go_loopw [9] (fun z wr => ∃ (i a e : Nat) (f : Nat → Int), i ≤ few ∧ z = .int .i64 i ∧ a ≤ 8 * L.length ∧ Hid (QGo w wr Q (bs (Bts.allB L)) a e x vo vo out) ∧ Hid (Cs wr O 19 .i64 (fun i => ((Inf.orderL.getD i 0 : Nat) : Int))) ∧ Hid (Cs wr (O + 1) 19 .i64 f) ∧ Hid (StE e rr (Inf.dynMid L mm ff (Inf.smalls L (few - i) i a f) = rr)) ∧ Hid (∀ j, 0 ≤ f j ∧ f j ≤ 7)) (fun z _ => few - (intOf z).toNat)
        case atStart => exact ⟨0, a3, e4, _, by omega, rfl, hal3, H_1, CO_0, CS_0, HS, Lib.hid (fun _ => ⟨by omega, by omega⟩)⟩
        case round =>
         clear H_1 CO_0 CS_0 HS;obtain ⟨i, a, e, f, hi, rfl, hal, H_0, CO_0, CS_0, HS, HBD⟩ := hrel;by_cases hlt : i < few
         ·have t1 : decide ((i : Int) < (few : Int)) = true := decide_eq_true (by omega);have n1 : i < few := hlt;rcases HS.out with ⟨he, hg⟩ | ⟨he, hbad⟩
          ·subst he;clear HS;go_wp2_with fail;refine (rok_any Q a 0 (bs (Bts.allB L)) x _ H_0.out.bk).mono ?_;rintro r w9 ⟨rfl, h9⟩;have h9s := h9.symm;clear h9;subst h9s;rw [show decide (0 = 0) = true from rfl];go_wp2_with fail;clear t1 n1;obtain ⟨pz, hpz⟩ : ∃ pz, Inf.orderL.getD i 0 = pz := ⟨_, rfl⟩;have hpz19 : pz < 19 := by rw [← hpz]; exact Inf.orderL_lt i (by omega)
           have HPZ := Lib.hid hpz;have HG := Lib.hid hg;rw [show few - i = (few - (i + 1)) + 1 by omega] at HG;clear hg hpz;have hi19 : i < 19 := by omega
           have hi0 : (0 : Int) ≤ (i : Int) := by omega
           have hiI : (i : Int) < 19 := by omega
           have hit : ((i : Nat) : Int).toNat = i := by omega
           have hp0 : (0 : Int) ≤ (pz : Int) := by omega
           have hpI : (pz : Int) < 19 := by omega
           have hpt : ((pz : Nat) : Int).toNat = pz := by omega
           have wi : ∀ z, z = (i : Int) + 1 → IntKind.i64.wrap z = z := fun z hz => wr64 hz (by omega) (by omega);cases hg : Inf.get L 3 a with
           | error c =>
            obtain rfl := (Inf.get_error hg).1;have HQ := Lib.hid (Inf.mid_err HG.out (Inf.smalls_err rfl hg));have HGT := Lib.hid hg;clear hg;refine wp_region_held_drew (S := fun w' => w'.cell? ⟨O, i, none⟩ = some (.int .i64 (pz : Int))) (by kernel_rfl) ((by have hc := (CO_0.out i hi19).1; simp only [HPZ.out] at hc; exact hc)) (fun hHeld => ?_);clear hHeld;refine anyH_world (fun wz => Ext wr wz) (show Ext wr wr.drew from Below.drew (Ext.refl wr)) ?_;rintro w1 h;have H_1 := Lib.hid (H_0.out.ext h);have CO_1 := Lib.hid (CO_0.out.ext h);have CS_1 := Lib.hid (CS_0.out.ext h);clear h H_0 CO_0 CS_0;have hHeld : w1.cell? ⟨O, i, none⟩ = some (.int .i64 (pz : Int)) := ((by have hc := (CO_1.out i hi19).1; simp only [HPZ.out] at hc; exact hc));refine tkH 0 (v := ?_) rfl hHeld ?_ ?_;rotate_left
            ·intro w hSw;(try dsimp only at hSw);go_split_ands;go_simp;(try with_reducible rfl)
            (try simp only [Act.put, xa, xb, xc, xd, xe, xf]);refine tkH 1 (v := ?_) rfl hHeld ?_ ?_;rotate_left
            ·intro w hSw;(try dsimp only at hSw);go_split_ands;go_simp;(try with_reducible rfl)
            (try simp only [Act.put, xa, xb, xc, xd, xe, xf]);refine tkH 2 (v := ?_) rfl hHeld ?_ ?_;rotate_left
            ·intro w hSw;(try dsimp only at hSw);go_split_ands;go_simp;(try with_reducible rfl)
            (try simp only [Act.put, xa, xb, xc, xd, xe, xf]);refine tkH 3 (v := ?_) rfl hHeld ?_ ?_;rotate_left
            ·intro w hSw;(try dsimp only at hSw);go_split_ands;go_simp;(try with_reducible rfl)
            (try simp only [Act.put, xa, xb, xc, xd, xe, xf]);refine tkH 4 (v := ?_) rfl hHeld ?_ ?_;rotate_left
            ·intro w hSw;(try dsimp only at hSw);go_split_ands;go_simp;(try with_reducible rfl)
            (try simp only [Act.put, xa, xb, xc, xd, xe, xf]);refine tkH 5 (v := ?_) rfl hHeld ?_ ?_;rotate_left
            ·intro w hSw;(try dsimp only at hSw);go_split_ands;go_simp;(try with_reducible rfl)
            (try simp only [Act.put, xa, xb, xc, xd, xe, xf]);refine wpAnyH_ready (rs := [6]) (by kernel_rfl) (by simp) ?_;refine AllReadyH.cons rfl (fun KK hK => ?_) AllReadyH.nil;clear hHeld;go_simp;refine (qget_any Q a 0 3 L x _ H_1.out.bk (by omega) hal hL).mono ?_;rintro r w2 ⟨hK, hP⟩;rw [if_pos rfl, HGT.out] at hP;obtain ⟨rfl, hB⟩ := hP;have H_2 := Lib.hid (H_1.out.quiet hK hB);have CO_2 := Lib.hid (cs_keeps CO_1.out hK (by have := HLo.out; omega));have CS_2 := Lib.hid (cs_keeps CS_1.out hK (by have := HLo.out; omega));clear hK hB H_1 CO_1 CS_1;go_simp;refine hK.out _ _ ((by have hc := (CO_2.out i hi19).1; simp only [HPZ.out] at hc; exact hc)) (fun hHeld => ?_);clear hK KK;(try simp only [Act.put, xa, xb, xc, xd, xe, xf]);refine tkH 7 (v := ?_) rfl hHeld ?_ ?_;rotate_left
            ·intro w hSw;(try dsimp only at hSw);go_split_ands;go_simp;(try with_reducible rfl)
            (try simp only [Act.put, xa, xb, xc, xd, xe, xf]);refine wpAnyH_ready (rs := [8]) (by kernel_rfl) (by simp) ?_;refine AllReadyH.cons rfl (fun KK hK => ?_) AllReadyH.nil;clear hHeld;have q1 := (CS_2.out pz hpz19).1;have q2 := (CS_2.out pz hpz19).2;have KS := (Keeps.refl (fun k => k = O + 1) w2).setCell (p := ⟨O + 1, pz, none⟩) (.inl rfl) (.int .i64 (0 : Int));have HN := Lib.hid (H_2.out.off KS (fun k q => by have := HLo.out; omega) (fun q => by have := HLo.out; omega) (fun k q e => by have := HLo.out.2.2 k q; omega));have CN := Lib.hid (cs_keeps CO_2.out KS (by omega));have CM := Lib.hid (CS_2.out.put pz (0 : Int) (Inf.upd f pz (0 : Int)) hpz19 (fun i _ => rfl));clear KS;go_simp;refine hK.out _ _ (by have hc := (CN.out i hi19).1; simp only [HPZ.out] at hc; exact hc) (fun hHeld => ?_);clear hK KK q1 q2;(try simp only [Act.put, xa, xb, xc, xd, xe, xf]);refine wpAnyH_done (by kernel_rfl) ?_ _;clear hHeld;go_wp2_with fail;go_roundw
            case rel => exact ⟨i + 1, a, 1, _, by omega, by go_num, hal, HN, CN, CM, Lib.hid (StE.bad HQ.out), Lib.hid (fun j => by have := HBD.out j; unfold Inf.upd; split <;> omega)⟩
            case measure => simp [intOf]; omega
           | ok q =>
            obtain ⟨y, b⟩ := q;obtain ⟨z1, z2, z3, z4⟩ := Inf.get_ok hg;have hy8 : y < 8 := z3;have hbl : b ≤ 8 * L.length := by omega
            clear z1 z2 z3 z4;have HG2 : Hid (Inf.dynMid L mm ff (Inf.smalls L (few - (i + 1)) (i + 1) b (Inf.upd f pz (y : Int))) = rr) := Lib.hid (by have h := HG.out; rw [← Inf.smalls_go rfl hg, HPZ.out] at h; exact h);have HGT := Lib.hid hg;clear hg;refine wp_region_held_drew (S := fun w' => w'.cell? ⟨O, i, none⟩ = some (.int .i64 (pz : Int))) (by kernel_rfl) ((by have hc := (CO_0.out i hi19).1; simp only [HPZ.out] at hc; exact hc)) (fun hHeld => ?_);clear hHeld;refine anyH_world (fun wz => Ext wr wz) (show Ext wr wr.drew from Below.drew (Ext.refl wr)) ?_;rintro w1 h;have H_1 := Lib.hid (H_0.out.ext h);have CO_1 := Lib.hid (CO_0.out.ext h);have CS_1 := Lib.hid (CS_0.out.ext h);clear h H_0 CO_0 CS_0;have hHeld : w1.cell? ⟨O, i, none⟩ = some (.int .i64 (pz : Int)) := ((by have hc := (CO_1.out i hi19).1; simp only [HPZ.out] at hc; exact hc));refine tkH 0 (v := ?_) rfl hHeld ?_ ?_;rotate_left
            ·intro w hSw;(try dsimp only at hSw);go_split_ands;go_simp;(try with_reducible rfl)
            (try simp only [Act.put, xa, xb, xc, xd, xe, xf]);refine tkH 1 (v := ?_) rfl hHeld ?_ ?_;rotate_left
            ·intro w hSw;(try dsimp only at hSw);go_split_ands;go_simp;(try with_reducible rfl)
            (try simp only [Act.put, xa, xb, xc, xd, xe, xf]);refine tkH 2 (v := ?_) rfl hHeld ?_ ?_;rotate_left
            ·intro w hSw;(try dsimp only at hSw);go_split_ands;go_simp;(try with_reducible rfl)
            (try simp only [Act.put, xa, xb, xc, xd, xe, xf]);refine tkH 3 (v := ?_) rfl hHeld ?_ ?_;rotate_left
            ·intro w hSw;(try dsimp only at hSw);go_split_ands;go_simp;(try with_reducible rfl)
            (try simp only [Act.put, xa, xb, xc, xd, xe, xf]);refine tkH 4 (v := ?_) rfl hHeld ?_ ?_;rotate_left
            ·intro w hSw;(try dsimp only at hSw);go_split_ands;go_simp;(try with_reducible rfl)
            (try simp only [Act.put, xa, xb, xc, xd, xe, xf]);refine tkH 5 (v := ?_) rfl hHeld ?_ ?_;rotate_left
            ·intro w hSw;(try dsimp only at hSw);go_split_ands;go_simp;(try with_reducible rfl)
            (try simp only [Act.put, xa, xb, xc, xd, xe, xf]);refine wpAnyH_ready (rs := [6]) (by kernel_rfl) (by simp) ?_;refine AllReadyH.cons rfl (fun KK hK => ?_) AllReadyH.nil;clear hHeld;go_simp;refine (qget_any Q a 0 3 L x _ H_1.out.bk (by omega) hal hL).mono ?_;rintro r w2 ⟨hK, hP⟩;rw [if_pos rfl, HGT.out] at hP;obtain ⟨rfl, hB⟩ := hP;have H_2 := Lib.hid (H_1.out.quiet hK hB);have CO_2 := Lib.hid (cs_keeps CO_1.out hK (by have := HLo.out; omega));have CS_2 := Lib.hid (cs_keeps CS_1.out hK (by have := HLo.out; omega));clear hK hB H_1 CO_1 CS_1;go_simp;refine hK.out _ _ ((by have hc := (CO_2.out i hi19).1; simp only [HPZ.out] at hc; exact hc)) (fun hHeld => ?_);clear hK KK;(try simp only [Act.put, xa, xb, xc, xd, xe, xf]);refine tkH 7 (v := ?_) rfl hHeld ?_ ?_;rotate_left
            ·intro w hSw;(try dsimp only at hSw);go_split_ands;go_simp;(try with_reducible rfl)
            (try simp only [Act.put, xa, xb, xc, xd, xe, xf]);refine wpAnyH_ready (rs := [8]) (by kernel_rfl) (by simp) ?_;refine AllReadyH.cons rfl (fun KK hK => ?_) AllReadyH.nil;clear hHeld;have q1 := (CS_2.out pz hpz19).1;have q2 := (CS_2.out pz hpz19).2;have KS := (Keeps.refl (fun k => k = O + 1) w2).setCell (p := ⟨O + 1, pz, none⟩) (.inl rfl) (.int .i64 (y : Int));have HN := Lib.hid (H_2.out.off KS (fun k q => by have := HLo.out; omega) (fun q => by have := HLo.out; omega) (fun k q e => by have := HLo.out.2.2 k q; omega));have CN := Lib.hid (cs_keeps CO_2.out KS (by omega));have CM := Lib.hid (CS_2.out.put pz (y : Int) (Inf.upd f pz (y : Int)) hpz19 (fun i _ => rfl));clear KS;go_simp;refine hK.out _ _ (by have hc := (CN.out i hi19).1; simp only [HPZ.out] at hc; exact hc) (fun hHeld => ?_);clear hK KK q1 q2;(try simp only [Act.put, xa, xb, xc, xd, xe, xf]);refine wpAnyH_done (by kernel_rfl) ?_ _;clear hHeld;go_wp2_with fail;go_roundw
            case rel => exact ⟨i + 1, b, 0, _, by omega, by go_num, hbl, HN, CN, CM, Lib.hid (StE.good HG2.out), Lib.hid (fun j => by have := HBD.out j; unfold Inf.upd; split <;> omega)⟩
            case measure => simp [intOf]; omega
          ·subst he;have HQ := Lib.hid hbad;clear hbad HS;go_wp2_with fail;refine (rok_any Q a 1 (bs (Bts.allB L)) x _ H_0.out.bk).mono ?_;rintro r w9 ⟨rfl, h9⟩;have h9s := h9.symm;clear h9;subst h9s;rw [show decide (1 = 0) = false from decide_eq_false (by omega)];go_wp2_with fail;clear t1 n1;have HS : Hid (StE 1 rr (Inf.dynMid L mm ff (.ok (f, a)) = rr)) := Lib.hid (StE.bad HQ.out);skip
           (try go_wp2_with fail);go_meet
           exact ⟨a, 1, f, hal, H_0, CS_0, HS, HBD⟩
         ·obtain rfl : i = few := by omega
          have t1 : decide ((i : Int) < (i : Int)) = false := decide_eq_false (by omega);go_wp2_with fail;clear t1;have HS2 : Hid (StE e rr (Inf.dynMid L mm ff (.ok (f, a)) = rr)) := Lib.hid (by have h := HS.out; rw [Nat.sub_self] at h; exact h);clear HS;have HS := HS2;clear HS2;(try go_wp2_with fail);go_meet
          exact ⟨a, e, f, hal, H_0, CS_0, HS, HBD⟩
      case rest =>
       clear H_1;obtain ⟨a4, e5, f, hal4, H_0, CS, HS5, HBD⟩ := hcut;clear HS CO_0 CS_0;have HS := HS5;clear HS5;skip
       go_upto_region 12 with fail;go_cut [10] (fun s10 wx => ∃ (vc : Value) (e : Nat), vc = s10 ∧ Hid (QGo w wx Q (bs (Bts.allB L)) a4 e x vo vo out) ∧ Hid (StE e rr (Cw wx Q vc f 19 ∧ Inf.dynFin mm ff (Inf.lens L f (mm + ff) (mm + ff + 1) a4 []) = rr)))
       case first =>
        as_aux_lemma =>
         rcases HS.out with ⟨he, hg⟩ | ⟨he, hbad⟩
         ·subst he;clear HS;have HI : Ints wc (some ⟨O + 1, 0, none⟩) 19 f := by
           refine ⟨fun e => (by cases e), fun q hq i hi => ?_⟩;injection hq with hq; subst hq;rw [add_plain];have := HBD.out i;exact ⟨(CS.out i hi).1, by omega, by omega⟩
          have HP := qcodes_any Q a4 0 19 19 (some ⟨O + 1, 0, none⟩) f (bs (Bts.allB L)) x _ H_0.out.bk HI (by omega);have HG := Lib.hid hg;clear HI hg;by_cases hgood : Inf.good f 19
          ·have HR2 := Lib.hid (Inf.mid_go HG.out rfl hgood);go_wp2_with fail;refine HP.mono ?_;rintro r w_c ⟨hK, hP⟩;rw [if_pos rfl, if_pos hgood] at hP;obtain ⟨vc, rfl, hC, hB, hN⟩ := hP;have HC := Lib.hid hC;have H_1 := Lib.hid (H_0.out.quiet hK hB);clear H_0;clear hK hB;clear hC hN;(try go_wp2_with fail);go_meet
           exact ⟨vc, 0, rfl, H_1, Lib.hid (StE.good ⟨HC.out, HR2.out⟩)⟩
          ·have HR2 := Lib.hid (Inf.mid_bad HG.out rfl hgood);go_wp2_with fail;refine HP.mono ?_;rintro r w_c ⟨hK, hP⟩;rw [if_pos rfl, if_neg hgood] at hP;obtain ⟨rfl, hB⟩ := hP;have H_1 := Lib.hid (H_0.out.quiet hK hB);clear H_0;clear hK hB;(try go_wp2_with fail);go_meet
           exact ⟨_, 1, rfl, H_1, Lib.hid (StE.bad HR2.out)⟩
         ·subst he;have HQ := Lib.hid hbad;clear hbad HS;have HI : Ints wc (some ⟨O + 1, 0, none⟩) 19 f := by
           refine ⟨fun e => (by cases e), fun q hq i hi => ?_⟩;injection hq with hq; subst hq;rw [add_plain];have := HBD.out i;exact ⟨(CS.out i hi).1, by omega, by omega⟩
          have HP := qcodes_any Q a4 1 19 19 (some ⟨O + 1, 0, none⟩) f (bs (Bts.allB L)) x _ H_0.out.bk HI (by omega);clear HI;go_wp2_with fail;refine HP.mono ?_;rintro r w_c ⟨hK, hP⟩;rw [if_neg (by omega)] at hP;obtain ⟨rfl, hB⟩ := hP;have H_1 := Lib.hid (H_0.out.quiet hK hB);clear H_0;clear hK hB;(try go_wp2_with fail);go_meet
          exact ⟨_, 1, rfl, H_1, Lib.hid (StE.bad HQ.out)⟩
       case rest =>
        clear H_0;obtain ⟨vc, e6, rfl, H_0, HS6⟩ := hcut;clear HS CS HBD;have HS := HS6;clear HS6;obtain ⟨W, hW⟩ : ∃ W, mm + ff = W := ⟨_, rfl⟩;rw [hW] at HS;have hWI : (mm : Int) + (ff : Int) = (W : Int) := by omega
        have hWb : W ≤ 320 := by omega
        have hW1 : 258 ≤ W := by omega
        have wW : ∀ z, z = (W : Int) → IntKind.i64.wrap z = z := fun z hz => wr64 hz (by omega) (by omega);obtain ⟨b0, hb0⟩ : ∃ b0, wc.heap.size = b0 := ⟨_, rfl⟩;have HLb : Hid (w.heap.size ≤ b0 ∧ Q < b0 ∧ ∀ k, vo.ownBlock = some k → k < b0) := Lib.hid (by rw [← hb0]; exact ⟨H_0.out.step.keeps.size, H_0.out.bk.lt, fun k q => ownsRow_lt H_0.out.row q⟩);obtain ⟨i0, hi0, hz0, hz1, hz2⟩ := info_parts i64info;have HS2 : Hid (StE e6 rr ((Cw wc Q vc f 19 ∧ ∀ C l c, vc = .slice (some ⟨C, 0, none⟩) l c → C < b0) ∧ Inf.dynFin mm ff (Inf.lens L f W (W + 1) a4 []) = rr)) := Lib.hid (by
         rcases HS.out with ⟨q1, q2, q3⟩ | q
         ·refine .inl ⟨q1, ⟨q2, fun C l c q => ?_⟩, q3⟩;obtain ⟨-, C2, c2, e1, -, e3⟩ := q2;rw [e1] at q; injection q with q; injection q with q; injection q with q;rw [← q, ← hb0]; exact World.block_lt_of_cell? wc _ (e3 0 (by omega)).1
         ·exact .inr q)
        clear HS hW;have HS := HS2;clear HS2;go_upto_block 2 with fail;go_cut [11] (fun s11 wx => ∃ (vl : Value) (l : List Nat) (a e : Nat), vl = s11 ∧ a ≤ 8 * L.length ∧ Hid (QGo w wx Q (bs (Bts.allB L)) a e x vo vo out) ∧ Hid (wx.ownsRow b0 3 1 vl (l).length (intsV (l).length (Inf.fn (l)))) ∧ Hid (∀ x ∈ l, x ≤ 18) ∧ Hid (StE e rr (l.length = W ∧ Inf.dynFin mm ff (.ok (l, a)) = rr)))
        case first =>
         as_aux_lemma =>
          go_wp2_with fail;go_loopg [11] (W + 1) (fun k vl wr => ∃ (a : Nat) (l : List Nat) (e F : Nat), a ≤ 8 * L.length ∧ Hid (QGo w wr Q (bs (Bts.allB L)) a e x vo vo out) ∧ Hid (wr.ownsRow b0 3 1 vl (l).length (intsV (l).length (Inf.fn (l)))) ∧ Hid (StE e rr ((Cw wr Q vc f 19 ∧ ∀ C l c, vc = .slice (some ⟨C, 0, none⟩) l c → C < b0) ∧ Inf.dynFin mm ff (Inf.lens L f W F a l) = rr)) ∧ Hid ((∀ x ∈ l, x ≤ 18) ∧ l.length ≤ W ∧ W - l.length < F ∧ (if e = 0 then W + 1 - l.length else 0) ≤ k) ∧ Hid (b0 ≤ wr.heap.size))
          case atStart => exact ⟨a4, [], e6, W + 1, hal4, H_0, Lib.hid (World.ownsRow_nil _ _ _ _), HS, Lib.hid ⟨(fun x hx => by cases hx), by simp, by simp, by split <;> simp⟩, Lib.hid (by omega)⟩
          case round =>
           clear H_0 HS;obtain ⟨a, l, e, F, hal, H_0, HLR, HS, HK, HB0⟩ := hrel;obtain ⟨n, hn⟩ : ∃ n, l.length = n := ⟨_, rfl⟩;have hro := HLR.out;rw [hn] at hro;obtain ⟨xo, co, rfl⟩ := lit_row hro;have HLR2 := Lib.hid hro;have HN := Lib.hid hn;have hnW : n ≤ W := by rw [← hn]; exact HK.out.2.1
           clear hro hn HLR;rcases HS.out with ⟨he, ⟨hcw, hcl⟩, hrl⟩ | ⟨he, hbad⟩
           ·subst he;clear HS;have HC := Lib.hid hcw;have HCL := Lib.hid hcl;have HG := Lib.hid hrl;have HF0 : Hid (0 < F) := Lib.hid (by have := HK.out; omega);have hkk := HK.out.2.2.2;rw [HN.out, if_pos rfl] at hkk;have HKK := Lib.hid hkk;clear hkk;clear hcw hcl hrl;by_cases hle : W ≤ n
            ·obtain rfl : n = W := by omega
             have t1 : decide ((n : Int) < (n : Int)) = false := decide_eq_false (by omega);have HG2 : Hid (Inf.dynFin mm ff (.ok (l, a)) = rr) := Lib.hid (by have h := HG.out; rw [Inf.lens_done HF0.out rfl (by rw [HN.out]; exact Nat.le_refl _)] at h; exact h);go_wp2_with fail;refine (rok_any Q a 0 (bs (Bts.allB L)) x _ H_0.out.bk).mono ?_;rintro r w9 ⟨rfl, h9⟩;have h9s := h9.symm;clear h9;subst h9s;rw [show decide (0 = 0) = true from rfl];go_wp2_with fail;(try go_wp2_with fail);go_meet
             exact ⟨_, l, a, 0, rfl, hal, H_0, Lib.hid (by rw [HN.out]; exact HLR2.out), Lib.hid HK.out.1, Lib.hid (StE.good ⟨HN.out, HG2.out⟩)⟩
            ·have hlt : n < W := by omega
             have t1 : decide ((n : Int) < (W : Int)) = true := decide_eq_true (by omega);have HNW : Hid (¬ W ≤ l.length) := Lib.hid (by rw [HN.out]; exact hle);clear hle;go_wp2_with fail;refine (rok_any Q a 0 (bs (Bts.allB L)) x _ H_0.out.bk).mono ?_;rintro r w9 ⟨rfl, h9⟩;have h9s := h9.symm;clear h9;subst h9s;rw [show decide (0 = 0) = true from rfl];go_wp2_with fail;clear t1;have HP := qword_any Q a 0 19 f vc L x _ H_0.out.bk HC.out hal hL;cases hx : Inf.nxt L f 19 a with
             | error c =>
              obtain rfl := Inf.nxt_error hx;have HQ := Lib.hid (Inf.fin_err HG.out (Inf.lens_nx HF0.out rfl HNW.out hx));refine HP.mono ?_;rintro r w_k ⟨hK, hP⟩;rw [if_pos rfl, hx] at hP;obtain ⟨rfl, hB⟩ := hP;have HLR3 := Lib.hid (ownsRow_kept HLR2.out hK (fun k q e => by have := (HLR2.out.lt k q).1; have := HLb.out; omega));have HB1 := Lib.hid (Nat.le_trans HB0.out hK.size);have H_1 := Lib.hid (H_0.out.quiet hK hB);clear H_0;clear hK hB;clear hx HP HLR2 HB0;obtain ⟨m9, hm9⟩ : ∃ m9, n + 1 = m9 := ⟨_, rfl⟩;have hm9I : (n : Int) + 1 = (m9 : Int) := by omega
              have wm9 : ∀ z, z = (m9 : Int) → IntKind.i64.wrap z = z := fun z hz => wr64 hz (by omega) (by omega);have HM9 := Lib.hid hm9;by_cases hov : W < m9
              ·have t9 : decide ((W : Int) < (m9 : Int)) = true := decide_eq_true (by omega);have n9 : W < m9 := hov;go_wp2_with fail;refine (rfail_any Q a 1 1 (bs (Bts.allB L)) x _ H_1.out.bk).mono ?_;rintro r w_11 ⟨rfl, hB, hK⟩;have HLR4 := Lib.hid (ownsRow_kept HLR3.out hK (fun k q e => by have := (HLR3.out.lt k q).1; have := HLb.out; omega));have HB2 := Lib.hid (Nat.le_trans HB1.out hK.size);clear HLR3 HB1;have HLR3 := HLR4;have HB1 := HB2;clear HLR4 HB2;rw [show fl 1 1 = 1 from if_neg (by omega)] at hB;have H_2 := Lib.hid (H_1.out.quiet hK hB);clear H_1;clear hK hB;clear t9 n9 hov hm9 hm9I;go_wp2_with fail;go_loopw [11, 15] (fun y z wr => y = (.slice xo n co) ∧ z = .int .i64 0 ∧ Hid (QGo w wr Q (bs (Bts.allB L)) a 1 x vo vo out) ∧ Hid (wr.ownsRow b0 3 1 (.slice xo n co) n (intsV n (Inf.fn l))) ∧ Hid (b0 ≤ wr.heap.size)) (fun _ _ _ => 0)
               case atStart => exact ⟨rfl, rfl, H_2, HLR3, HB1⟩
               case round =>
                clear H_2 HLR3 HB1;obtain ⟨rfl, rfl, H_0, HLR3, HB1⟩ := hrel;have t8 : decide ((0 : Int) < 1) = true := decide_eq_true (by omega);have n8 : 0 < 1 := by omega
                go_wp2_with fail;refine (rok_any Q a 1 (bs (Bts.allB L)) x _ H_0.out.bk).mono ?_;rintro r w9 ⟨rfl, h9⟩;have h9s := h9.symm;clear h9;subst h9s;rw [show decide (1 = 0) = false from decide_eq_false (by omega)];go_wp2_with fail;go_roundg 0
                case measure => have := HKK.out; omega
                case rel => exact ⟨a, l, 1, F, by omega, H_0, Lib.hid (by rw [HN.out]; exact HLR3.out), Lib.hid (StE.bad HQ.out), Lib.hid ⟨HK.out.1, HK.out.2.1, HK.out.2.2.1, by simp⟩, HB1⟩
              ·have t9 : decide ((W : Int) < (m9 : Int)) = false := decide_eq_false (by omega);have n9 : ¬ W < m9 := hov;go_wp2_with fail;clear t9 n9 hov hm9 hm9I;go_loopw [11, 15] (fun y z wr => y = (.slice xo n co) ∧ z = .int .i64 0 ∧ Hid (QGo w wr Q (bs (Bts.allB L)) a 1 x vo vo out) ∧ Hid (wr.ownsRow b0 3 1 (.slice xo n co) n (intsV n (Inf.fn l))) ∧ Hid (b0 ≤ wr.heap.size)) (fun _ _ _ => 0)
               case atStart => exact ⟨rfl, rfl, H_1, HLR3, HB1⟩
               case round =>
                clear H_1 HLR3 HB1;obtain ⟨rfl, rfl, H_0, HLR3, HB1⟩ := hrel;have t8 : decide ((0 : Int) < 1) = true := decide_eq_true (by omega);have n8 : 0 < 1 := by omega
                go_wp2_with fail;refine (rok_any Q a 1 (bs (Bts.allB L)) x _ H_0.out.bk).mono ?_;rintro r w9 ⟨rfl, h9⟩;have h9s := h9.symm;clear h9;subst h9s;rw [show decide (1 = 0) = false from decide_eq_false (by omega)];go_wp2_with fail;go_roundg 0
                case measure => have := HKK.out; omega
                case rel => exact ⟨a, l, 1, F, by omega, H_0, Lib.hid (by rw [HN.out]; exact HLR3.out), Lib.hid (StE.bad HQ.out), Lib.hid ⟨HK.out.1, HK.out.2.1, HK.out.2.2.1, by simp⟩, HB1⟩
             | ok q =>
              obtain ⟨k, a1⟩ := q;have hal1 := Inf.nxt_le hx;obtain ⟨-, hal2, hk19⟩ := hal1;have HX := Lib.hid hx;refine HP.mono ?_;rintro r w_k ⟨hK, hP⟩;rw [if_pos rfl, hx] at hP;obtain ⟨rfl, hB⟩ := hP;have HLR3 := Lib.hid (ownsRow_kept HLR2.out hK (fun k q e => by have := (HLR2.out.lt k q).1; have := HLb.out; omega));have HB1 := Lib.hid (Nat.le_trans HB0.out hK.size);have HC1 := Lib.hid (HC.out.quiet hK);have H_1 := Lib.hid (H_0.out.quiet hK hB);clear H_0;clear hK hB;clear hx HP HLR2 HB0 HC;by_cases hk16 : k = 16
              ·subst hk16;go_wp2_with fail;cases hg : Inf.get L 2 a1 with
               | error c =>
                obtain rfl := (Inf.get_error hg).1;refine (qget_any Q a1 0 2 L x _ H_1.out.bk (by omega) (by omega) hL).mono ?_;rintro r w_12 ⟨hK, hP⟩;rw [if_pos rfl, hg] at hP;obtain ⟨rfl, hB⟩ := hP;have HLR4 := Lib.hid (ownsRow_kept HLR3.out hK (fun k q e => by have := (HLR3.out.lt k q).1; have := HLb.out; omega));have HB2 := Lib.hid (Nat.le_trans HB1.out hK.size);have HC2 := Lib.hid (HC1.out.quiet hK);clear HLR3 HB1 HC1;have HLR3 := HLR4;have HB1 := HB2;have HC1 := HC2;clear HLR4 HB2 HC2;have H_2 := Lib.hid (H_1.out.quiet hK hB);clear H_1;clear hK hB;by_cases hn0 : n = 0
                ·have hl0 : l = [] := List.eq_nil_of_length_eq_zero (by rw [HN.out]; exact hn0);have HQ := Lib.hid (Inf.fin_err HG.out (Inf.lens_rep HF0.out rfl HNW.out HX.out (by rw [hl0]; exact Inf.rep_nil)));clear hg hl0;have t2 : ((n : Int) == 0) = true := beq_iff_eq.2 (by omega);clear hn0;go_wp2_with fail;refine (rfail_any Q a1 1 1 (bs (Bts.allB L)) x _ H_2.out.bk).mono ?_;rintro r w_13 ⟨rfl, hB, hK⟩;have HLR4 := Lib.hid (ownsRow_kept HLR3.out hK (fun k q e => by have := (HLR3.out.lt k q).1; have := HLb.out; omega));have HB2 := Lib.hid (Nat.le_trans HB1.out hK.size);clear HLR3 HB1;have HLR3 := HLR4;have HB1 := HB2;clear HLR4 HB2;rw [show fl 1 1 = 1 from if_neg (by omega)] at hB;have H_3 := Lib.hid (H_2.out.quiet hK hB);clear H_2;clear hK hB;clear t2;obtain ⟨m9, hm9⟩ : ∃ m9, n + 3 = m9 := ⟨_, rfl⟩;have hm9I : (n : Int) + 3 = (m9 : Int) := by omega
                 have wm9 : ∀ z, z = (m9 : Int) → IntKind.i64.wrap z = z := fun z hz => wr64 hz (by omega) (by omega);have HM9 := Lib.hid hm9;by_cases hov : W < m9
                 ·have t9 : decide ((W : Int) < (m9 : Int)) = true := decide_eq_true (by omega);have n9 : W < m9 := hov;go_wp2_with fail;refine (rfail_any Q a1 1 1 (bs (Bts.allB L)) x _ H_3.out.bk).mono ?_;rintro r w_14 ⟨rfl, hB, hK⟩;have HLR4 := Lib.hid (ownsRow_kept HLR3.out hK (fun k q e => by have := (HLR3.out.lt k q).1; have := HLb.out; omega));have HB2 := Lib.hid (Nat.le_trans HB1.out hK.size);clear HLR3 HB1;have HLR3 := HLR4;have HB1 := HB2;clear HLR4 HB2;rw [show fl 1 1 = 1 from if_neg (by omega)] at hB;have H_4 := Lib.hid (H_3.out.quiet hK hB);clear H_3;clear hK hB;clear t9 n9 hov hm9 hm9I;go_wp2_with fail;go_loopw [11, 15] (fun y z wr => y = (.slice xo n co) ∧ z = .int .i64 0 ∧ Hid (QGo w wr Q (bs (Bts.allB L)) a1 1 x vo vo out) ∧ Hid (wr.ownsRow b0 3 1 (.slice xo n co) n (intsV n (Inf.fn l))) ∧ Hid (b0 ≤ wr.heap.size)) (fun _ _ _ => 0)
                  case atStart => exact ⟨rfl, rfl, H_4, HLR3, HB1⟩
                  case round =>
                   clear H_4 HLR3 HB1;obtain ⟨rfl, rfl, H_0, HLR3, HB1⟩ := hrel;have t8 : decide ((0 : Int) < 3) = true := decide_eq_true (by omega);have n8 : 0 < 3 := by omega
                   go_wp2_with fail;refine (rok_any Q a1 1 (bs (Bts.allB L)) x _ H_0.out.bk).mono ?_;rintro r w9 ⟨rfl, h9⟩;have h9s := h9.symm;clear h9;subst h9s;rw [show decide (1 = 0) = false from decide_eq_false (by omega)];go_wp2_with fail;go_roundg 0
                   case measure => have := HKK.out; omega
                   case rel => exact ⟨a1, l, 1, F, by omega, H_0, Lib.hid (by rw [HN.out]; exact HLR3.out), Lib.hid (StE.bad HQ.out), Lib.hid ⟨HK.out.1, HK.out.2.1, HK.out.2.2.1, by simp⟩, HB1⟩
                 ·have t9 : decide ((W : Int) < (m9 : Int)) = false := decide_eq_false (by omega);have n9 : ¬ W < m9 := hov;go_wp2_with fail;clear t9 n9 hov hm9 hm9I;go_loopw [11, 15] (fun y z wr => y = (.slice xo n co) ∧ z = .int .i64 0 ∧ Hid (QGo w wr Q (bs (Bts.allB L)) a1 1 x vo vo out) ∧ Hid (wr.ownsRow b0 3 1 (.slice xo n co) n (intsV n (Inf.fn l))) ∧ Hid (b0 ≤ wr.heap.size)) (fun _ _ _ => 0)
                  case atStart => exact ⟨rfl, rfl, H_3, HLR3, HB1⟩
                  case round =>
                   clear H_3 HLR3 HB1;obtain ⟨rfl, rfl, H_0, HLR3, HB1⟩ := hrel;have t8 : decide ((0 : Int) < 3) = true := decide_eq_true (by omega);have n8 : 0 < 3 := by omega
                   go_wp2_with fail;refine (rok_any Q a1 1 (bs (Bts.allB L)) x _ H_0.out.bk).mono ?_;rintro r w9 ⟨rfl, h9⟩;have h9s := h9.symm;clear h9;subst h9s;rw [show decide (1 = 0) = false from decide_eq_false (by omega)];go_wp2_with fail;go_roundg 0
                   case measure => have := HKK.out; omega
                   case rel => exact ⟨a1, l, 1, F, by omega, H_0, Lib.hid (by rw [HN.out]; exact HLR3.out), Lib.hid (StE.bad HQ.out), Lib.hid ⟨HK.out.1, HK.out.2.1, HK.out.2.2.1, by simp⟩, HB1⟩
                ·have HNE : Hid (l ≠ []) := Lib.hid (fun e => by have := HN.out; rw [e] at this; simp at this; omega);have HQ := Lib.hid (Inf.fin_err HG.out (Inf.lens_rep HF0.out rfl HNW.out HX.out (Inf.rep_16e HNE.out hg)));clear hg;have t2 : ((n : Int) == 0) = false := beq_eq_false_iff_ne.2 (by omega);have n2 : ¬ n = 0 := hn0;obtain ⟨gb, cp, e1, _, _⟩ := ownsRow_some HLR3.out (by omega);injection e1 with e1 _ e2;subst e1 e2;obtain ⟨j, hj⟩ : ∃ j, n - 1 = j := ⟨_, rfl⟩;obtain ⟨la, hla⟩ : ∃ la, l.getD j 0 = la := ⟨_, rfl⟩;have hlc : w_12.cell? ⟨gb, j, none⟩ = some (.int .i64 (la : Int)) := by
                  rw [HLR3.out.cellAt j (by omega), intsV_get _ _ j (by omega)]; unfold Inf.fn; rw [hla]
                 have HLA := Lib.hid hla;have hla18 : la ≤ 18 := by
                  have := (fn_le HK.out.1 j).2; unfold Inf.fn at this; rw [hla] at this; omega
                 have hjI : (n : Int) - 1 = (j : Int) := by omega
                 have wj : ∀ z, z = (j : Int) → IntKind.i64.wrap z = z := fun z hz => wr64 hz (by omega) (by omega);have hj0 : (0 : Int) ≤ (j : Int) := by omega
                 have hj1 : (j : Int) < (n : Int) := by omega
                 have hjn : j < n := by omega
                 have hjt : ((j : Nat) : Int).toNat = j := by omega
                 clear hla;obtain ⟨m9, hm9⟩ : ∃ m9, n + 3 = m9 := ⟨_, rfl⟩;have hm9I : (n : Int) + 3 = (m9 : Int) := by omega
                 have wm9 : ∀ z, z = (m9 : Int) → IntKind.i64.wrap z = z := fun z hz => wr64 hz (by omega) (by omega);have HM9 := Lib.hid hm9;by_cases hov : W < m9
                 ·have t9 : decide ((W : Int) < (m9 : Int)) = true := decide_eq_true (by omega);have n9 : W < m9 := hov;go_wp2_with fail;refine (rfail_any Q a1 1 1 (bs (Bts.allB L)) x _ H_2.out.bk).mono ?_;rintro r w_15 ⟨rfl, hB, hK⟩;have HLR4 := Lib.hid (ownsRow_kept HLR3.out hK (fun k q e => by have := (HLR3.out.lt k q).1; have := HLb.out; omega));have HB2 := Lib.hid (Nat.le_trans HB1.out hK.size);clear HLR3 HB1;have HLR3 := HLR4;have HB1 := HB2;clear HLR4 HB2;rw [show fl 1 1 = 1 from if_neg (by omega)] at hB;have H_3 := Lib.hid (H_2.out.quiet hK hB);clear H_2;clear hK hB;clear t9 n9 hov hm9 hm9I;go_wp2_with fail;go_loopw [11, 15] (fun y z wr => y = (.slice (some ⟨gb, 0, none⟩) n co) ∧ z = .int .i64 0 ∧ Hid (QGo w wr Q (bs (Bts.allB L)) a1 1 x vo vo out) ∧ Hid (wr.ownsRow b0 3 1 (.slice (some ⟨gb, 0, none⟩) n co) n (intsV n (Inf.fn l))) ∧ Hid (b0 ≤ wr.heap.size)) (fun _ _ _ => 0)
                  case atStart => exact ⟨rfl, rfl, H_3, HLR3, HB1⟩
                  case round =>
                   clear H_3 HLR3 HB1;obtain ⟨rfl, rfl, H_0, HLR3, HB1⟩ := hrel;have t8 : decide ((0 : Int) < 3) = true := decide_eq_true (by omega);have n8 : 0 < 3 := by omega
                   go_wp2_with fail;refine (rok_any Q a1 1 (bs (Bts.allB L)) x _ H_0.out.bk).mono ?_;rintro r w9 ⟨rfl, h9⟩;have h9s := h9.symm;clear h9;subst h9s;rw [show decide (1 = 0) = false from decide_eq_false (by omega)];go_wp2_with fail;go_roundg 0
                   case measure => have := HKK.out; omega
                   case rel => exact ⟨a1, l, 1, F, by omega, H_0, Lib.hid (by rw [HN.out]; exact HLR3.out), Lib.hid (StE.bad HQ.out), Lib.hid ⟨HK.out.1, HK.out.2.1, HK.out.2.2.1, by simp⟩, HB1⟩
                 ·have t9 : decide ((W : Int) < (m9 : Int)) = false := decide_eq_false (by omega);have n9 : ¬ W < m9 := hov;go_wp2_with fail;clear t9 n9 hov hm9 hm9I;go_loopw [11, 15] (fun y z wr => y = (.slice (some ⟨gb, 0, none⟩) n co) ∧ z = .int .i64 0 ∧ Hid (QGo w wr Q (bs (Bts.allB L)) a1 1 x vo vo out) ∧ Hid (wr.ownsRow b0 3 1 (.slice (some ⟨gb, 0, none⟩) n co) n (intsV n (Inf.fn l))) ∧ Hid (b0 ≤ wr.heap.size)) (fun _ _ _ => 0)
                  case atStart => exact ⟨rfl, rfl, H_2, HLR3, HB1⟩
                  case round =>
                   clear H_2 HLR3 HB1;obtain ⟨rfl, rfl, H_0, HLR3, HB1⟩ := hrel;have t8 : decide ((0 : Int) < 3) = true := decide_eq_true (by omega);have n8 : 0 < 3 := by omega
                   go_wp2_with fail;refine (rok_any Q a1 1 (bs (Bts.allB L)) x _ H_0.out.bk).mono ?_;rintro r w9 ⟨rfl, h9⟩;have h9s := h9.symm;clear h9;subst h9s;rw [show decide (1 = 0) = false from decide_eq_false (by omega)];go_wp2_with fail;go_roundg 0
                   case measure => have := HKK.out; omega
                   case rel => exact ⟨a1, l, 1, F, by omega, H_0, Lib.hid (by rw [HN.out]; exact HLR3.out), Lib.hid (StE.bad HQ.out), Lib.hid ⟨HK.out.1, HK.out.2.1, HK.out.2.2.1, by simp⟩, HB1⟩
               | ok q =>
                obtain ⟨y, a2⟩ := q;obtain ⟨z1, z2, z3, z4⟩ := Inf.get_ok hg;have hbl : a2 ≤ 8 * L.length := by omega
                have hyb : y < 4 := z3;clear z1 z2 z3 z4;refine (qget_any Q a1 0 2 L x _ H_1.out.bk (by omega) (by omega) hL).mono ?_;rintro r w_16 ⟨hK, hP⟩;rw [if_pos rfl, hg] at hP;obtain ⟨rfl, hB⟩ := hP;have HLR4 := Lib.hid (ownsRow_kept HLR3.out hK (fun k q e => by have := (HLR3.out.lt k q).1; have := HLb.out; omega));have HB2 := Lib.hid (Nat.le_trans HB1.out hK.size);have HC2 := Lib.hid (HC1.out.quiet hK);clear HLR3 HB1 HC1;have HLR3 := HLR4;have HB1 := HB2;have HC1 := HC2;clear HLR4 HB2 HC2;have H_2 := Lib.hid (H_1.out.quiet hK hB);clear H_1;clear hK hB;obtain ⟨t, ht⟩ : ∃ t, 3 + y = t := ⟨_, rfl⟩;have htI : (3 : Int) + (y : Int) = (t : Int) := by omega
                have htb : 1 ≤ t ∧ t ≤ 138 := by omega
                have wt : ∀ z, z = (t : Int) → IntKind.i64.wrap z = z := fun z hz => wr64 hz (by omega) (by omega);by_cases hn0 : n = 0
                ·have hl0 : l = [] := List.eq_nil_of_length_eq_zero (by rw [HN.out]; exact hn0);have HQ := Lib.hid (Inf.fin_err HG.out (Inf.lens_rep HF0.out rfl HNW.out HX.out (by rw [hl0]; exact Inf.rep_nil)));clear hg hl0 ht;have t2 : ((n : Int) == 0) = true := beq_iff_eq.2 (by omega);clear hn0;go_wp2_with fail;refine (rfail_any Q a2 0 1 (bs (Bts.allB L)) x _ H_2.out.bk).mono ?_;rintro r w_17 ⟨rfl, hB, hK⟩;have HLR4 := Lib.hid (ownsRow_kept HLR3.out hK (fun k q e => by have := (HLR3.out.lt k q).1; have := HLb.out; omega));have HB2 := Lib.hid (Nat.le_trans HB1.out hK.size);clear HLR3 HB1;have HLR3 := HLR4;have HB1 := HB2;clear HLR4 HB2;rw [show fl 0 1 = 1 from rfl] at hB;have H_3 := Lib.hid (H_2.out.quiet hK hB);clear H_2;clear hK hB;clear t2;obtain ⟨m9, hm9⟩ : ∃ m9, n + t = m9 := ⟨_, rfl⟩;have hm9I : (n : Int) + (t : Int) = (m9 : Int) := by omega
                 have wm9 : ∀ z, z = (m9 : Int) → IntKind.i64.wrap z = z := fun z hz => wr64 hz (by omega) (by omega);have HM9 := Lib.hid hm9;by_cases hov : W < m9
                 ·have t9 : decide ((W : Int) < (m9 : Int)) = true := decide_eq_true (by omega);have n9 : W < m9 := hov;go_wp2_with fail;refine (rfail_any Q a2 1 1 (bs (Bts.allB L)) x _ H_3.out.bk).mono ?_;rintro r w_18 ⟨rfl, hB, hK⟩;have HLR4 := Lib.hid (ownsRow_kept HLR3.out hK (fun k q e => by have := (HLR3.out.lt k q).1; have := HLb.out; omega));have HB2 := Lib.hid (Nat.le_trans HB1.out hK.size);clear HLR3 HB1;have HLR3 := HLR4;have HB1 := HB2;clear HLR4 HB2;rw [show fl 1 1 = 1 from if_neg (by omega)] at hB;have H_4 := Lib.hid (H_3.out.quiet hK hB);clear H_3;clear hK hB;clear t9 n9 hov hm9 hm9I;go_wp2_with fail;go_loopw [11, 15] (fun y z wr => y = (.slice xo n co) ∧ z = .int .i64 0 ∧ Hid (QGo w wr Q (bs (Bts.allB L)) a2 1 x vo vo out) ∧ Hid (wr.ownsRow b0 3 1 (.slice xo n co) n (intsV n (Inf.fn l))) ∧ Hid (b0 ≤ wr.heap.size)) (fun _ _ _ => 0)
                  case atStart => exact ⟨rfl, rfl, H_4, HLR3, HB1⟩
                  case round =>
                   clear H_4 HLR3 HB1;obtain ⟨rfl, rfl, H_0, HLR3, HB1⟩ := hrel;have t8 : decide ((0 : Int) < (t : Int)) = true := decide_eq_true (by omega);have n8 : 0 < t := by omega
                   go_wp2_with fail;refine (rok_any Q a2 1 (bs (Bts.allB L)) x _ H_0.out.bk).mono ?_;rintro r w9 ⟨rfl, h9⟩;have h9s := h9.symm;clear h9;subst h9s;rw [show decide (1 = 0) = false from decide_eq_false (by omega)];go_wp2_with fail;go_roundg 0
                   case measure => have := HKK.out; omega
                   case rel => exact ⟨a2, l, 1, F, by omega, H_0, Lib.hid (by rw [HN.out]; exact HLR3.out), Lib.hid (StE.bad HQ.out), Lib.hid ⟨HK.out.1, HK.out.2.1, HK.out.2.2.1, by simp⟩, HB1⟩
                 ·have t9 : decide ((W : Int) < (m9 : Int)) = false := decide_eq_false (by omega);have n9 : ¬ W < m9 := hov;go_wp2_with fail;clear t9 n9 hov hm9 hm9I;go_loopw [11, 15] (fun y z wr => y = (.slice xo n co) ∧ z = .int .i64 0 ∧ Hid (QGo w wr Q (bs (Bts.allB L)) a2 1 x vo vo out) ∧ Hid (wr.ownsRow b0 3 1 (.slice xo n co) n (intsV n (Inf.fn l))) ∧ Hid (b0 ≤ wr.heap.size)) (fun _ _ _ => 0)
                  case atStart => exact ⟨rfl, rfl, H_3, HLR3, HB1⟩
                  case round =>
                   clear H_3 HLR3 HB1;obtain ⟨rfl, rfl, H_0, HLR3, HB1⟩ := hrel;have t8 : decide ((0 : Int) < (t : Int)) = true := decide_eq_true (by omega);have n8 : 0 < t := by omega
                   go_wp2_with fail;refine (rok_any Q a2 1 (bs (Bts.allB L)) x _ H_0.out.bk).mono ?_;rintro r w9 ⟨rfl, h9⟩;have h9s := h9.symm;clear h9;subst h9s;rw [show decide (1 = 0) = false from decide_eq_false (by omega)];go_wp2_with fail;go_roundg 0
                   case measure => have := HKK.out; omega
                   case rel => exact ⟨a2, l, 1, F, by omega, H_0, Lib.hid (by rw [HN.out]; exact HLR3.out), Lib.hid (StE.bad HQ.out), Lib.hid ⟨HK.out.1, HK.out.2.1, HK.out.2.2.1, by simp⟩, HB1⟩
                ·have HNE : Hid (l ≠ []) := Lib.hid (fun e => by have := HN.out; rw [e] at this; simp at this; omega);have HRP := Lib.hid (Inf.rep_16 HNE.out hg);rw [ht] at HRP;clear hg ht;have t2 : ((n : Int) == 0) = false := beq_eq_false_iff_ne.2 (by omega);have n2 : ¬ n = 0 := hn0;obtain ⟨gb, cp, e1, _, _⟩ := ownsRow_some HLR3.out (by omega);injection e1 with e1 _ e2;subst e1 e2;obtain ⟨j, hj⟩ : ∃ j, n - 1 = j := ⟨_, rfl⟩;obtain ⟨la, hla⟩ : ∃ la, l.getD j 0 = la := ⟨_, rfl⟩;have hlc : w_16.cell? ⟨gb, j, none⟩ = some (.int .i64 (la : Int)) := by
                  rw [HLR3.out.cellAt j (by omega), intsV_get _ _ j (by omega)]; unfold Inf.fn; rw [hla]
                 have HLA := Lib.hid hla;have hla18 : la ≤ 18 := by
                  have := (fn_le HK.out.1 j).2; unfold Inf.fn at this; rw [hla] at this; omega
                 have hjI : (n : Int) - 1 = (j : Int) := by omega
                 have wj : ∀ z, z = (j : Int) → IntKind.i64.wrap z = z := fun z hz => wr64 hz (by omega) (by omega);have hj0 : (0 : Int) ≤ (j : Int) := by omega
                 have hj1 : (j : Int) < (n : Int) := by omega
                 have hjn : j < n := by omega
                 have hjt : ((j : Nat) : Int).toNat = j := by omega
                 clear hla;rw [HN.out, hj, HLA.out] at HRP;obtain ⟨m9, hm9⟩ : ∃ m9, n + t = m9 := ⟨_, rfl⟩;have hm9I : (n : Int) + (t : Int) = (m9 : Int) := by omega
                 have wm9 : ∀ z, z = (m9 : Int) → IntKind.i64.wrap z = z := fun z hz => wr64 hz (by omega) (by omega);have HM9 := Lib.hid hm9;by_cases hov : W < m9
                 ·have t9 : decide ((W : Int) < (m9 : Int)) = true := decide_eq_true (by omega);have n9 : W < m9 := hov;have HQ := Lib.hid (Inf.fin_err HG.out (Inf.lens_over HF0.out rfl HNW.out HX.out HRP.out (by rw [HN.out]; omega)));go_wp2_with fail;refine (rfail_any Q a2 0 1 (bs (Bts.allB L)) x _ H_2.out.bk).mono ?_;rintro r w_19 ⟨rfl, hB, hK⟩;have HLR4 := Lib.hid (ownsRow_kept HLR3.out hK (fun k q e => by have := (HLR3.out.lt k q).1; have := HLb.out; omega));have HB2 := Lib.hid (Nat.le_trans HB1.out hK.size);clear HLR3 HB1;have HLR3 := HLR4;have HB1 := HB2;clear HLR4 HB2;rw [show fl 0 1 = 1 from rfl] at hB;have H_3 := Lib.hid (H_2.out.quiet hK hB);clear H_2;clear hK hB;clear t9 n9 hov hm9 hm9I;go_wp2_with fail;go_loopw [11, 15] (fun y z wr => y = (.slice (some ⟨gb, 0, none⟩) n co) ∧ z = .int .i64 0 ∧ Hid (QGo w wr Q (bs (Bts.allB L)) a2 1 x vo vo out) ∧ Hid (wr.ownsRow b0 3 1 (.slice (some ⟨gb, 0, none⟩) n co) n (intsV n (Inf.fn l))) ∧ Hid (b0 ≤ wr.heap.size)) (fun _ _ _ => 0)
                  case atStart => exact ⟨rfl, rfl, H_3, HLR3, HB1⟩
                  case round =>
                   clear H_3 HLR3 HB1;obtain ⟨rfl, rfl, H_0, HLR3, HB1⟩ := hrel;have t8 : decide ((0 : Int) < (t : Int)) = true := decide_eq_true (by omega);have n8 : 0 < t := by omega
                   go_wp2_with fail;refine (rok_any Q a2 1 (bs (Bts.allB L)) x _ H_0.out.bk).mono ?_;rintro r w9 ⟨rfl, h9⟩;have h9s := h9.symm;clear h9;subst h9s;rw [show decide (1 = 0) = false from decide_eq_false (by omega)];go_wp2_with fail;go_roundg 0
                   case measure => have := HKK.out; omega
                   case rel => exact ⟨a2, l, 1, F, by omega, H_0, Lib.hid (by rw [HN.out]; exact HLR3.out), Lib.hid (StE.bad HQ.out), Lib.hid ⟨HK.out.1, HK.out.2.1, HK.out.2.2.1, by simp⟩, HB1⟩
                 ·have t9 : decide ((W : Int) < (m9 : Int)) = false := decide_eq_false (by omega);have n9 : ¬ W < m9 := hov;have HLG := Lib.hid (Inf.lens_go HF0.out rfl HNW.out HX.out HRP.out (by rw [HN.out]; omega));go_wp2_with fail;clear t9 n9 hm9 hm9I;go_loopw [11, 15] (fun y z wr => ∃ i : Nat, i ≤ t ∧ z = .int .i64 i ∧ Hid (QGo w wr Q (bs (Bts.allB L)) a2 0 x vo vo out) ∧ Hid (wr.ownsRow b0 3 1 y (l ++ List.replicate i la).length (intsV (l ++ List.replicate i la).length (Inf.fn (l ++ List.replicate i la)))) ∧ Hid (Cw wr Q vc f 19 ∧ ∀ C l c, vc = .slice (some ⟨C, 0, none⟩) l c → C < b0) ∧ Hid (b0 ≤ wr.heap.size)) (fun _ z _ => t - (intOf z).toNat)
                  case atStart => exact ⟨0, by omega, rfl, H_2, Lib.hid (by rw [List.replicate_zero, List.append_nil, HN.out]; exact HLR3.out), Lib.hid ⟨HC1.out, HCL.out⟩, HB1⟩
                  case round =>
                   clear H_2 HLR3 HB1 HC1 HCL;obtain ⟨i, hit, rfl, H_0, HLR3, HC1, HB1⟩ := hrel;obtain ⟨M, hM⟩ : ∃ M, (l ++ List.replicate i la).length = M := ⟨_, rfl⟩;have hMn : M = n + i := by rw [← hM, List.length_append, List.length_replicate, HN.out]
                   have hro := HLR3.out;rw [hM] at hro;obtain ⟨xq, cq, rfl⟩ := lit_row hro;have HRO := Lib.hid hro;have HM := Lib.hid hM;have HMN := Lib.hid hMn;have hMb : M ≤ 400 := by have := HM9.out; omega
                   clear hro hM hMn;by_cases hil : i < t
                   ·have t8 : decide ((i : Int) < (t : Int)) = true := decide_eq_true (by omega);have n8 : i < t := hil;go_wp2_with fail;refine (rok_any Q a2 0 (bs (Bts.allB L)) x _ H_0.out.bk).mono ?_;rintro r w9 ⟨rfl, h9⟩;have h9s := h9.symm;clear h9;subst h9s;rw [show decide (0 = 0) = true from rfl];clear t8 n8;have hzz := HB1.out;go_wp2_with (at_builtin; refine wpList_append_own_at _ rfl _ _ 31 rfl b0 3 i0 (.int .i64 0) 1 8 Tryd.underlying31 hi0 hz0 hz1 hz2 rfl (by decide) _ _ _ rfl (HRO.out.alloc _) ⟨wr.heap.size, 0, none⟩ 1 1 [.int .i64 (la : Int)] rfl rfl ?c1 ?c6 ?c3 ?c4 ?c5 ?_)
                    case c1 => exact (cell_one_new _ _ _)
                    case c6 => intro u hu; rw [List.mem_singleton.1 hu]; rfl
                    case c3 => unfold maxLen; omega
                    case c4 => omega
                    case c5 => first | omega | (simp; done) | (simp; omega)
                    intro v' w8 hown hgrow _ _;have HO8 : Hid (w8.ownsRow b0 3 1 v' (l ++ List.replicate (i + 1) la).length (intsV (l ++ List.replicate (i + 1) la).length (Inf.fn (l ++ List.replicate (i + 1) la)))) := Lib.hid (by
                     have e1 : l ++ List.replicate (i + 1) la = (l ++ List.replicate i la) ++ [la] := by rw [List.replicate_succ', List.append_assoc]
                     rw [e1, intsV_append, List.length_append, HM.out];exact hown)
                    have KG : Keeps (fun k => (Value.slice xq M cq).ownBlock = some k) wr w8 := (Keeps.alloc (Keeps.refl _ _) _).trans (Keeps.grown hgrow) (fun _ _ q => q);have HN8 := Lib.hid (H_0.out.off KG (fun k q => by have := (HRO.out.lt k q).1; have := HLb.out; omega) (fun q => by have := (HRO.out.lt _ q).1; have := HLb.out; omega) (fun k q e => by have := (HRO.out.lt _ e).1; have := HLb.out.2.2 k q; omega));have HC8 := Lib.hid (HC1.out.1.keep KG (fun C q e => by obtain ⟨l9, c9, q⟩ := q; have := (HRO.out.lt _ e).1; have := HC1.out.2 C l9 c9 q; omega));have HB8 := Lib.hid (Nat.le_trans HB1.out KG.size);have HCL8 := Lib.hid HC1.out.2;have wi : ∀ z, z = (i : Int) + 1 → IntKind.i64.wrap z = z := fun z hz => wr64 hz (by omega) (by omega);clear hown hgrow KG;go_wp2_with fail;go_roundw
                    case rel => exact ⟨i + 1, by omega, by go_num, HN8, HO8, Lib.hid ⟨HC8.out, HCL8.out⟩, HB8⟩
                    case measure => simp [intOf]; omega
                   ·obtain rfl : i = t := by omega
                    have t8 : decide ((i : Int) < (i : Int)) = false := decide_eq_false (by omega);obtain ⟨F2, hF2, hG2⟩ := HLG.out;have HG2 : Hid (Inf.dynFin mm ff (Inf.lens L f W F2 a2 (l ++ List.replicate i la)) = rr) := Lib.hid (by have h := HG.out; rw [← hG2] at h; exact h);have HF2 := Lib.hid hF2;have HBD2 : Hid (∀ z ∈ l ++ List.replicate i la, z ≤ 18) := Lib.hid (fun z hz => by
                     rcases List.mem_append.1 hz with q | q
                     ·exact HK.out.1 z q
                     ·rw [List.eq_of_mem_replicate q]; exact hla18)
                    clear hG2 hF2;go_wp2_with fail;go_roundg (W + 1 - M)
                    case measure => have := HKK.out; have := HMN.out; have := HM9.out; omega
                    case rel => exact ⟨a2, _, 0, F2, hbl, H_0, Lib.hid (by rw [HM.out]; exact HRO.out), Lib.hid (StE.good ⟨HC1.out, HG2.out⟩), Lib.hid ⟨HBD2.out, by rw [HM.out]; have := HMN.out; have := HM9.out; omega, by rw [HM.out]; have h1 := HK.out.2.2.1; rw [HN.out] at h1; have := HMN.out; have := HM9.out; have := HF2.out; omega, by rw [HM.out]; simp⟩, HB1⟩
              ·have t2 : ((k : Int) == 16) = false := beq_eq_false_iff_ne.2 (by omega);by_cases hk17 : k = 17
               ·subst hk17;go_wp2_with fail;cases hg : Inf.get L 3 a1 with
                | error c =>
                 obtain rfl := (Inf.get_error hg).1;have HQ := Lib.hid (Inf.fin_err HG.out (Inf.lens_rep HF0.out rfl HNW.out HX.out (Inf.rep_17e hg)));refine (qget_any Q a1 0 3 L x _ H_1.out.bk (by omega) (by omega) hL).mono ?_;rintro r w_20 ⟨hK, hP⟩;rw [if_pos rfl, hg] at hP;obtain ⟨rfl, hB⟩ := hP;have HLR4 := Lib.hid (ownsRow_kept HLR3.out hK (fun k q e => by have := (HLR3.out.lt k q).1; have := HLb.out; omega));have HB2 := Lib.hid (Nat.le_trans HB1.out hK.size);have HC2 := Lib.hid (HC1.out.quiet hK);clear HLR3 HB1 HC1;have HLR3 := HLR4;have HB1 := HB2;have HC1 := HC2;clear HLR4 HB2 HC2;have H_2 := Lib.hid (H_1.out.quiet hK hB);clear H_1;clear hK hB;clear hg;obtain ⟨m9, hm9⟩ : ∃ m9, n + 3 = m9 := ⟨_, rfl⟩;have hm9I : (n : Int) + 3 = (m9 : Int) := by omega
                 have wm9 : ∀ z, z = (m9 : Int) → IntKind.i64.wrap z = z := fun z hz => wr64 hz (by omega) (by omega);have HM9 := Lib.hid hm9;by_cases hov : W < m9
                 ·have t9 : decide ((W : Int) < (m9 : Int)) = true := decide_eq_true (by omega);have n9 : W < m9 := hov;go_wp2_with fail;refine (rfail_any Q a1 1 1 (bs (Bts.allB L)) x _ H_2.out.bk).mono ?_;rintro r w_21 ⟨rfl, hB, hK⟩;have HLR4 := Lib.hid (ownsRow_kept HLR3.out hK (fun k q e => by have := (HLR3.out.lt k q).1; have := HLb.out; omega));have HB2 := Lib.hid (Nat.le_trans HB1.out hK.size);clear HLR3 HB1;have HLR3 := HLR4;have HB1 := HB2;clear HLR4 HB2;rw [show fl 1 1 = 1 from if_neg (by omega)] at hB;have H_3 := Lib.hid (H_2.out.quiet hK hB);clear H_2;clear hK hB;clear t9 n9 hov hm9 hm9I;go_wp2_with fail;go_loopw [11, 15] (fun y z wr => y = (.slice xo n co) ∧ z = .int .i64 0 ∧ Hid (QGo w wr Q (bs (Bts.allB L)) a1 1 x vo vo out) ∧ Hid (wr.ownsRow b0 3 1 (.slice xo n co) n (intsV n (Inf.fn l))) ∧ Hid (b0 ≤ wr.heap.size)) (fun _ _ _ => 0)
                  case atStart => exact ⟨rfl, rfl, H_3, HLR3, HB1⟩
                  case round =>
                   clear H_3 HLR3 HB1;obtain ⟨rfl, rfl, H_0, HLR3, HB1⟩ := hrel;have t8 : decide ((0 : Int) < 3) = true := decide_eq_true (by omega);have n8 : 0 < 3 := by omega
                   go_wp2_with fail;refine (rok_any Q a1 1 (bs (Bts.allB L)) x _ H_0.out.bk).mono ?_;rintro r w9 ⟨rfl, h9⟩;have h9s := h9.symm;clear h9;subst h9s;rw [show decide (1 = 0) = false from decide_eq_false (by omega)];go_wp2_with fail;go_roundg 0
                   case measure => have := HKK.out; omega
                   case rel => exact ⟨a1, l, 1, F, by omega, H_0, Lib.hid (by rw [HN.out]; exact HLR3.out), Lib.hid (StE.bad HQ.out), Lib.hid ⟨HK.out.1, HK.out.2.1, HK.out.2.2.1, by simp⟩, HB1⟩
                 ·have t9 : decide ((W : Int) < (m9 : Int)) = false := decide_eq_false (by omega);have n9 : ¬ W < m9 := hov;go_wp2_with fail;clear t9 n9 hov hm9 hm9I;go_loopw [11, 15] (fun y z wr => y = (.slice xo n co) ∧ z = .int .i64 0 ∧ Hid (QGo w wr Q (bs (Bts.allB L)) a1 1 x vo vo out) ∧ Hid (wr.ownsRow b0 3 1 (.slice xo n co) n (intsV n (Inf.fn l))) ∧ Hid (b0 ≤ wr.heap.size)) (fun _ _ _ => 0)
                  case atStart => exact ⟨rfl, rfl, H_2, HLR3, HB1⟩
                  case round =>
                   clear H_2 HLR3 HB1;obtain ⟨rfl, rfl, H_0, HLR3, HB1⟩ := hrel;have t8 : decide ((0 : Int) < 3) = true := decide_eq_true (by omega);have n8 : 0 < 3 := by omega
                   go_wp2_with fail;refine (rok_any Q a1 1 (bs (Bts.allB L)) x _ H_0.out.bk).mono ?_;rintro r w9 ⟨rfl, h9⟩;have h9s := h9.symm;clear h9;subst h9s;rw [show decide (1 = 0) = false from decide_eq_false (by omega)];go_wp2_with fail;go_roundg 0
                   case measure => have := HKK.out; omega
                   case rel => exact ⟨a1, l, 1, F, by omega, H_0, Lib.hid (by rw [HN.out]; exact HLR3.out), Lib.hid (StE.bad HQ.out), Lib.hid ⟨HK.out.1, HK.out.2.1, HK.out.2.2.1, by simp⟩, HB1⟩
                | ok q =>
                 obtain ⟨y, a2⟩ := q;obtain ⟨z1, z2, z3, z4⟩ := Inf.get_ok hg;have hbl : a2 ≤ 8 * L.length := by omega
                 have hyb : y < 8 := z3;clear z1 z2 z3 z4;have HRP := Lib.hid (Inf.rep_17 (l := l) hg);refine (qget_any Q a1 0 3 L x _ H_1.out.bk (by omega) (by omega) hL).mono ?_;rintro r w_22 ⟨hK, hP⟩;rw [if_pos rfl, hg] at hP;obtain ⟨rfl, hB⟩ := hP;have HLR4 := Lib.hid (ownsRow_kept HLR3.out hK (fun k q e => by have := (HLR3.out.lt k q).1; have := HLb.out; omega));have HB2 := Lib.hid (Nat.le_trans HB1.out hK.size);have HC2 := Lib.hid (HC1.out.quiet hK);clear HLR3 HB1 HC1;have HLR3 := HLR4;have HB1 := HB2;have HC1 := HC2;clear HLR4 HB2 HC2;have H_2 := Lib.hid (H_1.out.quiet hK hB);clear H_1;clear hK hB;obtain ⟨t, ht⟩ : ∃ t, 3 + y = t := ⟨_, rfl⟩;rw [ht] at HRP;have htI : (3 : Int) + (y : Int) = (t : Int) := by omega
                 have htb : 1 ≤ t ∧ t ≤ 138 := by omega
                 have wt : ∀ z, z = (t : Int) → IntKind.i64.wrap z = z := fun z hz => wr64 hz (by omega) (by omega);have h018 : (0 : Nat) ≤ 18 := by omega
                 clear hg ht;obtain ⟨m9, hm9⟩ : ∃ m9, n + t = m9 := ⟨_, rfl⟩;have hm9I : (n : Int) + (t : Int) = (m9 : Int) := by omega
                 have wm9 : ∀ z, z = (m9 : Int) → IntKind.i64.wrap z = z := fun z hz => wr64 hz (by omega) (by omega);have HM9 := Lib.hid hm9;by_cases hov : W < m9
                 ·have t9 : decide ((W : Int) < (m9 : Int)) = true := decide_eq_true (by omega);have n9 : W < m9 := hov;have HQ := Lib.hid (Inf.fin_err HG.out (Inf.lens_over HF0.out rfl HNW.out HX.out HRP.out (by rw [HN.out]; omega)));go_wp2_with fail;refine (rfail_any Q a2 0 1 (bs (Bts.allB L)) x _ H_2.out.bk).mono ?_;rintro r w_23 ⟨rfl, hB, hK⟩;have HLR4 := Lib.hid (ownsRow_kept HLR3.out hK (fun k q e => by have := (HLR3.out.lt k q).1; have := HLb.out; omega));have HB2 := Lib.hid (Nat.le_trans HB1.out hK.size);clear HLR3 HB1;have HLR3 := HLR4;have HB1 := HB2;clear HLR4 HB2;rw [show fl 0 1 = 1 from rfl] at hB;have H_3 := Lib.hid (H_2.out.quiet hK hB);clear H_2;clear hK hB;clear t9 n9 hov hm9 hm9I;go_wp2_with fail;go_loopw [11, 15] (fun y z wr => y = (.slice xo n co) ∧ z = .int .i64 0 ∧ Hid (QGo w wr Q (bs (Bts.allB L)) a2 1 x vo vo out) ∧ Hid (wr.ownsRow b0 3 1 (.slice xo n co) n (intsV n (Inf.fn l))) ∧ Hid (b0 ≤ wr.heap.size)) (fun _ _ _ => 0)
                  case atStart => exact ⟨rfl, rfl, H_3, HLR3, HB1⟩
                  case round =>
                   clear H_3 HLR3 HB1;obtain ⟨rfl, rfl, H_0, HLR3, HB1⟩ := hrel;have t8 : decide ((0 : Int) < (t : Int)) = true := decide_eq_true (by omega);have n8 : 0 < t := by omega
                   go_wp2_with fail;refine (rok_any Q a2 1 (bs (Bts.allB L)) x _ H_0.out.bk).mono ?_;rintro r w9 ⟨rfl, h9⟩;have h9s := h9.symm;clear h9;subst h9s;rw [show decide (1 = 0) = false from decide_eq_false (by omega)];go_wp2_with fail;go_roundg 0
                   case measure => have := HKK.out; omega
                   case rel => exact ⟨a2, l, 1, F, by omega, H_0, Lib.hid (by rw [HN.out]; exact HLR3.out), Lib.hid (StE.bad HQ.out), Lib.hid ⟨HK.out.1, HK.out.2.1, HK.out.2.2.1, by simp⟩, HB1⟩
                 ·have t9 : decide ((W : Int) < (m9 : Int)) = false := decide_eq_false (by omega);have n9 : ¬ W < m9 := hov;have HLG := Lib.hid (Inf.lens_go HF0.out rfl HNW.out HX.out HRP.out (by rw [HN.out]; omega));go_wp2_with fail;clear t9 n9 hm9 hm9I;go_loopw [11, 15] (fun y z wr => ∃ i : Nat, i ≤ t ∧ z = .int .i64 i ∧ Hid (QGo w wr Q (bs (Bts.allB L)) a2 0 x vo vo out) ∧ Hid (wr.ownsRow b0 3 1 y (l ++ List.replicate i 0).length (intsV (l ++ List.replicate i 0).length (Inf.fn (l ++ List.replicate i 0)))) ∧ Hid (Cw wr Q vc f 19 ∧ ∀ C l c, vc = .slice (some ⟨C, 0, none⟩) l c → C < b0) ∧ Hid (b0 ≤ wr.heap.size)) (fun _ z _ => t - (intOf z).toNat)
                  case atStart => exact ⟨0, by omega, rfl, H_2, Lib.hid (by rw [List.replicate_zero, List.append_nil, HN.out]; exact HLR3.out), Lib.hid ⟨HC1.out, HCL.out⟩, HB1⟩
                  case round =>
                   clear H_2 HLR3 HB1 HC1 HCL;obtain ⟨i, hit, rfl, H_0, HLR3, HC1, HB1⟩ := hrel;obtain ⟨M, hM⟩ : ∃ M, (l ++ List.replicate i 0).length = M := ⟨_, rfl⟩;have hMn : M = n + i := by rw [← hM, List.length_append, List.length_replicate, HN.out]
                   have hro := HLR3.out;rw [hM] at hro;obtain ⟨xq, cq, rfl⟩ := lit_row hro;have HRO := Lib.hid hro;have HM := Lib.hid hM;have HMN := Lib.hid hMn;have hMb : M ≤ 400 := by have := HM9.out; omega
                   clear hro hM hMn;by_cases hil : i < t
                   ·have t8 : decide ((i : Int) < (t : Int)) = true := decide_eq_true (by omega);have n8 : i < t := hil;go_wp2_with fail;refine (rok_any Q a2 0 (bs (Bts.allB L)) x _ H_0.out.bk).mono ?_;rintro r w9 ⟨rfl, h9⟩;have h9s := h9.symm;clear h9;subst h9s;rw [show decide (0 = 0) = true from rfl];clear t8 n8;have hzz := HB1.out;go_wp2_with (at_builtin; refine wpList_append_own_at _ rfl _ _ 31 rfl b0 3 i0 (.int .i64 0) 1 8 Tryd.underlying31 hi0 hz0 hz1 hz2 rfl (by decide) _ _ _ rfl (HRO.out.alloc _) ⟨wr.heap.size, 0, none⟩ 1 1 [.int .i64 (0 : Int)] rfl rfl ?c1 ?c6 ?c3 ?c4 ?c5 ?_)
                    case c1 => exact (cell_one_new _ _ _)
                    case c6 => intro u hu; rw [List.mem_singleton.1 hu]; rfl
                    case c3 => unfold maxLen; omega
                    case c4 => omega
                    case c5 => first | omega | (simp; done) | (simp; omega)
                    intro v' w8 hown hgrow _ _;have HO8 : Hid (w8.ownsRow b0 3 1 v' (l ++ List.replicate (i + 1) 0).length (intsV (l ++ List.replicate (i + 1) 0).length (Inf.fn (l ++ List.replicate (i + 1) 0)))) := Lib.hid (by
                     have e1 : l ++ List.replicate (i + 1) 0 = (l ++ List.replicate i 0) ++ [0] := by rw [List.replicate_succ', List.append_assoc]
                     rw [e1, intsV_append, List.length_append, HM.out];exact hown)
                    have KG : Keeps (fun k => (Value.slice xq M cq).ownBlock = some k) wr w8 := (Keeps.alloc (Keeps.refl _ _) _).trans (Keeps.grown hgrow) (fun _ _ q => q);have HN8 := Lib.hid (H_0.out.off KG (fun k q => by have := (HRO.out.lt k q).1; have := HLb.out; omega) (fun q => by have := (HRO.out.lt _ q).1; have := HLb.out; omega) (fun k q e => by have := (HRO.out.lt _ e).1; have := HLb.out.2.2 k q; omega));have HC8 := Lib.hid (HC1.out.1.keep KG (fun C q e => by obtain ⟨l9, c9, q⟩ := q; have := (HRO.out.lt _ e).1; have := HC1.out.2 C l9 c9 q; omega));have HB8 := Lib.hid (Nat.le_trans HB1.out KG.size);have HCL8 := Lib.hid HC1.out.2;have wi : ∀ z, z = (i : Int) + 1 → IntKind.i64.wrap z = z := fun z hz => wr64 hz (by omega) (by omega);clear hown hgrow KG;go_wp2_with fail;go_roundw
                    case rel => exact ⟨i + 1, by omega, by go_num, HN8, HO8, Lib.hid ⟨HC8.out, HCL8.out⟩, HB8⟩
                    case measure => simp [intOf]; omega
                   ·obtain rfl : i = t := by omega
                    have t8 : decide ((i : Int) < (i : Int)) = false := decide_eq_false (by omega);obtain ⟨F2, hF2, hG2⟩ := HLG.out;have HG2 : Hid (Inf.dynFin mm ff (Inf.lens L f W F2 a2 (l ++ List.replicate i 0)) = rr) := Lib.hid (by have h := HG.out; rw [← hG2] at h; exact h);have HF2 := Lib.hid hF2;have HBD2 : Hid (∀ z ∈ l ++ List.replicate i 0, z ≤ 18) := Lib.hid (fun z hz => by
                     rcases List.mem_append.1 hz with q | q
                     ·exact HK.out.1 z q
                     ·rw [List.eq_of_mem_replicate q]; exact h018)
                    clear hG2 hF2;go_wp2_with fail;go_roundg (W + 1 - M)
                    case measure => have := HKK.out; have := HMN.out; have := HM9.out; omega
                    case rel => exact ⟨a2, _, 0, F2, hbl, H_0, Lib.hid (by rw [HM.out]; exact HRO.out), Lib.hid (StE.good ⟨HC1.out, HG2.out⟩), Lib.hid ⟨HBD2.out, by rw [HM.out]; have := HMN.out; have := HM9.out; omega, by rw [HM.out]; have h1 := HK.out.2.2.1; rw [HN.out] at h1; have := HMN.out; have := HM9.out; have := HF2.out; omega, by rw [HM.out]; simp⟩, HB1⟩
               ·have t3 : ((k : Int) == 17) = false := beq_eq_false_iff_ne.2 (by omega);by_cases hk18 : k = 18
                ·subst hk18;go_wp2_with fail;cases hg : Inf.get L 7 a1 with
                 | error c =>
                  obtain rfl := (Inf.get_error hg).1;have HQ := Lib.hid (Inf.fin_err HG.out (Inf.lens_rep HF0.out rfl HNW.out HX.out (Inf.rep_18e hg)));refine (qget_any Q a1 0 7 L x _ H_1.out.bk (by omega) (by omega) hL).mono ?_;rintro r w_24 ⟨hK, hP⟩;rw [if_pos rfl, hg] at hP;obtain ⟨rfl, hB⟩ := hP;have HLR4 := Lib.hid (ownsRow_kept HLR3.out hK (fun k q e => by have := (HLR3.out.lt k q).1; have := HLb.out; omega));have HB2 := Lib.hid (Nat.le_trans HB1.out hK.size);have HC2 := Lib.hid (HC1.out.quiet hK);clear HLR3 HB1 HC1;have HLR3 := HLR4;have HB1 := HB2;have HC1 := HC2;clear HLR4 HB2 HC2;have H_2 := Lib.hid (H_1.out.quiet hK hB);clear H_1;clear hK hB;clear hg;obtain ⟨m9, hm9⟩ : ∃ m9, n + 11 = m9 := ⟨_, rfl⟩;have hm9I : (n : Int) + 11 = (m9 : Int) := by omega
                  have wm9 : ∀ z, z = (m9 : Int) → IntKind.i64.wrap z = z := fun z hz => wr64 hz (by omega) (by omega);have HM9 := Lib.hid hm9;by_cases hov : W < m9
                  ·have t9 : decide ((W : Int) < (m9 : Int)) = true := decide_eq_true (by omega);have n9 : W < m9 := hov;go_wp2_with fail;refine (rfail_any Q a1 1 1 (bs (Bts.allB L)) x _ H_2.out.bk).mono ?_;rintro r w_25 ⟨rfl, hB, hK⟩;have HLR4 := Lib.hid (ownsRow_kept HLR3.out hK (fun k q e => by have := (HLR3.out.lt k q).1; have := HLb.out; omega));have HB2 := Lib.hid (Nat.le_trans HB1.out hK.size);clear HLR3 HB1;have HLR3 := HLR4;have HB1 := HB2;clear HLR4 HB2;rw [show fl 1 1 = 1 from if_neg (by omega)] at hB;have H_3 := Lib.hid (H_2.out.quiet hK hB);clear H_2;clear hK hB;clear t9 n9 hov hm9 hm9I;go_wp2_with fail;go_loopw [11, 15] (fun y z wr => y = (.slice xo n co) ∧ z = .int .i64 0 ∧ Hid (QGo w wr Q (bs (Bts.allB L)) a1 1 x vo vo out) ∧ Hid (wr.ownsRow b0 3 1 (.slice xo n co) n (intsV n (Inf.fn l))) ∧ Hid (b0 ≤ wr.heap.size)) (fun _ _ _ => 0)
                   case atStart => exact ⟨rfl, rfl, H_3, HLR3, HB1⟩
                   case round =>
                    clear H_3 HLR3 HB1;obtain ⟨rfl, rfl, H_0, HLR3, HB1⟩ := hrel;have t8 : decide ((0 : Int) < 11) = true := decide_eq_true (by omega);have n8 : 0 < 11 := by omega
                    go_wp2_with fail;refine (rok_any Q a1 1 (bs (Bts.allB L)) x _ H_0.out.bk).mono ?_;rintro r w9 ⟨rfl, h9⟩;have h9s := h9.symm;clear h9;subst h9s;rw [show decide (1 = 0) = false from decide_eq_false (by omega)];go_wp2_with fail;go_roundg 0
                    case measure => have := HKK.out; omega
                    case rel => exact ⟨a1, l, 1, F, by omega, H_0, Lib.hid (by rw [HN.out]; exact HLR3.out), Lib.hid (StE.bad HQ.out), Lib.hid ⟨HK.out.1, HK.out.2.1, HK.out.2.2.1, by simp⟩, HB1⟩
                  ·have t9 : decide ((W : Int) < (m9 : Int)) = false := decide_eq_false (by omega);have n9 : ¬ W < m9 := hov;go_wp2_with fail;clear t9 n9 hov hm9 hm9I;go_loopw [11, 15] (fun y z wr => y = (.slice xo n co) ∧ z = .int .i64 0 ∧ Hid (QGo w wr Q (bs (Bts.allB L)) a1 1 x vo vo out) ∧ Hid (wr.ownsRow b0 3 1 (.slice xo n co) n (intsV n (Inf.fn l))) ∧ Hid (b0 ≤ wr.heap.size)) (fun _ _ _ => 0)
                   case atStart => exact ⟨rfl, rfl, H_2, HLR3, HB1⟩
                   case round =>
                    clear H_2 HLR3 HB1;obtain ⟨rfl, rfl, H_0, HLR3, HB1⟩ := hrel;have t8 : decide ((0 : Int) < 11) = true := decide_eq_true (by omega);have n8 : 0 < 11 := by omega
                    go_wp2_with fail;refine (rok_any Q a1 1 (bs (Bts.allB L)) x _ H_0.out.bk).mono ?_;rintro r w9 ⟨rfl, h9⟩;have h9s := h9.symm;clear h9;subst h9s;rw [show decide (1 = 0) = false from decide_eq_false (by omega)];go_wp2_with fail;go_roundg 0
                    case measure => have := HKK.out; omega
                    case rel => exact ⟨a1, l, 1, F, by omega, H_0, Lib.hid (by rw [HN.out]; exact HLR3.out), Lib.hid (StE.bad HQ.out), Lib.hid ⟨HK.out.1, HK.out.2.1, HK.out.2.2.1, by simp⟩, HB1⟩
                 | ok q =>
                  obtain ⟨y, a2⟩ := q;obtain ⟨z1, z2, z3, z4⟩ := Inf.get_ok hg;have hbl : a2 ≤ 8 * L.length := by omega
                  have hyb : y < 128 := z3;clear z1 z2 z3 z4;have HRP := Lib.hid (Inf.rep_18 (l := l) hg);refine (qget_any Q a1 0 7 L x _ H_1.out.bk (by omega) (by omega) hL).mono ?_;rintro r w_26 ⟨hK, hP⟩;rw [if_pos rfl, hg] at hP;obtain ⟨rfl, hB⟩ := hP;have HLR4 := Lib.hid (ownsRow_kept HLR3.out hK (fun k q e => by have := (HLR3.out.lt k q).1; have := HLb.out; omega));have HB2 := Lib.hid (Nat.le_trans HB1.out hK.size);have HC2 := Lib.hid (HC1.out.quiet hK);clear HLR3 HB1 HC1;have HLR3 := HLR4;have HB1 := HB2;have HC1 := HC2;clear HLR4 HB2 HC2;have H_2 := Lib.hid (H_1.out.quiet hK hB);clear H_1;clear hK hB;obtain ⟨t, ht⟩ : ∃ t, 11 + y = t := ⟨_, rfl⟩;rw [ht] at HRP;have htI : (11 : Int) + (y : Int) = (t : Int) := by omega
                  have htb : 1 ≤ t ∧ t ≤ 138 := by omega
                  have wt : ∀ z, z = (t : Int) → IntKind.i64.wrap z = z := fun z hz => wr64 hz (by omega) (by omega);have h018 : (0 : Nat) ≤ 18 := by omega
                  clear hg ht;obtain ⟨m9, hm9⟩ : ∃ m9, n + t = m9 := ⟨_, rfl⟩;have hm9I : (n : Int) + (t : Int) = (m9 : Int) := by omega
                  have wm9 : ∀ z, z = (m9 : Int) → IntKind.i64.wrap z = z := fun z hz => wr64 hz (by omega) (by omega);have HM9 := Lib.hid hm9;by_cases hov : W < m9
                  ·have t9 : decide ((W : Int) < (m9 : Int)) = true := decide_eq_true (by omega);have n9 : W < m9 := hov;have HQ := Lib.hid (Inf.fin_err HG.out (Inf.lens_over HF0.out rfl HNW.out HX.out HRP.out (by rw [HN.out]; omega)));go_wp2_with fail;refine (rfail_any Q a2 0 1 (bs (Bts.allB L)) x _ H_2.out.bk).mono ?_;rintro r w_27 ⟨rfl, hB, hK⟩;have HLR4 := Lib.hid (ownsRow_kept HLR3.out hK (fun k q e => by have := (HLR3.out.lt k q).1; have := HLb.out; omega));have HB2 := Lib.hid (Nat.le_trans HB1.out hK.size);clear HLR3 HB1;have HLR3 := HLR4;have HB1 := HB2;clear HLR4 HB2;rw [show fl 0 1 = 1 from rfl] at hB;have H_3 := Lib.hid (H_2.out.quiet hK hB);clear H_2;clear hK hB;clear t9 n9 hov hm9 hm9I;go_wp2_with fail;go_loopw [11, 15] (fun y z wr => y = (.slice xo n co) ∧ z = .int .i64 0 ∧ Hid (QGo w wr Q (bs (Bts.allB L)) a2 1 x vo vo out) ∧ Hid (wr.ownsRow b0 3 1 (.slice xo n co) n (intsV n (Inf.fn l))) ∧ Hid (b0 ≤ wr.heap.size)) (fun _ _ _ => 0)
                   case atStart => exact ⟨rfl, rfl, H_3, HLR3, HB1⟩
                   case round =>
                    clear H_3 HLR3 HB1;obtain ⟨rfl, rfl, H_0, HLR3, HB1⟩ := hrel;have t8 : decide ((0 : Int) < (t : Int)) = true := decide_eq_true (by omega);have n8 : 0 < t := by omega
                    go_wp2_with fail;refine (rok_any Q a2 1 (bs (Bts.allB L)) x _ H_0.out.bk).mono ?_;rintro r w9 ⟨rfl, h9⟩;have h9s := h9.symm;clear h9;subst h9s;rw [show decide (1 = 0) = false from decide_eq_false (by omega)];go_wp2_with fail;go_roundg 0
                    case measure => have := HKK.out; omega
                    case rel => exact ⟨a2, l, 1, F, by omega, H_0, Lib.hid (by rw [HN.out]; exact HLR3.out), Lib.hid (StE.bad HQ.out), Lib.hid ⟨HK.out.1, HK.out.2.1, HK.out.2.2.1, by simp⟩, HB1⟩
                  ·have t9 : decide ((W : Int) < (m9 : Int)) = false := decide_eq_false (by omega);have n9 : ¬ W < m9 := hov;have HLG := Lib.hid (Inf.lens_go HF0.out rfl HNW.out HX.out HRP.out (by rw [HN.out]; omega));go_wp2_with fail;clear t9 n9 hm9 hm9I;go_loopw [11, 15] (fun y z wr => ∃ i : Nat, i ≤ t ∧ z = .int .i64 i ∧ Hid (QGo w wr Q (bs (Bts.allB L)) a2 0 x vo vo out) ∧ Hid (wr.ownsRow b0 3 1 y (l ++ List.replicate i 0).length (intsV (l ++ List.replicate i 0).length (Inf.fn (l ++ List.replicate i 0)))) ∧ Hid (Cw wr Q vc f 19 ∧ ∀ C l c, vc = .slice (some ⟨C, 0, none⟩) l c → C < b0) ∧ Hid (b0 ≤ wr.heap.size)) (fun _ z _ => t - (intOf z).toNat)
                   case atStart => exact ⟨0, by omega, rfl, H_2, Lib.hid (by rw [List.replicate_zero, List.append_nil, HN.out]; exact HLR3.out), Lib.hid ⟨HC1.out, HCL.out⟩, HB1⟩
                   case round =>
                    clear H_2 HLR3 HB1 HC1 HCL;obtain ⟨i, hit, rfl, H_0, HLR3, HC1, HB1⟩ := hrel;obtain ⟨M, hM⟩ : ∃ M, (l ++ List.replicate i 0).length = M := ⟨_, rfl⟩;have hMn : M = n + i := by rw [← hM, List.length_append, List.length_replicate, HN.out]
                    have hro := HLR3.out;rw [hM] at hro;obtain ⟨xq, cq, rfl⟩ := lit_row hro;have HRO := Lib.hid hro;have HM := Lib.hid hM;have HMN := Lib.hid hMn;have hMb : M ≤ 400 := by have := HM9.out; omega
                    clear hro hM hMn;by_cases hil : i < t
                    ·have t8 : decide ((i : Int) < (t : Int)) = true := decide_eq_true (by omega);have n8 : i < t := hil;go_wp2_with fail;refine (rok_any Q a2 0 (bs (Bts.allB L)) x _ H_0.out.bk).mono ?_;rintro r w9 ⟨rfl, h9⟩;have h9s := h9.symm;clear h9;subst h9s;rw [show decide (0 = 0) = true from rfl];clear t8 n8;have hzz := HB1.out;go_wp2_with (at_builtin; refine wpList_append_own_at _ rfl _ _ 31 rfl b0 3 i0 (.int .i64 0) 1 8 Tryd.underlying31 hi0 hz0 hz1 hz2 rfl (by decide) _ _ _ rfl (HRO.out.alloc _) ⟨wr.heap.size, 0, none⟩ 1 1 [.int .i64 (0 : Int)] rfl rfl ?c1 ?c6 ?c3 ?c4 ?c5 ?_)
                     case c1 => exact (cell_one_new _ _ _)
                     case c6 => intro u hu; rw [List.mem_singleton.1 hu]; rfl
                     case c3 => unfold maxLen; omega
                     case c4 => omega
                     case c5 => first | omega | (simp; done) | (simp; omega)
                     intro v' w8 hown hgrow _ _;have HO8 : Hid (w8.ownsRow b0 3 1 v' (l ++ List.replicate (i + 1) 0).length (intsV (l ++ List.replicate (i + 1) 0).length (Inf.fn (l ++ List.replicate (i + 1) 0)))) := Lib.hid (by
                      have e1 : l ++ List.replicate (i + 1) 0 = (l ++ List.replicate i 0) ++ [0] := by rw [List.replicate_succ', List.append_assoc]
                      rw [e1, intsV_append, List.length_append, HM.out];exact hown)
                     have KG : Keeps (fun k => (Value.slice xq M cq).ownBlock = some k) wr w8 := (Keeps.alloc (Keeps.refl _ _) _).trans (Keeps.grown hgrow) (fun _ _ q => q);have HN8 := Lib.hid (H_0.out.off KG (fun k q => by have := (HRO.out.lt k q).1; have := HLb.out; omega) (fun q => by have := (HRO.out.lt _ q).1; have := HLb.out; omega) (fun k q e => by have := (HRO.out.lt _ e).1; have := HLb.out.2.2 k q; omega));have HC8 := Lib.hid (HC1.out.1.keep KG (fun C q e => by obtain ⟨l9, c9, q⟩ := q; have := (HRO.out.lt _ e).1; have := HC1.out.2 C l9 c9 q; omega));have HB8 := Lib.hid (Nat.le_trans HB1.out KG.size);have HCL8 := Lib.hid HC1.out.2;have wi : ∀ z, z = (i : Int) + 1 → IntKind.i64.wrap z = z := fun z hz => wr64 hz (by omega) (by omega);clear hown hgrow KG;go_wp2_with fail;go_roundw
                     case rel => exact ⟨i + 1, by omega, by go_num, HN8, HO8, Lib.hid ⟨HC8.out, HCL8.out⟩, HB8⟩
                     case measure => simp [intOf]; omega
                    ·obtain rfl : i = t := by omega
                     have t8 : decide ((i : Int) < (i : Int)) = false := decide_eq_false (by omega);obtain ⟨F2, hF2, hG2⟩ := HLG.out;have HG2 : Hid (Inf.dynFin mm ff (Inf.lens L f W F2 a2 (l ++ List.replicate i 0)) = rr) := Lib.hid (by have h := HG.out; rw [← hG2] at h; exact h);have HF2 := Lib.hid hF2;have HBD2 : Hid (∀ z ∈ l ++ List.replicate i 0, z ≤ 18) := Lib.hid (fun z hz => by
                      rcases List.mem_append.1 hz with q | q
                      ·exact HK.out.1 z q
                      ·rw [List.eq_of_mem_replicate q]; exact h018)
                     clear hG2 hF2;go_wp2_with fail;go_roundg (W + 1 - M)
                     case measure => have := HKK.out; have := HMN.out; have := HM9.out; omega
                     case rel => exact ⟨a2, _, 0, F2, hbl, H_0, Lib.hid (by rw [HM.out]; exact HRO.out), Lib.hid (StE.good ⟨HC1.out, HG2.out⟩), Lib.hid ⟨HBD2.out, by rw [HM.out]; have := HMN.out; have := HM9.out; omega, by rw [HM.out]; have h1 := HK.out.2.2.1; rw [HN.out] at h1; have := HMN.out; have := HM9.out; have := HF2.out; omega, by rw [HM.out]; simp⟩, HB1⟩
                ·have t4 : ((k : Int) == 18) = false := beq_eq_false_iff_ne.2 (by omega);have HRP := Lib.hid (Inf.rep_else (L := L) (a := a1) (l := l) hk16 hk17 hk18);have hk18b : k ≤ 18 := by omega
                 have htb : 1 ≤ (1 : Nat) ∧ (1 : Nat) ≤ 138 := by omega
                 have hbl : a1 ≤ 8 * L.length := hal2;obtain ⟨m9, hm9⟩ : ∃ m9, n + 1 = m9 := ⟨_, rfl⟩;have hm9I : (n : Int) + 1 = (m9 : Int) := by omega
                 have wm9 : ∀ z, z = (m9 : Int) → IntKind.i64.wrap z = z := fun z hz => wr64 hz (by omega) (by omega);have HM9 := Lib.hid hm9;by_cases hov : W < m9
                 ·have t9 : decide ((W : Int) < (m9 : Int)) = true := decide_eq_true (by omega);have n9 : W < m9 := hov;have HQ := Lib.hid (Inf.fin_err HG.out (Inf.lens_over HF0.out rfl HNW.out HX.out HRP.out (by rw [HN.out]; omega)));go_wp2_with fail;refine (rfail_any Q a1 0 1 (bs (Bts.allB L)) x _ H_1.out.bk).mono ?_;rintro r w_28 ⟨rfl, hB, hK⟩;have HLR4 := Lib.hid (ownsRow_kept HLR3.out hK (fun k q e => by have := (HLR3.out.lt k q).1; have := HLb.out; omega));have HB2 := Lib.hid (Nat.le_trans HB1.out hK.size);clear HLR3 HB1;have HLR3 := HLR4;have HB1 := HB2;clear HLR4 HB2;rw [show fl 0 1 = 1 from rfl] at hB;have H_2 := Lib.hid (H_1.out.quiet hK hB);clear H_1;clear hK hB;clear t9 n9 hov hm9 hm9I;go_wp2_with fail;go_loopw [11, 15] (fun y z wr => y = (.slice xo n co) ∧ z = .int .i64 0 ∧ Hid (QGo w wr Q (bs (Bts.allB L)) a1 1 x vo vo out) ∧ Hid (wr.ownsRow b0 3 1 (.slice xo n co) n (intsV n (Inf.fn l))) ∧ Hid (b0 ≤ wr.heap.size)) (fun _ _ _ => 0)
                  case atStart => exact ⟨rfl, rfl, H_2, HLR3, HB1⟩
                  case round =>
                   clear H_2 HLR3 HB1;obtain ⟨rfl, rfl, H_0, HLR3, HB1⟩ := hrel;have t8 : decide ((0 : Int) < 1) = true := decide_eq_true (by omega);have n8 : 0 < 1 := by omega
                   go_wp2_with fail;refine (rok_any Q a1 1 (bs (Bts.allB L)) x _ H_0.out.bk).mono ?_;rintro r w9 ⟨rfl, h9⟩;have h9s := h9.symm;clear h9;subst h9s;rw [show decide (1 = 0) = false from decide_eq_false (by omega)];go_wp2_with fail;go_roundg 0
                   case measure => have := HKK.out; omega
                   case rel => exact ⟨a1, l, 1, F, by omega, H_0, Lib.hid (by rw [HN.out]; exact HLR3.out), Lib.hid (StE.bad HQ.out), Lib.hid ⟨HK.out.1, HK.out.2.1, HK.out.2.2.1, by simp⟩, HB1⟩
                 ·have t9 : decide ((W : Int) < (m9 : Int)) = false := decide_eq_false (by omega);have n9 : ¬ W < m9 := hov;have HLG := Lib.hid (Inf.lens_go HF0.out rfl HNW.out HX.out HRP.out (by rw [HN.out]; omega));go_wp2_with fail;clear t9 n9 hm9 hm9I;go_loopw [11, 15] (fun y z wr => ∃ i : Nat, i ≤ 1 ∧ z = .int .i64 i ∧ Hid (QGo w wr Q (bs (Bts.allB L)) a1 0 x vo vo out) ∧ Hid (wr.ownsRow b0 3 1 y (l ++ List.replicate i k).length (intsV (l ++ List.replicate i k).length (Inf.fn (l ++ List.replicate i k)))) ∧ Hid (Cw wr Q vc f 19 ∧ ∀ C l c, vc = .slice (some ⟨C, 0, none⟩) l c → C < b0) ∧ Hid (b0 ≤ wr.heap.size)) (fun _ z _ => 1 - (intOf z).toNat)
                  case atStart => exact ⟨0, by omega, rfl, H_1, Lib.hid (by rw [List.replicate_zero, List.append_nil, HN.out]; exact HLR3.out), Lib.hid ⟨HC1.out, HCL.out⟩, HB1⟩
                  case round =>
                   clear H_1 HLR3 HB1 HC1 HCL;obtain ⟨i, hit, rfl, H_0, HLR3, HC1, HB1⟩ := hrel;obtain ⟨M, hM⟩ : ∃ M, (l ++ List.replicate i k).length = M := ⟨_, rfl⟩;have hMn : M = n + i := by rw [← hM, List.length_append, List.length_replicate, HN.out]
                   have hro := HLR3.out;rw [hM] at hro;obtain ⟨xq, cq, rfl⟩ := lit_row hro;have HRO := Lib.hid hro;have HM := Lib.hid hM;have HMN := Lib.hid hMn;have hMb : M ≤ 400 := by have := HM9.out; omega
                   clear hro hM hMn;by_cases hil : i < 1
                   ·have t8 : decide ((i : Int) < 1) = true := decide_eq_true (by omega);have n8 : i < 1 := hil;go_wp2_with fail;refine (rok_any Q a1 0 (bs (Bts.allB L)) x _ H_0.out.bk).mono ?_;rintro r w9 ⟨rfl, h9⟩;have h9s := h9.symm;clear h9;subst h9s;rw [show decide (0 = 0) = true from rfl];clear t8 n8;have hzz := HB1.out;go_wp2_with (at_builtin; refine wpList_append_own_at _ rfl _ _ 31 rfl b0 3 i0 (.int .i64 0) 1 8 Tryd.underlying31 hi0 hz0 hz1 hz2 rfl (by decide) _ _ _ rfl (HRO.out.alloc _) ⟨wr.heap.size, 0, none⟩ 1 1 [.int .i64 (k : Int)] rfl rfl ?c1 ?c6 ?c3 ?c4 ?c5 ?_)
                    case c1 => exact (cell_one_new _ _ _)
                    case c6 => intro u hu; rw [List.mem_singleton.1 hu]; rfl
                    case c3 => unfold maxLen; omega
                    case c4 => omega
                    case c5 => first | omega | (simp; done) | (simp; omega)
                    intro v' w8 hown hgrow _ _;have HO8 : Hid (w8.ownsRow b0 3 1 v' (l ++ List.replicate (i + 1) k).length (intsV (l ++ List.replicate (i + 1) k).length (Inf.fn (l ++ List.replicate (i + 1) k)))) := Lib.hid (by
                     have e1 : l ++ List.replicate (i + 1) k = (l ++ List.replicate i k) ++ [k] := by rw [List.replicate_succ', List.append_assoc]
                     rw [e1, intsV_append, List.length_append, HM.out];exact hown)
                    have KG : Keeps (fun k => (Value.slice xq M cq).ownBlock = some k) wr w8 := (Keeps.alloc (Keeps.refl _ _) _).trans (Keeps.grown hgrow) (fun _ _ q => q);have HN8 := Lib.hid (H_0.out.off KG (fun k q => by have := (HRO.out.lt k q).1; have := HLb.out; omega) (fun q => by have := (HRO.out.lt _ q).1; have := HLb.out; omega) (fun k q e => by have := (HRO.out.lt _ e).1; have := HLb.out.2.2 k q; omega));have HC8 := Lib.hid (HC1.out.1.keep KG (fun C q e => by obtain ⟨l9, c9, q⟩ := q; have := (HRO.out.lt _ e).1; have := HC1.out.2 C l9 c9 q; omega));have HB8 := Lib.hid (Nat.le_trans HB1.out KG.size);have HCL8 := Lib.hid HC1.out.2;have wi : ∀ z, z = (i : Int) + 1 → IntKind.i64.wrap z = z := fun z hz => wr64 hz (by omega) (by omega);clear hown hgrow KG;go_wp2_with fail;go_roundw
                    case rel => exact ⟨i + 1, by omega, by go_num, HN8, HO8, Lib.hid ⟨HC8.out, HCL8.out⟩, HB8⟩
                    case measure => simp [intOf]; omega
                   ·obtain rfl : i = 1 := by omega
                    have t8 : decide ((1 : Int) < 1) = false := rfl;obtain ⟨F2, hF2, hG2⟩ := HLG.out;have HG2 : Hid (Inf.dynFin mm ff (Inf.lens L f W F2 a1 (l ++ List.replicate 1 k)) = rr) := Lib.hid (by have h := HG.out; rw [← hG2] at h; exact h);have HF2 := Lib.hid hF2;have HBD2 : Hid (∀ z ∈ l ++ List.replicate 1 k, z ≤ 18) := Lib.hid (fun z hz => by
                     rcases List.mem_append.1 hz with q | q
                     ·exact HK.out.1 z q
                     ·rw [List.eq_of_mem_replicate q]; exact hk18b)
                    clear hG2 hF2;go_wp2_with fail;go_roundg (W + 1 - M)
                    case measure => have := HKK.out; have := HMN.out; have := HM9.out; omega
                    case rel => exact ⟨a1, _, 0, F2, hbl, H_0, Lib.hid (by rw [HM.out]; exact HRO.out), Lib.hid (StE.good ⟨HC1.out, HG2.out⟩), Lib.hid ⟨HBD2.out, by rw [HM.out]; have := HMN.out; have := HM9.out; omega, by rw [HM.out]; have h1 := HK.out.2.2.1; rw [HN.out] at h1; have := HMN.out; have := HM9.out; have := HF2.out; omega, by rw [HM.out]; simp⟩, HB1⟩
           ·subst he;have HQ := Lib.hid hbad;clear hbad HS;go_wp2_with fail;refine (rok_any Q a 1 (bs (Bts.allB L)) x _ H_0.out.bk).mono ?_;rintro r w9 ⟨rfl, h9⟩;have h9s := h9.symm;clear h9;subst h9s;rw [show decide (1 = 0) = false from decide_eq_false (by omega)];go_wp2_with fail;(try go_wp2_with fail);go_meet
            exact ⟨_, l, a, 1, rfl, hal, H_0, Lib.hid (by rw [HN.out]; exact HLR2.out), Lib.hid HK.out.1, Lib.hid (StE.bad HQ.out)⟩
        case rest =>
         clear H_0;obtain ⟨vl, l, a5, e7, rfl, hal5, H_0, HLR, HBD, HS7⟩ := hcut;clear HS;have HS := HS7;clear HS7;have hff : ff ≤ 32 := hf2;rcases HS.out with ⟨he, hlW, hg⟩ | ⟨he, hbad⟩
         ·subst he;clear HS;have HG := Lib.hid hg;have hro := HLR.out;rw [hlW] at hro;obtain ⟨xo, co, rfl⟩ := lit_row hro;obtain ⟨gb, cp, e1, hcw, hgl⟩ := ownsRow_some hro (by omega);injection e1 with e1 _ e2;subst e1 e2;have HRW := Lib.hid hro;have HLW := Lib.hid hlW;clear hro hg hlW HLR;have hcI : (mm : Int) ≤ (W : Int) := by omega
          have hcI2 : (mm : Int) ≤ (co : Int) := by omega
          have hm0 : (0 : Int) ≤ (mm : Int) := by omega
          have hmt : ((mm : Nat) : Int).toNat = mm := by omega
          have hnf : W - mm = ff := by omega
          have hne : ¬ co = mm := by omega
          go_wp2_with fail;refine (rok_any Q a5 0 (bs (Bts.allB L)) x _ H_0.out.bk).mono ?_;rintro r w9 ⟨rfl, h9⟩;have h9s := h9.symm;clear h9;subst h9s;rw [show decide (0 = 0) = true from rfl];have c5 := H_0.out.bk.cell 5;have c6 := H_0.out.bk.cell 6;simp only [qc] at c5 c6;have f5 := H_0.out.bk.frozen 5;have f6 := H_0.out.bk.frozen 6;go_wp2_with fail;have H5 := H_0.out.set56 (.slice (some ⟨gb, 0, none⟩) mm co) (.slice (some ⟨gb, mm, none⟩) ff (co - mm));have H_1 := Lib.hid H5.1;have HRW2 := Lib.hid (ownsRow_kept HRW.out H5.2 (fun k q e => by have := (HRW.out.lt k q).1; have := HLb.out; omega));clear H5 HRW;have HRW := HRW2;clear HRW2 H_0 c5 c6 f5 f6;by_cases hg1 : Inf.good (Inf.fn (l.take mm)) mm
          ·have HG1 := Lib.hid hg1;refine (qcodes_any Q a5 0 mm co (some ⟨gb, 0, none⟩) (Inf.fn (l.take mm)) (bs (Bts.allB L)) (xset (xset x 5 (.slice (some ⟨gb, 0, none⟩) mm co)) 6 (.slice (some ⟨gb, mm, none⟩) ff (co - mm))) _ H_1.out.bk (ints_take HRW.out HLW.out HBD.out mm (by omega)) (by omega)).mono ?_;rintro r w_29 ⟨hK, hP⟩;rw [if_pos rfl, if_pos hg1] at hP;obtain ⟨vs, rfl, hC, hB, hN⟩ := hP;have HCS := Lib.hid hC;have HNS := Lib.hid (fun C l c q => Nat.le_trans H_1.out.step.keeps.size (hN C l c q));have HRW2 := Lib.hid (ownsRow_kept HRW.out hK (fun k q e => by have := (HRW.out.lt k q).1; have := HLb.out; omega));clear HRW;have HRW := HRW2;clear HRW2;have H_2 := Lib.hid (H_1.out.quiet hK hB);clear H_1;clear hK hB;clear hg1 hC hN;have c6 := H_2.out.bk.cell 6;simp [qc, xset] at c6;go_wp2_with fail;clear c6;by_cases hg2 : Inf.good (Inf.fn (l.drop mm)) ff
           ·have HG2 := Lib.hid hg2;refine (qcodes_any Q a5 0 ff (co - mm) (some ⟨gb, mm, none⟩) (Inf.fn (l.drop mm)) (bs (Bts.allB L)) (xset (xset x 5 (.slice (some ⟨gb, 0, none⟩) mm co)) 6 (.slice (some ⟨gb, mm, none⟩) ff (co - mm))) _ H_2.out.bk (ints_drop HRW.out HLW.out HBD.out mm ff (by omega)) (by omega)).mono ?_;rintro r w_30 ⟨hK, hP⟩;rw [if_pos rfl, if_pos hg2] at hP;obtain ⟨vd, rfl, hC, hB, hN⟩ := hP;have HCD := Lib.hid hC;have HND := Lib.hid (fun C l c q => Nat.le_trans H_2.out.step.keeps.size (hN C l c q));have HCS2 := Lib.hid (HCS.out.quiet hK);clear HCS;have HCS := HCS2;clear HCS2;have HRW2 := Lib.hid (ownsRow_kept HRW.out hK (fun k q e => by have := (HRW.out.lt k q).1; have := HLb.out; omega));clear HRW;have HRW := HRW2;clear HRW2;have H_3 := Lib.hid (H_2.out.quiet hK hB);clear H_2;clear hK hB;clear hg2 hC hN;obtain ⟨z, hz⟩ : ∃ z, l.getD 256 0 = z := ⟨_, rfl⟩;have hlc : w_30.cell? ⟨gb, 256, none⟩ = some (.int .i64 (z : Int)) := by
             rw [HRW.out.cellAt 256 (by omega), intsV_get _ _ 256 (by omega)]; unfold Inf.fn; rw [hz]
            have HZ := Lib.hid hz;have c5 := H_3.out.bk.cell 5;simp [qc, xset] at c5;have h256 : (256 : Int) < (mm : Int) := by omega
            have n256 : 256 < mm := by omega
            clear hz;by_cases hz0 : z = 0
            ·have HQ := Lib.hid (Inf.fin_bad3 HG.out rfl HG1.out HG2.out (HZ.out.trans hz0));have t1 : ((z : Int) == 0) = true := beq_iff_eq.2 (by omega);go_wp2_with fail;refine (rok_any Q a5 0 (bs (Bts.allB L)) (xset (xset x 5 (.slice (some ⟨gb, 0, none⟩) mm co)) 6 (.slice (some ⟨gb, mm, none⟩) ff (co - mm))) _ H_3.out.bk).mono ?_;rintro r w9 ⟨rfl, h9⟩;have h9s := h9.symm;clear h9;subst h9s;rw [show decide (0 = 0) = true from rfl];go_wp2_with fail;refine (rfail_any Q a5 0 1 (bs (Bts.allB L)) (xset (xset x 5 (.slice (some ⟨gb, 0, none⟩) mm co)) 6 (.slice (some ⟨gb, mm, none⟩) ff (co - mm))) _ H_3.out.bk).mono ?_;rintro r w_31 ⟨rfl, hB, hK⟩;rw [show fl 0 1 = 1 from rfl] at hB;have H_4 := Lib.hid (H_3.out.quiet hK hB);clear H_3;clear hK hB;go_wp2_with fail;go_ret2;rw [← HQ.out];exact ⟨_, _, a5, _, rfl, H_4.out, fun i h5 h6 => by simp [xset, h5, h6]⟩
            ·have HQ := Lib.hid (Inf.fin_ok HG.out rfl HG1.out HG2.out (by rw [HZ.out]; exact hz0));have t1 : ((z : Int) == 0) = false := beq_eq_false_iff_ne.2 (by omega);go_wp2_with fail;refine (rok_any Q a5 0 (bs (Bts.allB L)) (xset (xset x 5 (.slice (some ⟨gb, 0, none⟩) mm co)) 6 (.slice (some ⟨gb, mm, none⟩) ff (co - mm))) _ H_3.out.bk).mono ?_;rintro r w9 ⟨rfl, h9⟩;have h9s := h9.symm;clear h9;subst h9s;rw [show decide (0 = 0) = true from rfl];go_wp2_with fail;go_ret2;rw [← HQ.out];have e1 : (l.take mm).length = mm := by rw [List.length_take, HLW.out]; omega
             have e2 : (l.drop mm).length = ff := by rw [List.length_drop, HLW.out]; omega
             have hge : w.heap.size ≤ gb := by have := (HRW.out.lt gb rfl).1; have := HLb.out; omega
             exact ⟨vs, vd, _, ⟨gb, 0, none⟩, co, ⟨gb, mm, none⟩, co - mm, rfl, H_3.out, fun i h5 h6 => by simp [xset, h5, h6], by rw [e1]; exact HCS.out, by rw [e2]; exact HCD.out, HNS.out, HND.out, by rw [e1]; simp [xset], by rw [e2]; simp [xset], by rw [e1]; exact ints_take HRW.out HLW.out HBD.out mm (by omega), by rw [e2]; exact ints_drop HRW.out HLW.out HBD.out mm ff (by omega), hge, hge⟩
           ·have HQ := Lib.hid (Inf.fin_bad2 HG.out rfl HG1.out hg2);refine (qcodes_any Q a5 0 ff (co - mm) (some ⟨gb, mm, none⟩) (Inf.fn (l.drop mm)) (bs (Bts.allB L)) (xset (xset x 5 (.slice (some ⟨gb, 0, none⟩) mm co)) 6 (.slice (some ⟨gb, mm, none⟩) ff (co - mm))) _ H_2.out.bk (ints_drop HRW.out HLW.out HBD.out mm ff (by omega)) (by omega)).mono ?_;rintro r w_32 ⟨hK, hP⟩;rw [if_pos rfl, if_neg hg2] at hP;obtain ⟨rfl, hB⟩ := hP;have HRW2 := Lib.hid (ownsRow_kept HRW.out hK (fun k q e => by have := (HRW.out.lt k q).1; have := HLb.out; omega));clear HRW;have HRW := HRW2;clear HRW2;have H_3 := Lib.hid (H_2.out.quiet hK hB);clear H_2;clear hK hB;clear hg2;go_wp2_with fail;refine (rok_any Q a5 1 (bs (Bts.allB L)) (xset (xset x 5 (.slice (some ⟨gb, 0, none⟩) mm co)) 6 (.slice (some ⟨gb, mm, none⟩) ff (co - mm))) _ H_3.out.bk).mono ?_;rintro r w9 ⟨rfl, h9⟩;have h9s := h9.symm;clear h9;subst h9s;rw [show decide (1 = 0) = false from decide_eq_false (by omega)];go_wp2_with fail;go_ret2;rw [← HQ.out];exact ⟨_, _, a5, _, rfl, H_3.out, fun i h5 h6 => by simp [xset, h5, h6]⟩
          ·have HQ := Lib.hid (Inf.fin_bad1 HG.out rfl hg1);refine (qcodes_any Q a5 0 mm co (some ⟨gb, 0, none⟩) (Inf.fn (l.take mm)) (bs (Bts.allB L)) (xset (xset x 5 (.slice (some ⟨gb, 0, none⟩) mm co)) 6 (.slice (some ⟨gb, mm, none⟩) ff (co - mm))) _ H_1.out.bk (ints_take HRW.out HLW.out HBD.out mm (by omega)) (by omega)).mono ?_;rintro r w_33 ⟨hK, hP⟩;rw [if_pos rfl, if_neg hg1] at hP;obtain ⟨rfl, hB⟩ := hP;have HRW2 := Lib.hid (ownsRow_kept HRW.out hK (fun k q e => by have := (HRW.out.lt k q).1; have := HLb.out; omega));clear HRW;have HRW := HRW2;clear HRW2;have H_2 := Lib.hid (H_1.out.quiet hK hB);clear H_1;clear hK hB;clear hg1;have c6 := H_2.out.bk.cell 6;simp [qc, xset] at c6;go_wp2_with fail;clear c6;refine (qcodes_any Q a5 1 ff (co - mm) (some ⟨gb, mm, none⟩) (Inf.fn (l.drop mm)) (bs (Bts.allB L)) (xset (xset x 5 (.slice (some ⟨gb, 0, none⟩) mm co)) 6 (.slice (some ⟨gb, mm, none⟩) ff (co - mm))) _ H_2.out.bk (ints_drop HRW.out HLW.out HBD.out mm ff (by omega)) (by omega)).mono ?_;rintro r w_34 ⟨hK, hP⟩;rw [if_neg (by omega)] at hP;obtain ⟨rfl, hB⟩ := hP;have HRW2 := Lib.hid (ownsRow_kept HRW.out hK (fun k q e => by have := (HRW.out.lt k q).1; have := HLb.out; omega));clear HRW;have HRW := HRW2;clear HRW2;have H_3 := Lib.hid (H_2.out.quiet hK hB);clear H_2;clear hK hB;go_wp2_with fail;refine (rok_any Q a5 1 (bs (Bts.allB L)) (xset (xset x 5 (.slice (some ⟨gb, 0, none⟩) mm co)) 6 (.slice (some ⟨gb, mm, none⟩) ff (co - mm))) _ H_3.out.bk).mono ?_;rintro r w9 ⟨rfl, h9⟩;have h9s := h9.symm
           clear h9;subst h9s;rw [show decide (1 = 0) = false from decide_eq_false (by omega)];go_wp2_with fail;go_ret2;rw [← HQ.out];exact ⟨_, _, a5, _, rfl, H_3.out, fun i h5 h6 => by simp [xset, h5, h6]⟩
         ·subst he;have HQ := Lib.hid hbad;clear hbad HS;go_wp2_with fail;refine (rok_any Q a5 1 (bs (Bts.allB L)) x _ H_0.out.bk).mono ?_;rintro r w9 ⟨rfl, h9⟩;have h9s := h9.symm;clear h9;subst h9s;rw [show decide (1 = 0) = false from decide_eq_false (by omega)];go_wp2_with fail;go_ret2;rw [← HQ.out];exact ⟨_, _, a5, x, rfl, H_0.out, fun _ _ _ => rfl⟩
end Go.Proofs.YtnhbjgmfbcedaaaDoor
