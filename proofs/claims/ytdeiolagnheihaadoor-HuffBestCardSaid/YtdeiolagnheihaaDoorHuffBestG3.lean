/-
  slices.Clone, Grow, Concat of rows of packs.
  huff.order, cmp.Compare.
  Quiet regions that draw, step by step (as in XRfA; for seats without the reader).
  slices.insertionSortCmpFunc at packs.
  slices.symMergeCmpFunc at packs: a left row of one.
  slices.symMergeCmpFunc at packs: a right row of one.
  slices.swapRangeCmpFunc at packs.
  slices.rotateCmpFunc at packs.
-/
import Derived.Test.YtdeiolagnheihaaDoorHuffBestG1
import Derived.Test.YtdeiolagnheihaaDoorHuffBestG2
import Derived.StillTailTactics
import Derived.StillTactics
import Derived.RegionTactic
import Derived.BigRegion
import Derived.Deep.RegionHeld3
set_option linter.unusedSimpArgs false
set_option linter.unusedVariables false
set_option maxRecDepth 100000
namespace Go.Proofs.YtdeiolagnheihaaDoor
open Go.RowKit
theorem pkinfo : (Tryd.prog.info? 112).map (fun i => (i.zero, i.size, i.bytes)) = some (some (.agg #[.int .i64 0, .slice none 0 0]), 2, 32) := by kernel_rfl
theorem pkL_one : ∀ (l : List Pk), ∀ u ∈ pkL l, u.oneCell' = true
 | [], u, hu => by cases hu
 | p :: l, u, hu => by
  simp only [pkL, List.mem_cons] at hu;rcases hu with rfl | rfl | hu
  ·rfl
  ·rfl
  ·exact pkL_one l u hu
theorem PR.all {w : World} {B : Nat} {l : List Pk} (h : PR w B l) {j : Nat} {u : Value} (hj : (pkL l)[j]? = some u) : w.cell? ⟨B, j, none⟩ = some u := by
 obtain ⟨r, h⟩ := h.bk;rw [h.cell, List.getElem?_toArray, List.getElem?_append_left (List.getElem?_eq_some_iff.1 hj).1];exact hj
/-- a row that the call made: where it lies -/
theorem PR.of_own {w : World} {base : Nat} {v : Value} {l : List Pk} (h : w.ownsRow base 112 2 v l.length (pkL l)) (h0 : 0 < l.length) : ∃ g c, v = .slice (some ⟨g, 0, none⟩) l.length c ∧ base ≤ g ∧ PR w g l ∧ l.length ≤ c := by
 rcases h.2 with ⟨_, q⟩ | ⟨g, cap, cur, hv, hg, hh, hc, hm, hs, ht⟩
 ·omega
 ·refine ⟨g, cap, hv, hg, ⟨cur.toList.drop (l.length * 2), ?_⟩, hc⟩;rw [hh, ← ht, List.take_append_drop, Array.toArray_toList]
theorem grow_nilP (n : Nat) (w : World) (h0 : 0 < n) (hn : n ≤ 100000) :
  Calls Tryd.prog 79 #[.slice none 0 0, .int .i64 (n : Int)] w fun e w' => (∃ c, e = .returned (.slice (some ⟨w.heap.size, 0, none⟩) 0 c) ∧ w'.ownsRow w.heap.size 112 2 (.slice (some ⟨w.heap.size, 0, none⟩) 0 c) 0 []) ∧ Ext w w' := by
 obtain ⟨i0, hi0, hz0, hz1, hz2⟩ := info_parts pkinfo;have n1 : ¬ (n : Int) < 0 := by omega
 have n2 : decide ((0 : Int) < (n : Int)) = true := decide_eq_true (by omega);have wn : ∀ z, z = (n : Int) → IntKind.i64.wrap z = z := by rintro _ rfl; rw [IntKind.wrap_i64]; omega
 go_enter Tryd.func79, Tryd.ntmps79
 go_wp2_with (at_builtin; refine wpList_app_zeros rfl _ _ 110 3 rfl 112 i0 (.agg #[.int .i64 0, .slice none 0 0]) .i64 Tryd.underlying110 Tryd.underlying3 hi0 hz0 (by rw [hz1]; rfl) n rfl rfl h0 (by omega) (by omega) (by omega) ?_);intro C cs hC1 hC2 hcs;have hne : ¬ C = 0 := by omega
 go_wp2_with fail;go_ret;refine ⟨⟨C, rfl, by simp, .inr ⟨w.heap.size, C, cs, rfl, Nat.le_refl _, heap_alloc_new w.drew _, Nat.zero_le _, hC2, by omega, by simp⟩⟩, (show Ext w w.drew from Below.drew (Ext.refl _)).alloc _⟩
def concP (ls : Nat → List Pk) : Nat → List Pk
 | 0 => []
 | m + 1 => concP ls m ++ ls m
theorem concP_mono (ls : Nat → List Pk) (m : Nat) : ∀ d, (concP ls m).length ≤ (concP ls (m + d)).length
 | 0 => Nat.le_refl _
 | d + 1 => by
  have := concP_mono ls m d;show _ ≤ (concP ls (m + d) ++ ls (m + d)).length;rw [List.length_append]; omega
set_option maxHeartbeats 2000000 in
theorem concatP_any (S m c : Nat) (gs cs : Nat → Nat) (ls : Nat → List Pk) (w : World) (hm : 1 ≤ m) (hmm : m ≤ 1000) (hS : ∀ i, i < m → w.cell? ⟨S, i, none⟩ = some (.slice (some ⟨gs i, 0, none⟩) (ls i).length (cs i))) (hr : ∀ i, i < m → 0 < (ls i).length ∧ PR w (gs i) (ls i)) (htot : (concP ls m).length ≤ 100000) :
  Calls Tryd.prog 66 #[.slice (some ⟨S, 0, none⟩) m c] w fun e w' => (∃ v, e = .returned v ∧ w'.ownsRow w.heap.size 112 2 v (concP ls m).length (pkL (concP ls m))) ∧ Ext w w' := by
 obtain ⟨i0, hi0, hz0, hz1, hz2⟩ := info_parts pkinfo;have HS := Lib.hid hS;have HR := Lib.hid hr;have hpos : 0 < (concP ls m).length := by
  have h1 := concP_mono ls 1 (m - 1);rw [show 1 + (m - 1) = m by omega] at h1;have h2 := (hr 0 (by omega)).1;have h3 : (concP ls 1).length = (ls 0).length := by simp [concP]
  omega
 have hle : ∀ i, i ≤ m → (concP ls i).length ≤ 100000 := fun i hi => by
  have := concP_mono ls i (m - i);rw [show i + (m - i) = m by omega] at this;omega
 have HL := Lib.hid hle;clear hS hr hle;go_enter Tryd.func66, Tryd.ntmps66
 go_wp2_with fail;go_loopw [3, 11] (fun z x wr => ∃ i : Nat, i ≤ m ∧ x = .int .i64 i ∧ z = .int .i64 ((concP ls i).length : Int) ∧ wr = w) (fun _ x _ => m - (intOf x).toNat)
 case atStart => exact ⟨0, by omega, rfl, by first | rfl | trivial, by first | rfl | trivial⟩
 case round =>
  obtain ⟨i, hi, rfl, rfl, hw⟩ := hrel;have hw2 := hw.symm;clear hw;subst hw2;by_cases hlt : i < m
  ·have hs := HS.out i hlt;have hb := HL.out (i + 1) (by omega);have e : (concP ls (i + 1)).length = (concP ls i).length + (ls i).length := by simp [concP]
   have wi : ∀ z, z = (i : Int) + 1 → IntKind.i64.wrap z = z := by rintro _ rfl; rw [IntKind.wrap_i64]; omega
   obtain ⟨P, hP⟩ : ∃ P, (concP ls i).length = P := ⟨_, rfl⟩;obtain ⟨Q, hQ⟩ : ∃ Q, (concP ls (i + 1)).length = Q := ⟨_, rfl⟩;have HQ := Lib.hid hQ;rw [hP] at e ⊢;rw [hQ] at e hb;have hPQ : (P : Int) + ((ls i).length : Int) = (Q : Int) := by omega
   have wq : ∀ z, z = (Q : Int) → IntKind.i64.wrap z = z := by rintro _ rfl; rw [IntKind.wrap_i64]; omega
   have hq0 : ¬ (Q : Int) < 0 := by omega
   clear hP hQ e;go_wp2_with fail;go_roundw
   case rel => exact ⟨i + 1, by omega, by go_num, by rw [HQ.out], by first | rfl | trivial⟩
   case measure => simp [intOf]; omega
  ·obtain rfl : i = m := by omega
   obtain ⟨T, hT⟩ : ∃ T, (concP ls i).length = T := ⟨_, rfl⟩;have HT := Lib.hid hT;rw [hT] at hpos htot ⊢;clear hT;go_wp2_with fail;refine (grow_nilP T w hpos htot).mono ?_;rintro e w1 ⟨⟨C, rfl, ho⟩, hX⟩;have HX := Lib.hid hX;have HO : Hid (w1.ownsRow w.heap.size 112 2 (.slice (some ⟨w.heap.size, 0, none⟩) 0 C) (concP ls 0).length (pkL (concP ls 0))) := Lib.hid ho;clear ho hX;go_wp2_with fail;go_loopw [6, 27] (fun z x wz => ∃ k : Nat, k ≤ i ∧ x = .int .i64 k ∧ Hid (wz.ownsRow w.heap.size 112 2 z (concP ls k).length (pkL (concP ls k))) ∧ Hid (Ext w wz)) (fun _ x _ => i - (intOf x).toNat)
   case atStart => exact ⟨0, by omega, rfl, HO, HX⟩
   case round =>
    clear HO HX;obtain ⟨k, hk, rfl, HO, HX⟩ := hrel;by_cases hlt : k < i
    ·have hs := ext_cell HX.out (HS.out k hlt);have HPR := Lib.hid ((HR.out k hlt).2.ext HX.out);have hb := HL.out (k + 1) (by omega);have e : (concP ls (k + 1)).length = (concP ls k).length + (ls k).length := by simp [concP]
     have wi : ∀ z, z = (k : Int) + 1 → IntKind.i64.wrap z = z := by rintro _ rfl; rw [IntKind.wrap_i64]; omega
     obtain ⟨P, hP⟩ : ∃ P, (concP ls k).length = P := ⟨_, rfl⟩;obtain ⟨Q, hQ⟩ : ∃ Q, (concP ls (k + 1)).length = Q := ⟨_, rfl⟩;have HQ := Lib.hid hQ;obtain ⟨N, hN⟩ : ∃ N, (ls k).length = N := ⟨_, rfl⟩;have ho := HO.out;rw [hP] at e ho;rw [hQ] at e hb;rw [hN] at e hs;obtain ⟨xo, co, rfl⟩ := lit_row ho;have HO2 := Lib.hid ho;have HN := Lib.hid hN;have hzz := HX.out.size;have HEq := Lib.hid e;clear hP hQ ho hN HO e;go_wp2_with (at_builtin; refine wpList_append_own_at _ rfl _ _ 110 rfl w.heap.size 112 i0 (.agg #[.int .i64 0, .slice none 0 0]) 2 32 Tryd.underlying110 hi0 hz0 hz1 hz2 rfl (by decide) _ _ _ rfl HO2.out ⟨gs k, 0, none⟩ N (cs k) (pkL (ls k)) rfl ?c1 ?c2 ?c6 ?c3 ?c4 hzz ?_)
     case c1 => rw [pkL_length, HN.out]
     case c2 =>
      intro j u hj;rw [add_plain];exact HPR.out.all hj
     case c6 => exact pkL_one _
     case c3 => have := HEq.out; unfold maxLen; omega
     case c4 => have := HEq.out; omega
     intro v' w2 hown hgrow _ _;have HO3 : Hid (w2.ownsRow w.heap.size 112 2 v' (concP ls (k + 1)).length (pkL (concP ls (k + 1)))) := Lib.hid (by
      rw [HQ.out, HEq.out, show pkL (concP ls (k + 1)) = pkL (concP ls k) ++ pkL (ls k) from pkL_append _ _]; exact hown)
     have HX3 := Lib.hid (Below.trans HX.out ((Keeps.grown hgrow).below hzz (fun q hq e => by have := (HO2.out.lt q e).1; omega)));clear hown hgrow;go_wp2_with fail;go_roundw
     case rel => exact ⟨k + 1, by omega, by go_num, HO3, HX3⟩
     case measure => simp [intOf]; omega
    ·obtain rfl : k = i := by omega
     go_wp2_with fail;go_ret;have h1 := HO.out;rw [HT.out] at h1;first | exact ⟨⟨_, rfl, HO.out⟩, HX.out⟩ | exact ⟨⟨_, rfl, by rw [HT.out]; exact h1⟩, HX.out⟩
theorem cloneP_any (g c : Nat) (l : List Pk) (w : World) (hx : PR w g l) (h0 : 0 < l.length) (hn : l.length ≤ 10000) :
  Calls Tryd.prog 64 #[.slice (some ⟨g, 0, none⟩) l.length c] w fun e w' => (∃ g' c', e = .returned (.slice (some ⟨g', 0, none⟩) l.length c') ∧ PR w' g' l ∧ w.heap.size ≤ g' ∧ l.length ≤ c') ∧ Ext w w' := by
 obtain ⟨i0, hi, hz0, hz1, hz2⟩ := info_parts pkinfo;have HX := Lib.hid hx;have HL := Lib.hid h0;have q22 := fun (w : World) (a : Option Addr) (n c n' c' : Nat) => Lib.run_eql_slice_nil (P := Tryd.prog) w 110 _ a n c n' c' Tryd.underlying110;clear hx;go_enter Tryd.func64, Tryd.ntmps64
 go_wp2_with (at_builtin; refine wpList_append_own_at _ rfl _ _ 110 rfl w.heap.size 112 i0 (.agg #[.int .i64 0, .slice none 0 0]) 2 32 Tryd.underlying110 hi hz0 hz1 hz2 rfl (by decide) _ _ _ rfl (World.ownsRow_made w #[] 0 (Nat.le_refl _) (Nat.zero_le _) rfl) ⟨g, 0, none⟩ l.length c (pkL l) rfl ?qc1 ?qc2 ?qc3 ?qc4 ?qc5 ?qc6 ?_)
 case qc1 => exact pkL_length l
 case qc2 =>
  intro j u hj;rw [add_plain];exact (HX.out.ext ((Ext.refl w).alloc _)).all hj
 case qc3 => exact pkL_one l
 case qc4 => unfold maxLen; omega
 case qc5 => omega
 case qc6 => simp
 intro v' w1 hown hgrow hnil hat;go_wp2_with fail;go_ret;have ho : w1.ownsRow w.heap.size 112 2 v' l.length (pkL l) := by simpa using hown
 obtain ⟨g', c', rfl, hg, hp, hcc⟩ := PR.of_own ho HL.out;refine ⟨⟨g', c', rfl, hp, hg, hcc⟩, ?_⟩;exact ((Below.refl _ w).alloc (Nat.le_refl _) _).grown hgrow (by simp) (by intro k hk; simp [Value.ownBlock] at hk; omega)
end Go.Proofs.YtdeiolagnheihaaDoor
namespace Go.Proofs.YtdeiolagnheihaaDoor
open Go.RowKit
def cmpI (x y : Int) : Int := if x < y then -1 else if y < x then 1 else 0
theorem cmpI_neg (x y : Int) : decide (cmpI x y < 0) = decide (x < y) := by
  unfold cmpI;by_cases h : x < y
  · rw [if_pos h]; simp [h]
  · rw [if_neg h];split <;> simp [h]
theorem isNaN_any (x : Int) (w : World) : Calls Tryd.prog 91 #[.int .i64 x] w fun e w' => e = .returned (.bool false) ∧ w = w' := by
  have t : (x != x) = false := by simp
  go_enter Tryd.func91, Tryd.ntmps91
  go_wp2_with fail;go_ret;exact ⟨rfl, rfl⟩
theorem compare_any (x y : Int) (w : World) : Calls Tryd.prog 77 #[.int .i64 x, .int .i64 y] w fun e w' => e = .returned (.int .i64 (cmpI x y)) ∧ w = w' := by
  unfold cmpI;by_cases h : x < y
  · have t : decide (x < y) = true := decide_eq_true h;rw [if_pos h];clear h;go_enter Tryd.func77, Tryd.ntmps77
    go_wp2_with fail;refine (isNaN_any _ _).mono ?_;rintro e _ ⟨rfl, rfl⟩;go_wp2_with fail;refine (isNaN_any _ _).mono ?_;rintro e _ ⟨rfl, rfl⟩;go_wp2_with fail;go_ret;exact ⟨rfl, rfl⟩
  · have t : decide (x < y) = false := decide_eq_false h;rw [if_neg h];clear h;by_cases h : y < x
    · have t : decide (y < x) = true := decide_eq_true h;rw [if_pos h];clear h;go_enter Tryd.func77, Tryd.ntmps77
      go_wp2_with fail;refine (isNaN_any _ _).mono ?_;rintro e _ ⟨rfl, rfl⟩;go_wp2_with fail;refine (isNaN_any _ _).mono ?_;rintro e _ ⟨rfl, rfl⟩;go_wp2_with fail;go_ret;exact ⟨rfl, rfl⟩
    · have t : decide (y < x) = false := decide_eq_false h;rw [if_neg h];clear h;go_enter Tryd.func77, Tryd.ntmps77
      go_wp2_with fail;refine (isNaN_any _ _).mono ?_;rintro e _ ⟨rfl, rfl⟩;go_wp2_with fail;refine (isNaN_any _ _).mono ?_;rintro e _ ⟨rfl, rfl⟩;go_wp2_with fail;go_ret;exact ⟨rfl, rfl⟩
theorem order_any (c d : Int) (a b : Option Addr) (n m k l : Nat) (w : World) :
    Calls Tryd.prog 63 #[.agg #[.int .i64 c, .slice a n k], .agg #[.int .i64 d, .slice b m l]] w fun e w' => e = .returned (.int .i64 (cmpI c d)) ∧ Ext w w' := by
  go_enter Tryd.func63, Tryd.ntmps63
  go_wp2_with fail;refine (compare_any _ _ _).mono ?_;rintro e _ ⟨rfl, rfl⟩;go_wp2_with fail;go_ret;exact ⟨rfl, ((Ext.refl _).alloc _).alloc _⟩
end Go.Proofs.YtdeiolagnheihaaDoor
namespace Go.Proofs.YtdeiolagnheihaaDoor
open Go.RowKit
/-- a still region, step by step (the kernel alone reckons which operations are wanted) -/
@[irreducible] def wpQ (P : Program) (ops : Array Oper) (w : World) (Q : Act → Prop) (l : List Oper) (a : Act) : Prop := wpStill P ops w Q l a
theorem wpQ_eq {P : Program} {ops : Array Oper} {w : World} {Q : Act → Prop} {l : List Oper} {a : Act} : wpQ P ops w Q l a = wpStill P ops w Q l a := by unfold wpQ; rfl
theorem wpQ_nil {P : Program} {ops : Array Oper} {w : World} {Q : Act → Prop} {a : Act} (h : Q a) : wpQ P ops w Q [] a := by rw [wpQ_eq]; exact h
theorem wpQ_no {P : Program} {ops : Array Oper} {w : World} {Q : Act → Prop} {a : Act} {o : Oper} {rest : List Oper} (hw : Region.wanted o (yielded ops a.tmps) = false) (h : wpQ P ops w Q rest (a.put o.dst undef)) : wpQ P ops w Q (o :: rest) a := by
  rw [wpQ_eq] at h ⊢;unfold wpStill; rw [hw]; exact h
theorem wpQ_yes {P : Program} {ops : Array Oper} {w : World} {Q : Act → Prop} {a : Act} {o : Oper} {rest : List Oper} (hw : Region.wanted o (yielded ops a.tmps) = true)
    (h : ∀ K : Act → Prop, (∀ a, wpQ P ops w Q rest a → K a) → o.still P a w K) : wpQ P ops w Q (o :: rest) a := by
  rw [wpQ_eq];unfold wpStill; rw [hw]; exact h _ (fun _ q => by rw [wpQ_eq] at q; exact q)
theorem wp_regionQ {P : Program} {id : Nat} {Q : Exit → Act → World → Prop} {a : Act} {w : World} {l : List Oper} (hm : P.follows .mixedOrders = true) (hB : Region.lexB .any l.toArray = true)
    (h : wpQ P l.toArray w.drew (fun a' => Q .normal a' w.drew) l a) : (Code.region id l.toArray true).wp P Q a w :=
  wp_region_still_lit hm hB (by rw [wpQ_eq] at h; exact h)
end Go.Proofs.YtdeiolagnheihaaDoor
namespace Go.Proofs.YtdeiolagnheihaaDoor
open Go.RowKit
theorem Srt.mrg_one {S1 S2 : List Pk} {x : Pk} (hS : Srt.Up Pk.key (S1 ++ S2)) (h1 : S1 = [] ∨ ∃ T y, S1 = T ++ [y] ∧ ¬ x.c < y.c) (h2 : ∀ y ∈ S2, x.c < y.c) : Srt.mrg Pk.key (S1 ++ S2) [x] = S1 ++ x :: S2 := by
 have hle : ∀ a ∈ S1, ∀ b ∈ ([] : List Pk), Pk.key a ≤ Pk.key b := by simp
 have key : ∀ a ∈ S1, Pk.key a ≤ Pk.key x := by
  rcases h1 with rfl | ⟨T, y, rfl, h1⟩
  ·simp
  ·intro a ha;rcases List.mem_append.mp ha with q | q
   ·have := (hS.left).over a q y (by simp);unfold Pk.key at this ⊢;omega
   ·rw [List.mem_singleton.mp q]; unfold Pk.key; omega
 have e := Srt.mrg_parts (k := Pk.key) S1 [] S2 [x] (fun a ha b hb => by rw [List.mem_singleton.mp hb]; exact key a ha) (by simp);have e2 : Srt.mrg Pk.key S2 [x] = [x] ++ S2 := Srt.mrg_turned (fun a ha b hb => by rw [List.mem_singleton.mp hb]; have := h2 a ha; unfold Pk.key; omega);rw [Srt.mrg_nil', e2] at e;exact e
set_option maxHeartbeats 4000000 in
theorem insertion_any (B n cap : Nat) (P X Q : List Pk) (a b : Nat) (w : World) (hl : (P ++ X ++ Q).length = n) (hn : n ≤ 1000000) (ha : P.length = a) (hb : (P ++ X).length = b) (h : PR w B (P ++ X ++ Q)) :
  Calls Tryd.prog 89 #[.slice (some ⟨B, 0, none⟩) n cap, .int .i64 (a : Int), .int .i64 (b : Int), .func (.func 63) #[] #[]] w fun e w' => e = .returned (.tuple #[]) ∧ PR w' B (P ++ Srt.srt Pk.key X ++ Q) ∧ One B w w' := by
 have HL := Lib.hid hl;have HR := Lib.hid h;have hbn : b ≤ n := by rw [← hl, ← hb]; simp
 have hab : a ≤ b := by rw [← hb, ← ha]; simp
 have HA := Lib.hid ha;have HB := Lib.hid hb;have w1 : ∀ z, z = ((a + 1 : Nat) : Int) → IntKind.i64.wrap z = z := by intro z hz; rw [IntKind.wrap_i64]; omega
 have HORD := Lib.hid order_any;clear hl h ha hb;go_enter Tryd.func89, Tryd.ntmps89
 go_wp2_with fail;go_loopw [8] (fun c wr => ∃ i : Nat, c = .int .i64 i ∧ Hid (a < i ∧ (i ≤ b ∨ i = a + 1) ∧ (X = [] ∧ PR wr B (P ++ X ++ Q) ∨ ∃ Y Z, X = Y ++ Z ∧ a + Y.length = i ∧ PR wr B (P ++ Srt.srt Pk.key Y ++ (Z ++ Q)))) ∧ Hid (One B w wr)) (fun c _ => b + 1 - (intOf c).toNat)
 case atStart =>
  refine ⟨a + 1, by simp, Lib.hid ⟨by omega, .inr rfl, ?_⟩, Lib.hid (One.refl _ _)⟩;cases X with
  | nil => exact .inl ⟨rfl, HR.out⟩
  | cons x X => exact .inr ⟨[x], X, rfl, rfl, by rw [Srt.srt_one]; simpa using HR.out⟩
 case round =>
  obtain ⟨i, rfl, HI, HO⟩ := hrel;by_cases hlt : i < b
  ·have t0 : decide ((i : Int) < (b : Int)) = true := decide_eq_true (by omega);obtain ⟨hai, _, hX⟩ := HI.out;have hX2 : ∃ Y x Z, X = Y ++ x :: Z ∧ a + Y.length = i ∧ PR wr B (P ++ Srt.srt Pk.key Y ++ (x :: Z ++ Q)) := by
    rcases hX with ⟨rfl, _⟩ | ⟨Y, Z, rfl, e, hp⟩
    ·have := HB.out; have := HA.out; simp at *; omega
    ·cases Z with
     | nil => have := HB.out; have := HA.out; simp at *; omega
     | cons x Z => exact ⟨Y, x, Z, rfl, e, hp⟩
   obtain ⟨Y, x, Z, hXY, hY, hp⟩ := hX2;have HP := Lib.hid hp;have HY := Lib.hid (show a + (Srt.srt Pk.key Y).length = i by rw [Srt.srt_length]; exact hY);have HXY := Lib.hid hXY;have HY2 := Lib.hid hY;have HU := Lib.hid (Srt.srt_up (k := Pk.key) Y);have HN1 : Hid (Srt.srt Pk.key (Y ++ [x]) = Srt.mrg Pk.key (Srt.srt Pk.key Y) [x]) := Lib.hid (Srt.srt_snoc Y x);generalize Srt.srt Pk.key Y = S at *;clear hX hp hXY hY HI;go_wp2_with fail;go_loopw [9] (fun c wr => ∃ j : Nat, c = .int .i64 j ∧ Hid (∃ S1 S2, S = S1 ++ S2 ∧ a + S1.length = j ∧ PR wr B (P ++ S1 ++ x :: (S2 ++ (Z ++ Q))) ∧ ∀ y ∈ S2, x.c < y.c) ∧ Hid (One B w wr)) (fun c _ => (intOf c).toNat)
   case atStart => exact ⟨i, rfl, Lib.hid ⟨S, [], by simp, HY.out, by simpa using HP.out, by simp⟩, HO⟩
   case round =>
    obtain ⟨j, rfl, HJ, HO2⟩ := hrel;obtain ⟨S1, S2, hS, hj, hp, hgt⟩ := HJ.out;clear HJ;by_cases hja : a < j
    ·have t1 : decide ((a : Int) < (j : Int)) = true := decide_eq_true (by omega);have hS1 : ∃ T y, S1 = T ++ [y] := by
      rcases List.eq_nil_or_concat S1 with q | ⟨T, y, q⟩
      ·subst q; simp at hj; omega
      ·exact ⟨T, y, by rw [q, List.concat_eq_append]⟩
     obtain ⟨T, y, rfl⟩ := hS1;obtain ⟨J, hJ⟩ : ∃ J, (P ++ T).length = J := ⟨_, rfl⟩;have hjJ : j = J + 1 := by have := HA.out; simp at hj hJ; omega
     have hp2 : PR wr B ((P ++ T) ++ y :: x :: (S2 ++ (Z ++ Q))) := by simpa using hp
     have hJn : J + 1 < n := by
      have h1 := HL.out; have h2 := HXY.out; have h3 := HB.out; have h4 := HY2.out; have h5 := HA.out;have h6 := HY.out;subst h2;simp [hS] at h1 h3 h6 hJ hj ⊢;omega
     have lJ : J < n := by omega
     have lj : j < n := by omega
     have gJ : (0 : Int) ≤ (J : Int) := by omega
     have eJ : (j : Int) - 1 = (J : Int) := by omega
     have wJ : ∀ z, z = (J : Int) → IntKind.i64.wrap z = z := by intro z hz; rw [IntKind.wrap_i64]; omega
     obtain ⟨k2, k3, k4, k5, hw⟩ := hp2.adjD hJ;rw [← hjJ] at k4 k5 hw;have HjJ := Lib.hid hjJ;clear hJn;have HW := Lib.hid hw;have HP2 := Lib.hid hp2;have HS := Lib.hid hS;have HG := Lib.hid hgt;have HJ := Lib.hid hJ;have hBl := hp2.lt;have fz := hp2.frozen;clear hp hp2 hw hS hgt hj hJ hjJ;by_cases hc : x.c < y.c
     ·have t2 : decide (cmpI (x.c : Int) (y.c : Int) < 0) = true := by rw [cmpI_neg]; exact decide_eq_true (by omega)
      have HC := Lib.hid hc;clear hc;go_wp2_with fail;go_region_held3 (fun w' => Ext wr w' ∧ w'.cell? ⟨B, J * 2, none⟩ = some (.int .i64 (y.c : Int)) ∧ w'.cell? ⟨B, J * 2 + 1, none⟩ = some (.slice y.a y.n y.k) ∧ w'.cell? ⟨B, j * 2, none⟩ = some (.int .i64 (x.c : Int)) ∧ w'.cell? ⟨B, j * 2 + 1, none⟩ = some (.slice x.a x.n x.k)) (first | exact ⟨Below.drew (Ext.refl wr), k2, k3, k4, k5⟩ | go_keep | exact ⟨Ext.trans (by first | assumption | exact Below.drew (Ext.refl _)) hx, (hx.cell (p := ⟨B, J * 2, none⟩) (Nat.lt_of_lt_of_le hBl (show Ext wr _ from by first | assumption | exact Below.drew (Ext.refl _)).size)).trans (by assumption), (hx.cell (p := ⟨B, J * 2 + 1, none⟩) (Nat.lt_of_lt_of_le hBl (show Ext wr _ from by first | assumption | exact Below.drew (Ext.refl _)).size)).trans (by assumption), (hx.cell (p := ⟨B, j * 2, none⟩) (Nat.lt_of_lt_of_le hBl (show Ext wr _ from by first | assumption | exact Below.drew (Ext.refl _)).size)).trans (by assumption), (hx.cell (p := ⟨B, j * 2 + 1, none⟩) (Nat.lt_of_lt_of_le hBl (show Ext wr _ from by first | assumption | exact Below.drew (Ext.refl _)).size)).trans (by assumption)⟩)
       ((go_at_call 63; refine (HORD.out _ _ _ _ _ _ _ _ _).mono ?_; rintro e w' ⟨rfl, hx⟩))
      all_goals
       rename_i hS;clear k2 k3 k4 k5 fz HW;obtain ⟨k2, k3, k4, k5, hw⟩ := (HP2.out.ext hS.1).adjD HJ.out;rw [← HjJ.out] at k4 k5 hw;have fz := (HP2.out.ext hS.1).frozen;have HW := Lib.hid hw;have HO3 := Lib.hid (HO2.out.trans (One.of_ext hS.1));clear hw hS;go_wp2_with fail;go_region;go_wp2_with fail;go_roundw
       case rel => exact ⟨J, by go_num, Lib.hid ⟨T, y :: S2, by rw [HS.out]; simp, by have := HJ.out; have := HA.out; simp at *; omega, by have := HW.out.drew; simpa using this, fun z hz => by rcases List.mem_cons.mp hz with rfl | q; exact HC.out; exact HG.out z q⟩, Lib.hid (HO3.out.four _ _ _ _ _ _ _ _).drew⟩
       case measure => have := HjJ.out; simp [intOf]; omega
     ·have t2 : decide (cmpI (x.c : Int) (y.c : Int) < 0) = false := by rw [cmpI_neg]; exact decide_eq_false (by omega)
      have HC := Lib.hid hc;clear hc;go_wp2_with fail;go_region_held3 (fun w' => Ext wr w' ∧ w'.cell? ⟨B, J * 2, none⟩ = some (.int .i64 (y.c : Int)) ∧ w'.cell? ⟨B, J * 2 + 1, none⟩ = some (.slice y.a y.n y.k) ∧ w'.cell? ⟨B, j * 2, none⟩ = some (.int .i64 (x.c : Int)) ∧ w'.cell? ⟨B, j * 2 + 1, none⟩ = some (.slice x.a x.n x.k)) (first | exact ⟨Below.drew (Ext.refl wr), k2, k3, k4, k5⟩ | go_keep | exact ⟨Ext.trans (by first | assumption | exact Below.drew (Ext.refl _)) hx, (hx.cell (p := ⟨B, J * 2, none⟩) (Nat.lt_of_lt_of_le hBl (show Ext wr _ from by first | assumption | exact Below.drew (Ext.refl _)).size)).trans (by assumption), (hx.cell (p := ⟨B, J * 2 + 1, none⟩) (Nat.lt_of_lt_of_le hBl (show Ext wr _ from by first | assumption | exact Below.drew (Ext.refl _)).size)).trans (by assumption), (hx.cell (p := ⟨B, j * 2, none⟩) (Nat.lt_of_lt_of_le hBl (show Ext wr _ from by first | assumption | exact Below.drew (Ext.refl _)).size)).trans (by assumption), (hx.cell (p := ⟨B, j * 2 + 1, none⟩) (Nat.lt_of_lt_of_le hBl (show Ext wr _ from by first | assumption | exact Below.drew (Ext.refl _)).size)).trans (by assumption)⟩)
       ((go_at_call 63; refine (HORD.out _ _ _ _ _ _ _ _ _).mono ?_; rintro e w' ⟨rfl, hx⟩))
      all_goals
       rename_i hS;clear k2 k3 k4 k5 fz HW;have HP3 := Lib.hid (HP2.out.ext hS.1);have HO3 := Lib.hid (HO2.out.trans (One.of_ext hS.1));clear hS;go_wp2_with fail;refine ⟨⟨i + 1, by simp, Lib.hid ⟨by omega, .inl (by omega), .inr ⟨Y ++ [x], Z, by rw [HXY.out]; simp, by have := HY2.out; simp; omega, ?_⟩⟩, HO3⟩, by simp [intOf]; omega⟩;rw [HN1.out, HS.out, Srt.mrg_one (by rw [← HS.out]; exact HU.out) (.inr ⟨T, y, rfl, HC.out⟩) HG.out];simpa using HP3.out
    ·have t1 : decide ((a : Int) < (j : Int)) = false := decide_eq_false (by omega);go_wp2_with fail;refine wp_regionQ (by kernel_rfl) (by kernel_rfl) ?_;refine wpQ_yes (by kernel_rfl) (fun K hK => ?_);go_simp;refine hK _ ?_;clear hK K;refine wpQ_yes (by kernel_rfl) (fun K hK => ?_);go_simp;refine hK _ ?_;clear hK K;refine wpQ_yes (by kernel_rfl) (fun K hK => ?_);go_simp;refine hK _ ?_;clear hK K;refine wpQ_yes (by kernel_rfl) (fun K hK => ?_);go_simp;refine hK _ ?_;clear hK K;refine wpQ_no (by kernel_rfl) ?_;(try simp only [Act.put, xa, xb, xc, xd, xe, xf]);refine wpQ_no (by kernel_rfl) ?_;(try simp only [Act.put, xa, xb, xc, xd, xe, xf]);refine wpQ_no (by kernel_rfl) ?_;(try simp only [Act.put, xa, xb, xc, xd, xe, xf]);refine wpQ_no (by kernel_rfl) ?_;(try simp only [Act.put, xa, xb, xc, xd, xe, xf]);refine wpQ_no (by kernel_rfl) ?_;(try simp only [Act.put, xa, xb, xc, xd, xe, xf]);refine wpQ_no (by kernel_rfl) ?_;(try simp only [Act.put, xa, xb, xc, xd, xe, xf]);refine wpQ_no (by kernel_rfl) ?_;(try simp only [Act.put, xa, xb, xc, xd, xe, xf]);refine wpQ_no (by kernel_rfl) ?_;(try simp only [Act.put, xa, xb, xc, xd, xe, xf]);refine wpQ_no (by kernel_rfl) ?_;(try simp only [Act.put, xa, xb, xc, xd, xe, xf]);refine wpQ_no (by kernel_rfl) ?_;(try simp only [Act.put, xa, xb, xc, xd, xe, xf]);refine wpQ_no (by kernel_rfl) ?_;(try simp only [Act.put, xa, xb, xc, xd, xe, xf]);refine wpQ_no (by kernel_rfl) ?_;(try simp only [Act.put, xa, xb, xc, xd, xe, xf]);refine wpQ_yes (by kernel_rfl) (fun K hK => ?_)
     go_simp;refine hK _ ?_;clear hK K;refine wpQ_nil ?_;have HP3 := Lib.hid hp.drew;have HO3 := Lib.hid HO2.out.drew;have HS := Lib.hid hS;have HG := Lib.hid hgt;have HJ := Lib.hid hj;clear hp hS hgt hj;go_wp2_with fail;refine ⟨⟨i + 1, by simp, Lib.hid ⟨by omega, .inl (by omega), .inr ⟨Y ++ [x], Z, by rw [HXY.out]; simp, by have := HY2.out; simp; omega, ?_⟩⟩, HO3⟩, by simp [intOf]; omega⟩;have h1 : S1 = [] := List.eq_nil_of_length_eq_zero (by have := HJ.out; omega);rw [HN1.out, HS.out, Srt.mrg_one (by rw [← HS.out]; exact HU.out) (.inl h1) HG.out];simpa using HP3.out
  ·have t0 : decide ((i : Int) < (b : Int)) = false := decide_eq_false (by omega);go_wp2_with fail;go_end0;refine ⟨rfl, ?_, HO.out⟩;obtain ⟨hai, hib, hX⟩ := HI.out;have h1 := HA.out;have h2 := HB.out;rcases hX with ⟨rfl, hp⟩ | ⟨Y, Z, rfl, hY, hp⟩
   ·simpa [Srt.srt] using hp
   ·have hZ : Z = [] := List.eq_nil_of_length_eq_zero (by simp at h2; omega);subst hZ;simpa using hp
end Go.Proofs.YtdeiolagnheihaaDoor
namespace Go.Proofs.YtdeiolagnheihaaDoor
open Go.RowKit
theorem PR.get {w : World} {B : Nat} {l : List Pk} (h : PR w B l) {i : Nat} {x : Pk} (hx : l[i]? = some x) : w.cell? ⟨B, i * 2, none⟩ = some (.int .i64 (x.c : Int)) ∧ w.cell? ⟨B, i * 2 + 1, none⟩ = some (.slice x.a x.n x.k) := by
 obtain ⟨hi, e⟩ := List.getElem?_eq_some_iff.1 hx;rw [← e];exact h.at hi
theorem get_mid (P L Q : List Pk) (i : Nat) (h : i < L.length) : (P ++ (L ++ Q))[P.length + i]? = L[i]? := by
 rw [List.getElem?_append_right (by omega), show P.length + i - P.length = i by omega, List.getElem?_append_left h]
/-- where one goes among many, ahead of its likes -/
theorem Srt.one_mrg {R : List Pk} {x : Pk} {p : Nat} (hR : Srt.Up Pk.key R) (hp : p ≤ R.length) (h1 : p = 0 ∨ ∃ y, R[p - 1]? = some y ∧ y.c < x.c) (h2 : p = R.length ∨ ∃ y, R[p]? = some y ∧ ¬ y.c < x.c) : Srt.mrg Pk.key [x] R = R.take p ++ x :: R.drop p := by
 have hlo : ∀ y ∈ R.take p, y.c < x.c := by
  rcases h1 with rfl | ⟨z, hz, hzx⟩
  ·simp
  ·intro y hy;obtain ⟨i, hi, rfl⟩ := List.mem_iff_getElem.1 hy;obtain ⟨hi2, hz2⟩ := List.getElem?_eq_some_iff.1 hz;rw [List.getElem_take];simp at hi;rcases Nat.lt_or_ge i (p - 1) with q | q
   ·have := List.pairwise_iff_getElem.1 hR i (p - 1) (by omega) hi2 q;rw [hz2] at this;unfold Pk.key at this;omega
   ·have : i = p - 1 := by omega
    subst this;rw [hz2]; exact hzx
 have hhi : ∀ y ∈ R.drop p, ¬ y.c < x.c := by
  rcases h2 with h2 | ⟨z, hz, hzx⟩
  ·rw [List.drop_eq_nil_of_le (by omega)]; simp
  ·intro y hy;obtain ⟨i, hi, rfl⟩ := List.mem_iff_getElem.1 hy;obtain ⟨hi2, hz2⟩ := List.getElem?_eq_some_iff.1 hz;rw [List.getElem_drop];simp at hi;rcases Nat.eq_zero_or_pos i with q | q
   ·subst q; simp only [Nat.add_zero]; rw [hz2]; exact hzx
   ·have := List.pairwise_iff_getElem.1 hR p (p + i) hi2 (by omega) (by omega);rw [hz2] at this;unfold Pk.key at this;omega
 have e := Srt.mrg_parts (k := Pk.key) [] (R.take p) [x] (R.drop p) (by simp) (fun a ha b hb => by rw [List.mem_singleton.1 ha]; have := hlo b hb; unfold Pk.key; omega);rw [Srt.mrg_nil, List.take_append_drop, List.nil_append] at e;rw [e, Srt.mrg_done (l := [x]) (fun a ha b hb => by rw [List.mem_singleton.1 ha]; have := hhi b hb; unfold Pk.key; omega)];rfl
set_option maxHeartbeats 4000000 in
theorem symOne_any (B n cap : Nat) (P R Q : List Pk) (x : Pk) (a m b : Nat) (w : World) (hl : (P ++ x :: (R ++ Q)).length = n) (hn : n ≤ 1000000) (ha : P.length = a) (hm : a + 1 = m) (hb : m + R.length = b) (hR : Srt.Up Pk.key R) (h : PR w B (P ++ x :: (R ++ Q))) :
  Calls Tryd.prog 90 #[.slice (some ⟨B, 0, none⟩) n cap, .int .i64 (a : Int), .int .i64 (m : Int), .int .i64 (b : Int), .func (.func 63) #[] #[]] w fun e w' => e = .returned (.tuple #[]) ∧ PR w' B (P ++ (Srt.mrg Pk.key [x] R ++ Q)) ∧ One B w w' := by
 have HL := Lib.hid hl;have HPR := Lib.hid h;have HRU := Lib.hid hR;have hbn : b ≤ n := by simp at hl; omega
 have e1 : (m : Int) - (a : Int) = 1 := by omega
 have HA := Lib.hid ha;have HB := Lib.hid hb;have HM := Lib.hid hm;have hmb : m ≤ b := by omega
 have HORD := Lib.hid order_any;have gax : ((P ++ x :: (R ++ Q))[a]?) = some x := by rw [← ha]; simp
 have HGA := Lib.hid gax;have han : a < n := by omega
 clear hl h hR ha hb hm gax;go_enter Tryd.func90, Tryd.ntmps90
 go_wp2_with fail;go_loopw [10, 11] (fun c d wr => ∃ i j : Nat, c = .int .i64 i ∧ d = .int .i64 j ∧ Hid (∃ p q, i = m + p ∧ j = m + q ∧ p ≤ q ∧ q ≤ R.length ∧ (p = 0 ∨ ∃ y, R[p - 1]? = some y ∧ y.c < x.c) ∧ (q = R.length ∨ ∃ y, R[q]? = some y ∧ ¬ y.c < x.c)) ∧ Hid (Ext w wr)) (fun c d _ => (intOf d).toNat - (intOf c).toNat)
 case atStart => exact ⟨m, b, rfl, rfl, Lib.hid ⟨0, R.length, rfl, HB.out.symm, by omega, by omega, .inl rfl, .inl rfl⟩, Lib.hid (Ext.refl _)⟩
 case round =>
  obtain ⟨i, j, rfl, rfl, HI, HX⟩ := hrel;by_cases hij : i < j
  ·have t0 : decide ((i : Int) < (j : Int)) = true := decide_eq_true (by omega);obtain ⟨p, q, rfl, rfl, hpq, hq, h1, h2⟩ := HI.out;have HH1 := Lib.hid h1;have HH2 := Lib.hid h2;clear h1 h2;have hjb : m + q ≤ b := by have := HB.out; omega
   obtain ⟨i, hi⟩ : ∃ i, m + p = i := ⟨_, rfl⟩;obtain ⟨j, hj⟩ : ∃ j, m + q = j := ⟨_, rfl⟩;obtain ⟨s, hs⟩ : ∃ s, i + j = s := ⟨_, rfl⟩;obtain ⟨g, hg⟩ : ∃ g, s / 2 = g := ⟨_, rfl⟩;obtain ⟨u, hu⟩ : ∃ u, g - m = u := ⟨_, rfl⟩;rw [hi, hj] at hij t0 ⊢;have hgm : m ≤ g := by omega
   have hur : u < R.length := by omega
   obtain ⟨y, hy⟩ : ∃ y, R[u]? = some y := ⟨_, List.getElem?_eq_getElem hur⟩;have hrow : (P ++ x :: (R ++ Q))[g]? = some y := by
    have := get_mid (P ++ [x]) R Q u hur;rw [show (P ++ [x]).length + u = g by have := HA.out; have := HM.out; simp; omega, hy] at this;simpa using this
   have hp := HPR.out.ext HX.out;obtain ⟨k2, k3⟩ := hp.get hrow;obtain ⟨k4, k5⟩ := hp.get HGA.out;have hBl := hp.lt;have e2 : (i : Int) + (j : Int) = (s : Int) := by omega
   have e3 : (s : Int) / 2 = (g : Int) := by omega
   have lg : g < n := by omega
   have ws : ∀ z, z = (s : Int) → IntKind.i64.wrap z = z := by intro z hz; rw [IntKind.wrap_i64]; omega
   have wsu : ∀ z, z = (s : Int) → IntKind.u64.wrap z = z := by intro z hz; rw [IntKind.wrap_u64]; omega
   have wg : ∀ z, z = (g : Int) → IntKind.i64.wrap z = z := by intro z hz; rw [IntKind.wrap_i64]; omega
   have HHY := Lib.hid hy;have HF := Lib.hid (And.intro hi (And.intro hj (And.intro hs (And.intro hg (And.intro hu (And.intro hpq hq))))));have HP := Lib.hid hp;clear hp hrow hi hj hs hg hu hy hpq hq hur HI;by_cases hc : y.c < x.c
   ·have t2 : decide (cmpI (y.c : Int) (x.c : Int) < 0) = true := by rw [cmpI_neg]; exact decide_eq_true (by omega)
    have HC := Lib.hid hc;clear hc;go_wp2_with fail;go_region_held3 (fun w' => Ext wr w' ∧ w'.cell? ⟨B, g * 2, none⟩ = some (.int .i64 (y.c : Int)) ∧ w'.cell? ⟨B, g * 2 + 1, none⟩ = some (.slice y.a y.n y.k) ∧ w'.cell? ⟨B, a * 2, none⟩ = some (.int .i64 (x.c : Int)) ∧ w'.cell? ⟨B, a * 2 + 1, none⟩ = some (.slice x.a x.n x.k)) (first | exact ⟨Below.drew (Ext.refl wr), k2, k3, k4, k5⟩ | go_keep | exact ⟨Ext.trans (by first | assumption | exact Below.drew (Ext.refl _)) hx, (hx.cell (p := ⟨B, g * 2, none⟩) (Nat.lt_of_lt_of_le hBl (show Ext wr _ from by first | assumption | exact Below.drew (Ext.refl _)).size)).trans (by assumption), (hx.cell (p := ⟨B, g * 2 + 1, none⟩) (Nat.lt_of_lt_of_le hBl (show Ext wr _ from by first | assumption | exact Below.drew (Ext.refl _)).size)).trans (by assumption), (hx.cell (p := ⟨B, a * 2, none⟩) (Nat.lt_of_lt_of_le hBl (show Ext wr _ from by first | assumption | exact Below.drew (Ext.refl _)).size)).trans (by assumption), (hx.cell (p := ⟨B, a * 2 + 1, none⟩) (Nat.lt_of_lt_of_le hBl (show Ext wr _ from by first | assumption | exact Below.drew (Ext.refl _)).size)).trans (by assumption)⟩)
     ((go_at_call 63; refine (HORD.out _ _ _ _ _ _ _ _ _).mono ?_; rintro e w' ⟨rfl, hx⟩))
    all_goals
     rename_i hS;have HX2 := Lib.hid (HX.out.trans hS.1);clear k2 k3 k4 k5 hS;have w5 : ∀ z, z = ((g + 1 : Nat) : Int) → IntKind.i64.wrap z = z := by intro z hz; rw [IntKind.wrap_i64]; omega
     go_wp2_with fail;obtain ⟨hi, hj, hs, hg, hu, hpq, hq⟩ := HF.out;refine ⟨⟨g + 1, j, by simp, rfl, Lib.hid ⟨u + 1, q, by omega, by omega, by omega, hq, .inr ⟨y, HHY.out, HC.out⟩, HH2.out⟩, HX2⟩, by simp [intOf]; omega⟩
   ·have t2 : decide (cmpI (y.c : Int) (x.c : Int) < 0) = false := by rw [cmpI_neg]; exact decide_eq_false (by omega)
    have HC := Lib.hid hc;clear hc;go_wp2_with fail;go_region_held3 (fun w' => Ext wr w' ∧ w'.cell? ⟨B, g * 2, none⟩ = some (.int .i64 (y.c : Int)) ∧ w'.cell? ⟨B, g * 2 + 1, none⟩ = some (.slice y.a y.n y.k) ∧ w'.cell? ⟨B, a * 2, none⟩ = some (.int .i64 (x.c : Int)) ∧ w'.cell? ⟨B, a * 2 + 1, none⟩ = some (.slice x.a x.n x.k)) (first | exact ⟨Below.drew (Ext.refl wr), k2, k3, k4, k5⟩ | go_keep | exact ⟨Ext.trans (by first | assumption | exact Below.drew (Ext.refl _)) hx, (hx.cell (p := ⟨B, g * 2, none⟩) (Nat.lt_of_lt_of_le hBl (show Ext wr _ from by first | assumption | exact Below.drew (Ext.refl _)).size)).trans (by assumption), (hx.cell (p := ⟨B, g * 2 + 1, none⟩) (Nat.lt_of_lt_of_le hBl (show Ext wr _ from by first | assumption | exact Below.drew (Ext.refl _)).size)).trans (by assumption), (hx.cell (p := ⟨B, a * 2, none⟩) (Nat.lt_of_lt_of_le hBl (show Ext wr _ from by first | assumption | exact Below.drew (Ext.refl _)).size)).trans (by assumption), (hx.cell (p := ⟨B, a * 2 + 1, none⟩) (Nat.lt_of_lt_of_le hBl (show Ext wr _ from by first | assumption | exact Below.drew (Ext.refl _)).size)).trans (by assumption)⟩)
     ((go_at_call 63; refine (HORD.out _ _ _ _ _ _ _ _ _).mono ?_; rintro e w' ⟨rfl, hx⟩))
    all_goals
     rename_i hS;have HX2 := Lib.hid (HX.out.trans hS.1);clear k2 k3 k4 k5 hS;go_wp2_with fail;obtain ⟨hi, hj, hs, hg, hu, hpq, hq⟩ := HF.out;refine ⟨⟨i, g, rfl, rfl, Lib.hid ⟨p, u, by omega, by omega, by omega, by omega, HH1.out, .inr ⟨y, HHY.out, HC.out⟩⟩, HX2⟩, by simp [intOf]; omega⟩
  ·have t0 : decide ((i : Int) < (j : Int)) = false := decide_eq_false (by omega);obtain ⟨p, q, h3, h4, hpq, hq, h1, h2⟩ := HI.out;have HH1 := Lib.hid h1;have HH2 := Lib.hid h2;clear h1 h2;have hpq2 : p = q := by omega
   have HQ := Lib.hid (Srt.one_mrg HRU.out (by omega) HH1.out (by rw [hpq2]; exact HH2.out));have hia : i = a + 1 + p := by have := HM.out; omega
   obtain ⟨z, hz⟩ : ∃ z, a + p = z := ⟨_, rfl⟩;have e2 : (i : Int) - 1 = (z : Int) := by omega
   have lz : z < n := by have := HB.out; omega
   have wz : ∀ v, v = (z : Int) → IntKind.i64.wrap v = v := by intro v hv; rw [IntKind.wrap_i64]; omega
   have HPL := Lib.hid (show (R.take p).length = p by simp; omega);have HZ := Lib.hid hz;have HPX := Lib.hid (HPR.out.ext HX.out);have HR0 := Lib.hid (List.take_append_drop p R);generalize R.take p = A0 at *;generalize R.drop p = C0 at *;clear HI h3 h4 hpq hq hpq2 HH1 HH2 hia hz;go_wp2_with fail;go_loopw [13] (fun c wr => ∃ k : Nat, c = .int .i64 k ∧ Hid (∃ A C, A0 = A ++ C ∧ a + A.length = k ∧ PR wr B (P ++ (A ++ x :: (C ++ (C0 ++ Q))))) ∧ Hid (One B w wr)) (fun c _ => z - (intOf c).toNat)
   case atStart => exact ⟨a, rfl, Lib.hid ⟨[], A0, rfl, rfl, by have := HPX.out; rw [← HR0.out] at this; simpa using this⟩, Lib.hid (One.of_ext HX.out)⟩
   case round =>
    obtain ⟨k, rfl, HK, HO⟩ := hrel;obtain ⟨A, C, hAC, hk, hp⟩ := HK.out;clear HK;by_cases hkz : k < z
    ·have t1 : decide ((k : Int) < (z : Int)) = true := decide_eq_true (by omega);cases C with
     | nil => have := HPL.out; have := HZ.out; simp at hAC; subst hAC; omega
     | cons y C =>
      have hp2 : PR wr B ((P ++ A) ++ x :: y :: (C ++ (C0 ++ Q))) := by simpa using hp
      have hJ : (P ++ A).length = k := by have := HA.out; simp; omega
      obtain ⟨k2, k3, k4, k5, hw⟩ := hp2.adjU hJ;obtain ⟨k', hk'⟩ : ∃ k', k + 1 = k' := ⟨_, rfl⟩;rw [hk'] at k4 k5 hw;have fz := hp2.frozen;have HW := Lib.hid hw;have HAC := Lib.hid hAC;have HK := Lib.hid hk;have e5 : (k : Int) + 1 = (k' : Int) := by omega
      have lk : k' < n := by omega
      have wk : ∀ v, v = (k' : Int) → IntKind.i64.wrap v = v := by intro v hv; rw [IntKind.wrap_i64]; omega
      clear hp hp2 hw hAC hk hJ;go_wp2_with fail;go_region;go_wp2_with fail;refine ⟨⟨k', by simp, Lib.hid ⟨A ++ [y], C, by rw [HAC.out]; simp, by have := HK.out; simp; omega, by have := HW.out.drew; simpa using this⟩, Lib.hid (HO.out.four _ _ _ _ _ _ _ _).drew⟩, by simp [intOf]; omega⟩
    ·have t1 : decide ((k : Int) < (z : Int)) = false := decide_eq_false (by omega);have hC : C = [] := by
      have h1 := HPL.out; have h2 := HZ.out;rw [hAC] at h1;simp at h1;exact List.eq_nil_of_length_eq_zero (by omega)
     subst hC;have HP9 := Lib.hid hp;have HAC := Lib.hid hAC;clear hp hAC hk;go_wp2_with fail;refine bodyPost_ret (results_none rfl _ _ _) rfl ⟨rfl, ?_, HO.out⟩;rw [HQ.out, HAC.out];simpa using HP9.out
end Go.Proofs.YtdeiolagnheihaaDoor
namespace Go.Proofs.YtdeiolagnheihaaDoor
open Go.RowKit
/-- where one goes among many, behind its likes -/
theorem Srt.mrg_mid {L : List Pk} {x : Pk} {p : Nat} (hL : Srt.Up Pk.key L) (hp : p ≤ L.length) (h1 : p = 0 ∨ ∃ y, L[p - 1]? = some y ∧ ¬ x.c < y.c) (h2 : p = L.length ∨ ∃ y, L[p]? = some y ∧ x.c < y.c) : Srt.mrg Pk.key L [x] = L.take p ++ x :: L.drop p := by
 have hlo : ∀ y ∈ L.take p, ¬ x.c < y.c := by
  rcases h1 with rfl | ⟨z, hz, hzx⟩
  ·simp
  ·intro y hy;obtain ⟨i, hi, rfl⟩ := List.mem_iff_getElem.1 hy;obtain ⟨hi2, hz2⟩ := List.getElem?_eq_some_iff.1 hz;rw [List.getElem_take];simp at hi;rcases Nat.lt_or_ge i (p - 1) with q | q
   ·have := List.pairwise_iff_getElem.1 hL i (p - 1) (by omega) hi2 q;rw [hz2] at this;unfold Pk.key at this;omega
   ·have : i = p - 1 := by omega
    subst this;rw [hz2]; exact hzx
 have hhi : ∀ y ∈ L.drop p, x.c < y.c := by
  rcases h2 with h2 | ⟨z, hz, hzx⟩
  ·rw [List.drop_eq_nil_of_le (by omega)]; simp
  ·intro y hy;obtain ⟨i, hi, rfl⟩ := List.mem_iff_getElem.1 hy;obtain ⟨hi2, hz2⟩ := List.getElem?_eq_some_iff.1 hz;rw [List.getElem_drop];simp at hi;rcases Nat.eq_zero_or_pos i with q | q
   ·subst q; simp only [Nat.add_zero]; rw [hz2]; exact hzx
   ·have := List.pairwise_iff_getElem.1 hL p (p + i) hi2 (by omega) (by omega);rw [hz2] at this;unfold Pk.key at this;omega
 have e := Srt.mrg_parts (k := Pk.key) (L.take p) [] (L.drop p) [x] (fun a ha b hb => by rw [List.mem_singleton.1 hb]; have := hlo a ha; unfold Pk.key; omega) (by simp);rw [Srt.mrg_nil', List.take_append_drop, List.nil_append] at e;rw [e, Srt.mrg_turned (r := [x]) (fun a ha b hb => by rw [List.mem_singleton.1 hb]; have := hhi a ha; unfold Pk.key; omega)];rfl
set_option maxHeartbeats 4000000 in
theorem symTwo_any (B n cap : Nat) (P L Q : List Pk) (x : Pk) (a m b : Nat) (w : World) (hl : (P ++ (L ++ x :: Q)).length = n) (hn : n ≤ 1000000) (ha : P.length = a) (hm : a + L.length = m) (hb : m + 1 = b) (h1 : L.length ≠ 1) (hL : Srt.Up Pk.key L) (h : PR w B (P ++ (L ++ x :: Q))) :
  Calls Tryd.prog 90 #[.slice (some ⟨B, 0, none⟩) n cap, .int .i64 (a : Int), .int .i64 (m : Int), .int .i64 (b : Int), .func (.func 63) #[] #[]] w fun e w' => e = .returned (.tuple #[]) ∧ PR w' B (P ++ (Srt.mrg Pk.key L [x] ++ Q)) ∧ One B w w' := by
 have HL := Lib.hid hl;have HPR := Lib.hid h;have HRU := Lib.hid hL;have hmn : m < n := by simp at hl; omega
 obtain ⟨d, hd⟩ : ∃ d, L.length = d := ⟨_, rfl⟩;have e0 : (m : Int) - (a : Int) = (d : Int) := by omega
 have td : ((d : Int) == 1) = false := beq_eq_false_iff_ne.2 (by omega);have hd1 : d ≠ 1 := by omega
 have wd : ∀ v, v = (d : Int) → IntKind.i64.wrap v = v := by intro v hv; rw [IntKind.wrap_i64]; omega
 have e1 : (b : Int) - (m : Int) = 1 := by omega
 have HA := Lib.hid ha;have HB := Lib.hid hb;have HM := Lib.hid hm;have HD := Lib.hid hd;have ham : a ≤ m := by omega
 have HORD := Lib.hid order_any;have gax : ((P ++ (L ++ x :: Q))[m]?) = some x := by rw [← hm, ← ha, ← List.append_assoc, ← List.length_append, List.getElem?_append_right (Nat.le_refl _), Nat.sub_self, List.getElem?_cons_zero]
 have HGA := Lib.hid gax;clear hl h hL ha hb hm gax h1 hd;go_enter Tryd.func90, Tryd.ntmps90
 go_wp2_with fail;go_loopw [14, 15] (fun c d wr => ∃ i j : Nat, c = .int .i64 i ∧ d = .int .i64 j ∧ Hid (∃ p q, i = a + p ∧ j = a + q ∧ p ≤ q ∧ q ≤ L.length ∧ (p = 0 ∨ ∃ y, L[p - 1]? = some y ∧ ¬ x.c < y.c) ∧ (q = L.length ∨ ∃ y, L[q]? = some y ∧ x.c < y.c)) ∧ Hid (Ext w wr)) (fun c d _ => (intOf d).toNat - (intOf c).toNat)
 case atStart => exact ⟨a, m, rfl, rfl, Lib.hid ⟨0, L.length, rfl, HM.out.symm, by omega, by omega, .inl rfl, .inl rfl⟩, Lib.hid (Ext.refl _)⟩
 case round =>
  obtain ⟨i, j, rfl, rfl, HI, HX⟩ := hrel;by_cases hij : i < j
  ·have t0 : decide ((i : Int) < (j : Int)) = true := decide_eq_true (by omega);obtain ⟨p, q, rfl, rfl, hpq, hq, h1, h2⟩ := HI.out;have HH1 := Lib.hid h1;have HH2 := Lib.hid h2;clear h1 h2;have hjb : a + q ≤ m := by have := HM.out; omega
   obtain ⟨i, hi⟩ : ∃ i, a + p = i := ⟨_, rfl⟩;obtain ⟨j, hj⟩ : ∃ j, a + q = j := ⟨_, rfl⟩;obtain ⟨s, hs⟩ : ∃ s, i + j = s := ⟨_, rfl⟩;obtain ⟨g, hg⟩ : ∃ g, s / 2 = g := ⟨_, rfl⟩;obtain ⟨u, hu⟩ : ∃ u, g - a = u := ⟨_, rfl⟩;rw [hi, hj] at hij t0 ⊢;have hgm : a ≤ g := by omega
   have hur : u < L.length := by omega
   obtain ⟨y, hy⟩ : ∃ y, L[u]? = some y := ⟨_, List.getElem?_eq_getElem hur⟩;have hrow : (P ++ (L ++ x :: Q))[g]? = some y := by
    have := get_mid P L (x :: Q) u hur;rw [show P.length + u = g by have := HA.out; omega, hy] at this;exact this
   have hp := HPR.out.ext HX.out;obtain ⟨k2, k3⟩ := hp.get HGA.out;obtain ⟨k4, k5⟩ := hp.get hrow;have hBl := hp.lt;have e2 : (i : Int) + (j : Int) = (s : Int) := by omega
   have e3 : (s : Int) / 2 = (g : Int) := by omega
   have lg : g < n := by omega
   have ws : ∀ z, z = (s : Int) → IntKind.i64.wrap z = z := by intro z hz; rw [IntKind.wrap_i64]; omega
   have wsu : ∀ z, z = (s : Int) → IntKind.u64.wrap z = z := by intro z hz; rw [IntKind.wrap_u64]; omega
   have wg : ∀ z, z = (g : Int) → IntKind.i64.wrap z = z := by intro z hz; rw [IntKind.wrap_i64]; omega
   have HHY := Lib.hid hy;have HF := Lib.hid (And.intro hi (And.intro hj (And.intro hs (And.intro hg (And.intro hu (And.intro hpq hq))))));have HP := Lib.hid hp;clear hp hrow hi hj hs hg hu hy hpq hq hur HI;by_cases hc : x.c < y.c
   ·have t2 : decide (cmpI (x.c : Int) (y.c : Int) < 0) = true := by rw [cmpI_neg]; exact decide_eq_true (by omega)
    have HC := Lib.hid hc;clear hc;go_wp2_with fail;go_region_held3 (fun w' => Ext wr w' ∧ w'.cell? ⟨B, m * 2, none⟩ = some (.int .i64 (x.c : Int)) ∧ w'.cell? ⟨B, m * 2 + 1, none⟩ = some (.slice x.a x.n x.k) ∧ w'.cell? ⟨B, g * 2, none⟩ = some (.int .i64 (y.c : Int)) ∧ w'.cell? ⟨B, g * 2 + 1, none⟩ = some (.slice y.a y.n y.k)) (first | exact ⟨Below.drew (Ext.refl wr), k2, k3, k4, k5⟩ | go_keep | exact ⟨Ext.trans (by first | assumption | exact Below.drew (Ext.refl _)) hx, (hx.cell (p := ⟨B, m * 2, none⟩) (Nat.lt_of_lt_of_le hBl (show Ext wr _ from by first | assumption | exact Below.drew (Ext.refl _)).size)).trans (by assumption), (hx.cell (p := ⟨B, m * 2 + 1, none⟩) (Nat.lt_of_lt_of_le hBl (show Ext wr _ from by first | assumption | exact Below.drew (Ext.refl _)).size)).trans (by assumption), (hx.cell (p := ⟨B, g * 2, none⟩) (Nat.lt_of_lt_of_le hBl (show Ext wr _ from by first | assumption | exact Below.drew (Ext.refl _)).size)).trans (by assumption), (hx.cell (p := ⟨B, g * 2 + 1, none⟩) (Nat.lt_of_lt_of_le hBl (show Ext wr _ from by first | assumption | exact Below.drew (Ext.refl _)).size)).trans (by assumption)⟩)
     ((go_at_call 63; refine (HORD.out _ _ _ _ _ _ _ _ _).mono ?_; rintro e w' ⟨rfl, hx⟩))
    all_goals
     rename_i hS;have HX2 := Lib.hid (HX.out.trans hS.1);clear k2 k3 k4 k5 hS;go_wp2_with fail;obtain ⟨hi, hj, hs, hg, hu, hpq, hq⟩ := HF.out;refine ⟨⟨i, g, rfl, rfl, Lib.hid ⟨p, u, by omega, by omega, by omega, by omega, HH1.out, .inr ⟨y, HHY.out, HC.out⟩⟩, HX2⟩, by simp [intOf]; omega⟩
   ·have t2 : decide (cmpI (x.c : Int) (y.c : Int) < 0) = false := by rw [cmpI_neg]; exact decide_eq_false (by omega)
    have HC := Lib.hid hc;clear hc;go_wp2_with fail;go_region_held3 (fun w' => Ext wr w' ∧ w'.cell? ⟨B, m * 2, none⟩ = some (.int .i64 (x.c : Int)) ∧ w'.cell? ⟨B, m * 2 + 1, none⟩ = some (.slice x.a x.n x.k) ∧ w'.cell? ⟨B, g * 2, none⟩ = some (.int .i64 (y.c : Int)) ∧ w'.cell? ⟨B, g * 2 + 1, none⟩ = some (.slice y.a y.n y.k)) (first | exact ⟨Below.drew (Ext.refl wr), k2, k3, k4, k5⟩ | go_keep | exact ⟨Ext.trans (by first | assumption | exact Below.drew (Ext.refl _)) hx, (hx.cell (p := ⟨B, m * 2, none⟩) (Nat.lt_of_lt_of_le hBl (show Ext wr _ from by first | assumption | exact Below.drew (Ext.refl _)).size)).trans (by assumption), (hx.cell (p := ⟨B, m * 2 + 1, none⟩) (Nat.lt_of_lt_of_le hBl (show Ext wr _ from by first | assumption | exact Below.drew (Ext.refl _)).size)).trans (by assumption), (hx.cell (p := ⟨B, g * 2, none⟩) (Nat.lt_of_lt_of_le hBl (show Ext wr _ from by first | assumption | exact Below.drew (Ext.refl _)).size)).trans (by assumption), (hx.cell (p := ⟨B, g * 2 + 1, none⟩) (Nat.lt_of_lt_of_le hBl (show Ext wr _ from by first | assumption | exact Below.drew (Ext.refl _)).size)).trans (by assumption)⟩)
     ((go_at_call 63; refine (HORD.out _ _ _ _ _ _ _ _ _).mono ?_; rintro e w' ⟨rfl, hx⟩))
    all_goals
     rename_i hS;have HX2 := Lib.hid (HX.out.trans hS.1);clear k2 k3 k4 k5 hS;have w5 : ∀ z, z = ((g + 1 : Nat) : Int) → IntKind.i64.wrap z = z := by intro z hz; rw [IntKind.wrap_i64]; omega
     go_wp2_with fail;obtain ⟨hi, hj, hs, hg, hu, hpq, hq⟩ := HF.out;refine ⟨⟨g + 1, j, by simp, rfl, Lib.hid ⟨u + 1, q, by omega, by omega, by omega, hq, .inr ⟨y, HHY.out, HC.out⟩, HH2.out⟩, HX2⟩, by simp [intOf]; omega⟩
  ·have t0 : decide ((i : Int) < (j : Int)) = false := decide_eq_false (by omega);obtain ⟨p, q, h3, h4, hpq, hq, h1, h2⟩ := HI.out;have HH1 := Lib.hid h1;have HH2 := Lib.hid h2;clear h1 h2;have hpq2 : p = q := by omega
   have HQ := Lib.hid (Srt.mrg_mid HRU.out (by omega) HH1.out (by rw [hpq2]; exact HH2.out));have lz : i ≤ m := by have := HM.out; omega
   have HI3 := Lib.hid h3;have HPL := Lib.hid (show (L.drop p).length = m - i by have := HM.out; simp; omega);have HTL := Lib.hid (show (L.take p).length = p by simp; omega);have HPX := Lib.hid (HPR.out.ext HX.out);have HR0 := Lib.hid (List.take_append_drop p L);generalize L.take p = A0 at *;generalize L.drop p = C0 at *;clear HI h3 h4 hpq hq hpq2 HH1 HH2;go_wp2_with fail;go_loopw [17] (fun c wr => ∃ k : Nat, c = .int .i64 k ∧ Hid (∃ A C, C0 = A ++ C ∧ i + A.length = k ∧ PR wr B (P ++ (A0 ++ (A ++ x :: (C ++ Q))))) ∧ Hid (One B w wr)) (fun c _ => (intOf c).toNat)
   case atStart => exact ⟨m, rfl, Lib.hid ⟨C0, [], by simp, by have := HPL.out; omega, by have := HPX.out; rw [← HR0.out] at this; simpa using this⟩, Lib.hid (One.of_ext HX.out)⟩
   case round =>
    obtain ⟨k, rfl, HK, HO⟩ := hrel;obtain ⟨A, C, hAC, hk, hp⟩ := HK.out;clear HK;by_cases hkz : i < k
    ·have t1 : decide ((i : Int) < (k : Int)) = true := decide_eq_true (by omega);rcases List.eq_nil_or_concat A with hA | ⟨T, y, hA⟩
     ·subst hA; simp at hk; omega
     ·rw [List.concat_eq_append] at hA;subst hA;have hp2 : PR wr B ((P ++ A0 ++ T) ++ y :: x :: (C ++ Q)) := by simpa using hp
      obtain ⟨J, hJ⟩ : ∃ J, (P ++ A0 ++ T).length = J := ⟨_, rfl⟩;have hkJ : k = J + 1 := by have := HA.out; have := HTL.out; have := HI3.out; simp at hJ hk; omega
      obtain ⟨k2, k3, k4, k5, hw⟩ := hp2.adjD hJ;rw [← hkJ] at k4 k5 hw;have fz := hp2.frozen;have HW := Lib.hid hw;have HAC := Lib.hid hAC;have HK := Lib.hid hk;have HkJ := Lib.hid hkJ;have e5 : (k : Int) - 1 = (J : Int) := by omega
      have lk : k < n := by have h1 := HPL.out; rw [hAC] at h1; simp at h1 hk; omega
      have lJ : J < n := by omega
      have gJ : (0 : Int) ≤ (J : Int) := by omega
      have wk : ∀ v, v = (J : Int) → IntKind.i64.wrap v = v := by intro v hv; rw [IntKind.wrap_i64]; omega
      clear hp hp2 hw hAC hk hJ hkJ;go_wp2_with fail;go_region;go_wp2_with fail;refine ⟨⟨J, rfl, Lib.hid ⟨T, y :: C, by rw [HAC.out]; simp, by have := HK.out; have := HkJ.out; simp at *; omega, by have := HW.out.drew; simpa using this⟩, Lib.hid (HO.out.four _ _ _ _ _ _ _ _).drew⟩, by have := HkJ.out; simp [intOf]; omega⟩
    ·have t1 : decide ((i : Int) < (k : Int)) = false := decide_eq_false (by omega);have hA : A = [] := List.eq_nil_of_length_eq_zero (by omega);subst hA;have HP9 := Lib.hid hp;have HAC := Lib.hid hAC;clear hp hAC hk;go_wp2_with fail;refine bodyPost_ret (results_none rfl _ _ _) rfl ⟨rfl, ?_, HO.out⟩;rw [HQ.out, HAC.out];simpa using HP9.out
end Go.Proofs.YtdeiolagnheihaaDoor
namespace Go.Proofs.YtdeiolagnheihaaDoor
open Go.RowKit
def swR (l : List Pk) (a b : Nat) : Nat → List Pk
  | 0 => l
  | k + 1 => swp (swR l a b k) (a + k) (b + k)
theorem swR_length (l : List Pk) (a b k : Nat) : (swR l a b k).length = l.length := by
  induction k with
  | zero => rfl
  | succ k ih => simp only [swR, swp_length, ih]
set_option maxHeartbeats 2000000 in
theorem swapRange_any (B n cap : Nat) (l : List Pk) (a b k : Nat) (f : Value) (w : World) (hl : l.length = n) (hn : n ≤ maxLen) (hab : a + k ≤ b) (hb : b + k ≤ n) (h : PR w B l) :
    Calls Tryd.prog 95 #[.slice (some ⟨B, 0, none⟩) n cap, .int .i64 (a : Int), .int .i64 (b : Int), .int .i64 (k : Int), f] w fun e w' => e = .returned (.tuple #[]) ∧ PR w' B (swR l a b k) ∧ One B w w' := by
  unfold maxLen at hn;have HL := Lib.hid hl;have HR := Lib.hid h;clear hl h;go_enter Tryd.func95, Tryd.ntmps95
  go_wp2_with fail;go_loopw [10] (fun c wr => ∃ i : Nat, i ≤ k ∧ c = .int .i64 i ∧ Hid (PR wr B (swR l a b i)) ∧ Hid (One B w wr)) (fun c _ => k - (intOf c).toNat)
  case atStart => exact ⟨0, by omega, rfl, HR, Lib.hid (One.refl _ _)⟩
  case round =>
    obtain ⟨i, hi, rfl, HP, HO⟩ := hrel;by_cases hlt : i < k
    · have t0 : decide ((i : Int) < (k : Int)) = true := decide_eq_true (by omega);have hm : (swR l a b i).length = n := (swR_length _ _ _ _).trans HL.out;obtain ⟨A, hAA⟩ : ∃ A, a + i = A := ⟨_, rfl⟩;obtain ⟨D, hDD⟩ : ∃ D, b + i = D := ⟨_, rfl⟩;have HS : Hid (swR l a b (i + 1) = swp (swR l a b i) A D) := Lib.hid (by rw [← hAA, ← hDD]; rfl);generalize swR l a b i = m at *;obtain ⟨x, y, _, _, k2, k3, k4, k5, hw⟩ := HP.out.two (i := A) (j := D) (by omega) (by omega);have HW := Lib.hid hw;have fz := HP.out.frozen;have wA : ∀ z, z = (A : Int) → IntKind.i64.wrap z = z := by intro z hz; rw [IntKind.wrap_i64]; omega
      have wD : ∀ z, z = (D : Int) → IntKind.i64.wrap z = z := by intro z hz; rw [IntKind.wrap_i64]; omega
      have eA : (a : Int) + (i : Int) = (A : Int) := by omega
      have eD : (b : Int) + (i : Int) = (D : Int) := by omega
      have lA : A < n := by omega
      have lD : D < n := by omega
      have gA : (0 : Int) ≤ (A : Int) := by omega
      have gD : (0 : Int) ≤ (D : Int) := by omega
      clear hw hAA hDD;go_wp2_with fail;go_region;go_wp2_with fail;go_roundw
      case rel => exact ⟨i + 1, by omega, by go_num, Lib.hid (by rw [HS.out]; exact HW.out.drew), Lib.hid (HO.out.four _ _ _ _ _ _ _ _).drew⟩
      case measure => simp [intOf]; omega
    · obtain rfl : i = k := by omega
      have t0 : decide ((i : Int) < (i : Int)) = false := by simp
      go_wp2_with fail;go_end0;exact ⟨rfl, HP.out, HO.out⟩
end Go.Proofs.YtdeiolagnheihaaDoor
namespace Go.Proofs.YtdeiolagnheihaaDoor
open Go.RowKit
theorem swR_parts (P U M V Q : List Pk) (k : Nat) (hU : U.length = k) (hV : V.length = k) : swR (P ++ (U ++ (M ++ (V ++ Q)))) P.length (P.length + k + M.length) k = P ++ (V ++ (M ++ (U ++ Q))) := by
 have key : ∀ i, i ≤ k → swR (P ++ (U ++ (M ++ (V ++ Q)))) P.length (P.length + k + M.length) i = P ++ (V.take i ++ (U.drop i ++ (M ++ (U.take i ++ (V.drop i ++ Q))))) := by
  intro i;induction i with
  | zero => intro _; simp [swR]
  | succ i ih =>
   intro hi;have hu : U.drop i = U[i]'(by omega) :: U.drop (i + 1) := List.drop_eq_getElem_cons (by omega);have hv : V.drop i = V[i]'(by omega) :: V.drop (i + 1) := List.drop_eq_getElem_cons (by omega);have tu : U.take (i + 1) = U.take i ++ [U[i]'(by omega)] := by rw [List.take_succ_eq_append_getElem]
   have tv : V.take (i + 1) = V.take i ++ [V[i]'(by omega)] := by rw [List.take_succ_eq_append_getElem]
   have e := swp_parts (P ++ V.take i) (U.drop (i + 1) ++ (M ++ U.take i)) (V.drop (i + 1) ++ Q) (U[i]'(by omega)) (V[i]'(by omega));have l1 : (P ++ V.take i).length = P.length + i := by simp; omega
   have l2 : (P ++ V.take i).length + 1 + (U.drop (i + 1) ++ (M ++ U.take i)).length = P.length + k + M.length + i := by simp; omega
   rw [l2, l1] at e;simp only [swR];rw [ih (by omega), hu, hv, tu, tv];simp only [List.append_assoc, List.cons_append, List.nil_append] at e ⊢;exact e
 have := key k (Nat.le_refl _);rw [List.take_of_length_le (by omega), List.take_of_length_le (by omega), List.drop_eq_nil_of_le (by omega), List.drop_eq_nil_of_le (by omega)] at this;simpa using this
set_option maxHeartbeats 2000000 in
theorem rotate_any (B n cap : Nat) (P U V Q : List Pk) (a m b : Nat) (f : Value) (w : World) (hl : (P ++ (U ++ (V ++ Q))).length = n) (hn : n ≤ 1000000) (ha : P.length = a) (hm : a + U.length = m) (hb : m + V.length = b) (h1 : 0 < U.length) (h2 : 0 < V.length) (h : PR w B (P ++ (U ++ (V ++ Q)))) :
  Calls Tryd.prog 94 #[.slice (some ⟨B, 0, none⟩) n cap, .int .i64 (a : Int), .int .i64 (m : Int), .int .i64 (b : Int), f] w fun e w' => e = .returned (.tuple #[]) ∧ PR w' B (P ++ (V ++ (U ++ Q))) ∧ One B w w' := by
 have HL := Lib.hid hl;have HR := Lib.hid h;obtain ⟨i0, hi0⟩ : ∃ i0, U.length = i0 := ⟨_, rfl⟩;obtain ⟨j0, hj0⟩ : ∃ j0, V.length = j0 := ⟨_, rfl⟩;have hbn : b ≤ n := by simp at hl; omega
 have e1 : (m : Int) - (a : Int) = (i0 : Int) := by omega
 have e2 : (b : Int) - (m : Int) = (j0 : Int) := by omega
 have HI0 := Lib.hid (show 0 < i0 ∧ 0 < j0 ∧ i0 = U.length ∧ j0 = V.length ∧ m = a + i0 ∧ b = m + j0 ∧ P.length = a from ⟨by omega, by omega, by omega, by omega, by omega, by omega, ha⟩);have w1 : ∀ z, z = (i0 : Int) → IntKind.i64.wrap z = z := by intro z hz; rw [IntKind.wrap_i64]; omega
 have w2 : ∀ z, z = (j0 : Int) → IntKind.i64.wrap z = z := by intro z hz; rw [IntKind.wrap_i64]; omega
 have hmn : m ≤ n := by omega
 clear hl h ha hm hb h1 h2 hi0 hj0;go_enter Tryd.func94, Tryd.ntmps94
 go_wp2_with fail;go_loopw [10, 11] (fun c d wr => ∃ i j : Nat, c = .int .i64 i ∧ d = .int .i64 j ∧ Hid (∃ P1 U1 V1 Q1, 0 < i ∧ 0 < j ∧ U1.length = i ∧ V1.length = j ∧ P1.length + i = m ∧ m + j + Q1.length = n ∧ PR wr B (P1 ++ (U1 ++ (V1 ++ Q1))) ∧ P ++ (V ++ (U ++ Q)) = P1 ++ (V1 ++ (U1 ++ Q1))) ∧ Hid (One B w wr)) (fun c d _ => (intOf c).toNat + (intOf d).toNat)
 case atStart =>
  obtain ⟨q1, q2, q3, q4, q5, q6, q7⟩ := HI0.out;exact ⟨i0, j0, rfl, rfl, Lib.hid ⟨P, U, V, Q, q1, q2, q3.symm, q4.symm, by omega, by have := HL.out; simp at this; omega, HR.out, rfl⟩, Lib.hid (One.refl _ _)⟩
 case round =>
  obtain ⟨i, j, rfl, rfl, HI, HO⟩ := hrel;obtain ⟨P1, U1, V1, Q1, hi, hj, hU, hV, hP, hQ, hp, ht⟩ := HI.out;clear HI;have e3 : (m : Int) - (i : Int) = ((P1.length : Nat) : Int) := by omega
  obtain ⟨p, hp1⟩ : ∃ p, P1.length = p := ⟨_, rfl⟩;rw [hp1] at e3;have w3 : ∀ z, z = (p : Int) → IntKind.i64.wrap z = z := by intro z hz; rw [IntKind.wrap_i64]; omega
  have HLn : Hid (swR_length = swR_length) := Lib.hid rfl;by_cases hij : i = j
  ·subst hij;have t0 : ((i : Int) != (i : Int)) = false := by simp
   have C := Lib.hid (fun (f : Value) => swapRange_any B n cap (P1 ++ (U1 ++ (V1 ++ Q1))) p m i f wr (by simp; omega) (by unfold maxLen; omega) (by omega) (by omega) hp);have HE := Lib.hid (show swR (P1 ++ (U1 ++ (V1 ++ Q1))) p m i = P ++ (V ++ (U ++ Q)) by
    have := swR_parts P1 U1 [] V1 Q1 i hU (by omega);simp only [List.nil_append, List.length_nil, Nat.add_zero] at this;rw [hp1, show p + i = m by omega] at this;rw [this, ht])
   clear hU hV hP hQ hp ht hp1;go_wp2_with fail;refine (C.out _).mono ?_;rintro e w9 ⟨rfl, hr, ho⟩;have HO9 := Lib.hid (HO.out.trans ho);rw [HE.out] at hr;have HR9 := Lib.hid hr;clear hr ho;go_wp2_with fail;go_end0;exact ⟨rfl, HR9.out, HO9.out⟩
  ·have t0 : ((i : Int) != (j : Int)) = true := by simp only [bne_iff_ne]; omega
   by_cases hlt : j < i
   ·have t1 : decide ((j : Int) < (i : Int)) = true := decide_eq_true (by omega);obtain ⟨d, hd⟩ : ∃ d, i - j = d := ⟨_, rfl⟩;have e4 : (i : Int) - (j : Int) = (d : Int) := by omega
    have w4 : ∀ z, z = (d : Int) → IntKind.i64.wrap z = z := by intro z hz; rw [IntKind.wrap_i64]; omega
    have C := Lib.hid (fun (f : Value) => swapRange_any B n cap (P1 ++ (U1 ++ (V1 ++ Q1))) p m j f wr (by simp; omega) (by unfold maxLen; omega) (by omega) (by omega) hp);have HE := Lib.hid (show swR (P1 ++ (U1 ++ (V1 ++ Q1))) p m j = (P1 ++ V1) ++ (U1.drop j ++ (U1.take j ++ Q1)) by
     have := swR_parts P1 (U1.take j) (U1.drop j) V1 Q1 j (by simp; omega) hV;rw [hp1, show p + j + (U1.drop j).length = m by simp; omega, ← List.append_assoc (U1.take j), List.take_append_drop] at this;rw [this]; simp)
    have HN := Lib.hid (show (P1 ++ V1) ++ (U1.take j ++ (U1.drop j ++ Q1)) = P ++ (V ++ (U ++ Q)) by
     rw [ht, ← List.append_assoc (U1.take j), List.take_append_drop]; simp)
    have HQ := Lib.hid (show (U1.drop j).length = d ∧ (U1.take j).length = j ∧ (P1 ++ V1).length + d = m ∧ m + j + Q1.length = n from ⟨by simp; omega, by simp; omega, by simp; omega, by omega⟩);clear hU hV hP hQ hp ht hp1;go_wp2_with fail;refine (C.out _).mono ?_;rintro e w9 ⟨rfl, hr, ho⟩;have HO9 := Lib.hid (HO.out.trans ho);rw [HE.out] at hr;have HR9 := Lib.hid hr;clear hr ho;go_wp2_with fail;refine ⟨⟨d, j, rfl, rfl, Lib.hid ⟨P1 ++ V1, U1.drop j, U1.take j, Q1, by omega, hj, HQ.out.1, HQ.out.2.1, HQ.out.2.2.1, HQ.out.2.2.2, HR9.out, HN.out.symm⟩, HO9⟩, by simp [intOf]; omega⟩
   ·have t1 : decide ((j : Int) < (i : Int)) = false := decide_eq_false (by omega);obtain ⟨d, hd⟩ : ∃ d, j - i = d := ⟨_, rfl⟩;obtain ⟨g, hg⟩ : ∃ g, m + j - i = g := ⟨_, rfl⟩;obtain ⟨s, hs⟩ : ∃ s, m + j = s := ⟨_, rfl⟩;have e4 : (j : Int) - (i : Int) = (d : Int) := by omega
    have e5 : (m : Int) + (j : Int) = (s : Int) := by omega
    have e6 : (s : Int) - (i : Int) = (g : Int) := by omega
    have w4 : ∀ z, z = (d : Int) → IntKind.i64.wrap z = z := by intro z hz; rw [IntKind.wrap_i64]; omega
    have w5 : ∀ z, z = (s : Int) → IntKind.i64.wrap z = z := by intro z hz; rw [IntKind.wrap_i64]; omega
    have w6 : ∀ z, z = (g : Int) → IntKind.i64.wrap z = z := by intro z hz; rw [IntKind.wrap_i64]; omega
    have C := Lib.hid (fun (f : Value) => swapRange_any B n cap (P1 ++ (U1 ++ (V1 ++ Q1))) p g i f wr (by simp; omega) (by unfold maxLen; omega) (by omega) (by omega) hp);have HE := Lib.hid (show swR (P1 ++ (U1 ++ (V1 ++ Q1))) p g i = P1 ++ (V1.drop d ++ (V1.take d ++ (U1 ++ Q1))) by
     have := swR_parts P1 U1 (V1.take d) (V1.drop d) Q1 i hU (by simp; omega);rw [hp1, show p + i + (V1.take d).length = g by simp; omega, ← List.append_assoc (V1.take d), List.take_append_drop] at this;exact this)
    have HN := Lib.hid (show P1 ++ (V1.take d ++ (V1.drop d ++ (U1 ++ Q1))) = P ++ (V ++ (U ++ Q)) by
     rw [ht, ← List.append_assoc (V1.take d), List.take_append_drop])
    have HQ := Lib.hid (show (V1.drop d).length = i ∧ (V1.take d).length = d ∧ P1.length + i = m ∧ m + d + (U1 ++ Q1).length = n from ⟨by simp; omega, by simp; omega, by omega, by simp; omega⟩);clear hU hV hP hQ hp ht hp1;go_wp2_with fail;refine (C.out _).mono ?_;rintro e w9 ⟨rfl, hr, ho⟩;have HO9 := Lib.hid (HO.out.trans ho);rw [HE.out] at hr;have HR9 := Lib.hid hr;clear hr ho;go_wp2_with fail;refine ⟨⟨i, d, rfl, rfl, Lib.hid ⟨P1, V1.drop d, V1.take d, U1 ++ Q1, hi, by omega, HQ.out.1, HQ.out.2.1, HQ.out.2.2.1, HQ.out.2.2.2, HR9.out, HN.out.symm⟩, HO9⟩, by simp [intOf]; omega⟩
end Go.Proofs.YtdeiolagnheihaaDoor
