/-
  DeflateDynamic's walk.
  The tables of package inflate, out of what a row lists.
  The package's errors, out of what a row lists.
  An argument that is a row of tokens, opened.
  The last step of every law's row, once: a call that returns true and turns nothing that was there meets the row's post.
-/
import Derived.Test.YtnhbjgmfbcedaaaDoorDeflateDynamicG1
import Derived.Test.YtnhbjgmfbcedaaaDoorDeflateDynamicG14
import Derived.Test.YtnhbjgmfbcedaaaDoorDeflateDynamicG18
import Derived.Test.YtnhbjgmfbcedaaaDoorDeflateDynamicG21
import Derived.Test.YtnhbjgmfbcedaaaDoorDeflateDynamicG22
import Derived.Test.YtnhbjgmfbcedaaaDoorDeflateDynamicG5
import Derived.Test.YtnhbjgmfbcedaaaDoorDeflateDynamicG4
import Derived.Lib.LaidTab
import Derived.LaidHandle
import Derived.LaidSub
import Derived.Stop.LaidTwo
import Derived.Test.YtnhbjgmfbcedaaaDoorDeflateDynamicG2
import Derived.Test.YtnhbjgmfbcedaaaDoorDeflateDynamicG3
import Derived.Lib.SmallJoins
import Derived.Test.YtnhbjgmfbcedaaaDoorRows
import Derived.ProofKit
import Derived.ShutString
import Derived.Below
import Derived.OpenShut
set_option linter.unusedSimpArgs false
set_option linter.unusedVariables false
set_option maxRecDepth 100000
namespace Go.Proofs.YtnhbjgmfbcedaaaDoor
open Go.RowKit
theorem tokV_get : ∀ (ts : List Tk) (i : Nat) (t : Tk), ts[i]? = some t → (tokV ts)[i * 3]? = some (.int .u8 (t.b.toNat : Int)) ∧ (tokV ts)[i * 3 + 1]? = some (.int .i64 t.l) ∧ (tokV ts)[i * 3 + 2]? = some (.int .i64 t.d)
 | [], i, t, h => by simp at h
 | a :: ts, 0, t, h => by
  simp at h;subst h;exact ⟨rfl, rfl, rfl⟩
 | a :: ts, i + 1, t, h => by
  have ih := tokV_get ts i t (by simpa using h);have e : tokV (a :: ts) = [.int .u8 (a.b.toNat : Int), .int .i64 a.l, .int .i64 a.d] ++ tokV ts := rfl;rw [e, show (i + 1) * 3 = i * 3 + 3 by omega];exact ih
theorem toks_tokV {w : World} {lo n c : Nat} {p : Option Addr} {ts : List Tk} {tk : Nat → Tk} (h : w.ownsRow lo 84 3 (.slice p n c) n (tokV ts)) (hts : (List.range n).map tk = ts) (hok : ∀ i, i < n → (tk i).Ok) : Toks w p n tk := by
 rcases ownsRow_slice h with ⟨q, h0⟩ | ⟨g, cap, q⟩
 ·subst h0;injection q with q;subst q;exact ⟨fun _ => rfl, fun a h => by cases h⟩
 ·injection q with q;subst q;refine ⟨(fun h => by cases h), fun a ha i hi => ?_⟩;injection ha with ha;subst ha;have ht : ts[i]? = some (tk i) := by rw [← hts, List.getElem?_map, List.getElem?_range hi]; rfl
  obtain ⟨q0, q1, q2⟩ := tokV_get ts i (tk i) ht;rw [add_plain];refine ⟨?_, ?_, ?_, hok i hi⟩
  ·rw [h.cellAt _ (by omega)]; exact q0
  ·show w.cell? ⟨g, i * 3 + 1, none⟩ = _; rw [h.cellAt _ (by omega)]; exact q1
  ·show w.cell? ⟨g, i * 3 + 2, none⟩ = _; rw [h.cellAt _ (by omega)]; exact q2
theorem infl_dyn {ts : List Tk} {o' : List UInt8} (hM : Dfl.Means [] ts o') (ho : o'.length ≤ 300000) {many far few : Nat} {rs : List Dfl.Rn} (H : Dfl.DynOk ts many far few rs) {l : List UInt8} (hl : l.length ≤ 300000) (h1 : l.length = ((Dfl.dynB ts many far few rs).length + 7) / 8) (h2 : Crc.num l = Bts.val (Dfl.dynB ts many far few rs)) :
  Inf.infl (⟨l.toArray⟩ : ByteArray) (o'.length : Int) = .ok (o', l.length, [⟨2, Dfl.rowN (lnS ts) many, Dfl.rowN (lnD ts) far, ts.map Dfl.ev ++ [⟨256, 0, 0, 0⟩]⟩]) := by
 have hA := Dfl.at_text (post := []) h1 h2;rw [List.append_nil] at hA;have h := Dfl.dynamic_read hM H hA (most := o'.length) (Nat.le_refl _);rw [← h1] at h;unfold Inf.infl;have hsz : (⟨l.toArray⟩ : ByteArray).size = l.length := rfl;rw [if_neg (by rw [hsz]; omega), Int.toNat_natCast];exact h
/-- what the law's cost rests on -/
theorem cost_row {s : Nat → Nat} {len m : Nat} (hl : len ≤ 300) (h2 : len ≤ 2 ^ 15) (hm : m ≤ len) (hz : ∀ j, m ≤ j → j < len → lenF (fun k => ((s k : Nat) : Int)) len 15 j = 0) (f : Nat → Int) (hf : f = fun k => ((s k : Nat) : Int)) :
  ∀ j, j < len → ∃ n : Nat, lenF f len 15 j = (n : Int) ∧ n ≤ 15 ∧ (0 < f j → 0 < n) ∧ (j < m → Inf.fn (Dfl.rowN (lenF (fun k => ((s k : Nat) : Int)) len 15) m) j = (n : Int)) ∧ (m ≤ j → n = 0) := by
 subst hf;have hg := (ln_good (s := s) hl (by decide) (by decide) h2).1;intro j hj;obtain ⟨a, b, c⟩ := hg j hj;refine ⟨(lenF (fun k => ((s k : Nat) : Int)) len 15 j).toNat, by omega, by omega, fun h => ?_, fun h => ?_, fun h => ?_⟩
 ·have h : (0 : Int) < ((s j : Nat) : Int) := h;have := c.2 (by omega);omega
 ·rw [Dfl.fn_rowN (fun j hj => (hg j (by omega)).1) j h]; omega
 ·have := hz j h hj; omega
set_option maxHeartbeats 4000000 in
theorem deflateDynamic_any (x : Option Addr) (n cap : Nat) (tk : Nat → Tk) (w : World) (E : Nat → Addr) (hE : Errs w E) (hTb : Tabs w) (hx : Toks w x n tk) (h0 : x = none → cap = 0) (hn : n ≤ maxLen) :
  Calls Tryd.prog 9 #[.slice x n cap] w fun e w' => e = .returned (.bool true) ∧ Ext w w' := by
 have HE := Lib.hid hE;have HX := Lib.hid hx;have HTb := Lib.hid hTb;clear hE hx hTb;by_cases hb : 300 < n
 ·go_enter Tryd.func9, Tryd.ntmps9
  go_wp2_with fail;refine (blank_calls _).mono ?_;rintro e w1 ⟨rfl, h1⟩;have X1 := Lib.hid (h1);clear h1;go_wp2_with fail;refine (wide_big x n cap tk _ (HX.out.ext X1.out) hn hb).mono ?_;rintro e w2 ⟨rfl, rfl⟩;go_wp2_with fail;go_ret;exact ⟨rfl, X1.out⟩
 have hn3 : n ≤ 300 := by omega
 clear hb;go_enter Tryd.func9, Tryd.ntmps9
 go_wp2_with fail;refine (blank_calls _).mono ?_;rintro e w1 ⟨rfl, h1⟩;have X1 := Lib.hid (h1);clear h1;go_wp2_with fail;refine (wide_small x n cap tk _ (HX.out.ext X1.out) hn3).mono ?_;rintro e w2 ⟨rfl | rfl, rfl⟩
 ·go_wp2_with fail;refine (tokens_any x n cap tk _ (HX.out.ext X1.out) h0 (by omega)).mono ?_;rintro e w3 ⟨⟨ox, oc, rfl, ht⟩, h3⟩;have X3 := Lib.hid (X1.out.trans h3);have T3 := Lib.hid (ht);clear h3 ht;go_wp2_with fail;refine (dynamicD_any ox n oc tk _ E (HE.out.ext X3.out) (HTb.out.ext X3.out) T3.out hn).mono ?_;rintro e w4 ⟨h4, hr⟩;have X4 := Lib.hid (X3.out.trans h4);clear h4;rcases hr with ⟨out, many, far, few, rs, l, ho, hok, hl1, hl2, rfl⟩ | ⟨c, i, F, hc, hi, ho, rfl, hF⟩
  ·have HO := Lib.hid ho;have hM := Dfl.means_exp n out ho;have hol := expL_len ho;obtain ⟨ts, hts⟩ : ∃ ts, (List.range n).map tk = ts := ⟨_, rfl⟩;have htl : ts.length = n := by rw [← hts]; simp
   rw [hts] at hM hok hl1 hl2;have hbl := Dfl.dynB_len hok hM.ok;rw [htl] at hbl;have hls : l.length ≤ 5000 := by omega
   have hinf := infl_dyn hM hol hok (by omega) hl1 hl2;have HOKD := Lib.hid hok;have htx := Dfl.tksOf_ev hM;obtain ⟨tr, htr⟩ : ∃ tr, ts.map Dfl.ev ++ [⟨256, 0, 0, 0⟩] = tr := ⟨_, rfl⟩;have HU7 := Lib.hid (show Inf.use7 tr = fun k => ((Dfl.cntS ts k : Nat) : Int) from by rw [← htr]; funext k; exact Dfl.use7_ev);have HU8 := Lib.hid (show Inf.use8 tr = fun k => ((Dfl.cntD ts k : Nat) : Int) from by rw [← htr]; funext k; exact Dfl.use8_ev);rw [htr] at hinf htx;have HTX := Lib.hid htx;have HTS := Lib.hid (And.intro hts htl);have HI := Lib.hid (fun (w : World) => inflateOf_any ⟨l.toArray⟩ (out.length : Int) w (by show l.length ≤ maxLen; unfold maxLen; omega));rw [hinf] at HI;unfold IOPost at HI;simp only at HI;have hto : tb out = ⟨out.toArray⟩ := tb_eq out;rw [hto] at HI;have hol5 : out.length ≤ 300000 := hol;clear ho hM hts htl hbl hok hinf hl1 hl2 hto htr htx hol;go_wp2_with fail;refine (expandOf_any x n cap tk _ (HX.out.ext X4.out) hn).mono ?_;rintro e w5 ⟨h5, hr⟩;have X5 := Lib.hid (X4.out.trans h5);rw [HO.out] at hr;rcases hr with ⟨out', ho', rfl⟩ | ⟨c, i, _, ho', _⟩
   ·injection ho' with ho';subst ho';clear h5;have e1 : ((⟨l.toArray⟩ : ByteArray).toList == (⟨l.toArray⟩ : ByteArray).toList) = true := beq_self_eq_true _;have e2 : ((⟨out.toArray⟩ : ByteArray).toList == (⟨out.toArray⟩ : ByteArray).toList) = true := beq_self_eq_true _;have e3 : (out.toArray == out.toArray) = true := by simp
    have e4 : (l.toArray == l.toArray) = true := by simp
    go_wp2_with fail;refine (HI.out _).mono ?_;rintro e w6 ⟨⟨v, rfl, xx, lo, rfl, e9, hL, ht, _⟩, h6⟩;obtain ⟨e10, h2⟩ := hL ⟨2, Dfl.rowN (lnS ts) many, Dfl.rowN (lnD ts) far, tr⟩ rfl;obtain ⟨p, c5, q, c6, B7, B8, e5, e6, e7, e8, i5, i6, k7, k8, _⟩ := h2 rfl;have k7 : Cs w6 B7 300 .i64 (Inf.use7 tr) := k7;have k8 : Cs w6 B8 40 .i64 (Inf.use8 tr) := k8;rw [HU7.out] at k7;rw [HU8.out] at k8;have hts2 : tksB [⟨2, Dfl.rowN (lnS ts) many, Dfl.rowN (lnD ts) far, tr⟩] = ts := by unfold tksB; simpa using HTX.out
    rw [hts2, HTS.out.2] at ht;obtain ⟨xt, ct, e11⟩ := lit_row ht;rw [e11] at ht;have hT6 := toks_tokV ht HTS.out.1 T3.out.oks;have e5 : xx 5 = .slice (some p) (Dfl.rowN (lnS ts) many).length c5 := e5;have e6 : xx 6 = .slice (some q) (Dfl.rowN (lnD ts) far).length c6 := e6;have i5 : Ints w6 (some p) (Dfl.rowN (lnS ts) many).length (Inf.fn (Dfl.rowN (lnS ts) many)) := i5;have i6 : Ints w6 (some q) (Dfl.rowN (lnD ts) far).length (Inf.fn (Dfl.rowN (lnD ts) far)) := i6;simp only [Dfl.rowN_length] at e5 e6 i5 i6;rw [e5, e6, e7, e8, e9, e10, e11];have X6 := Lib.hid (X5.out.trans (((Ext.refl _).alloc _).trans h6));have HT6 := Lib.hid hT6;have HI5 := Lib.hid i5;have HI6 := Lib.hid i6;have HK7 := Lib.hid k7;have HK8 := Lib.hid k8;clear h6 e5 e6 e7 e8 e9 e10 e11 ht hT6 i5 i6 k7 k8 hts2 h2 hL;go_upto_region 9 with fail;refine wp_world (fun wz => Ext w6 wz ∧ wz.heap.size = w6.heap.size + 1 ∧ Bk wz (w6.heap.size) #[.string ⟨out.toArray⟩, .int .i64 (l.length : Int), .int .i64 0, .slice (some p) many c5, .slice (some q) far c6, .slice (some ⟨B7, 0, none⟩) 300 300, .slice (some ⟨B8, 0, none⟩) 40 40, .int .i64 1, .int .i64 2, .slice xt n ct]) ⟨by repeat (first | exact Ext.refl _ | refine Ext.alloc ?_ _), by simp, by repeat (first | exact Bk.at (by simp) | refine Bk.old ?_)⟩ ?_;rintro w7 ⟨hX, hZ, hB0⟩;have X7 := Lib.hid (X6.out.trans hX);have HB7 := Lib.hid hB0;have HT7 := Lib.hid (HT6.out.ext hX);have HJ5 := Lib.hid (HI5.out.ext hX);have HJ6 := Lib.hid (HI6.out.ext hX);have HJ7 := Lib.hid (ints_cs (fun i hi => (HK7.out.ext hX) i (Nat.lt_of_lt_of_le hi (by decide : 286 ≤ 300))) (n := 286) (fun k _ => Nat.le_trans (Dfl.cntS_le ts k) (by have := HTS.out.2; omega)))
    have HJ8 := Lib.hid (ints_cs (fun i hi => (HK8.out.ext hX) i (Nat.lt_of_lt_of_le hi (by decide : 30 ≤ 40))) (n := 30) (fun k _ => Nat.le_trans (Dfl.cntD_le ts k) (by have := HTS.out.2; omega)));clear hX hZ hB0 HT6 HI5 HI6 HK7 HK8;obtain ⟨T, hT⟩ : ∃ T, w6.heap.size = T := ⟨_, rfl⟩;rw [hT] at HB7;rw [hT];have c0 := HB7.out.cell 0;have c1 := HB7.out.cell 1;have c2 := HB7.out.cell 2;have c7 := HB7.out.cell 7;have c8 := HB7.out.cell 8;have c9 := HB7.out.cell 9;simp only [xg, xh, xi] at c0 c1 c2 c7 c8 c9;have e6 : ((l.length : Int) == (l.length : Int)) = true := beq_self_eq_true _;clear hT;go_wp2_with fail;refine (sameTokens_any xt x n ct cap tk w7 HT7.out (HX.out.ext X7.out) (by omega)).mono ?_;rintro e w8 ⟨rfl, h8⟩;have X8 := Lib.hid (X7.out.trans h8);have HB8 := Lib.hid (HB7.out.ext h8);have HS5 := Lib.hid (HJ5.out.ext h8);have HS6 := Lib.hid (HJ6.out.ext h8);have HS7 := Lib.hid (HJ7.out.ext h8);have HS8 := Lib.hid (HJ8.out.ext h8);clear h8 HB7 HT7 HJ5 HJ6 HJ7 HJ8 c0 c1 c2 c7 c8 c9 e1 e2 e3 e4 e6;go_upto_region 13 with fail;have X_0 := X8;have B_0 := HB8;have S5_0 := HS5;have S6_0 := HS6;have S7_0 := HS7;have S8_0 := HS8;clear X8 HB8 HS5 HS6 HS7 HS8;refine wp_region_held_drew (S := fun w' => w'.cell? ⟨T, 5, none⟩ = some (.slice (some ⟨B7, 0, none⟩) 300 300) ∧ w'.cell? ⟨T, 3, none⟩ = some (.slice (some p) many c5)) (by kernel_rfl) ⟨B_0.out.cell 5, B_0.out.cell 3⟩ (fun hHeld => ?_);clear hHeld;refine anyH_world (fun wz => Ext w8 wz) (show Ext w8 w8.drew from Below.drew (Ext.refl w8)) ?_
    rintro y1 h;have X_1 := Lib.hid (X_0.out.trans h);have B_1 := Lib.hid (B_0.out.ext h);have S5_1 := Lib.hid (S5_0.out.ext h);have S6_1 := Lib.hid (S6_0.out.ext h);have S7_1 := Lib.hid (S7_0.out.ext h);have S8_1 := Lib.hid (S8_0.out.ext h);clear h X_0 B_0 S5_0 S6_0 S7_0 S8_0;have hHeld : y1.cell? ⟨T, 5, none⟩ = some (.slice (some ⟨B7, 0, none⟩) 300 300) ∧ y1.cell? ⟨T, 3, none⟩ = some (.slice (some p) many c5) := ⟨B_1.out.cell 5, B_1.out.cell 3⟩;refine tkH 0 (v := ?_) rfl hHeld ?_ ?_;rotate_left
    ·intro w hSw;(try dsimp only at hSw);go_split_ands;go_simp;(try with_reducible rfl)
    (try simp only [Act.put, xa, xb, xc, xd, xe, xf]);refine tkH 1 (v := ?_) rfl hHeld ?_ ?_;rotate_left
    ·intro w hSw;(try dsimp only at hSw);go_split_ands;go_simp;(try with_reducible rfl)
    (try simp only [Act.put, xa, xb, xc, xd, xe, xf]);refine tkH 2 (v := ?_) rfl hHeld ?_ ?_;rotate_left
    ·intro w hSw;(try dsimp only at hSw);go_split_ands;go_simp;(try with_reducible rfl)
    (try simp only [Act.put, xa, xb, xc, xd, xe, xf]);refine tkH 3 (v := ?_) rfl hHeld ?_ ?_;rotate_left
    ·intro w hSw;(try dsimp only at hSw);go_split_ands;go_simp;(try with_reducible rfl)
    (try simp only [Act.put, xa, xb, xc, xd, xe, xf]);refine tkH 4 (v := ?_) rfl hHeld ?_ ?_;rotate_left
    ·intro w hSw;(try dsimp only at hSw);go_split_ands;go_simp;(try with_reducible rfl)
    (try simp only [Act.put, xa, xb, xc, xd, xe, xf]);refine wpAnyH_ready (rs := [5]) (by kernel_rfl) (by simp) ?_;refine AllReadyH.cons rfl (fun KK hK => ?_) AllReadyH.nil;clear hHeld;have hES := (HE.out.ext X_1.out).var 2 (by decide);go_simp;refine (cost_any (some ⟨B7, 0, none⟩) (some p) 286 300 many c5 (fun k => ((Dfl.cntS ts k : Nat) : Int)) (Inf.fn (Dfl.rowN (lnS ts) many)) y1 _ hES S7_1.out (fun h => by cases h) S5_1.out (lenGood_cnt (by decide) (by decide) (by decide) (fun k => Nat.le_trans (Dfl.cntS_le ts k) (by have := HTS.out.2; omega))) (Nat.le_trans (used_len _ _) (by decide)) HOKD.out.m.2 (cost_row (by decide) (by decide) HOKD.out.m.2 HOKD.out.zm _ rfl)).mono ?_;rintro e y2 ⟨rfl, h⟩;have X_2 := Lib.hid (X_1.out.trans h);have B_2 := Lib.hid (B_1.out.ext h);have S5_2 := Lib.hid (S5_1.out.ext h);have S6_2 := Lib.hid (S6_1.out.ext h);have S7_2 := Lib.hid (S7_1.out.ext h);have S8_2 := Lib.hid (S8_1.out.ext h);clear h hES X_1 B_1 S5_1 S6_1 S7_1 S8_1;go_simp;refine hK.out _ _ ⟨B_2.out.cell 5, B_2.out.cell 3⟩ (fun hHeld => ?_);clear hK KK;(try simp only [Act.put, xa, xb, xc, xd, xe, xf]);refine tkH 6 (v := ?_) rfl hHeld ?_ ?_;rotate_left
    ·intro w hSw;(try dsimp only at hSw);go_split_ands;go_simp;(try with_reducible rfl)
    (try simp only [Act.put, xa, xb, xc, xd, xe, xf]);refine tkH 7 (v := ?_) rfl hHeld ?_ ?_;rotate_left
    ·intro w hSw;(try dsimp only at hSw);go_split_ands;go_simp;(try with_reducible rfl)
    (try simp only [Act.put, xa, xb, xc, xd, xe, xf]);refine tkH 8 (v := ?_) rfl hHeld ?_ ?_;rotate_left
    ·intro w hSw;(try dsimp only at hSw);go_split_ands;go_simp;(try with_reducible rfl)
    (try simp only [Act.put, xa, xb, xc, xd, xe, xf]);refine tkH 9 (v := ?_) rfl hHeld ?_ ?_;rotate_left
    ·intro w hSw;(try dsimp only at hSw);go_split_ands;go_simp;(try with_reducible rfl)
    (try simp only [Act.put, xa, xb, xc, xd, xe, xf]);refine tkH 10 (v := ?_) rfl hHeld ?_ ?_;rotate_left
    ·intro w hSw;(try dsimp only at hSw);go_split_ands;go_simp;(try with_reducible rfl)
    (try simp only [Act.put, xa, xb, xc, xd, xe, xf]);refine wpAnyH_done (by kernel_rfl) ?_ _;clear hHeld;go_upto_region 14 with fail;refine wp_region_held_drew (S := fun w' => w'.cell? ⟨T, 6, none⟩ = some (.slice (some ⟨B8, 0, none⟩) 40 40) ∧ w'.cell? ⟨T, 4, none⟩ = some (.slice (some q) far c6)) (by kernel_rfl) ⟨B_2.out.cell 6, B_2.out.cell 4⟩ (fun hHeld => ?_);clear hHeld;refine anyH_world (fun wz => Ext y2 wz) (show Ext y2 y2.drew from Below.drew (Ext.refl y2)) ?_;rintro y3 h;have X_3 := Lib.hid (X_2.out.trans h);have B_3 := Lib.hid (B_2.out.ext h);have S5_3 := Lib.hid (S5_2.out.ext h);have S6_3 := Lib.hid (S6_2.out.ext h);have S7_3 := Lib.hid (S7_2.out.ext h);have S8_3 := Lib.hid (S8_2.out.ext h);clear h X_2 B_2 S5_2 S6_2 S7_2 S8_2;have hHeld : y3.cell? ⟨T, 6, none⟩ = some (.slice (some ⟨B8, 0, none⟩) 40 40) ∧ y3.cell? ⟨T, 4, none⟩ = some (.slice (some q) far c6) := ⟨B_3.out.cell 6, B_3.out.cell 4⟩;refine tkH 0 (v := ?_) rfl hHeld ?_ ?_;rotate_left
    ·intro w hSw;(try dsimp only at hSw);go_split_ands;go_simp;(try with_reducible rfl)
    (try simp only [Act.put, xa, xb, xc, xd, xe, xf]);refine tkH 1 (v := ?_) rfl hHeld ?_ ?_;rotate_left
    ·intro w hSw;(try dsimp only at hSw);go_split_ands;go_simp;(try with_reducible rfl)
    (try simp only [Act.put, xa, xb, xc, xd, xe, xf]);refine tkH 2 (v := ?_) rfl hHeld ?_ ?_;rotate_left
    ·intro w hSw;(try dsimp only at hSw);go_split_ands;go_simp;(try with_reducible rfl)
    (try simp only [Act.put, xa, xb, xc, xd, xe, xf]);refine tkH 3 (v := ?_) rfl hHeld ?_ ?_;rotate_left
    ·intro w hSw;(try dsimp only at hSw);go_split_ands;go_simp;(try with_reducible rfl)
    (try simp only [Act.put, xa, xb, xc, xd, xe, xf]);refine tkH 4 (v := ?_) rfl hHeld ?_ ?_;rotate_left
    ·intro w hSw;(try dsimp only at hSw);go_split_ands;go_simp;(try with_reducible rfl)
    (try simp only [Act.put, xa, xb, xc, xd, xe, xf]);refine wpAnyH_ready (rs := [5]) (by kernel_rfl) (by simp) ?_;refine AllReadyH.cons rfl (fun KK hK => ?_) AllReadyH.nil;clear hHeld;have hES := (HE.out.ext X_3.out).var 2 (by decide);go_simp;refine (cost_any (some ⟨B8, 0, none⟩) (some q) 30 40 far c6 (fun k => ((Dfl.cntD ts k : Nat) : Int)) (Inf.fn (Dfl.rowN (lnD ts) far)) y3 _ hES S8_3.out (fun h => by cases h) S6_3.out (lenGood_cnt (by decide) (by decide) (by decide) (fun k => Nat.le_trans (Dfl.cntD_le ts k) (by have := HTS.out.2; omega))) (Nat.le_trans (used_len _ _) (by decide)) HOKD.out.r.2 (cost_row (by decide) (by decide) HOKD.out.r.2 HOKD.out.zf _ rfl)).mono ?_;rintro e y4 ⟨rfl, h⟩;have X_4 := Lib.hid (X_3.out.trans h);have B_4 := Lib.hid (B_3.out.ext h);have S5_4 := Lib.hid (S5_3.out.ext h);have S6_4 := Lib.hid (S6_3.out.ext h);have S7_4 := Lib.hid (S7_3.out.ext h);have S8_4 := Lib.hid (S8_3.out.ext h);clear h hES X_3 B_3 S5_3 S6_3 S7_3 S8_3;go_simp;refine hK.out _ _ ⟨B_4.out.cell 6, B_4.out.cell 4⟩ (fun hHeld => ?_);clear hK KK;(try simp only [Act.put, xa, xb, xc, xd, xe, xf]);refine tkH 6 (v := ?_) rfl hHeld ?_ ?_;rotate_left
    ·intro w hSw;(try dsimp only at hSw);go_split_ands;go_simp;(try with_reducible rfl)
    (try simp only [Act.put, xa, xb, xc, xd, xe, xf]);refine tkH 7 (v := ?_) rfl hHeld ?_ ?_;rotate_left
    ·intro w hSw;(try dsimp only at hSw);go_split_ands;go_simp;(try with_reducible rfl)
    (try simp only [Act.put, xa, xb, xc, xd, xe, xf]);refine tkH 8 (v := ?_) rfl hHeld ?_ ?_;rotate_left
    ·intro w hSw;(try dsimp only at hSw);go_split_ands;go_simp;(try with_reducible rfl)
    (try simp only [Act.put, xa, xb, xc, xd, xe, xf]);refine tkH 9 (v := ?_) rfl hHeld ?_ ?_;rotate_left
    ·intro w hSw;(try dsimp only at hSw);go_split_ands;go_simp;(try with_reducible rfl)
    (try simp only [Act.put, xa, xb, xc, xd, xe, xf]);refine tkH 10 (v := ?_) rfl hHeld ?_ ?_;rotate_left
    ·intro w hSw;(try dsimp only at hSw);go_split_ands;go_simp;(try with_reducible rfl)
    (try simp only [Act.put, xa, xb, xc, xd, xe, xf]);refine wpAnyH_done (by kernel_rfl) ?_ _;clear hHeld;go_wp2_with fail;go_ret;exact ⟨rfl, X_4.out⟩
   ·cases ho'
  ·have HO := Lib.hid ho;have HV := Lib.hid (ErrV.fault c F i hc hF (by omega) hi : ErrV w4 E _ ((c : Int) + 1) i);clear ho hF;go_wp2_with fail;refine (expandOf_any x n cap tk _ (HX.out.ext X4.out) hn).mono ?_;rintro e w5 ⟨h5, hr⟩;have X5 := Lib.hid (X4.out.trans h5);have V5 := Lib.hid (HV.out.ext h5);rw [HO.out] at hr;rcases hr with ⟨out', ho', _⟩ | ⟨c', i', _, ho', rfl⟩
   ·cases ho'
   ·injection ho' with e1 e2;subst e1 e2;clear h5 HO HV;have t0 : decide ((0 : Int) < (c : Int) + 1) = true := decide_eq_true (by omega);go_wp2_with fail;refine calls_world (fun wz => Ext w5 wz ∧ wz.heap.size = w5.heap.size + 1 ∧ Bk wz (w5.heap.size) #[.int .i64 ((c : Int) + 1), .int .i64 (i : Int)]) ⟨by repeat (first | exact Ext.refl _ | refine Ext.alloc ?_ _), by simp, by repeat (first | exact Bk.at (by simp) | refine Bk.old ?_)⟩ ?_;rintro w6 ⟨hX, hZ, hB0⟩;have X6 := Lib.hid (X5.out.trans hX);have V6 := Lib.hid (V5.out.ext hX);clear hX hZ hB0;refine (faulted_any _ E (HE.out.ext X6.out) _ _ _ ((c : Int) + 1) i V6.out).mono ?_;rintro e w7 ⟨he, h7⟩;obtain rfl : e = .returned (.bool true) := by rw [he]; exact ret_bool (by simp)
    have X7 := Lib.hid (X6.out.trans h7);clear he h7;go_wp2_with fail;go_ret;exact ⟨rfl, X7.out⟩
 ·go_wp2_with fail;go_ret;exact ⟨rfl, X1.out⟩
end Go.Proofs.YtnhbjgmfbcedaaaDoor
namespace Go.Proofs.YtnhbjgmfbcedaaaDoor
open Go.RowKit Go.ChangeShapes
def tabD (n : String) (zs : List Nat) : List (String × DataW Unit) := [(n, Lib.tabData .i64 (zs.map fun z => ((z : Nat) : Int)))]
theorem tab_row {l : List (String × DataW Unit)} {W : World} {n : String} {g m : Nat} {t : TypeId} {zs : List Nat} (h : laidMetH Tryd.prog l W) (hl : l.filter (fun x => x.1 == n) = tabD n zs)
    (hm : laidMetH Tryd.prog (tabD n zs) W = laidMet Tryd.prog (tabD n zs) W) (hg : Tryd.prog.globalNamed n = some g) (hty : (Tryd.prog.globals[g]?).map (·.type) = some t) (ht : Tryd.prog.underlying t = some (.array m 3)) (hct : Tryd.prog.cellsOf t = m) (hlen : zs.length = m) :
    ∀ k, k < m → W.cell? ⟨g, k, none⟩ = some (.int .i64 ((zs.getD k 0 : Nat) : Int)) := by
  have h1 := laidMetH.filter (fun x => x.1 == n) h
  rw [hl, hm] at h1
  have hT := Lib.tabIs_of_head (rest := []) hg hty ht Tryd.underlying3 (by kernel_rfl) hct h1
  intro k hk
  have := hT.cell hg k (by simp; omega)
  rw [this]
  simp [List.getD, hlen, hk]
theorem tabs_of_laid {l : List (String × DataW Unit)} {W : World} (h : laidMetH Tryd.prog l W)
    (h1 : l.filter (fun x => x.1 == "layercake/inflate.Lens") = tabD "layercake/inflate.Lens" Inf.lensL) (h2 : l.filter (fun x => x.1 == "layercake/inflate.LenBits") = tabD "layercake/inflate.LenBits" Inf.lensB)
    (h3 : l.filter (fun x => x.1 == "layercake/inflate.Dists") = tabD "layercake/inflate.Dists" Inf.distsL) (h4 : l.filter (fun x => x.1 == "layercake/inflate.DistBits") = tabD "layercake/inflate.DistBits" Inf.distsB)
    (h5 : l.filter (fun x => x.1 == "layercake/inflate.Order") = tabD "layercake/inflate.Order" Inf.orderL) : Tabs W :=
  ⟨tab_row h h1 rfl (by kernel_rfl) (by kernel_rfl) Tryd.underlying152 (by kernel_rfl) rfl,
   tab_row h h2 rfl (by kernel_rfl) (by kernel_rfl) Tryd.underlying152 (by kernel_rfl) rfl,
   tab_row h h3 rfl (by kernel_rfl) (by kernel_rfl) Tryd.underlying153 (by kernel_rfl) rfl,
   tab_row h h4 rfl (by kernel_rfl) (by kernel_rfl) Tryd.underlying153 (by kernel_rfl) rfl,
   tab_row h h5 rfl (by kernel_rfl) (by kernel_rfl) Tryd.underlying129 (by kernel_rfl) rfl⟩
end Go.Proofs.YtnhbjgmfbcedaaaDoor
namespace Go.Proofs.YtnhbjgmfbcedaaaDoor
open Go.RowKit Go.ChangeShapes
theorem rowName : (Tryd.prog.cutTypes.find? (·.1 == "internal/reflectlite.rtype")).map (·.2) = some 190 := by kernel_rfl
theorem oneRow : ((List.range Tryd.prog.types.size).filter fun t => Tryd.prog.rowNamed t [101, 114, 114, 111, 114]) = [24] := by kernel_rfl
theorem etName : Tryd.prog.globalNamed "errors.errorType" = some 14 := by kernel_rfl
theorem errType_of_laid {l : List (String × DataW Unit)} {W : World} (h : laidMetH Tryd.prog l W)
  (hl : l.filter (fun x => x.1 == "errors.errorType") = [("errors.errorType", .iface "internal/reflectlite.rtype" (.agg [.ptr (.lit (.string [101, 114, 114, 111, 114]))]))]) : ErrType W := by
 have h1 := laidMetH.filter (fun x => x.1 == "errors.errorType") h
 rw [hl] at h1;have h' : laidMet Tryd.prog [] W ∧ handlesMet Tryd.prog [("errors.errorType", .iface "internal/reflectlite.rtype" (.agg [.ptr (.lit (.string [101, 114, 114, 111, 114]))]))] W := h1
 obtain ⟨name, u, ty, e1, e2, e3, e4, e5⟩ := h'.2 _ (List.mem_singleton.2 rfl);have en : name = [101, 114, 114, 111, 114] := (Option.some.inj e1).symm;subst en;obtain rfl := Option.some.inj (rowName.symm.trans e2);have hm : ty ∈ (List.range Tryd.prog.types.size).filter fun t => Tryd.prog.rowNamed t [101, 114, 114, 111, 114] := List.mem_filter.2 ⟨List.mem_range.2 e3, e4⟩;rw [oneRow] at hm;obtain rfl := List.mem_singleton.1 hm;have hh : typeHandle Tryd.prog 24 = hdl 24 := by kernel_rfl
 rw [hh] at e5;unfold ErrType;simpa using World.var?_cell etName e5 0
theorem sentinel_row {l : List (String × DataW Unit)} {W : World} {n : String} {g : Nat} {text : List UInt8} {ti : TypeId} {ms : Array (String × TypeId)} (h : laidMetH Tryd.prog l W)
  (hl : l.filter (fun x => x.1 == n) = [(n, .iface "*errors.errorString" (.ptr (.agg [.lit (.string text)])))]) (hg : Tryd.prog.globalNamed n = some g)
  (ht : (Tryd.prog.globals[g]?).map (·.type) = some ti) (hi : Tryd.prog.underlying ti = some (.interface ms)) :
  ∃ (E : Addr), W.cell? ⟨g, 0, none⟩ = some (sentV E) ∧ (∃ s : ByteArray, W.cell? E = some (.string s) ∧ s.data.toList = text) ∧ ∃ c t, W.heap[E.block]? = some (.cells c t (0, 0)) := by
 have h1 := laidMetH.filter (fun x => x.1 == n) h;rw [hl] at h1;have h2 : laidMet Tryd.prog [(n, .iface "*errors.errorString" (.ptr (.agg [.lit (.string text)])))] W := h1
 obtain ⟨ps, ⟨g0, t0, cs0, f0, p0, q0, hg0, ht0, hv0, hd0, _, e0⟩, _, hrows⟩ := h2;obtain rfl := Option.some.inj (hg.symm.trans hg0);obtain rfl := Option.some.inj (ht.symm.trans ht0);subst e0;obtain ⟨l0⟩ := cs0;have ok0 : ∀ u v, l0 = [.iface u v] → Value.okWide Tryd.prog W .any 0 u v := fun u v e => by
  subst e;exact (hrows g 0 (by simp [MemPlace.row])).2 u v (by simpa using World.var?_cell hg0 hv0 0)
 obtain ⟨a0, s0, rfl, hc0, hs0, hz0, rfl⟩ := errorString_of_trod hi sent_row Tryd.underlying210 Tryd.underlying229 rfl rfl Tryd.underlying9 (by kernel_rfl) (by kernel_rfl) hd0 ok0;obtain ⟨c, t, hb⟩ := (hrows a0.block a0.off (by simp [MemPlace.row])).1;exact ⟨a0, by unfold sentV; simpa using World.var?_cell hg0 hv0 0, ⟨s0, hc0, hs0⟩, c, t, hb⟩
def nameE : Nat → String
 | 0 => "layercake/api.ErrText"
 | 1 => "layercake/api.ErrBound"
 | 2 => "layercake/api.ErrShape"
 | 3 => "layercake/api.ErrSum"
 | 4 => "layercake/api.ErrName"
 | 5 => "layercake/api.ErrNone"
 | 6 => "layercake/api.ErrColors"
 | 7 => "layercake/api.ErrFull"
 | _ => "layercake/api.ErrPower"
def textE : Nat → List UInt8
 | 0 => [108, 97, 121, 101, 114, 99, 97, 107, 101, 58, 32, 116, 101, 120, 116]
 | 1 => [108, 97, 121, 101, 114, 99, 97, 107, 101, 58, 32, 98, 111, 117, 110, 100]
 | 2 => [108, 97, 121, 101, 114, 99, 97, 107, 101, 58, 32, 115, 104, 97, 112, 101]
 | 3 => [108, 97, 121, 101, 114, 99, 97, 107, 101, 58, 32, 115, 117, 109]
 | 4 => [108, 97, 121, 101, 114, 99, 97, 107, 101, 58, 32, 110, 97, 109, 101]
 | 5 => [108, 97, 121, 101, 114, 99, 97, 107, 101, 58, 32, 110, 111, 110, 101]
 | 6 => [108, 97, 121, 101, 114, 99, 97, 107, 101, 58, 32, 99, 111, 108, 111, 114, 115]
 | 7 => [108, 97, 121, 101, 114, 99, 97, 107, 101, 58, 32, 102, 117, 108, 108]
 | _ => [108, 97, 121, 101, 114, 99, 97, 107, 101, 58, 32, 112, 111, 119, 101, 114]
def errD (k : Nat) : List (String × DataW Unit) := [(nameE k, .iface "*errors.errorString" (.ptr (.agg [.lit (.string (textE k))])))]
theorem textE_ne : ∀ j, j < 9 → ∀ k, k < 9 → j ≠ k → textE j ≠ textE k := by decide
theorem errs_of_laid {l : List (String × DataW Unit)} {W : World} (h : laidMetH Tryd.prog l W)
  (het : l.filter (fun x => x.1 == "errors.errorType") = [("errors.errorType", .iface "internal/reflectlite.rtype" (.agg [.ptr (.lit (.string [101, 114, 114, 111, 114]))]))])
  (hl0 : l.filter (fun x => x.1 == nameE 0) = errD 0) (hl1 : l.filter (fun x => x.1 == nameE 1) = errD 1) (hl2 : l.filter (fun x => x.1 == nameE 2) = errD 2)
  (hl3 : l.filter (fun x => x.1 == nameE 3) = errD 3) (hl4 : l.filter (fun x => x.1 == nameE 4) = errD 4) (hl5 : l.filter (fun x => x.1 == nameE 5) = errD 5)
  (hl6 : l.filter (fun x => x.1 == nameE 6) = errD 6) (hl7 : l.filter (fun x => x.1 == nameE 7) = errD 7) (hl8 : l.filter (fun x => x.1 == nameE 8) = errD 8) :
  ∃ E, Errs W E ∧ ∀ k, k < 9 → ∃ s : ByteArray, W.cell? (E k) = some (.string s) ∧ s.data.toList = textE k := by
 have key : ∀ k, k < 9 → ∃ (E : Addr), W.cell? ⟨gk k, 0, none⟩ = some (sentV E) ∧ (∃ s : ByteArray, W.cell? E = some (.string s) ∧ s.data.toList = textE k) ∧ ∃ c t, W.heap[E.block]? = some (.cells c t (0, 0)) := by
  intro k hk;match k, hk with
  | 0, _ => exact sentinel_row h hl0 (by kernel_rfl) (by kernel_rfl) Tryd.underlying24
  | 1, _ => exact sentinel_row h hl1 (by kernel_rfl) (by kernel_rfl) Tryd.underlying24
  | 2, _ => exact sentinel_row h hl2 (by kernel_rfl) (by kernel_rfl) Tryd.underlying24
  | 3, _ => exact sentinel_row h hl3 (by kernel_rfl) (by kernel_rfl) Tryd.underlying24
  | 4, _ => exact sentinel_row h hl4 (by kernel_rfl) (by kernel_rfl) Tryd.underlying24
  | 5, _ => exact sentinel_row h hl5 (by kernel_rfl) (by kernel_rfl) Tryd.underlying24
  | 6, _ => exact sentinel_row h hl6 (by kernel_rfl) (by kernel_rfl) Tryd.underlying24
  | 7, _ => exact sentinel_row h hl7 (by kernel_rfl) (by kernel_rfl) Tryd.underlying24
  | 8, _ => exact sentinel_row h hl8 (by kernel_rfl) (by kernel_rfl) Tryd.underlying24
 let E : Nat → Addr := fun k => if hk : k < 9 then (key k hk).choose else ⟨0, 0, none⟩
 have hE : ∀ k (hk : k < 9), E k = (key k hk).choose := fun k hk => by simp [E, hk]
 refine ⟨E, ⟨errType_of_laid h het, fun k hk => ?_, fun k hk => ?_, fun j k hj hk hjk => ?_⟩, fun k hk => ?_⟩
 ·rw [hE k hk]; exact (key k hk).choose_spec.1
 ·rw [hE k hk]; exact (key k hk).choose_spec.2.2
 ·rw [hE j hj, hE k hk];intro e;obtain ⟨s, h1, h2⟩ := (key j hj).choose_spec.2.1;obtain ⟨s', h3, h4⟩ := (key k hk).choose_spec.2.1;rw [e, h3] at h1;injection h1 with h1; injection h1 with h1;subst h1;exact textE_ne j hj k hk hjk (h2.symm.trans h4)
 ·rw [hE k hk]; exact (key k hk).choose_spec.2.1
end Go.Proofs.YtnhbjgmfbcedaaaDoor
namespace Go.Proofs.YtnhbjgmfbcedaaaDoor
open Go.ChangeShapes Go.WideShapes Go.RowKit Go.Deep Go.Joins
theorem tok_byte {H : Type} {enc : TypeId × Value → H} {w : World} {base : Nat} {spare : Nat → Bool} {held : Bool} {n : Nat} {v : Value} {y : DataW H × List MemPlace} (h : DataW.trod enc Tryd.prog w base spare held n 5 [v] = some y) : ∃ b : UInt8, v = .int .u8 (b.toNat : Int) := by
 obtain ⟨k, e, _, wf⟩ := DataW.trod_int Tryd.underlying5 h;simp only [List.cons.injEq, and_true] at e;obtain ⟨h0, h1⟩ := bounds_u8 wf;refine ⟨UInt8.ofNat k.toNat, ?_⟩;rw [e, UInt8.toNat_ofNat'];exact congrArg (Value.int .u8) (by omega)
theorem tok_int {H : Type} {enc : TypeId × Value → H} {w : World} {base : Nat} {spare : Nat → Bool} {held : Bool} {n : Nat} {v : Value} {y : DataW H × List MemPlace} (h : DataW.trod enc Tryd.prog w base spare held n 3 [v] = some y) : ∃ k : Int, v = .int .i64 k ∧ -9223372036854775808 ≤ k ∧ k ≤ 9223372036854775807 := by
 obtain ⟨k, e, _, wf⟩ := DataW.trod_int Tryd.underlying3 h;simp only [List.cons.injEq, and_true] at e;exact ⟨k, e, bounds_i64 wf⟩
theorem open_toks {H : Type} {enc : TypeId × Value → H} {w : World} {base : Nat} {spare : Nat → Bool} {held : Bool} {v : Value} {d : DataW H} {pl : List MemPlace}
  (h : DataW.Trod enc Tryd.prog w base spare held 32 v d pl) (hv : ∃ x len cap, v = .slice x len cap) :
  ∃ (a : Option Addr) (n cap : Nat) (tk : Nat → Tk), v = .slice a n cap ∧ n ≤ maxLen ∧ (a = none → cap = 0) ∧ Toks w a n tk := by
 obtain ⟨x, len, cap, rfl⟩ := hv;obtain ⟨fuel, hf⟩ := h;rcases open_recs Tryd.underlying32 Tryd.underlying84 (by kernel_rfl) (show Tryd.prog.cellsOf 84 = _ by kernel_rfl) hf with h0 | ⟨a, n, c, h0, hn, hc, hf⟩
 ·simp [Value.cells] at h0;obtain ⟨rfl, rfl, rfl⟩ := h0;exact ⟨none, 0, 0, fun _ => ⟨0, 0, 0⟩, rfl, Nat.zero_le _, fun _ => rfl, fun _ => rfl, fun a h => by cases h⟩
 ·simp [Value.cells] at h0;obtain ⟨rfl, rfl, rfl⟩ := h0;have key : ∀ i, i < len → ∃ p : Tk, w.cell? (a.add (i * 3)) = some (.int .u8 (p.b.toNat : Int)) ∧ w.cell? ⟨(a.add (i * 3)).block, (a.add (i * 3)).off + 1, none⟩ = some (.int .i64 p.l) ∧ w.cell? ⟨(a.add (i * 3)).block, (a.add (i * 3)).off + 2, none⟩ = some (.int .i64 p.d) ∧ p.Ok := by
   intro i hi;obtain ⟨v0, y0, n0, c0, t0⟩ := hf i hi 0 _ rfl;obtain ⟨v1, y1, n1, c1, t1⟩ := hf i hi 1 _ rfl;obtain ⟨v2, y2, n2, c2, t2⟩ := hf i hi 2 _ rfl;obtain ⟨k0, rfl⟩ := tok_byte t0;obtain ⟨k1, rfl, b1⟩ := tok_int t1;obtain ⟨k2, rfl, b2⟩ := tok_int t2;exact ⟨⟨k0, k1, k2⟩, c0, cell_add (by decide) c1, cell_add (by decide) c2, ⟨b1, b2⟩⟩
  haveI : Inhabited Tk := ⟨⟨0, 0, 0⟩⟩
  obtain ⟨tk, htk⟩ := Go.Deep.choose_lt (α := Tk) key;exact ⟨some a, len, cap, tk, rfl, by omega, (fun h => by cases h), (fun h => by cases h), fun a' ha i hi => by injection ha with ha; subst ha; exact htk i hi⟩
end Go.Proofs.YtnhbjgmfbcedaaaDoor
namespace Go.Proofs.YtnhbjgmfbcedaaaDoor
open Go.ChangeShapes Go.WideShapes Go.ChangeAt Go.RowKit
theorem law_readAll {H : Type} {enc : TypeId × Value → H} {P : Program} (hl : laidOutB P = true) {W W' : World} (sp : Nat → Bool) (hB : Below W.heap.size W W') :
  ∀ (ts : List TypeId) (vs : List Value) (ds : List (DataW H)) (ps : List MemPlace),
   (∀ t ∈ ts, P.readableRec t = true ∧ t < P.types.size) → (∀ p ∈ ps, p.block < W.heap.size) → (∀ p ∈ ps, sp p.block = true) →
   DataW.TrodAll enc P W 0 (fun _ => true) true ts vs ds ps → DataW.TrodAll enc P W' 0 sp true ts vs ds ps
 | [], [], [], _, _, _, _, h => h
 | t :: ts, v :: vs, d :: ds, ps, hr, hlt, hsp, h => by
  obtain ⟨p, q, h1, h2, rfl⟩ := h;have ht := hr t (List.mem_cons_self ..);refine ⟨p, q, ?_, ?_, rfl⟩
  ·exact WideElems.Trod_stays hl ht.1 ht.2 h1 (fun x hx => hB.same (hlt x (List.mem_append_left _ hx))) (fun x hx => hsp x (List.mem_append_left _ hx))
  ·exact law_readAll hl sp hB ts vs ds q (fun t' ht' => hr t' (List.mem_cons_of_mem _ ht')) (fun x hx => hlt x (List.mem_append_right _ hx)) (fun x hx => hsp x (List.mem_append_right _ hx)) h2
 | [], [], _ :: _, _, _, _, _, h => h.elim
 | [], _ :: _, _, _, _, _, _, h => h.elim
 | _ :: _, [], _, _, _, _, _, h => h.elim
 | _ :: _, _ :: _, [], _, _, _, _, h => h.elim
theorem law_post {H : Type} {enc : TypeId × Value → H} {P : Program} (hl : laidOutB P = true) {f : Func} {s : ChangeSpec} {apart fresh handsOn : Bool} {W W' : World} {args : Array Value} {ds : List (DataW H)} {before : List MemPlace} {tb : TypeId}
  (hW : DataW.Whole enc P f.params.toList s.vars apart W args.toList ds [] before) (hv : s.vars = [])
  (hfn : s.fn H (ds ++ []) = { results := [.lit (.bool true)], args := ds })
  (hread : f.params.toList.all (fun t => P.readableRec t && decide (t < P.types.size)) = true)
  (hres : f.resultTypes = #[tb]) (hb : P.underlying tb = some .bool) (hB : Below W.heap.size W W') :
  s.post enc P f apart fresh handsOn false W args (.bool true) W' := by
 have hlt : ∀ p ∈ before, p.block < W.heap.size := fun p hp => hW.lt p hp;have hr : ∀ t ∈ f.params.toList, P.readableRec t = true ∧ t < P.types.size := by
  intro t ht;have := List.all_eq_true.1 hread t ht;simpa using this
 have hW0 := hW;obtain ⟨p, q, hA, hV, hpq, hfz, hnd⟩ := hW;rw [hv] at hV;have hq : q = [] := by simpa [DataW.TrodVars] using hV
 subst hq;rw [List.append_nil] at hpq;subst hpq;have hargs : ∀ sp : Nat → Bool, (∀ x ∈ before, sp x.block = true) → DataW.TrodAll enc P W' 0 sp true f.params.toList args.toList ds before :=
  fun sp hsp => law_readAll hl sp hB _ _ _ _ hr hlt hsp hA
 have hold : ∀ x ∈ before, (fun b => decide (b < W.heap.size)) x.block = true := fun x hx => by simpa using hlt x hx
 have hresults : ∀ (b : Nat) (sp : Nat → Bool) (hd : Bool), DataW.TrodAll enc P W' b sp hd f.resultTypes.toList ((Value.bool true).resultList f.resultTypes.size) [.lit (.bool true)] [] := by
  intro b sp hd;rw [hres];exact trodAll_mk1 (shut_bool hb true)
 refine ⟨ds, [], before, [], before, [], hW0, ?_, ?_, ?_, World.keptBut_mono (fun x hx => ⟨hx, ?_⟩) (hB.frame (· ∈ before)), fun _ => ?_⟩
 ·rw [hfn]; exact hresults _ _ _
 ·rw [hfn]; exact hargs _ hold
 ·rw [hfn, hv]; rfl
 ·exact Or.inr (Or.inl hx)
 ·cases ‹false = true›
end Go.Proofs.YtnhbjgmfbcedaaaDoor
