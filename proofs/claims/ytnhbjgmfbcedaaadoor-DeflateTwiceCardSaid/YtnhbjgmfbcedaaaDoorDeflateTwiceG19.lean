/-
  inflate: tokens.
-/
import Derived.Test.YtnhbjgmfbcedaaaDoorDeflateTwiceG1
import Derived.Test.YtnhbjgmfbcedaaaDoorDeflateTwiceG4
set_option linter.unusedSimpArgs false
set_option linter.unusedVariables false
set_option maxRecDepth 100000
namespace Go.Proofs.YtnhbjgmfbcedaaaDoor
open Go.RowKit
set_option linter.unusedSimpArgs false in
set_option maxHeartbeats 4000000 in
theorem itokens_any (dn : Nat) (cs : Array Value) (D : World → Value → Prop) (R B T a most len gen FF : Nat) (f g : Nat → Int) (s : ByteArray) (v0 : Value) (out : List UInt8) (tr : List Inf.Ev) (w0 w : World) (E : Nat → Addr) (hE : Errs w0 E) (hTb : Tabs w0) (hD : Dist dn cs w0 R B s most E g gen D) (hI : ISt w0 w R B s a v0 out most) (hT : Tr w T f len R B v0) (hd : D w v0) (hF : 8 * s.size - a < FF) (hmost : most ≤ 300000) (hsz : s.size ≤ 300000) (hout : out.length ≤ most) :
  Calls Tryd.prog 78 #[.pointer (some ⟨R, 0, none⟩), .pointer (some ⟨T, 0, none⟩), .func (.func dn) #[] cs] w fun e w' => IPost w0 w R B s most v0 E (Inf.pr (Inf.toks s.data.toList most f len g gen FF a out tr)) e w' := by
 have HE := Lib.hid hE;have HTb := Lib.hid hTb;have HD := Lib.hid hD;have hen := hD.enters;have H_0 : Hid (TGo D w0 w w R B s a v0 v0 out most T f len) := Lib.hid ⟨IGo.start hI, hT, hd, hD.stab⟩;obtain ⟨r, hr⟩ : ∃ r, Inf.toks s.data.toList most f len g gen FF a out tr = r := ⟨_, rfl⟩;rw [hr];have HR := Lib.hid hr;have HFF := Lib.hid hF;obtain ⟨i0, hi0, hz0, hz1, hz2⟩ := info_parts u8inf;clear hE hTb hD hI hT hd hr hF;go_enter Tryd.func78, Tryd.ntmps78
 go_wp2_with fail;go_loopg [] (8 * s.size - a) (fun k wr => ∃ (a : Nat) (v : Value) (out : List UInt8) (tr : List Inf.Ev) (FF : Nat), Hid (TGo D w0 w wr R B s a v0 v out most T f len) ∧ Hid (Inf.toks s.data.toList most f len g gen FF a out tr = r) ∧ Hid (8 * s.size - a < FF ∧ k = 8 * s.size - a) ∧ out.length ≤ most)
 case atStart => exact ⟨a, v0, out, tr, FF, H_0, HR, Lib.hid ⟨HFF.out, rfl⟩, hout⟩
 case round =>
  clear H_0 HR HFF hout;obtain ⟨a, v, out, tr, FF, H_0, HR, HK, hout⟩ := hrel;have HF0 : Hid (0 < FF) := Lib.hid (by have := HK.out; omega);go_wp2_with fail;cases hn : Inf.nxt s.data.toList f len a with
  | error c =>
   refine (gnext_no R B T a c most len f s v0 v out w0 w _ E HE.out H_0.out.go H_0.out.tr hn).mono ?_;rintro e w9 ⟨rfl, h9⟩;exact ⟨rfl, ipost_error (Inf.toks_err1 HF0.out HR.out hn) h9⟩
  | ok q =>
   obtain ⟨k, a1⟩ := q;have hal := Inf.nxt_le hn;rw [list_size] at hal;obtain ⟨hal1, hal2, hal3⟩ := hal;have hlen : len ≤ 300 := H_0.out.tr.good.1.1;have HN := Lib.hid hn;refine (gnext_yes R B T a k a1 most len f s v0 v out w0 w _ E HE.out H_0.out.go H_0.out.tr hn).mono ?_;clear hn;rintro e w1 ⟨rfl, hG, hS⟩;have H_1 := Lib.hid (H_0.out.rd hG hS);clear H_0;clear hG hS;by_cases hk : k = 256
   ·subst hk;go_wp2_with fail;first | go_end0 | refine bodyPost_ret (results_none rfl _ _ _) rfl ?_
    exact ipost_ok (Inf.toks_fin HF0.out HR.out HN.out) H_1.out.go
   ·have t1 : ((k : Int) == 256) = false := beq_eq_false_iff_ne.2 (by omega);have HKN := Lib.hid hk;by_cases hk2 : k < 256
    ·have t2 : decide ((k : Int) < 256) = true := decide_eq_true (by omega);obtain ⟨Lo, hLo⟩ : ∃ Lo, out.length = Lo := ⟨_, rfl⟩;have HL := Lib.hid hLo;have hro := H_1.out.row;rw [hLo] at hro hout;obtain ⟨xo, co, rfl⟩ := lit_row hro;clear hLo hro hk;have c0 := H_1.out.bk.cell 0;have c1 := H_1.out.bk.cell 1;have c2 := H_1.out.bk.cell 2;have ee := err_cells HE.out H_1.out.old;have e0 := ee.1;have e1 := ee.2;clear ee;by_cases hm : Lo < most
     ·have t3 : decide ((Lo : Int) < (most : Int)) = true := decide_eq_true (by omega);have HQ := Lib.hid (Inf.toks_go HF0.out HR.out HN.out HKN.out (Inf.tok_lit (L := s.data.toList) (g := g) (gen := gen) (a := a1) (out := out) (most := most) hk2 (by rw [HL.out]; omega)));clear HR;go_wp2_with fail;refine wp_region_still_tail 12 (by kernel_rfl) (by kernel_rfl) ?_;simp only [List.take_succ_cons, List.take_zero, List.drop_succ_cons, List.drop_zero];repeat still_step
      refine wpStill_nil ?_;change wpList _ _ _ _ _ w1.drew;go_wp2_with fail;refine (must_yes _ _ _).mono ?_;rintro e _ ⟨rfl, rfl⟩;have H_2 := Lib.hid (H_1.out.ext (show Ext w1 w1.drew from Below.drew (Ext.refl _)));clear H_1;clear t1 t2 t3;have wk : ∀ z, z = (k : Int) → IntKind.u8.wrap z = z := by rintro _ rfl; unfold IntKind.wrap; simp [IntKind.bits, IntKind.signed]; omega
      have hro := H_2.out.row;rw [HL.out] at hro;have HO := Lib.hid hro;clear hro;have hky : (((UInt8.ofNat k).toNat : Nat) : Int) = (k : Int) := by rw [UInt8.toNat_ofNat', Nat.mod_eq_of_lt (by omega)]
      have HKY := Lib.hid hky;have hkm : (k : Int) % 256 = (k : Int) := by omega
      clear hky;go_wp2_with (at_builtin; refine wpList_append_own_at _ rfl _ _ 61 rfl 0 5 i0 (.int .u8 0) 1 1 Tryd.underlying61 hi0 hz0 hz1 hz2 rfl (by decide) _ _ _ rfl (HO.out.alloc _) ⟨w1.drew.heap.size, 0, none⟩ 1 1 [.int .u8 (k : Int)] rfl rfl ?c1 (one8 _) ?c3 ?c4 ?c5 ?_)
      case c1 => exact (cell_one_new _ _ _)
      case c3 => unfold maxLen; omega
      case c4 => omega
      case c5 => omega
      intro v' w4 hown hgrow _ hat;obtain ⟨x4, c4, rfl⟩ := lit_row hown;have P := H_2.out.go.push (y := UInt8.ofNat k) HL.out ((Ext.refl _).alloc _) hgrow (by rw [HKY.out]; exact hown) (by rcases hat with q | q; exact .inl q; exact .inr (by rw [q]; simp));have b1 := P.1.cell 1;have f1 := P.1.frozen 1;have HP := Lib.hid P;clear P hown hgrow hat c0 c1 c2 e0 e1 wk;go_wp2_with fail;obtain ⟨F2, hF2, HR2⟩ := HQ.out;have HR3 := Lib.hid HR2;have HF3 : Hid (8 * s.size - a1 < F2) := Lib.hid (by have := HK.out; omega);clear HR2 HQ;go_roundg (8 * s.size - a1)
      case measure => have := HK.out; omega
      case rel => exact ⟨a1, _, _, _, F2, Lib.hid (H_2.out.to HP.out.2.1 HP.out.2.2), HR3, Lib.hid ⟨HF3.out, rfl⟩, by rw [List.length_append, HL.out]; simp; omega⟩
     ·have t3 : decide ((Lo : Int) < (most : Int)) = false := decide_eq_false (by omega);have HQ := Lib.hid (Inf.toks_err2 HF0.out HR.out HN.out HKN.out (Inf.tok_over (L := s.data.toList) (g := g) (gen := gen) (a := a1) (out := out) (most := most) hk2 (by rw [HL.out]; omega)));go_wp2_with fail;refine wp_region_still_tail 12 (by kernel_rfl) (by kernel_rfl) ?_;simp only [List.take_succ_cons, List.take_zero, List.drop_succ_cons, List.drop_zero];repeat still_step
      refine wpStill_nil ?_;change wpList _ _ _ _ _ w1.drew;go_wp2_with fail;refine (must_no _ (E 1) _).mono ?_;rintro e _ ⟨rfl, rfl⟩;exact ⟨rfl, ipost_error HQ.out (H_1.out.ext (Below.drew (Ext.refl _))).old⟩
    ·have t2 : decide ((k : Int) < 256) = false := decide_eq_false (by omega);obtain ⟨kk, rfl⟩ : ∃ kk, k = kk + 257 := ⟨k - 257, by omega⟩;have hkk : ((kk + 257 : Nat) : Int) - 257 = (kk : Int) := by omega
     have wkk : ∀ z, z = (kk : Int) → IntKind.i64.wrap z = z := by rintro _ rfl; rw [IntKind.wrap_i64]; omega
     have ee := err_cells HE.out H_1.out.old;have e0 := ee.1;clear ee;clear hk;by_cases hk3 : 29 ≤ kk
     ·have t3 : decide ((kk : Int) < 29) = false := decide_eq_false (by omega);go_wp2_with fail;refine (must_no _ (E 0) _).mono ?_;rintro e _ ⟨rfl, rfl⟩;exact ⟨rfl, ipost_error (Inf.toks_err2 HF0.out HR.out HN.out HKN.out (Inf.tok_big (by omega))) H_1.out.old⟩
     ·have t3 : decide ((kk : Int) < 29) = true := decide_eq_true (by omega);go_wp2_with fail;refine (must_yes _ _ _).mono ?_;rintro e _ ⟨rfl, rfl⟩;clear t1 t2 t3;obtain ⟨lb, hlb⟩ : ∃ lb, Inf.lensB.getD kk 0 = lb := ⟨_, rfl⟩;obtain ⟨ln, hln⟩ : ∃ ln, Inf.lensL.getD kk 0 = ln := ⟨_, rfl⟩;have hlb5 : lb ≤ 5 := by rw [← hlb]; exact Inf.lensB_le kk
      have hln5 : ln ≤ 258 := by rw [← hln]; exact Inf.lensL_le kk
      have HLB := Lib.hid hlb;have HLN := Lib.hid hln;have tl := HTb.out.lens kk (by omega);have tb := HTb.out.lenB kk (by omega);rw [hlb] at tb;rw [hln] at tl;have TL := Lib.hid tl;have TB := Lib.hid tb;clear tl tb hlb hln e0 hkk wkk;have hkI : (0 : Int) ≤ (kk : Int) := by omega
      have hkI2 : (kk : Int) < 29 := by omega
      go_wp2_with fail;cases hx : Inf.get s.data.toList lb a1 with
      | error c =>
       have HX := Lib.hid hx;have HQ := Lib.hid (Inf.toks_err2 HF0.out HR.out HN.out HKN.out (Inf.tok_x (L := s.data.toList) (most := most) (g := g) (gen := gen) (out := out) (by omega) (by omega) (by rw [Nat.add_sub_cancel, HLB.out]; exact hx)));clear hx;refine wp_region_held_drew (S := fun w' => w'.cell? ⟨10, kk, none⟩ = some (.int .i64 (ln : Int)) ∧ w'.cell? ⟨11, kk, none⟩ = some (.int .i64 (lb : Int))) (by kernel_rfl) ⟨(ext_cell H_1.out.old TL.out), (ext_cell H_1.out.old TB.out)⟩ (fun hHeld => ?_);clear hHeld;refine anyH_world (fun wz => Ext w1 wz) (show Ext w1 w1.drew from Below.drew (Ext.refl w1)) ?_;rintro w2 h;have H_2 := Lib.hid (H_1.out.ext h);clear h H_1;have hHeld : w2.cell? ⟨10, kk, none⟩ = some (.int .i64 (ln : Int)) ∧ w2.cell? ⟨11, kk, none⟩ = some (.int .i64 (lb : Int)) := ⟨(ext_cell H_2.out.old TL.out), (ext_cell H_2.out.old TB.out)⟩;refine tkH 0 (v := ?_) rfl hHeld ?_ ?_;rotate_left
       ·intro w hSw;(try dsimp only at hSw);go_split_ands;go_simp;(try with_reducible rfl)
       (try simp only [Act.put, xa, xb, xc, xd, xe, xf]);refine tkH 1 (v := ?_) rfl hHeld ?_ ?_;rotate_left
       ·intro w hSw;(try dsimp only at hSw);go_split_ands;go_simp;(try with_reducible rfl)
       (try simp only [Act.put, xa, xb, xc, xd, xe, xf]);refine tkH 2 (v := ?_) rfl hHeld ?_ ?_;rotate_left
       ·intro w hSw;(try dsimp only at hSw);go_split_ands;go_simp;(try with_reducible rfl)
       (try simp only [Act.put, xa, xb, xc, xd, xe, xf]);refine tkH 3 (v := ?_) rfl hHeld ?_ ?_;rotate_left
       ·intro w hSw;(try dsimp only at hSw);go_split_ands;go_simp;(try with_reducible rfl)
       (try simp only [Act.put, xa, xb, xc, xd, xe, xf]);refine tkH 4 (v := ?_) rfl hHeld ?_ ?_;rotate_left
       ·intro w hSw;(try dsimp only at hSw);go_split_ands;go_simp;(try with_reducible rfl)
       (try simp only [Act.put, xa, xb, xc, xd, xe, xf]);refine tkH 5 (v := ?_) rfl hHeld ?_ ?_;rotate_left
       ·intro w hSw;(try dsimp only at hSw);go_split_ands;go_simp;(try with_reducible rfl)
       (try simp only [Act.put, xa, xb, xc, xd, xe, xf]);refine tkH 6 (v := ?_) rfl hHeld ?_ ?_;rotate_left
       ·intro w hSw;(try dsimp only at hSw);go_split_ands;go_simp;(try with_reducible rfl)
       (try simp only [Act.put, xa, xb, xc, xd, xe, xf]);refine wpAnyH_ready (rs := [7]) (by kernel_rfl) (by simp) ?_;refine AllReadyH.cons rfl (fun KK hK => ?_) AllReadyH.nil;clear hHeld;go_simp;refine (gget_no R B a1 lb c most s v0 v out w0 w _ E HE.out H_2.out.go (by omega) HX.out).mono ?_;rintro e w9 ⟨rfl, h9⟩;exact ⟨rfl, ipost_error HQ.out h9⟩
      | ok q =>
       obtain ⟨x, a2⟩ := q;obtain ⟨z1, z2, z3, z4⟩ := Inf.get_ok hx;clear z4;rw [list_size] at z2;have hx32 : x < 32 := Nat.lt_of_lt_of_le z3 (Nat.pow_le_pow_right (n := 2) (by decide) hlb5);clear z3;have HX := Lib.hid hx;clear hx;have wn : ∀ z, z = (ln : Int) + (x : Int) → IntKind.i64.wrap z = z := by rintro _ rfl; rw [IntKind.wrap_i64]; omega
       obtain ⟨n, hn⟩ : ∃ n : Nat, ln + x = n := ⟨_, rfl⟩;have hnI : (ln : Int) + (x : Int) = (n : Int) := by omega
       have HNN := Lib.hid hn;have hn290 : n ≤ 290 := by omega
       clear hn;refine wp_region_held_drew (S := fun w' => w'.cell? ⟨10, kk, none⟩ = some (.int .i64 (ln : Int)) ∧ w'.cell? ⟨11, kk, none⟩ = some (.int .i64 (lb : Int))) (by kernel_rfl) ⟨(ext_cell H_1.out.old TL.out), (ext_cell H_1.out.old TB.out)⟩ (fun hHeld => ?_);clear hHeld;refine anyH_world (fun wz => Ext w1 wz) (show Ext w1 w1.drew from Below.drew (Ext.refl w1)) ?_;rintro w2 h;have H_2 := Lib.hid (H_1.out.ext h);clear h H_1;have hHeld : w2.cell? ⟨10, kk, none⟩ = some (.int .i64 (ln : Int)) ∧ w2.cell? ⟨11, kk, none⟩ = some (.int .i64 (lb : Int)) := ⟨(ext_cell H_2.out.old TL.out), (ext_cell H_2.out.old TB.out)⟩;refine tkH 0 (v := ?_) rfl hHeld ?_ ?_;rotate_left
       ·intro w hSw;(try dsimp only at hSw);go_split_ands;go_simp;(try with_reducible rfl)
       (try simp only [Act.put, xa, xb, xc, xd, xe, xf]);refine tkH 1 (v := ?_) rfl hHeld ?_ ?_;rotate_left
       ·intro w hSw;(try dsimp only at hSw);go_split_ands;go_simp;(try with_reducible rfl)
       (try simp only [Act.put, xa, xb, xc, xd, xe, xf]);refine tkH 2 (v := ?_) rfl hHeld ?_ ?_;rotate_left
       ·intro w hSw;(try dsimp only at hSw);go_split_ands;go_simp;(try with_reducible rfl)
       (try simp only [Act.put, xa, xb, xc, xd, xe, xf]);refine tkH 3 (v := ?_) rfl hHeld ?_ ?_;rotate_left
       ·intro w hSw;(try dsimp only at hSw);go_split_ands;go_simp;(try with_reducible rfl)
       (try simp only [Act.put, xa, xb, xc, xd, xe, xf]);refine tkH 4 (v := ?_) rfl hHeld ?_ ?_;rotate_left
       ·intro w hSw;(try dsimp only at hSw);go_split_ands;go_simp;(try with_reducible rfl)
       (try simp only [Act.put, xa, xb, xc, xd, xe, xf]);refine tkH 5 (v := ?_) rfl hHeld ?_ ?_;rotate_left
       ·intro w hSw;(try dsimp only at hSw);go_split_ands;go_simp;(try with_reducible rfl)
       (try simp only [Act.put, xa, xb, xc, xd, xe, xf]);refine tkH 6 (v := ?_) rfl hHeld ?_ ?_;rotate_left
       ·intro w hSw;(try dsimp only at hSw);go_split_ands;go_simp;(try with_reducible rfl)
       (try simp only [Act.put, xa, xb, xc, xd, xe, xf]);refine wpAnyH_ready (rs := [7]) (by kernel_rfl) (by simp) ?_;refine AllReadyH.cons rfl (fun KK hK => ?_) AllReadyH.nil;clear hHeld;go_simp;refine (gget_yes R B a1 lb x a2 most s v0 v out w0 w _ E HE.out H_2.out.go (by omega) HX.out).mono ?_;rintro e w3 ⟨rfl, hG, hS⟩;have H_3 := Lib.hid (H_2.out.rd hG hS);clear H_2;clear hG hS;go_simp;refine hK.out _ _ ⟨(ext_cell H_3.out.old TL.out), (ext_cell H_3.out.old TB.out)⟩ (fun hHeld => ?_);clear hK KK;(try simp only [Act.put, xa, xb, xc, xd, xe, xf]);refine tkH 8 (v := ?_) rfl hHeld ?_ ?_;rotate_left
       ·intro w hSw;(try dsimp only at hSw);go_split_ands;go_simp;(try with_reducible rfl)
       (try simp only [Act.put, xa, xb, xc, xd, xe, xf]);refine tkH 9 (v := ?_) rfl hHeld ?_ ?_;rotate_left
       ·intro w hSw;(try dsimp only at hSw);go_split_ands;go_simp;(try with_reducible rfl)
       (try simp only [Act.put, xa, xb, xc, xd, xe, xf]);refine wpAnyH_done (by kernel_rfl) ?_ _;clear hHeld;clear wn hnI;go_wp2_with fail;cases hd : Inf.nxt s.data.toList g gen a2 with
       | error c =>
        refine (HD.out.no w _ a2 v0 v out c H_3.out.go H_3.out.d hd).mono ?_;rintro e w9 ⟨rfl, h9⟩;exact ⟨rfl, ipost_error (Inf.toks_err2 HF0.out HR.out HN.out HKN.out (Inf.tok_d (by omega) (by omega) (by rw [Nat.add_sub_cancel, HLB.out]; exact HX.out) hd)) h9⟩
       | ok q =>
        obtain ⟨d, a3⟩ := q;have hal3 := Inf.nxt_le hd;rw [list_size] at hal3;obtain ⟨hb1, hb2, -⟩ := hal3;have HDD := Lib.hid hd;refine (HD.out.yes w _ a2 v0 v out d a3 H_3.out.go H_3.out.d hd).mono ?_;clear hd;rintro e w7 ⟨rfl, hG, hS⟩;have H_4 := Lib.hid (H_3.out.to hG hS);clear H_3;clear hG hS;have HTF := Lib.hid (Inf.tok_f (L := s.data.toList) (most := most) (g := g) (gen := gen) (out := out) (k := kk + 257) (by omega) (by omega) (by rw [Nat.add_sub_cancel, HLB.out]; exact HX.out) HDD.out);have ee := err_cells HE.out H_4.out.old;have e0 := ee.1;clear ee;by_cases hd3 : 30 ≤ d
        ·have t3 : decide ((d : Int) < 30) = false := decide_eq_false (by omega);go_wp2_with fail;refine (must_no _ (E 0) _).mono ?_;rintro e _ ⟨rfl, rfl⟩;exact ⟨rfl, ipost_error (Inf.toks_err2 HF0.out HR.out HN.out HKN.out (HTF.out.trans (Inf.far_big hd3))) H_4.out.old⟩
        ·have t3 : decide ((d : Int) < 30) = true := decide_eq_true (by omega);go_wp2_with fail;refine (must_yes _ _ _).mono ?_;rintro e _ ⟨rfl, rfl⟩;clear t3 e0;obtain ⟨db, hdb⟩ : ∃ db, Inf.distsB.getD d 0 = db := ⟨_, rfl⟩;obtain ⟨dl, hdl⟩ : ∃ dl, Inf.distsL.getD d 0 = dl := ⟨_, rfl⟩;have hdb13 : db ≤ 13 := by rw [← hdb]; exact Inf.distsB_le d
         have hdl5 : dl ≤ 24577 := by rw [← hdl]; exact Inf.distsL_le d
         have hdl1 : 1 ≤ dl := by rw [← hdl]; exact Inf.distsL_pos d (by omega)
         have HDB := Lib.hid hdb;have HDL := Lib.hid hdl;have tl := HTb.out.dists d (by omega);have tb := HTb.out.distB d (by omega);rw [hdb] at tb;rw [hdl] at tl;have TDL := Lib.hid tl;have TDB := Lib.hid tb;clear tl tb hdb hdl;have hdI : (0 : Int) ≤ (d : Int) := by omega
         have hdI2 : (d : Int) < 30 := by omega
         go_wp2_with fail;cases hy : Inf.get s.data.toList db a3 with
         | error c =>
          have HY := Lib.hid hy;have HQ := Lib.hid (Inf.toks_err2 HF0.out HR.out HN.out HKN.out (HTF.out.trans (Inf.far_x (by omega) (by rw [HDB.out]; exact hy))));clear hy;refine wp_region_held_drew (S := fun w' => w'.cell? ⟨12, d, none⟩ = some (.int .i64 (dl : Int)) ∧ w'.cell? ⟨13, d, none⟩ = some (.int .i64 (db : Int))) (by kernel_rfl) ⟨(ext_cell H_4.out.old TDL.out), (ext_cell H_4.out.old TDB.out)⟩ (fun hHeld => ?_);clear hHeld;refine anyH_world (fun wz => Ext w7 wz) (show Ext w7 w7.drew from Below.drew (Ext.refl w7)) ?_;rintro w5 h;have H_5 := Lib.hid (H_4.out.ext h);clear h H_4;have hHeld : w5.cell? ⟨12, d, none⟩ = some (.int .i64 (dl : Int)) ∧ w5.cell? ⟨13, d, none⟩ = some (.int .i64 (db : Int)) := ⟨(ext_cell H_5.out.old TDL.out), (ext_cell H_5.out.old TDB.out)⟩;refine tkH 0 (v := ?_) rfl hHeld ?_ ?_;rotate_left
          ·intro w hSw;(try dsimp only at hSw);go_split_ands;go_simp;(try with_reducible rfl)
          (try simp only [Act.put, xa, xb, xc, xd, xe, xf]);refine tkH 1 (v := ?_) rfl hHeld ?_ ?_;rotate_left
          ·intro w hSw;(try dsimp only at hSw);go_split_ands;go_simp;(try with_reducible rfl)
          (try simp only [Act.put, xa, xb, xc, xd, xe, xf]);refine tkH 2 (v := ?_) rfl hHeld ?_ ?_;rotate_left
          ·intro w hSw;(try dsimp only at hSw);go_split_ands;go_simp;(try with_reducible rfl)
          (try simp only [Act.put, xa, xb, xc, xd, xe, xf]);refine tkH 3 (v := ?_) rfl hHeld ?_ ?_;rotate_left
          ·intro w hSw;(try dsimp only at hSw);go_split_ands;go_simp;(try with_reducible rfl)
          (try simp only [Act.put, xa, xb, xc, xd, xe, xf]);refine tkH 4 (v := ?_) rfl hHeld ?_ ?_;rotate_left
          ·intro w hSw;(try dsimp only at hSw);go_split_ands;go_simp;(try with_reducible rfl)
          (try simp only [Act.put, xa, xb, xc, xd, xe, xf]);refine tkH 5 (v := ?_) rfl hHeld ?_ ?_;rotate_left
          ·intro w hSw;(try dsimp only at hSw);go_split_ands;go_simp;(try with_reducible rfl)
          (try simp only [Act.put, xa, xb, xc, xd, xe, xf]);refine tkH 6 (v := ?_) rfl hHeld ?_ ?_;rotate_left
          ·intro w hSw;(try dsimp only at hSw);go_split_ands;go_simp;(try with_reducible rfl)
          (try simp only [Act.put, xa, xb, xc, xd, xe, xf]);refine wpAnyH_ready (rs := [7]) (by kernel_rfl) (by simp) ?_;refine AllReadyH.cons rfl (fun KK hK => ?_) AllReadyH.nil;clear hHeld;go_simp;refine (gget_no R B a3 db c most s v0 v out w0 w _ E HE.out H_5.out.go (by omega) HY.out).mono ?_;rintro e w9 ⟨rfl, h9⟩;exact ⟨rfl, ipost_error HQ.out h9⟩
         | ok q =>
          obtain ⟨y, a4⟩ := q;obtain ⟨z1, z2, z3, z4⟩ := Inf.get_ok hy;clear z4;rw [list_size] at z2;have hy32 : y < 8192 := Nat.lt_of_lt_of_le z3 (Nat.pow_le_pow_right (n := 2) (by decide) hdb13);clear z3;have HY := Lib.hid hy;clear hy;have wn : ∀ z, z = (dl : Int) + (y : Int) → IntKind.i64.wrap z = z := by rintro _ rfl; rw [IntKind.wrap_i64]; omega
          obtain ⟨bk, hbk⟩ : ∃ bk : Nat, dl + y = bk := ⟨_, rfl⟩;have hbI : (dl : Int) + (y : Int) = (bk : Int) := by omega
          have hbk2 : 1 ≤ bk ∧ bk ≤ 40000 := by omega
          have HBK := Lib.hid hbk;clear hbk;refine wp_region_held_drew (S := fun w' => w'.cell? ⟨12, d, none⟩ = some (.int .i64 (dl : Int)) ∧ w'.cell? ⟨13, d, none⟩ = some (.int .i64 (db : Int))) (by kernel_rfl) ⟨(ext_cell H_4.out.old TDL.out), (ext_cell H_4.out.old TDB.out)⟩ (fun hHeld => ?_);clear hHeld;refine anyH_world (fun wz => Ext w7 wz) (show Ext w7 w7.drew from Below.drew (Ext.refl w7)) ?_;rintro w5 h;have H_5 := Lib.hid (H_4.out.ext h);clear h H_4;have hHeld : w5.cell? ⟨12, d, none⟩ = some (.int .i64 (dl : Int)) ∧ w5.cell? ⟨13, d, none⟩ = some (.int .i64 (db : Int)) := ⟨(ext_cell H_5.out.old TDL.out), (ext_cell H_5.out.old TDB.out)⟩;refine tkH 0 (v := ?_) rfl hHeld ?_ ?_;rotate_left
          ·intro w hSw;(try dsimp only at hSw);go_split_ands;go_simp;(try with_reducible rfl)
          (try simp only [Act.put, xa, xb, xc, xd, xe, xf]);refine tkH 1 (v := ?_) rfl hHeld ?_ ?_;rotate_left
          ·intro w hSw;(try dsimp only at hSw);go_split_ands;go_simp;(try with_reducible rfl)
          (try simp only [Act.put, xa, xb, xc, xd, xe, xf]);refine tkH 2 (v := ?_) rfl hHeld ?_ ?_;rotate_left
          ·intro w hSw;(try dsimp only at hSw);go_split_ands;go_simp;(try with_reducible rfl)
          (try simp only [Act.put, xa, xb, xc, xd, xe, xf]);refine tkH 3 (v := ?_) rfl hHeld ?_ ?_;rotate_left
          ·intro w hSw;(try dsimp only at hSw);go_split_ands;go_simp;(try with_reducible rfl)
          (try simp only [Act.put, xa, xb, xc, xd, xe, xf]);refine tkH 4 (v := ?_) rfl hHeld ?_ ?_;rotate_left
          ·intro w hSw;(try dsimp only at hSw);go_split_ands;go_simp;(try with_reducible rfl)
          (try simp only [Act.put, xa, xb, xc, xd, xe, xf]);refine tkH 5 (v := ?_) rfl hHeld ?_ ?_;rotate_left
          ·intro w hSw;(try dsimp only at hSw);go_split_ands;go_simp;(try with_reducible rfl)
          (try simp only [Act.put, xa, xb, xc, xd, xe, xf]);refine tkH 6 (v := ?_) rfl hHeld ?_ ?_;rotate_left
          ·intro w hSw;(try dsimp only at hSw);go_split_ands;go_simp;(try with_reducible rfl)
          (try simp only [Act.put, xa, xb, xc, xd, xe, xf]);refine wpAnyH_ready (rs := [7]) (by kernel_rfl) (by simp) ?_;refine AllReadyH.cons rfl (fun KK hK => ?_) AllReadyH.nil;clear hHeld;go_simp;refine (gget_yes R B a3 db y a4 most s v0 v out w0 w _ E HE.out H_5.out.go (by omega) HY.out).mono ?_;rintro e w6 ⟨rfl, hG, hS⟩;have H_6 := Lib.hid (H_5.out.rd hG hS);clear H_5;clear hG hS;go_simp;refine hK.out _ _ ⟨(ext_cell H_6.out.old TDL.out), (ext_cell H_6.out.old TDB.out)⟩ (fun hHeld => ?_);clear hK KK;(try simp only [Act.put, xa, xb, xc, xd, xe, xf]);refine tkH 8 (v := ?_) rfl hHeld ?_ ?_;rotate_left
          ·intro w hSw;(try dsimp only at hSw);go_split_ands;go_simp;(try with_reducible rfl)
          (try simp only [Act.put, xa, xb, xc, xd, xe, xf]);refine tkH 9 (v := ?_) rfl hHeld ?_ ?_;rotate_left
          ·intro w hSw;(try dsimp only at hSw);go_split_ands;go_simp;(try with_reducible rfl)
          (try simp only [Act.put, xa, xb, xc, xd, xe, xf]);refine wpAnyH_done (by kernel_rfl) ?_ _;clear hHeld;clear wn hbI;obtain ⟨Lo, hLo⟩ : ∃ Lo, out.length = Lo := ⟨_, rfl⟩;have HL := Lib.hid hLo;have hro := H_6.out.row;rw [hLo] at hro hout;obtain ⟨xo, co, rfl⟩ := lit_row hro;clear hLo hro;have c0 := H_6.out.bk.cell 0;have c1 := H_6.out.bk.cell 1;have c2 := H_6.out.bk.cell 2;have ee := err_cells HE.out H_6.out.old;have e0 := ee.1;have e1 := ee.2;clear ee;by_cases hbo : Lo < bk
          ·have t3 : decide ((bk : Int) ≤ (Lo : Int)) = false := decide_eq_false (by omega);have n3 : ¬ bk ≤ Lo := by omega
           have HQ := Lib.hid (Inf.toks_err2 HF0.out HR.out HN.out HKN.out (HTF.out.trans (Inf.far_back (by omega) (by rw [HDB.out]; exact HY.out) (by rw [HL.out, HDL.out, HBK.out]; exact hbo))));go_wp2_with fail;refine wp_region_still_tail 9 (by kernel_rfl) (by kernel_rfl) ?_;simp only [List.take_succ_cons, List.take_zero, List.drop_succ_cons, List.drop_zero];repeat still_step
           refine wpStill_nil ?_;change wpList _ _ _ _ _ w6.drew;go_wp2_with fail;refine (must_no _ (E 0) _).mono ?_;rintro e _ ⟨rfl, rfl⟩;exact ⟨rfl, ipost_error HQ.out (H_6.out.ext (Below.drew (Ext.refl _))).old⟩
          ·have t3 : decide ((bk : Int) ≤ (Lo : Int)) = true := decide_eq_true (by omega);have n3 : bk ≤ Lo := by omega
           have HBO := Lib.hid hbo;go_wp2_with fail;refine wp_region_still_tail 9 (by kernel_rfl) (by kernel_rfl) ?_;simp only [List.take_succ_cons, List.take_zero, List.drop_succ_cons, List.drop_zero];repeat still_step
           refine wpStill_nil ?_;change wpList _ _ _ _ _ w6.drew;go_wp2_with fail;refine (must_yes _ _ _).mono ?_;rintro e _ ⟨rfl, rfl⟩;have H_7 := Lib.hid (H_6.out.ext (show Ext w6 w6.drew from Below.drew (Ext.refl _)));clear H_6;clear t3 n3;have wl : ∀ z, z = (Lo : Int) + (n : Int) → IntKind.i64.wrap z = z := by rintro _ rfl; rw [IntKind.wrap_i64]; omega
           go_wp2_with fail;clear c0 c1 c2 e0 e1;refine wp_world (fun wz => Ext w6.drew wz) (Ext.refl _) ?_;rintro w8 h;have H_8 := Lib.hid (H_7.out.ext h);clear h H_7;have c0 := H_8.out.bk.cell 0;have c1 := H_8.out.bk.cell 1;have c2 := H_8.out.bk.cell 2;have ee := err_cells HE.out H_8.out.old;have e0 := ee.1;have e1 := ee.2;clear ee;by_cases hmo : most < Lo + n
           ·have t4 : decide ((Lo : Int) + (n : Int) ≤ (most : Int)) = false := decide_eq_false (by omega);have HQ := Lib.hid (Inf.toks_err2 HF0.out HR.out HN.out HKN.out (HTF.out.trans (Inf.far_most (by omega) (by rw [HDB.out]; exact HY.out) (by rw [HL.out, HDL.out, HBK.out]; exact HBO.out) (by rw [HL.out, Nat.add_sub_cancel, HLN.out, HNN.out]; exact hmo))));refine wp_region_still_tail 14 (by kernel_rfl) (by kernel_rfl) ?_;simp only [List.take_succ_cons, List.take_zero, List.drop_succ_cons, List.drop_zero];repeat still_step
            refine wpStill_nil ?_;change wpList _ _ _ _ _ w8.drew;go_wp2_with fail;refine (must_no _ (E 1) _).mono ?_;rintro e _ ⟨rfl, rfl⟩;exact ⟨rfl, ipost_error HQ.out (H_8.out.ext (Below.drew (Ext.refl _))).old⟩
           ·have t4 : decide ((Lo : Int) + (n : Int) ≤ (most : Int)) = true := decide_eq_true (by omega);have HQ := Lib.hid (Inf.toks_go HF0.out HR.out HN.out HKN.out (HTF.out.trans (Inf.far_ok (by omega) (by rw [HDB.out]; exact HY.out) (by rw [HL.out, HDL.out, HBK.out]; exact HBO.out) (by rw [HL.out, Nat.add_sub_cancel, HLN.out, HNN.out]; exact hmo))));rw [Nat.add_sub_cancel, HLN.out, HNN.out, HDL.out, HBK.out] at HQ;clear HR;refine wp_region_still_tail 14 (by kernel_rfl) (by kernel_rfl) ?_;simp only [List.take_succ_cons, List.take_zero, List.drop_succ_cons, List.drop_zero];repeat still_step
            refine wpStill_nil ?_;change wpList _ _ _ _ _ w8.drew;go_wp2_with fail;refine (must_yes _ _ _).mono ?_;rintro e _ ⟨rfl, rfl⟩;have H_9 := Lib.hid (H_8.out.ext (show Ext w8 w8.drew from Below.drew (Ext.refl _)));clear H_8;clear t4 wl c0 c1 c2 e0 e1;have HB : Hid (Lo + n ≤ most ∧ bk ≤ Lo ∧ 1 ≤ bk) := Lib.hid ⟨by omega, by omega, by omega⟩;have HA4 : Hid (a < a4 ∧ a4 ≤ 8 * s.size) := Lib.hid ⟨by omega, by omega⟩;clear hmo hbo;go_wp2_with fail;go_loopw [101] (fun c wr => ∃ (j : Nat) (v : Value), j ≤ n ∧ c = .int .i64 j ∧ Hid (TGo D w0 w wr R B s a4 v0 v (copyL out bk j) most T f len)) (fun c _ => n - (intOf c).toNat)
            case atStart => exact ⟨0, _, by omega, rfl, H_9⟩
            case round =>
             clear H_9;obtain ⟨j, v, hj, rfl, H_0⟩ := hrel;by_cases hjn : j < n
             ·obtain ⟨U, hU⟩ : ∃ U, copyL out bk j = U := ⟨_, rfl⟩;have HUS : Hid (copyL out bk (j + 1) = U ++ [U.getD (U.length - bk) 0]) := Lib.hid (by simp only [copyL, hU]);have hUl : U.length = Lo + j := by rw [← hU, copyL_length, HL.out]
              rw [hU] at H_0;obtain ⟨M, hM⟩ : ∃ M, U.length = M := ⟨_, rfl⟩;have hro := H_0.out.row;rw [hM] at hro hUl HUS;have HM := Lib.hid hM;have hBq := HB.out;obtain ⟨gb, cp, rfl, _, _⟩ := ownsRow_some hro (by omega);obtain ⟨y, hy⟩ : ∃ y, U.getD (M - bk) 0 = y := ⟨_, rfl⟩;rw [hy] at HUS;obtain ⟨q, hq⟩ : ∃ q : Nat, M - bk = q := ⟨_, rfl⟩;have hc : wr.cell? ⟨gb, q, none⟩ = some (.int .u8 (y.toNat : Int)) := by
               have hql : q < U.length := by omega
               rw [hro.cellAt q (by omega), bytesV_get U q hql, ← hy, hq];simp [List.getD, hql]
              have hqI : (M : Int) - (bk : Int) = (q : Int) := by omega
              have wq : ∀ z, z = (q : Int) → IntKind.i64.wrap z = z := by rintro _ rfl; rw [IntKind.wrap_i64]; omega
              have hqM : q < M := by omega
              have hM2 : M < 300000 := by omega
              have hqMI : (q : Int) < (M : Int) := by omega
              have hq0 : (0 : Int) ≤ (q : Int) := by omega
              have hqn : ((q : Nat) : Int).toNat = q := by omega
              have tj : decide ((j : Int) < (n : Int)) = true := decide_eq_true (by omega);have HO := Lib.hid hro;have HC := Lib.hid hc;clear hU hy hM hq hUl hBq hc hro;go_wp2_with fail;have Y_0 := Lib.hid (Ext.refl wr);refine wp_region_held_drew (S := fun w' => True) (by kernel_rfl) trivial (fun hHeld => ?_);clear hHeld;refine anyH_world (fun wz => Ext wr wz) (show Ext wr wr.drew from Below.drew (Ext.refl wr)) ?_;rintro w1 h;have H_1 := Lib.hid (H_0.out.ext h);have Y_1 := Lib.hid (Y_0.out.trans h);clear h H_0 Y_0;have hHeld : True := trivial;refine tkH 0 (v := ?_) rfl hHeld ?_ ?_;rotate_left
              ·intro w hSw;(try dsimp only at hSw);go_split_ands;go_simp;(try with_reducible rfl)
              (try simp only [Act.put, xa, xb, xc, xd, xe, xf]);refine tkH 1 (v := ?_) rfl hHeld ?_ ?_;rotate_left
              ·intro w hSw;(try dsimp only at hSw);go_split_ands;go_simp;(try with_reducible rfl)
              (try simp only [Act.put, xa, xb, xc, xd, xe, xf]);refine tkH 2 (v := ?_) rfl hHeld ?_ ?_;rotate_left
              ·intro w hSw;(try dsimp only at hSw);go_split_ands;go_simp;(try with_reducible rfl)
              (try simp only [Act.put, xa, xb, xc, xd, xe, xf]);refine tkH 3 (v := ?_) rfl hHeld ?_ ?_;rotate_left
              ·intro w hSw;(try dsimp only at hSw);go_split_ands;go_simp;(try with_reducible rfl)
              (try simp only [Act.put, xa, xb, xc, xd, xe, xf]);refine tkH 5 (v := ?_) rfl hHeld ?_ ?_;rotate_left
              ·intro w hSw;(try dsimp only at hSw);go_split_ands;go_simp;(try with_reducible rfl)
              (try simp only [Act.put, xa, xb, xc, xd, xe, xf]);refine tkH 6 (v := ?_) rfl hHeld ?_ ?_;rotate_left
              ·intro w hSw;(try dsimp only at hSw);go_split_ands;go_simp;(try with_reducible rfl)
              (try simp only [Act.put, xa, xb, xc, xd, xe, xf]);refine tkH 7 (v := ?_) rfl hHeld ?_ ?_;rotate_left
              ·intro w hSw;(try dsimp only at hSw);go_split_ands;go_simp;(try with_reducible rfl)
              (try simp only [Act.put, xa, xb, xc, xd, xe, xf]);refine tkH 9 (v := ?_) rfl hHeld ?_ ?_;rotate_left
              ·intro w hSw;(try dsimp only at hSw);go_split_ands;go_simp;(try with_reducible rfl)
              (try simp only [Act.put, xa, xb, xc, xd, xe, xf]);refine tkH 10 (v := ?_) rfl hHeld ?_ ?_;rotate_left
              ·intro w hSw;(try dsimp only at hSw);go_split_ands;go_simp;(try with_reducible rfl)
              (try simp only [Act.put, xa, xb, xc, xd, xe, xf]);refine tkH 11 (v := ?_) rfl hHeld ?_ ?_;rotate_left
              ·intro w hSw;(try dsimp only at hSw);go_split_ands;go_simp;(try with_reducible rfl)
              (try simp only [Act.put, xa, xb, xc, xd, xe, xf]);refine tkH 14 (v := ?_) rfl hHeld ?_ ?_;rotate_left
              ·intro w hSw;(try dsimp only at hSw);go_split_ands;go_simp;(try with_reducible rfl)
              (try simp only [Act.put, xa, xb, xc, xd, xe, xf]);refine wpAnyH_ready (rs := [4, 8, 12]) (by kernel_rfl) (by simp) ?_;refine AllReadyH.cons rfl (fun KK hK => ?_) (AllReadyH.cons rfl (fun KK hK => ?_) (AllReadyH.cons rfl (fun KK hK => ?_) AllReadyH.nil))
              ·clear hHeld;have k1 := H_1.out.bk.cell 1;go_simp;refine hK.out _ _ trivial (fun hHeld => ?_);clear hK KK k1;(try simp only [Act.put, xa, xb, xc, xd, xe, xf]);refine wpAnyH_ready (rs := [8, 12]) (by kernel_rfl) (by simp) ?_;refine AllReadyH.cons rfl (fun KK hK => ?_) (AllReadyH.cons rfl (fun KK hK => ?_) AllReadyH.nil)
               ·clear hHeld;have k1 := H_1.out.bk.cell 1;go_simp;refine hK.out _ _ trivial (fun hHeld => ?_);clear hK KK k1;(try simp only [Act.put, xa, xb, xc, xd, xe, xf]);refine wpAnyH_ready (rs := [12]) (by kernel_rfl) (by simp) ?_;refine AllReadyH.cons rfl (fun KK hK => ?_) AllReadyH.nil;clear hHeld;have k1 := H_1.out.bk.cell 1;go_simp;refine hK.out _ _ trivial (fun hHeld => ?_);clear hK KK k1;(try simp only [Act.put, xa, xb, xc, xd, xe, xf]);refine tkH 13 (v := ?_) rfl hHeld ?_ ?_;rotate_left
                ·intro w hSw;(try dsimp only at hSw);go_split_ands;go_simp;(try with_reducible rfl)
                (try simp only [Act.put, xa, xb, xc, xd, xe, xf]);refine tkH 15 (v := ?_) rfl hHeld ?_ ?_;rotate_left
                ·intro w hSw;(try dsimp only at hSw);go_split_ands;go_simp;(try with_reducible rfl)
                (try simp only [Act.put, xa, xb, xc, xd, xe, xf]);refine tkH 16 (v := ?_) rfl hHeld ?_ ?_;rotate_left
                ·intro w hSw;(try dsimp only at hSw);go_split_ands;go_simp;(try with_reducible rfl)
                (try simp only [Act.put, xa, xb, xc, xd, xe, xf]);refine wpAnyH_ready (rs := [17]) (by kernel_rfl) (by simp) ?_;refine AllReadyH.cons rfl (fun KK hK => ?_) AllReadyH.nil;clear hHeld;have hc := ext_cell Y_1.out HC.out;go_simp;refine hK.out _ _ trivial (fun hHeld => ?_);clear hK KK hc;(try simp only [Act.put, xa, xb, xc, xd, xe, xf]);refine wpAnyH_ready (rs := [18]) (by kernel_rfl) (by simp) ?_;refine AllReadyH.cons rfl (fun KK hK => ?_) AllReadyH.nil;clear hHeld;go_simp;refine hK.out _ _ trivial (fun hHeld => ?_);clear hK KK hHeld;(try simp only [Act.put, xa, xb, xc, xd, xe, xf]);refine anyH_world (fun wz => Ext w1 wz ∧ Bk wz w1.heap.size #[.int .u8 (y.toNat : Int)]) ⟨Ext.alloc (Ext.refl _) _, Bk.at rfl⟩ ?_;rintro w2 ⟨h, hB⟩;have H_2 := Lib.hid (H_1.out.ext h);have Y_2 := Lib.hid (Y_1.out.trans h);clear h H_1 Y_1;have T1_2 := Lib.hid (hB);clear hB;have hHeld : True := trivial;refine wpAnyH_ready (rs := [19]) (by kernel_rfl) (by simp) ?_;refine AllReadyH.cons rfl (fun KK hK => ?_) AllReadyH.nil;clear hHeld;have HRo := Lib.hid (ownsRow_kept HO.out (Y_2.out.keeps (S := fun _ => False)) (fun _ _ q => q));refine step_append_lies _ rfl (.tmp 107) (.tmp 121) 61 rfl 0 5 i0 (.int .u8 0) 1 1 Tryd.underlying61 hi0 hz0 hz1 hz2 rfl (by decide) (.slice (some ⟨gb, 0, none⟩) M cp) M (bytesV U) (by simp [Act.eval]) HRo.out ⟨w1.heap.size, 0, none⟩ 1 1 [.int .u8 (y.toNat : Int)] (by simp [Act.eval]) rfl (fun j u hu => ?c1) (by intro u hu; simp at hu; subst hu; rfl) (by omega) (by unfold maxLen; omega) (by omega) (Nat.zero_le _) _ rfl ?_
                case c1 =>
                 obtain rfl : j = 0 := by have := (List.getElem?_eq_some_iff.1 hu).1; simpa using this
                 rw [add_plain, T1_2.out.cell 0]; exact hu
                intro g1 cap1 w4 hown hgrow hat hlt1;have P := H_2.out.go.push (y := y) HM.out (Ext.refl _) hgrow hown (by rcases hat with q | q; exact .inl q.symm; exact .inr (by rw [q]; rfl));have b1 := P.1.cell 1;have f1 := P.1.frozen 1;have HP := Lib.hid P;clear P hown hgrow hat hlt1;skip
                refine hK.out _ _ trivial (fun hHeld => ?_);clear hK KK;(try simp only [Act.put, xa, xb, xc, xd, xe, xf]);refine tkH 20 (v := ?_) rfl hHeld ?_ ?_;rotate_left
                ·intro w hSw;(try dsimp only at hSw);go_split_ands;go_simp;(try with_reducible rfl)
                (try simp only [Act.put, xa, xb, xc, xd, xe, xf]);refine tkH 21 (v := ?_) rfl hHeld ?_ ?_;rotate_left
                ·intro w hSw;(try dsimp only at hSw);go_split_ands;go_simp;(try with_reducible rfl)
                (try simp only [Act.put, xa, xb, xc, xd, xe, xf]);refine wpAnyH_ready (rs := [22]) (by kernel_rfl) (by simp) ?_;refine AllReadyH.cons rfl (fun KK hK => ?_) AllReadyH.nil;clear hHeld;go_simp;refine hK.out _ _ trivial (fun hHeld => ?_);clear hK KK b1 f1;(try simp only [Act.put, xa, xb, xc, xd, xe, xf]);refine wpAnyH_done (by kernel_rfl) ?_ _;clear hHeld;have wj : ∀ z, z = (j : Int) + 1 → IntKind.i64.wrap z = z := by rintro _ rfl; rw [IntKind.wrap_i64]; omega
                have HU2 := Lib.hid HUS.out;go_wp2_with fail;go_roundw
                case rel => exact ⟨j + 1, _, by omega, by go_num, Lib.hid (by rw [HU2.out]; exact H_2.out.to HP.out.2.1 HP.out.2.2)⟩
                case measure => simp [intOf]; omega
               ·clear hHeld;have k1 := H_1.out.bk.cell 1;go_simp;refine hK.out _ _ trivial (fun hHeld => ?_);clear hK KK k1;(try simp only [Act.put, xa, xb, xc, xd, xe, xf]);refine tkH 13 (v := ?_) rfl hHeld ?_ ?_;rotate_left
                ·intro w hSw;(try dsimp only at hSw);go_split_ands;go_simp;(try with_reducible rfl)
                (try simp only [Act.put, xa, xb, xc, xd, xe, xf]);refine tkH 15 (v := ?_) rfl hHeld ?_ ?_;rotate_left
                ·intro w hSw;(try dsimp only at hSw);go_split_ands;go_simp;(try with_reducible rfl)
                (try simp only [Act.put, xa, xb, xc, xd, xe, xf]);refine wpAnyH_ready (rs := [8]) (by kernel_rfl) (by simp) ?_;refine AllReadyH.cons rfl (fun KK hK => ?_) AllReadyH.nil;clear hHeld;have k1 := H_1.out.bk.cell 1;go_simp;refine hK.out _ _ trivial (fun hHeld => ?_);clear hK KK k1;(try simp only [Act.put, xa, xb, xc, xd, xe, xf]);refine tkH 16 (v := ?_) rfl hHeld ?_ ?_;rotate_left
                ·intro w hSw;(try dsimp only at hSw);go_split_ands;go_simp;(try with_reducible rfl)
                (try simp only [Act.put, xa, xb, xc, xd, xe, xf]);refine wpAnyH_ready (rs := [17]) (by kernel_rfl) (by simp) ?_;refine AllReadyH.cons rfl (fun KK hK => ?_) AllReadyH.nil;clear hHeld;have hc := ext_cell Y_1.out HC.out;go_simp;refine hK.out _ _ trivial (fun hHeld => ?_);clear hK KK hc;(try simp only [Act.put, xa, xb, xc, xd, xe, xf]);refine wpAnyH_ready (rs := [18]) (by kernel_rfl) (by simp) ?_;refine AllReadyH.cons rfl (fun KK hK => ?_) AllReadyH.nil;clear hHeld;go_simp;refine hK.out _ _ trivial (fun hHeld => ?_);clear hK KK hHeld;(try simp only [Act.put, xa, xb, xc, xd, xe, xf]);refine anyH_world (fun wz => Ext w1 wz ∧ Bk wz w1.heap.size #[.int .u8 (y.toNat : Int)]) ⟨Ext.alloc (Ext.refl _) _, Bk.at rfl⟩ ?_;rintro w2 ⟨h, hB⟩;have H_2 := Lib.hid (H_1.out.ext h);have Y_2 := Lib.hid (Y_1.out.trans h);clear h H_1 Y_1;have T1_2 := Lib.hid (hB);clear hB;have hHeld : True := trivial;refine wpAnyH_ready (rs := [19]) (by kernel_rfl) (by simp) ?_;refine AllReadyH.cons rfl (fun KK hK => ?_) AllReadyH.nil;clear hHeld;have HRo := Lib.hid (ownsRow_kept HO.out (Y_2.out.keeps (S := fun _ => False)) (fun _ _ q => q));refine step_append_lies _ rfl (.tmp 107) (.tmp 121) 61 rfl 0 5 i0 (.int .u8 0) 1 1 Tryd.underlying61 hi0 hz0 hz1 hz2 rfl (by decide) (.slice (some ⟨gb, 0, none⟩) M cp) M (bytesV U) (by simp [Act.eval]) HRo.out ⟨w1.heap.size, 0, none⟩ 1 1 [.int .u8 (y.toNat : Int)] (by simp [Act.eval]) rfl (fun j u hu => ?c1) (by intro u hu; simp at hu; subst hu; rfl) (by omega) (by unfold maxLen; omega) (by omega) (Nat.zero_le _) _ rfl ?_
                case c1 =>
                 obtain rfl : j = 0 := by have := (List.getElem?_eq_some_iff.1 hu).1; simpa using this
                 rw [add_plain, T1_2.out.cell 0]; exact hu
                intro g1 cap1 w4 hown hgrow hat hlt1;have P := H_2.out.go.push (y := y) HM.out (Ext.refl _) hgrow hown (by rcases hat with q | q; exact .inl q.symm; exact .inr (by rw [q]; rfl));have b1 := P.1.cell 1;have f1 := P.1.frozen 1;have HP := Lib.hid P;clear P hown hgrow hat hlt1;skip
                refine hK.out _ _ trivial (fun hHeld => ?_);clear hK KK;(try simp only [Act.put, xa, xb, xc, xd, xe, xf]);refine tkH 20 (v := ?_) rfl hHeld ?_ ?_;rotate_left
                ·intro w hSw;(try dsimp only at hSw);go_split_ands;go_simp;(try with_reducible rfl)
                (try simp only [Act.put, xa, xb, xc, xd, xe, xf]);refine tkH 21 (v := ?_) rfl hHeld ?_ ?_;rotate_left
                ·intro w hSw;(try dsimp only at hSw);go_split_ands;go_simp;(try with_reducible rfl)
                (try simp only [Act.put, xa, xb, xc, xd, xe, xf]);refine wpAnyH_ready (rs := [22]) (by kernel_rfl) (by simp) ?_;refine AllReadyH.cons rfl (fun KK hK => ?_) AllReadyH.nil;clear hHeld;go_simp;refine hK.out _ _ trivial (fun hHeld => ?_);clear hK KK b1 f1;(try simp only [Act.put, xa, xb, xc, xd, xe, xf]);refine wpAnyH_done (by kernel_rfl) ?_ _;clear hHeld;have wj : ∀ z, z = (j : Int) + 1 → IntKind.i64.wrap z = z := by rintro _ rfl; rw [IntKind.wrap_i64]; omega
                have HU2 := Lib.hid HUS.out;go_wp2_with fail;go_roundw
                case rel => exact ⟨j + 1, _, by omega, by go_num, Lib.hid (by rw [HU2.out]; exact H_2.out.to HP.out.2.1 HP.out.2.2)⟩
                case measure => simp [intOf]; omega
              ·clear hHeld;have k1 := H_1.out.bk.cell 1;go_simp;refine hK.out _ _ trivial (fun hHeld => ?_);clear hK KK k1;(try simp only [Act.put, xa, xb, xc, xd, xe, xf]);refine wpAnyH_ready (rs := [4, 12]) (by kernel_rfl) (by simp) ?_;refine AllReadyH.cons rfl (fun KK hK => ?_) (AllReadyH.cons rfl (fun KK hK => ?_) AllReadyH.nil)
               ·clear hHeld;have k1 := H_1.out.bk.cell 1;go_simp;refine hK.out _ _ trivial (fun hHeld => ?_);clear hK KK k1;(try simp only [Act.put, xa, xb, xc, xd, xe, xf]);refine wpAnyH_ready (rs := [12]) (by kernel_rfl) (by simp) ?_;refine AllReadyH.cons rfl (fun KK hK => ?_) AllReadyH.nil;clear hHeld;have k1 := H_1.out.bk.cell 1;go_simp;refine hK.out _ _ trivial (fun hHeld => ?_);clear hK KK k1;(try simp only [Act.put, xa, xb, xc, xd, xe, xf]);refine tkH 13 (v := ?_) rfl hHeld ?_ ?_;rotate_left
                ·intro w hSw;(try dsimp only at hSw);go_split_ands;go_simp;(try with_reducible rfl)
                (try simp only [Act.put, xa, xb, xc, xd, xe, xf]);refine tkH 15 (v := ?_) rfl hHeld ?_ ?_;rotate_left
                ·intro w hSw;(try dsimp only at hSw);go_split_ands;go_simp;(try with_reducible rfl)
                (try simp only [Act.put, xa, xb, xc, xd, xe, xf]);refine tkH 16 (v := ?_) rfl hHeld ?_ ?_;rotate_left
                ·intro w hSw;(try dsimp only at hSw);go_split_ands;go_simp;(try with_reducible rfl)
                (try simp only [Act.put, xa, xb, xc, xd, xe, xf]);refine wpAnyH_ready (rs := [17]) (by kernel_rfl) (by simp) ?_;refine AllReadyH.cons rfl (fun KK hK => ?_) AllReadyH.nil;clear hHeld;have hc := ext_cell Y_1.out HC.out;go_simp;refine hK.out _ _ trivial (fun hHeld => ?_);clear hK KK hc;(try simp only [Act.put, xa, xb, xc, xd, xe, xf]);refine wpAnyH_ready (rs := [18]) (by kernel_rfl) (by simp) ?_;refine AllReadyH.cons rfl (fun KK hK => ?_) AllReadyH.nil;clear hHeld;go_simp;refine hK.out _ _ trivial (fun hHeld => ?_);clear hK KK hHeld;(try simp only [Act.put, xa, xb, xc, xd, xe, xf]);refine anyH_world (fun wz => Ext w1 wz ∧ Bk wz w1.heap.size #[.int .u8 (y.toNat : Int)]) ⟨Ext.alloc (Ext.refl _) _, Bk.at rfl⟩ ?_;rintro w2 ⟨h, hB⟩;have H_2 := Lib.hid (H_1.out.ext h);have Y_2 := Lib.hid (Y_1.out.trans h);clear h H_1 Y_1;have T1_2 := Lib.hid (hB);clear hB;have hHeld : True := trivial;refine wpAnyH_ready (rs := [19]) (by kernel_rfl) (by simp) ?_;refine AllReadyH.cons rfl (fun KK hK => ?_) AllReadyH.nil;clear hHeld;have HRo := Lib.hid (ownsRow_kept HO.out (Y_2.out.keeps (S := fun _ => False)) (fun _ _ q => q));refine step_append_lies _ rfl (.tmp 107) (.tmp 121) 61 rfl 0 5 i0 (.int .u8 0) 1 1 Tryd.underlying61 hi0 hz0 hz1 hz2 rfl (by decide) (.slice (some ⟨gb, 0, none⟩) M cp) M (bytesV U) (by simp [Act.eval]) HRo.out ⟨w1.heap.size, 0, none⟩ 1 1 [.int .u8 (y.toNat : Int)] (by simp [Act.eval]) rfl (fun j u hu => ?c1) (by intro u hu; simp at hu; subst hu; rfl) (by omega) (by unfold maxLen; omega) (by omega) (Nat.zero_le _) _ rfl ?_
                case c1 =>
                 obtain rfl : j = 0 := by have := (List.getElem?_eq_some_iff.1 hu).1; simpa using this
                 rw [add_plain, T1_2.out.cell 0]; exact hu
                intro g1 cap1 w4 hown hgrow hat hlt1;have P := H_2.out.go.push (y := y) HM.out (Ext.refl _) hgrow hown (by rcases hat with q | q; exact .inl q.symm; exact .inr (by rw [q]; rfl));have b1 := P.1.cell 1;have f1 := P.1.frozen 1;have HP := Lib.hid P;clear P hown hgrow hat hlt1;skip
                refine hK.out _ _ trivial (fun hHeld => ?_);clear hK KK;(try simp only [Act.put, xa, xb, xc, xd, xe, xf]);refine tkH 20 (v := ?_) rfl hHeld ?_ ?_;rotate_left
                ·intro w hSw;(try dsimp only at hSw);go_split_ands;go_simp;(try with_reducible rfl)
                (try simp only [Act.put, xa, xb, xc, xd, xe, xf]);refine tkH 21 (v := ?_) rfl hHeld ?_ ?_;rotate_left
                ·intro w hSw;(try dsimp only at hSw);go_split_ands;go_simp;(try with_reducible rfl)
                (try simp only [Act.put, xa, xb, xc, xd, xe, xf]);refine wpAnyH_ready (rs := [22]) (by kernel_rfl) (by simp) ?_;refine AllReadyH.cons rfl (fun KK hK => ?_) AllReadyH.nil;clear hHeld;go_simp;refine hK.out _ _ trivial (fun hHeld => ?_);clear hK KK b1 f1;(try simp only [Act.put, xa, xb, xc, xd, xe, xf]);refine wpAnyH_done (by kernel_rfl) ?_ _;clear hHeld;have wj : ∀ z, z = (j : Int) + 1 → IntKind.i64.wrap z = z := by rintro _ rfl; rw [IntKind.wrap_i64]; omega
                have HU2 := Lib.hid HUS.out;go_wp2_with fail;go_roundw
                case rel => exact ⟨j + 1, _, by omega, by go_num, Lib.hid (by rw [HU2.out]; exact H_2.out.to HP.out.2.1 HP.out.2.2)⟩
                case measure => simp [intOf]; omega
               ·clear hHeld;have k1 := H_1.out.bk.cell 1;go_simp;refine hK.out _ _ trivial (fun hHeld => ?_);clear hK KK k1;(try simp only [Act.put, xa, xb, xc, xd, xe, xf]);refine tkH 13 (v := ?_) rfl hHeld ?_ ?_;rotate_left
                ·intro w hSw;(try dsimp only at hSw);go_split_ands;go_simp;(try with_reducible rfl)
                (try simp only [Act.put, xa, xb, xc, xd, xe, xf]);refine tkH 15 (v := ?_) rfl hHeld ?_ ?_;rotate_left
                ·intro w hSw;(try dsimp only at hSw);go_split_ands;go_simp;(try with_reducible rfl)
                (try simp only [Act.put, xa, xb, xc, xd, xe, xf]);refine tkH 16 (v := ?_) rfl hHeld ?_ ?_;rotate_left
                ·intro w hSw;(try dsimp only at hSw);go_split_ands;go_simp;(try with_reducible rfl)
                (try simp only [Act.put, xa, xb, xc, xd, xe, xf]);refine wpAnyH_ready (rs := [4, 17]) (by kernel_rfl) (by simp) ?_;refine AllReadyH.cons rfl (fun KK hK => ?_) (AllReadyH.cons rfl (fun KK hK => ?_) AllReadyH.nil)
                ·clear hHeld;have k1 := H_1.out.bk.cell 1;go_simp;refine hK.out _ _ trivial (fun hHeld => ?_);clear hK KK k1;(try simp only [Act.put, xa, xb, xc, xd, xe, xf]);refine wpAnyH_ready (rs := [17]) (by kernel_rfl) (by simp) ?_;refine AllReadyH.cons rfl (fun KK hK => ?_) AllReadyH.nil;clear hHeld;have hc := ext_cell Y_1.out HC.out;go_simp;refine hK.out _ _ trivial (fun hHeld => ?_);clear hK KK hc;(try simp only [Act.put, xa, xb, xc, xd, xe, xf]);refine wpAnyH_ready (rs := [18]) (by kernel_rfl) (by simp) ?_;refine AllReadyH.cons rfl (fun KK hK => ?_) AllReadyH.nil;clear hHeld;go_simp;refine hK.out _ _ trivial (fun hHeld => ?_);clear hK KK hHeld;(try simp only [Act.put, xa, xb, xc, xd, xe, xf]);refine anyH_world (fun wz => Ext w1 wz ∧ Bk wz w1.heap.size #[.int .u8 (y.toNat : Int)]) ⟨Ext.alloc (Ext.refl _) _, Bk.at rfl⟩ ?_;rintro w2 ⟨h, hB⟩;have H_2 := Lib.hid (H_1.out.ext h);have Y_2 := Lib.hid (Y_1.out.trans h);clear h H_1 Y_1;have T1_2 := Lib.hid (hB);clear hB;have hHeld : True := trivial;refine wpAnyH_ready (rs := [19]) (by kernel_rfl) (by simp) ?_;refine AllReadyH.cons rfl (fun KK hK => ?_) AllReadyH.nil;clear hHeld;have HRo := Lib.hid (ownsRow_kept HO.out (Y_2.out.keeps (S := fun _ => False)) (fun _ _ q => q));refine step_append_lies _ rfl (.tmp 107) (.tmp 121) 61 rfl 0 5 i0 (.int .u8 0) 1 1 Tryd.underlying61 hi0 hz0 hz1 hz2 rfl (by decide) (.slice (some ⟨gb, 0, none⟩) M cp) M (bytesV U) (by simp [Act.eval]) HRo.out ⟨w1.heap.size, 0, none⟩ 1 1 [.int .u8 (y.toNat : Int)] (by simp [Act.eval]) rfl (fun j u hu => ?c1) (by intro u hu; simp at hu; subst hu; rfl) (by omega) (by unfold maxLen; omega) (by omega) (Nat.zero_le _) _ rfl ?_
                 case c1 =>
                  obtain rfl : j = 0 := by have := (List.getElem?_eq_some_iff.1 hu).1; simpa using this
                  rw [add_plain, T1_2.out.cell 0]; exact hu
                 intro g1 cap1 w4 hown hgrow hat hlt1;have P := H_2.out.go.push (y := y) HM.out (Ext.refl _) hgrow hown (by rcases hat with q | q; exact .inl q.symm; exact .inr (by rw [q]; rfl));have b1 := P.1.cell 1;have f1 := P.1.frozen 1;have HP := Lib.hid P;clear P hown hgrow hat hlt1;skip
                 refine hK.out _ _ trivial (fun hHeld => ?_);clear hK KK;(try simp only [Act.put, xa, xb, xc, xd, xe, xf]);refine tkH 20 (v := ?_) rfl hHeld ?_ ?_;rotate_left
                 ·intro w hSw;(try dsimp only at hSw);go_split_ands;go_simp;(try with_reducible rfl)
                 (try simp only [Act.put, xa, xb, xc, xd, xe, xf]);refine tkH 21 (v := ?_) rfl hHeld ?_ ?_;rotate_left
                 ·intro w hSw;(try dsimp only at hSw);go_split_ands;go_simp;(try with_reducible rfl)
                 (try simp only [Act.put, xa, xb, xc, xd, xe, xf]);refine wpAnyH_ready (rs := [22]) (by kernel_rfl) (by simp) ?_;refine AllReadyH.cons rfl (fun KK hK => ?_) AllReadyH.nil;clear hHeld;go_simp;refine hK.out _ _ trivial (fun hHeld => ?_);clear hK KK b1 f1;(try simp only [Act.put, xa, xb, xc, xd, xe, xf]);refine wpAnyH_done (by kernel_rfl) ?_ _;clear hHeld;have wj : ∀ z, z = (j : Int) + 1 → IntKind.i64.wrap z = z := by rintro _ rfl; rw [IntKind.wrap_i64]; omega
                 have HU2 := Lib.hid HUS.out;go_wp2_with fail;go_roundw
                 case rel => exact ⟨j + 1, _, by omega, by go_num, Lib.hid (by rw [HU2.out]; exact H_2.out.to HP.out.2.1 HP.out.2.2)⟩
                 case measure => simp [intOf]; omega
                ·clear hHeld;have hc := ext_cell Y_1.out HC.out;go_simp;refine hK.out _ _ trivial (fun hHeld => ?_);clear hK KK hc;(try simp only [Act.put, xa, xb, xc, xd, xe, xf]);refine wpAnyH_ready (rs := [4, 18]) (by kernel_rfl) (by simp) ?_;refine AllReadyH.cons rfl (fun KK hK => ?_) (AllReadyH.cons rfl (fun KK hK => ?_) AllReadyH.nil)
                 ·clear hHeld;have k1 := H_1.out.bk.cell 1;go_simp;refine hK.out _ _ trivial (fun hHeld => ?_);clear hK KK k1;(try simp only [Act.put, xa, xb, xc, xd, xe, xf]);refine wpAnyH_ready (rs := [18]) (by kernel_rfl) (by simp) ?_;refine AllReadyH.cons rfl (fun KK hK => ?_) AllReadyH.nil;clear hHeld;go_simp;refine hK.out _ _ trivial (fun hHeld => ?_);clear hK KK hHeld;(try simp only [Act.put, xa, xb, xc, xd, xe, xf]);refine anyH_world (fun wz => Ext w1 wz ∧ Bk wz w1.heap.size #[.int .u8 (y.toNat : Int)]) ⟨Ext.alloc (Ext.refl _) _, Bk.at rfl⟩ ?_;rintro w2 ⟨h, hB⟩;have H_2 := Lib.hid (H_1.out.ext h);have Y_2 := Lib.hid (Y_1.out.trans h);clear h H_1 Y_1;have T1_2 := Lib.hid (hB);clear hB;have hHeld : True := trivial;refine wpAnyH_ready (rs := [19]) (by kernel_rfl) (by simp) ?_;refine AllReadyH.cons rfl (fun KK hK => ?_) AllReadyH.nil;clear hHeld;have HRo := Lib.hid (ownsRow_kept HO.out (Y_2.out.keeps (S := fun _ => False)) (fun _ _ q => q));refine step_append_lies _ rfl (.tmp 107) (.tmp 121) 61 rfl 0 5 i0 (.int .u8 0) 1 1 Tryd.underlying61 hi0 hz0 hz1 hz2 rfl (by decide) (.slice (some ⟨gb, 0, none⟩) M cp) M (bytesV U) (by simp [Act.eval]) HRo.out ⟨w1.heap.size, 0, none⟩ 1 1 [.int .u8 (y.toNat : Int)] (by simp [Act.eval]) rfl (fun j u hu => ?c1) (by intro u hu; simp at hu; subst hu; rfl) (by omega) (by unfold maxLen; omega) (by omega) (Nat.zero_le _) _ rfl ?_
                  case c1 =>
                   obtain rfl : j = 0 := by have := (List.getElem?_eq_some_iff.1 hu).1; simpa using this
                   rw [add_plain, T1_2.out.cell 0]; exact hu
                  intro g1 cap1 w4 hown hgrow hat hlt1;have P := H_2.out.go.push (y := y) HM.out (Ext.refl _) hgrow hown (by rcases hat with q | q; exact .inl q.symm; exact .inr (by rw [q]; rfl));have b1 := P.1.cell 1;have f1 := P.1.frozen 1;have HP := Lib.hid P;clear P hown hgrow hat hlt1;skip
                  refine hK.out _ _ trivial (fun hHeld => ?_);clear hK KK;(try simp only [Act.put, xa, xb, xc, xd, xe, xf]);refine tkH 20 (v := ?_) rfl hHeld ?_ ?_;rotate_left
                  ·intro w hSw;(try dsimp only at hSw);go_split_ands;go_simp;(try with_reducible rfl)
                  (try simp only [Act.put, xa, xb, xc, xd, xe, xf]);refine tkH 21 (v := ?_) rfl hHeld ?_ ?_;rotate_left
                  ·intro w hSw;(try dsimp only at hSw);go_split_ands;go_simp;(try with_reducible rfl)
                  (try simp only [Act.put, xa, xb, xc, xd, xe, xf]);refine wpAnyH_ready (rs := [22]) (by kernel_rfl) (by simp) ?_;refine AllReadyH.cons rfl (fun KK hK => ?_) AllReadyH.nil;clear hHeld;go_simp;refine hK.out _ _ trivial (fun hHeld => ?_);clear hK KK b1 f1;(try simp only [Act.put, xa, xb, xc, xd, xe, xf]);refine wpAnyH_done (by kernel_rfl) ?_ _;clear hHeld;have wj : ∀ z, z = (j : Int) + 1 → IntKind.i64.wrap z = z := by rintro _ rfl; rw [IntKind.wrap_i64]; omega
                  have HU2 := Lib.hid HUS.out;go_wp2_with fail;go_roundw
                  case rel => exact ⟨j + 1, _, by omega, by go_num, Lib.hid (by rw [HU2.out]; exact H_2.out.to HP.out.2.1 HP.out.2.2)⟩
                  case measure => simp [intOf]; omega
                 ·clear hHeld;go_simp;refine hK.out _ _ trivial (fun hHeld => ?_);clear hK KK hHeld;(try simp only [Act.put, xa, xb, xc, xd, xe, xf]);refine anyH_world (fun wz => Ext w1 wz ∧ Bk wz w1.heap.size #[.int .u8 (y.toNat : Int)]) ⟨Ext.alloc (Ext.refl _) _, Bk.at rfl⟩ ?_;rintro w2 ⟨h, hB⟩;have H_2 := Lib.hid (H_1.out.ext h);have Y_2 := Lib.hid (Y_1.out.trans h);clear h H_1 Y_1;have T1_2 := Lib.hid (hB);clear hB;have hHeld : True := trivial;refine wpAnyH_ready (rs := [4]) (by kernel_rfl) (by simp) ?_;refine AllReadyH.cons rfl (fun KK hK => ?_) AllReadyH.nil;clear hHeld;have k1 := H_2.out.bk.cell 1;go_simp;refine hK.out _ _ trivial (fun hHeld => ?_);clear hK KK k1;(try simp only [Act.put, xa, xb, xc, xd, xe, xf]);refine wpAnyH_ready (rs := [19]) (by kernel_rfl) (by simp) ?_;refine AllReadyH.cons rfl (fun KK hK => ?_) AllReadyH.nil;clear hHeld;have HRo := Lib.hid (ownsRow_kept HO.out (Y_2.out.keeps (S := fun _ => False)) (fun _ _ q => q));refine step_append_lies _ rfl (.tmp 107) (.tmp 121) 61 rfl 0 5 i0 (.int .u8 0) 1 1 Tryd.underlying61 hi0 hz0 hz1 hz2 rfl (by decide) (.slice (some ⟨gb, 0, none⟩) M cp) M (bytesV U) (by simp [Act.eval]) HRo.out ⟨w1.heap.size, 0, none⟩ 1 1 [.int .u8 (y.toNat : Int)] (by simp [Act.eval]) rfl (fun j u hu => ?c1) (by intro u hu; simp at hu; subst hu; rfl) (by omega) (by unfold maxLen; omega) (by omega) (Nat.zero_le _) _ rfl ?_
                  case c1 =>
                   obtain rfl : j = 0 := by have := (List.getElem?_eq_some_iff.1 hu).1; simpa using this
                   rw [add_plain, T1_2.out.cell 0]; exact hu
                  intro g1 cap1 w4 hown hgrow hat hlt1;have P := H_2.out.go.push (y := y) HM.out (Ext.refl _) hgrow hown (by rcases hat with q | q; exact .inl q.symm; exact .inr (by rw [q]; rfl));have b1 := P.1.cell 1;have f1 := P.1.frozen 1;have HP := Lib.hid P;clear P hown hgrow hat hlt1;skip
                  refine hK.out _ _ trivial (fun hHeld => ?_);clear hK KK;(try simp only [Act.put, xa, xb, xc, xd, xe, xf]);refine tkH 20 (v := ?_) rfl hHeld ?_ ?_;rotate_left
                  ·intro w hSw;(try dsimp only at hSw);go_split_ands;go_simp;(try with_reducible rfl)
                  (try simp only [Act.put, xa, xb, xc, xd, xe, xf]);refine tkH 21 (v := ?_) rfl hHeld ?_ ?_;rotate_left
                  ·intro w hSw;(try dsimp only at hSw);go_split_ands;go_simp;(try with_reducible rfl)
                  (try simp only [Act.put, xa, xb, xc, xd, xe, xf]);refine wpAnyH_ready (rs := [22]) (by kernel_rfl) (by simp) ?_;refine AllReadyH.cons rfl (fun KK hK => ?_) AllReadyH.nil;clear hHeld;go_simp;refine hK.out _ _ trivial (fun hHeld => ?_);clear hK KK b1 f1;(try simp only [Act.put, xa, xb, xc, xd, xe, xf]);refine wpAnyH_done (by kernel_rfl) ?_ _;clear hHeld;have wj : ∀ z, z = (j : Int) + 1 → IntKind.i64.wrap z = z := by rintro _ rfl; rw [IntKind.wrap_i64]; omega
                  have HU2 := Lib.hid HUS.out;go_wp2_with fail;go_roundw
                  case rel => exact ⟨j + 1, _, by omega, by go_num, Lib.hid (by rw [HU2.out]; exact H_2.out.to HP.out.2.1 HP.out.2.2)⟩
                  case measure => simp [intOf]; omega
              ·clear hHeld;have k1 := H_1.out.bk.cell 1;go_simp;refine hK.out _ _ trivial (fun hHeld => ?_);clear hK KK k1;(try simp only [Act.put, xa, xb, xc, xd, xe, xf]);refine tkH 13 (v := ?_) rfl hHeld ?_ ?_;rotate_left
               ·intro w hSw;(try dsimp only at hSw);go_split_ands;go_simp;(try with_reducible rfl)
               (try simp only [Act.put, xa, xb, xc, xd, xe, xf]);refine tkH 15 (v := ?_) rfl hHeld ?_ ?_;rotate_left
               ·intro w hSw;(try dsimp only at hSw);go_split_ands;go_simp;(try with_reducible rfl)
               (try simp only [Act.put, xa, xb, xc, xd, xe, xf]);refine wpAnyH_ready (rs := [4, 8]) (by kernel_rfl) (by simp) ?_;refine AllReadyH.cons rfl (fun KK hK => ?_) (AllReadyH.cons rfl (fun KK hK => ?_) AllReadyH.nil)
               ·clear hHeld;have k1 := H_1.out.bk.cell 1;go_simp;refine hK.out _ _ trivial (fun hHeld => ?_);clear hK KK k1;(try simp only [Act.put, xa, xb, xc, xd, xe, xf]);refine wpAnyH_ready (rs := [8]) (by kernel_rfl) (by simp) ?_;refine AllReadyH.cons rfl (fun KK hK => ?_) AllReadyH.nil;clear hHeld;have k1 := H_1.out.bk.cell 1;go_simp;refine hK.out _ _ trivial (fun hHeld => ?_);clear hK KK k1;(try simp only [Act.put, xa, xb, xc, xd, xe, xf]);refine tkH 16 (v := ?_) rfl hHeld ?_ ?_;rotate_left
                ·intro w hSw;(try dsimp only at hSw);go_split_ands;go_simp;(try with_reducible rfl)
                (try simp only [Act.put, xa, xb, xc, xd, xe, xf]);refine wpAnyH_ready (rs := [17]) (by kernel_rfl) (by simp) ?_;refine AllReadyH.cons rfl (fun KK hK => ?_) AllReadyH.nil;clear hHeld;have hc := ext_cell Y_1.out HC.out;go_simp;refine hK.out _ _ trivial (fun hHeld => ?_);clear hK KK hc;(try simp only [Act.put, xa, xb, xc, xd, xe, xf]);refine wpAnyH_ready (rs := [18]) (by kernel_rfl) (by simp) ?_;refine AllReadyH.cons rfl (fun KK hK => ?_) AllReadyH.nil;clear hHeld;go_simp;refine hK.out _ _ trivial (fun hHeld => ?_);clear hK KK hHeld;(try simp only [Act.put, xa, xb, xc, xd, xe, xf]);refine anyH_world (fun wz => Ext w1 wz ∧ Bk wz w1.heap.size #[.int .u8 (y.toNat : Int)]) ⟨Ext.alloc (Ext.refl _) _, Bk.at rfl⟩ ?_;rintro w2 ⟨h, hB⟩;have H_2 := Lib.hid (H_1.out.ext h);have Y_2 := Lib.hid (Y_1.out.trans h);clear h H_1 Y_1;have T1_2 := Lib.hid (hB);clear hB;have hHeld : True := trivial;refine wpAnyH_ready (rs := [19]) (by kernel_rfl) (by simp) ?_;refine AllReadyH.cons rfl (fun KK hK => ?_) AllReadyH.nil;clear hHeld;have HRo := Lib.hid (ownsRow_kept HO.out (Y_2.out.keeps (S := fun _ => False)) (fun _ _ q => q));refine step_append_lies _ rfl (.tmp 107) (.tmp 121) 61 rfl 0 5 i0 (.int .u8 0) 1 1 Tryd.underlying61 hi0 hz0 hz1 hz2 rfl (by decide) (.slice (some ⟨gb, 0, none⟩) M cp) M (bytesV U) (by simp [Act.eval]) HRo.out ⟨w1.heap.size, 0, none⟩ 1 1 [.int .u8 (y.toNat : Int)] (by simp [Act.eval]) rfl (fun j u hu => ?c1) (by intro u hu; simp at hu; subst hu; rfl) (by omega) (by unfold maxLen; omega) (by omega) (Nat.zero_le _) _ rfl ?_
                case c1 =>
                 obtain rfl : j = 0 := by have := (List.getElem?_eq_some_iff.1 hu).1; simpa using this
                 rw [add_plain, T1_2.out.cell 0]; exact hu
                intro g1 cap1 w4 hown hgrow hat hlt1;have P := H_2.out.go.push (y := y) HM.out (Ext.refl _) hgrow hown (by rcases hat with q | q; exact .inl q.symm; exact .inr (by rw [q]; rfl));have b1 := P.1.cell 1;have f1 := P.1.frozen 1;have HP := Lib.hid P;clear P hown hgrow hat hlt1;skip
                refine hK.out _ _ trivial (fun hHeld => ?_);clear hK KK;(try simp only [Act.put, xa, xb, xc, xd, xe, xf]);refine tkH 20 (v := ?_) rfl hHeld ?_ ?_;rotate_left
                ·intro w hSw;(try dsimp only at hSw);go_split_ands;go_simp;(try with_reducible rfl)
                (try simp only [Act.put, xa, xb, xc, xd, xe, xf]);refine tkH 21 (v := ?_) rfl hHeld ?_ ?_;rotate_left
                ·intro w hSw;(try dsimp only at hSw);go_split_ands;go_simp;(try with_reducible rfl)
                (try simp only [Act.put, xa, xb, xc, xd, xe, xf]);refine wpAnyH_ready (rs := [22]) (by kernel_rfl) (by simp) ?_;refine AllReadyH.cons rfl (fun KK hK => ?_) AllReadyH.nil;clear hHeld;go_simp;refine hK.out _ _ trivial (fun hHeld => ?_);clear hK KK b1 f1;(try simp only [Act.put, xa, xb, xc, xd, xe, xf]);refine wpAnyH_done (by kernel_rfl) ?_ _;clear hHeld;have wj : ∀ z, z = (j : Int) + 1 → IntKind.i64.wrap z = z := by rintro _ rfl; rw [IntKind.wrap_i64]; omega
                have HU2 := Lib.hid HUS.out;go_wp2_with fail;go_roundw
                case rel => exact ⟨j + 1, _, by omega, by go_num, Lib.hid (by rw [HU2.out]; exact H_2.out.to HP.out.2.1 HP.out.2.2)⟩
                case measure => simp [intOf]; omega
               ·clear hHeld;have k1 := H_1.out.bk.cell 1;go_simp;refine hK.out _ _ trivial (fun hHeld => ?_);clear hK KK k1;(try simp only [Act.put, xa, xb, xc, xd, xe, xf]);refine tkH 16 (v := ?_) rfl hHeld ?_ ?_;rotate_left
                ·intro w hSw;(try dsimp only at hSw);go_split_ands;go_simp;(try with_reducible rfl)
                (try simp only [Act.put, xa, xb, xc, xd, xe, xf]);refine wpAnyH_ready (rs := [4, 17]) (by kernel_rfl) (by simp) ?_;refine AllReadyH.cons rfl (fun KK hK => ?_) (AllReadyH.cons rfl (fun KK hK => ?_) AllReadyH.nil)
                ·clear hHeld;have k1 := H_1.out.bk.cell 1;go_simp;refine hK.out _ _ trivial (fun hHeld => ?_);clear hK KK k1;(try simp only [Act.put, xa, xb, xc, xd, xe, xf]);refine wpAnyH_ready (rs := [17]) (by kernel_rfl) (by simp) ?_;refine AllReadyH.cons rfl (fun KK hK => ?_) AllReadyH.nil;clear hHeld;have hc := ext_cell Y_1.out HC.out;go_simp;refine hK.out _ _ trivial (fun hHeld => ?_);clear hK KK hc;(try simp only [Act.put, xa, xb, xc, xd, xe, xf]);refine wpAnyH_ready (rs := [18]) (by kernel_rfl) (by simp) ?_;refine AllReadyH.cons rfl (fun KK hK => ?_) AllReadyH.nil;clear hHeld;go_simp;refine hK.out _ _ trivial (fun hHeld => ?_);clear hK KK hHeld;(try simp only [Act.put, xa, xb, xc, xd, xe, xf]);refine anyH_world (fun wz => Ext w1 wz ∧ Bk wz w1.heap.size #[.int .u8 (y.toNat : Int)]) ⟨Ext.alloc (Ext.refl _) _, Bk.at rfl⟩ ?_;rintro w2 ⟨h, hB⟩;have H_2 := Lib.hid (H_1.out.ext h);have Y_2 := Lib.hid (Y_1.out.trans h);clear h H_1 Y_1;have T1_2 := Lib.hid (hB);clear hB;have hHeld : True := trivial;refine wpAnyH_ready (rs := [19]) (by kernel_rfl) (by simp) ?_;refine AllReadyH.cons rfl (fun KK hK => ?_) AllReadyH.nil;clear hHeld;have HRo := Lib.hid (ownsRow_kept HO.out (Y_2.out.keeps (S := fun _ => False)) (fun _ _ q => q));refine step_append_lies _ rfl (.tmp 107) (.tmp 121) 61 rfl 0 5 i0 (.int .u8 0) 1 1 Tryd.underlying61 hi0 hz0 hz1 hz2 rfl (by decide) (.slice (some ⟨gb, 0, none⟩) M cp) M (bytesV U) (by simp [Act.eval]) HRo.out ⟨w1.heap.size, 0, none⟩ 1 1 [.int .u8 (y.toNat : Int)] (by simp [Act.eval]) rfl (fun j u hu => ?c1) (by intro u hu; simp at hu; subst hu; rfl) (by omega) (by unfold maxLen; omega) (by omega) (Nat.zero_le _) _ rfl ?_
                 case c1 =>
                  obtain rfl : j = 0 := by have := (List.getElem?_eq_some_iff.1 hu).1; simpa using this
                  rw [add_plain, T1_2.out.cell 0]; exact hu
                 intro g1 cap1 w4 hown hgrow hat hlt1;have P := H_2.out.go.push (y := y) HM.out (Ext.refl _) hgrow hown (by rcases hat with q | q; exact .inl q.symm; exact .inr (by rw [q]; rfl));have b1 := P.1.cell 1;have f1 := P.1.frozen 1;have HP := Lib.hid P;clear P hown hgrow hat hlt1;skip
                 refine hK.out _ _ trivial (fun hHeld => ?_);clear hK KK;(try simp only [Act.put, xa, xb, xc, xd, xe, xf]);refine tkH 20 (v := ?_) rfl hHeld ?_ ?_;rotate_left
                 ·intro w hSw;(try dsimp only at hSw);go_split_ands;go_simp;(try with_reducible rfl)
                 (try simp only [Act.put, xa, xb, xc, xd, xe, xf]);refine tkH 21 (v := ?_) rfl hHeld ?_ ?_;rotate_left
                 ·intro w hSw;(try dsimp only at hSw);go_split_ands;go_simp;(try with_reducible rfl)
                 (try simp only [Act.put, xa, xb, xc, xd, xe, xf]);refine wpAnyH_ready (rs := [22]) (by kernel_rfl) (by simp) ?_;refine AllReadyH.cons rfl (fun KK hK => ?_) AllReadyH.nil;clear hHeld;go_simp;refine hK.out _ _ trivial (fun hHeld => ?_);clear hK KK b1 f1;(try simp only [Act.put, xa, xb, xc, xd, xe, xf]);refine wpAnyH_done (by kernel_rfl) ?_ _;clear hHeld;have wj : ∀ z, z = (j : Int) + 1 → IntKind.i64.wrap z = z := by rintro _ rfl; rw [IntKind.wrap_i64]; omega
                 have HU2 := Lib.hid HUS.out;go_wp2_with fail;go_roundw
                 case rel => exact ⟨j + 1, _, by omega, by go_num, Lib.hid (by rw [HU2.out]; exact H_2.out.to HP.out.2.1 HP.out.2.2)⟩
                 case measure => simp [intOf]; omega
                ·clear hHeld;have hc := ext_cell Y_1.out HC.out;go_simp;refine hK.out _ _ trivial (fun hHeld => ?_);clear hK KK hc;(try simp only [Act.put, xa, xb, xc, xd, xe, xf]);refine wpAnyH_ready (rs := [4, 18]) (by kernel_rfl) (by simp) ?_;refine AllReadyH.cons rfl (fun KK hK => ?_) (AllReadyH.cons rfl (fun KK hK => ?_) AllReadyH.nil)
                 ·clear hHeld;have k1 := H_1.out.bk.cell 1;go_simp;refine hK.out _ _ trivial (fun hHeld => ?_);clear hK KK k1;(try simp only [Act.put, xa, xb, xc, xd, xe, xf]);refine wpAnyH_ready (rs := [18]) (by kernel_rfl) (by simp) ?_;refine AllReadyH.cons rfl (fun KK hK => ?_) AllReadyH.nil;clear hHeld;go_simp;refine hK.out _ _ trivial (fun hHeld => ?_);clear hK KK hHeld;(try simp only [Act.put, xa, xb, xc, xd, xe, xf]);refine anyH_world (fun wz => Ext w1 wz ∧ Bk wz w1.heap.size #[.int .u8 (y.toNat : Int)]) ⟨Ext.alloc (Ext.refl _) _, Bk.at rfl⟩ ?_;rintro w2 ⟨h, hB⟩;have H_2 := Lib.hid (H_1.out.ext h);have Y_2 := Lib.hid (Y_1.out.trans h);clear h H_1 Y_1;have T1_2 := Lib.hid (hB);clear hB;have hHeld : True := trivial;refine wpAnyH_ready (rs := [19]) (by kernel_rfl) (by simp) ?_;refine AllReadyH.cons rfl (fun KK hK => ?_) AllReadyH.nil;clear hHeld;have HRo := Lib.hid (ownsRow_kept HO.out (Y_2.out.keeps (S := fun _ => False)) (fun _ _ q => q));refine step_append_lies _ rfl (.tmp 107) (.tmp 121) 61 rfl 0 5 i0 (.int .u8 0) 1 1 Tryd.underlying61 hi0 hz0 hz1 hz2 rfl (by decide) (.slice (some ⟨gb, 0, none⟩) M cp) M (bytesV U) (by simp [Act.eval]) HRo.out ⟨w1.heap.size, 0, none⟩ 1 1 [.int .u8 (y.toNat : Int)] (by simp [Act.eval]) rfl (fun j u hu => ?c1) (by intro u hu; simp at hu; subst hu; rfl) (by omega) (by unfold maxLen; omega) (by omega) (Nat.zero_le _) _ rfl ?_
                  case c1 =>
                   obtain rfl : j = 0 := by have := (List.getElem?_eq_some_iff.1 hu).1; simpa using this
                   rw [add_plain, T1_2.out.cell 0]; exact hu
                  intro g1 cap1 w4 hown hgrow hat hlt1;have P := H_2.out.go.push (y := y) HM.out (Ext.refl _) hgrow hown (by rcases hat with q | q; exact .inl q.symm; exact .inr (by rw [q]; rfl));have b1 := P.1.cell 1;have f1 := P.1.frozen 1;have HP := Lib.hid P;clear P hown hgrow hat hlt1;skip
                  refine hK.out _ _ trivial (fun hHeld => ?_);clear hK KK;(try simp only [Act.put, xa, xb, xc, xd, xe, xf]);refine tkH 20 (v := ?_) rfl hHeld ?_ ?_;rotate_left
                  ·intro w hSw;(try dsimp only at hSw);go_split_ands;go_simp;(try with_reducible rfl)
                  (try simp only [Act.put, xa, xb, xc, xd, xe, xf]);refine tkH 21 (v := ?_) rfl hHeld ?_ ?_;rotate_left
                  ·intro w hSw;(try dsimp only at hSw);go_split_ands;go_simp;(try with_reducible rfl)
                  (try simp only [Act.put, xa, xb, xc, xd, xe, xf]);refine wpAnyH_ready (rs := [22]) (by kernel_rfl) (by simp) ?_;refine AllReadyH.cons rfl (fun KK hK => ?_) AllReadyH.nil;clear hHeld;go_simp;refine hK.out _ _ trivial (fun hHeld => ?_);clear hK KK b1 f1;(try simp only [Act.put, xa, xb, xc, xd, xe, xf]);refine wpAnyH_done (by kernel_rfl) ?_ _;clear hHeld;have wj : ∀ z, z = (j : Int) + 1 → IntKind.i64.wrap z = z := by rintro _ rfl; rw [IntKind.wrap_i64]; omega
                  have HU2 := Lib.hid HUS.out;go_wp2_with fail;go_roundw
                  case rel => exact ⟨j + 1, _, by omega, by go_num, Lib.hid (by rw [HU2.out]; exact H_2.out.to HP.out.2.1 HP.out.2.2)⟩
                  case measure => simp [intOf]; omega
                 ·clear hHeld;go_simp;refine hK.out _ _ trivial (fun hHeld => ?_);clear hK KK hHeld;(try simp only [Act.put, xa, xb, xc, xd, xe, xf]);refine anyH_world (fun wz => Ext w1 wz ∧ Bk wz w1.heap.size #[.int .u8 (y.toNat : Int)]) ⟨Ext.alloc (Ext.refl _) _, Bk.at rfl⟩ ?_;rintro w2 ⟨h, hB⟩;have H_2 := Lib.hid (H_1.out.ext h);have Y_2 := Lib.hid (Y_1.out.trans h);clear h H_1 Y_1;have T1_2 := Lib.hid (hB);clear hB;have hHeld : True := trivial;refine wpAnyH_ready (rs := [4]) (by kernel_rfl) (by simp) ?_;refine AllReadyH.cons rfl (fun KK hK => ?_) AllReadyH.nil;clear hHeld;have k1 := H_2.out.bk.cell 1;go_simp;refine hK.out _ _ trivial (fun hHeld => ?_);clear hK KK k1;(try simp only [Act.put, xa, xb, xc, xd, xe, xf]);refine wpAnyH_ready (rs := [19]) (by kernel_rfl) (by simp) ?_;refine AllReadyH.cons rfl (fun KK hK => ?_) AllReadyH.nil;clear hHeld;have HRo := Lib.hid (ownsRow_kept HO.out (Y_2.out.keeps (S := fun _ => False)) (fun _ _ q => q));refine step_append_lies _ rfl (.tmp 107) (.tmp 121) 61 rfl 0 5 i0 (.int .u8 0) 1 1 Tryd.underlying61 hi0 hz0 hz1 hz2 rfl (by decide) (.slice (some ⟨gb, 0, none⟩) M cp) M (bytesV U) (by simp [Act.eval]) HRo.out ⟨w1.heap.size, 0, none⟩ 1 1 [.int .u8 (y.toNat : Int)] (by simp [Act.eval]) rfl (fun j u hu => ?c1) (by intro u hu; simp at hu; subst hu; rfl) (by omega) (by unfold maxLen; omega) (by omega) (Nat.zero_le _) _ rfl ?_
                  case c1 =>
                   obtain rfl : j = 0 := by have := (List.getElem?_eq_some_iff.1 hu).1; simpa using this
                   rw [add_plain, T1_2.out.cell 0]; exact hu
                  intro g1 cap1 w4 hown hgrow hat hlt1;have P := H_2.out.go.push (y := y) HM.out (Ext.refl _) hgrow hown (by rcases hat with q | q; exact .inl q.symm; exact .inr (by rw [q]; rfl));have b1 := P.1.cell 1;have f1 := P.1.frozen 1;have HP := Lib.hid P;clear P hown hgrow hat hlt1;skip
                  refine hK.out _ _ trivial (fun hHeld => ?_);clear hK KK;(try simp only [Act.put, xa, xb, xc, xd, xe, xf]);refine tkH 20 (v := ?_) rfl hHeld ?_ ?_;rotate_left
                  ·intro w hSw;(try dsimp only at hSw);go_split_ands;go_simp;(try with_reducible rfl)
                  (try simp only [Act.put, xa, xb, xc, xd, xe, xf]);refine tkH 21 (v := ?_) rfl hHeld ?_ ?_;rotate_left
                  ·intro w hSw;(try dsimp only at hSw);go_split_ands;go_simp;(try with_reducible rfl)
                  (try simp only [Act.put, xa, xb, xc, xd, xe, xf]);refine wpAnyH_ready (rs := [22]) (by kernel_rfl) (by simp) ?_;refine AllReadyH.cons rfl (fun KK hK => ?_) AllReadyH.nil;clear hHeld;go_simp;refine hK.out _ _ trivial (fun hHeld => ?_);clear hK KK b1 f1;(try simp only [Act.put, xa, xb, xc, xd, xe, xf]);refine wpAnyH_done (by kernel_rfl) ?_ _;clear hHeld;have wj : ∀ z, z = (j : Int) + 1 → IntKind.i64.wrap z = z := by rintro _ rfl; rw [IntKind.wrap_i64]; omega
                  have HU2 := Lib.hid HUS.out;go_wp2_with fail;go_roundw
                  case rel => exact ⟨j + 1, _, by omega, by go_num, Lib.hid (by rw [HU2.out]; exact H_2.out.to HP.out.2.1 HP.out.2.2)⟩
                  case measure => simp [intOf]; omega
             ·obtain rfl : j = n := by omega
              have tj : decide ((j : Int) < (j : Int)) = false := decide_eq_false (by omega);go_wp2_with fail;obtain ⟨F2, hF2, HR2⟩ := HQ.out;have HR3 := Lib.hid HR2;have HF3 : Hid (8 * s.size - a4 < F2) := Lib.hid (by have := HK.out; have := HA4.out; omega);clear HR2 HQ;go_roundg (8 * s.size - a4)
              case measure => have := HK.out; have := HA4.out; omega
              case rel => exact ⟨a4, v, _, _, F2, H_0, HR3, Lib.hid ⟨HF3.out, rfl⟩, by rw [copyL_length, HL.out]; exact HB.out.1⟩
end Go.Proofs.YtnhbjgmfbcedaaaDoor
