/- The document's UnlzwOf. -/
import Derived.Test.YtdeiolagnheihaaDoorLzwX
import Derived.Test.YtdeiolagnheihaaDoorRefGet
import Derived.Deep.DeepCutAuto
import Derived.Deep.CutBlock
namespace Go.Proofs.YtdeiolagnheihaaDoor
open Go.RowKit
set_option maxRecDepth 100000
def UnlOfPost (w w' : World) (r : Lz.Res) (e : Ending) : Prop :=
  Ext w w' ∧ match r with
    | .text => e = .returned (.tuple #[.string ⟨#[]⟩, .int .i64 0, .int .i64 1])
    | .bound => e = .returned (.tuple #[.string ⟨#[]⟩, .int .i64 0, .int .i64 2])
    | .ok out u => e = .returned (.tuple #[.string (tb out), .int .i64 (u : Int), .int .i64 0])
theorem unlq_text {w w' : World} {r : Lz.Res} (hX : Ext w w') (h : r = .text) : UnlOfPost w w' r (.returned (.tuple #[.string ⟨#[]⟩, .int .i64 0, .int .i64 1])) := by
  subst h; exact ⟨hX, rfl⟩
theorem unlq_bound {w w' : World} {r : Lz.Res} (hX : Ext w w') (h : r = .bound) : UnlOfPost w w' r (.returned (.tuple #[.string ⟨#[]⟩, .int .i64 0, .int .i64 2])) := by
  subst h; exact ⟨hX, rfl⟩
theorem unlq_ok {w w' : World} {r : Lz.Res} {out : List UInt8} {u : Nat} {k : Int} (hX : Ext w w') (h : r = .ok out u) (hk : k = (u : Int)) : UnlOfPost w w' r (.returned (.tuple #[.string (tb out), .int .i64 k, .int .i64 0])) := by
  subst h hk; exact ⟨hX, rfl⟩
def strV (L : List ByteArray) : List Value := L.map Value.string
theorem strV_push (L : List ByteArray) (x : ByteArray) : strV (L ++ [x]) = strV L ++ [.string x] := by simp [strV]
theorem strV_length (L : List ByteArray) : (strV L).length = L.length := by simp [strV]
structure RSt (w wr : World) (L : List ByteArray) (out : List UInt8) (v o : Value) : Prop where
  rv : wr.ownsRow w.heap.size 9 1 v L.length (strV L)
  ro : wr.ownsRow w.heap.size 5 1 o out.length (bytesV out)
  old : Ext w wr
  ov : ∀ k, o.ownBlock = some k → v.ownBlock ≠ some k
  vn : L = [] → v = .slice none 0 0
theorem RSt.ext {w wr w' : World} {L : List ByteArray} {out : List UInt8} {v o : Value} (h : RSt w wr L out v o) (hE : Ext wr w') : RSt w w' L out v o :=
  ⟨ownsRow_kept h.rv (hE.keeps (S := fun _ => False)) (fun _ _ q => q), ownsRow_kept h.ro (hE.keeps (S := fun _ => False)) (fun _ _ q => q), h.old.trans hE, h.ov, h.vn⟩
theorem RSt.clear {w wr : World} {L : List ByteArray} {out : List UInt8} {v o : Value} (h : RSt w wr L out v o) : RSt w wr [] out (.slice none 0 0) o :=
  ⟨World.ownsRow_nil _ _ _ _, h.ro, h.old, (fun _ _ e => by cases e), fun _ => rfl⟩
theorem RSt.add {w wr W1 w1 : World} {L : List ByteArray} {out : List UInt8} {v v' o : Value} {x : ByteArray} (h : RSt w wr L out v o) (hE : Ext wr W1) (hg : W1.grownBy w1 v.ownBlock)
    (ho : w1.ownsRow w.heap.size 9 1 v' (L.length + 1) (strV L ++ [.string x])) (hat : v'.ownBlock = v.ownBlock ∨ v'.ownBlock = some W1.heap.size) : RSt w w1 (L ++ [x]) out v' o := by
  have h1 := h.ext hE
  have hs := hE.size
  refine ⟨?_, ownsRow_kept h1.ro (Keeps.grown hg) (fun k hk e => h.ov k hk e), Below.trans h1.old ((Keeps.grown hg).below h1.old.size (fun k hk e => by have := (h1.rv.lt k e).1; omega)), ?_, fun e => by simp at e⟩
  · rw [strV_push, List.length_append, List.length_singleton]; exact ho
  · intro k hk e
    rcases hat with q | q
    · exact h.ov k hk (by rw [← q]; exact e)
    · have h2 := (h.ro.lt k hk).2
      rw [q] at e; injection e with e; omega
theorem RSt.push {w wr w' : World} {L : List ByteArray} {out : List UInt8} {v o o' : Value} {x : ByteArray} (h : RSt w wr L out v o) (hx : x.size ≠ 0) (hg : wr.grownBy w' o.ownBlock) (ho : w'.ownsRow w.heap.size 5 1 o' (out.length + x.size) (bytesV out ++ Lib.strCells x)) :
    RSt w w' L (out ++ x.data.toList) v o' := by
  have hK := Keeps.grown hg
  obtain ⟨q1, q2⟩ := grow_str h.old h.ro hg ho
  have hl : (out ++ x.data.toList).length = out.length + x.size := by rw [List.length_append, list_size]
  have hpos : 0 < (out ++ x.data.toList).length := by omega
  have hrow := ownsRow_kept h.rv hK (fun k hk e => h.ov k e hk)
  rw [← hl] at q1
  refine ⟨hrow, q1, q2, ?_, h.vn⟩
  intro k hk e
  rcases Nat.eq_zero_or_pos L.length with h0 | h0
  · rw [h.vn (List.eq_nil_of_length_eq_zero h0)] at e; cases e
  · obtain ⟨g, cap, hv, _, _⟩ := ownsRow_some hrow h0
    have hgk : g = k := by rw [hv] at e; exact Option.some.inj (show some g = some k from e)
    subst hgk
    rw [hv] at hrow
    have hc := hrow.cellAt 0 (by omega)
    rw [show (strV L)[0]? = some (.string (L[0]'h0)) by simp [strV, h0]] at hc
    exact row_apart q1 hpos hpos hc (fun z e => by cases e) hk
theorem bs_cut (L : List Bool) (a k : Nat) : (bs L).extract a (a + k) = bs ((L.drop a).take k) := by
  apply bts_ext
  rw [ex_list, bs_list, bs_list, Nat.add_sub_cancel_left]
  simp [Bts.str, List.map_take, List.map_drop]
theorem byte1_any (k : Nat) (hk : k < 256) (w : World) : Calls Tryd.prog 52 #[.int .i64 (k : Int)] w fun e w' => e = .returned (.string (Lz.one k)) ∧ Ext w w' := byte_any k hk w
set_option linter.unusedSimpArgs false in
set_option maxHeartbeats 4000000 in
theorem unlzwOf_bad (s : ByteArray) (wd most : Int) (w : World) (hs : s.size ≤ maxLen) (h : (wd < 2 ∨ 8 < wd) ∨ most < 0 ∨ 300000 < most ∨ 300000 < s.size) :
    Calls Tryd.prog 23 #[.string s, .int .i64 wd, .int .i64 most] w fun e w' => UnlOfPost w w' .bound e := by
  unfold maxLen at hs
  by_cases hb : wd < 2
  · clear h
    go_enter Tryd.func23, Tryd.ntmps23
    go_wp2_with fail
    go_ret3
    exact unlq_bound (Ext.refl _) rfl
  · by_cases hb8 : 8 < wd
    · clear h
      go_enter Tryd.func23, Tryd.ntmps23
      go_wp2_with fail
      go_ret3
      exact unlq_bound (Ext.refl _) rfl
    · by_cases hm0 : most < 0
      · clear h
        go_enter Tryd.func23, Tryd.ntmps23
        go_wp2_with fail
        go_ret3
        exact unlq_bound (Ext.refl _) rfl
      · by_cases hm1 : 300000 < most
        · clear h
          go_enter Tryd.func23, Tryd.ntmps23
          go_wp2_with fail
          go_ret3
          exact unlq_bound (Ext.refl _) rfl
        · have hs3 : (300000 : Int) < (s.size : Int) := by omega
          clear h
          go_enter Tryd.func23, Tryd.ntmps23
          go_wp2_with fail
          go_ret3
          exact unlq_bound (Ext.refl _) rfl
set_option linter.unusedSimpArgs false in
set_option maxHeartbeats 4000000 in
theorem unlzwOf_in (s : ByteArray) (wd most : Nat) (w : World) (hs : s.size ≤ 300000) (h2 : 2 ≤ wd) (h8 : wd ≤ 8) (hm : most ≤ 300000) :
    Calls Tryd.prog 23 #[.string s, .int .i64 (wd : Int), .int .i64 (most : Int)] w fun e w' => UnlOfPost w w' (Lz.unl (Crc.num s.data.toList) (8 * s.size) (2 ^ wd) wd most [] (wd + 1) ByteArray.empty [] 0) e := by
  obtain ⟨i0, hi0, hz0, hz1, hz2⟩ := info_parts u8inf
  obtain ⟨j0, hj0, hj1, hj2, hj3⟩ := info_parts strinf
  obtain ⟨c, hc⟩ : ∃ c : Nat, 2 ^ wd = c := ⟨_, rfl⟩
  obtain ⟨hcl, hch⟩ := pow_bds hc h2 h8
  have HC := Lib.hid hc
  have hcI := pow_int hc
  obtain ⟨N, hN⟩ : ∃ N, Crc.num s.data.toList = N := ⟨_, rfl⟩
  have HN := Lib.hid hN
  rw [hc, hN]
  obtain ⟨r, hr⟩ : ∃ r, Lz.unl N (8 * s.size) c wd most [] (wd + 1) ByteArray.empty [] 0 = r := ⟨_, rfl⟩
  have HRr := Lib.hid hr
  rw [hr]
  clear hN hr hc
  have hw2 : ¬ (wd : Int) < 2 := by omega
  have hw8 : ¬ 8 < (wd : Int) := by omega
  have hmI : ¬ (300000 : Int) < (most : Int) := by omega
  have hsI : ¬ (300000 : Int) < (s.size : Int) := by omega
  go_enter Tryd.func23, Tryd.ntmps23
  go_wp2_with fail
  refine (bits_any s _ (by omega)).mono ?_
  rintro e w1 ⟨rfl, h1⟩
  have HX1 := Lib.hid h1
  clear h1
  go_wp2_with fail
  clear hcI
  have hzA : (bs (Bts.allB s.data.toList)).size = 8 * s.size := by rw [bs_size, Bts.allB_length, Array.length_toList]; rfl
  obtain ⟨B, hB⟩ : ∃ B, bs (Bts.allB s.data.toList) = B := ⟨_, rfl⟩
  rw [hB] at hzA ⊢
  have HB := Lib.hid hB
  have HZA := Lib.hid hzA
  clear hzA hB
  have HS : Hid (RSt w w1 [] [] (.slice none 0 0) (.slice none 0 0)) := Lib.hid ⟨World.ownsRow_nil _ _ _ _, World.ownsRow_nil _ _ _ _, HX1.out, (fun _ e => by cases e), fun _ => rfl⟩
  have HOK : Hid (Lz.Ok c wd most [] (wd + 1) ByteArray.empty []) := Lib.hid (Lz.Ok.fresh (by omega) h2 h8 (by simp))
  go_loopg [11, 12, 13, 14, 15] (8 * s.size) (fun k v sz la o at_ wr => ∃ (L : List ByteArray) (size : Nat) (last : ByteArray) (out : List UInt8) (a : Nat), sz = .int .i64 (size : Int) ∧ la = .string last ∧ at_ = .int .i64 (a : Int) ∧ Hid (RSt w wr L out v o) ∧ Hid (Lz.Ok c wd most L size last out) ∧ Hid (Lz.unl N (8 * s.size) c wd most L size last out a = r) ∧ Hid (k + a = 8 * s.size))
  case atStart => exact ⟨[], wd + 1, ByteArray.empty, [], 0, by rfl, rfl, rfl, HS, HOK, HRr, Lib.hid rfl⟩
  case round =>
    clear HS HRr HOK
    obtain ⟨L, size, last, out, a, rfl, rfl, rfl, HS, HOK, HRr, HG⟩ := hrel
    have hok := HOK.out
    have hsz3 := hok.lo
    have hsz12 := hok.hi
    have hlen := hok.len
    have hout := hok.out
    have hlast := hok.last
    clear hok
    obtain ⟨T, hT⟩ : ∃ T, out.length = T := ⟨_, rfl⟩
    have HT := Lib.hid hT
    have hro := HS.out.ro
    rw [hT] at hro hout hlast
    obtain ⟨xo, co, rfl⟩ := lit_row hro
    obtain ⟨K, hK⟩ : ∃ K, L.length = K := ⟨_, rfl⟩
    have HK := Lib.hid hK
    have hrv := HS.out.rv
    rw [hK] at hrv hlen
    obtain ⟨xv, cv, rfl⟩ := lit_row hrv
    clear hT hro hK hrv
    have hzI : (B.size : Int) = 8 * (s.size : Int) := by rw [HZA.out]; omega
    have hal0 : a ≤ 8 * s.size := by have := HG.out; omega
    by_cases hin : 8 * s.size < a + size
    · have HQ : Hid (r = .text) := Lib.hid (by rw [← HRr.out]; exact Lz.unl_over hin)
      go_wp2_with fail
      go_ret3
      exact unlq_text HS.out.old HQ.out
    · have hal : a + size ≤ 8 * s.size := by omega
      have HSL : Hid (B.extract a (a + size) = bs (((Bts.allB s.data.toList).drop a).take size)) := Lib.hid (by rw [← HB.out]; exact bs_cut _ _ _)
      have HVL : Hid (Bts.val (((Bts.allB s.data.toList).drop a).take size) = N / 2 ^ a % 2 ^ size) := Lib.hid (by rw [Bts.val_take, Bts.val_drop, val_allB, HN.out])
      have HLN : Hid ((((Bts.allB s.data.toList).drop a).take size).length ≤ 32) := Lib.hid (by rw [List.length_take]; omega)
      have HAL := Lib.hid hal
      go_wp2_with fail
      clear hzI
      rw [HSL.out]
      refine (lowOf_any _ _ HLN.out).mono ?_
      rintro e w9 ⟨rfl, rfl⟩
      rw [HVL.out]
      obtain ⟨n, hn⟩ : ∃ n, N / 2 ^ a % 2 ^ size = n := ⟨_, rfl⟩
      have hnl : n < 4096 := by rw [← hn]; exact Nat.lt_of_lt_of_le (Nat.mod_lt _ (Nat.two_pow_pos _)) (Nat.le_trans (Nat.pow_le_pow_right (by decide) hsz12) (by decide))
      rw [hn]
      have HNN := Lib.hid hn
      clear hn hin
      by_cases hn1 : n = c + 1
      · have t2 : ((n : Int) == (c : Int) + 1) = true := beq_iff_eq.2 (by omega)
        have HQ : Hid (r = .ok out ((a + size + 7) / 8)) := Lib.hid (by rw [← HRr.out]; exact Lz.unl_end HAL.out (by omega) HNN.out hn1)
        clear hn1
        have hro := HS.out.ro
        rw [HT.out] at hro
        have hcr := conv_row HT.out hro
        clear hro
        go_wp2_with fail
        go_ret3
        exact unlq_ok HS.out.old HQ.out (by omega)
      · have t2 : ((n : Int) == (c : Int) + 1) = false := beq_eq_false_iff_ne.2 (by omega)
        by_cases hnc : n = c
        · have t1 : ((n : Int) == (c : Int)) = true := beq_iff_eq.2 (by omega)
          have HR2 := Lib.hid ((Lz.unl_clear (wd := wd) (most := most) (L := L) (last := last) (out := out) HAL.out (by omega) HNN.out hnc).symm.trans HRr.out)
          clear hnc hn1
          go_wp2_with fail
          go_roundg (8 * s.size - (a + size))
          case measure => have := HG.out; omega
          case rel => exact ⟨_, _, _, _, _, by go_num, rfl, by go_num, Lib.hid HS.out.clear, Lib.hid (Lz.Ok.fresh (by omega) h2 h8 (by rw [HT.out]; exact hout)), HR2, Lib.hid (by omega)⟩
        · have t1 : ((n : Int) == (c : Int)) = false := beq_eq_false_iff_ne.2 (by omega)
          have HNE := Lib.hid (And.intro hnc hn1)
          clear hnc hn1
          cases hw : Lz.wordOf c L last n with
          | none =>
            have HQ : Hid (r = .text) := Lib.hid (by rw [← HRr.out]; exact Lz.unl_none HAL.out (by omega) HNN.out HNE.out.1 HNE.out.2 hw)
            obtain ⟨q1, q2⟩ := word_no hw HNE.out.1 HNE.out.2
            rw [HK.out] at q1 q2
            obtain ⟨q, hq⟩ : ∃ q : Nat, n = c + 2 + q := ⟨n - (c + 2), by omega⟩
            have u1 : ¬ (n : Int) < (c : Int) := by omega
            have u2 : ¬ (n : Int) - (c : Int) - 2 < (K : Int) := by omega
            by_cases hqK : q = K
            · have hls : last.size = 0 := by cases Nat.eq_zero_or_pos last.size with | inl h => exact h | inr h => exact absurd (show n = c + 2 + K by omega) (q2 (by omega))
              have e1 : last.toList.isEmpty = true := emp_yes last hls
              have u3 : ((n : Int) - (c : Int) - 2 == (K : Int)) = true := beq_iff_eq.2 (by omega)
              clear hw hls q1 q2 hq hqK
              go_wp2_with fail
              go_ret3
              exact unlq_text HS.out.old HQ.out
            · have u3 : ((n : Int) - (c : Int) - 2 == (K : Int)) = false := beq_eq_false_iff_ne.2 (by omega)
              clear hw q1 q2 hq hqK
              go_wp2_with fail
              go_ret3
              exact unlq_text HS.out.old HQ.out
          | some x =>
            have HW := Lib.hid hw
            obtain ⟨hx0, hx1⟩ := Lz.word_pos HOK.out hw
            obtain ⟨R, hR⟩ : ∃ R, Lz.addW c L last x = R := ⟨_, rfl⟩
            have HR := Lib.hid hR
            obtain ⟨M, hM⟩ : ∃ M, R.length = M := ⟨_, rfl⟩
            have HM := Lib.hid hM
            clear hw hR hM
            go_upto_block 2 with fail
            go_cut [17] (fun s17 wx => s17 = .string x ∧ Hid (Ext wr wx))
            case first =>
              by_cases hnc2 : n < c
              · have u1 : (n : Int) < (c : Int) := by omega
                have HXE : Hid (x = Lz.one n) := Lib.hid (by have q := HW.out; unfold Lz.wordOf at q; rw [if_pos hnc2] at q; exact (Option.some.inj q).symm)
                have hn256 : n < 256 := by omega
                clear hnc2
                go_wp2_with fail
                refine (byte1_any n hn256 _).mono ?_
                rintro e w2 ⟨rfl, h2⟩
                have HX2 := Lib.hid h2
                clear h2
                go_wp2_with fail
                go_meet
                exact ⟨by rw [HXE.out], HX2⟩
              · obtain ⟨q, hq⟩ : ∃ q : Nat, n = c + 2 + q := ⟨n - (c + 2), by have := HNE.out; omega⟩
                have u1 : ¬ (n : Int) < (c : Int) := by omega
                by_cases hqK : q < K
                · have HXL : Hid (L[q]? = some x) := Lib.hid (by have q9 := HW.out; unfold Lz.wordOf at q9; rw [if_neg hnc2, if_pos (by have := HK.out; omega), show n - (c + 2) = q by omega] at q9; exact q9)
                  have hrv := HS.out.rv
                  rw [HK.out] at hrv
                  obtain ⟨gv, cap, hv, _, _⟩ := ownsRow_some hrv (by omega)
                  injection hv with hv1 hv2 hv3
                  subst hv1
                  have hcx : wr.cell? ⟨gv, q, none⟩ = some (.string x) := by
                    rw [hrv.cellAt q (by omega)]
                    simp [strV, HXL.out]
                  have uq : (n : Int) - (c : Int) - 2 = (q : Int) := by omega
                  have u2 : (q : Int) < (K : Int) := by omega
                  have u4 : (0 : Int) ≤ (q : Int) := by omega
                  clear hq hnc2 hv2 hv3 hrv
                  go_wp2_with fail
                  go_meet
                  exact ⟨rfl, Lib.hid (Ext.refl _)⟩
                · obtain ⟨hnM, hls, hxe⟩ := word_new HW.out rfl (by have := HK.out; omega)
                  rw [HK.out] at hnM
                  have HXE := Lib.hid hxe
                  obtain ⟨z, hz⟩ : ∃ z, last.extract 0 1 = z := ⟨_, rfl⟩
                  have hzs : z.size = 1 := by rw [← hz, ByteArray.size_extract]; omega
                  have HZ := Lib.hid hz
                  have uq : (n : Int) - (c : Int) - 2 = (K : Int) := by omega
                  have e1 : last.toList.isEmpty = false := emp_no last hls
                  have hl1 : (1 : Int) ≤ (last.size : Int) := by omega
                  have hov : ¬ 9223372036854775807 < last.size + 1 := by omega
                  have u5 : (K : Int) + (c : Int) + 2 < 4096 := by omega
                  clear hxe hls hnM hq hnc2 hqK
                  go_wp2_with fail
                  go_meet
                  exact ⟨by rw [HXE.out, HZ.out], Lib.hid (Ext.refl _)⟩
            case rest =>
              obtain ⟨rfl, HX2⟩ := hcut
              have HS2 := Lib.hid (HS.out.ext HX2.out)
              clear HS
              obtain ⟨ab, hab⟩ : ∃ ab, decide (last.size ≠ 0 ∧ c + 2 + K < 4096) = ab := ⟨_, rfl⟩
              have HAB := Lib.hid hab
              clear hab
              go_upto_region 28 with fail
              go_cut [128] (fun s wx => s = .bool ab ∧ Hid (RSt w wx L out (.slice xv K cv) (.slice xo T co)))
              case first =>
                by_cases hls : last.size = 0
                · have e1 : last.toList.isEmpty = true := emp_yes last hls
                  have HF : Hid (ab = false) := Lib.hid (by rw [← HAB.out]; exact decide_eq_false (by omega))
                  clear hls
                  go_wp2_with fail
                  go_meet
                  exact ⟨by rw [HF.out], HS2⟩
                · have e1 : last.toList.isEmpty = false := emp_no last hls
                  by_cases hf : (K : Int) + (c : Int) + 2 < 4096
                  · have HF : Hid (ab = true) := Lib.hid (by rw [← HAB.out]; exact decide_eq_true ⟨hls, by omega⟩)
                    clear hls
                    go_wp2_with fail
                    go_meet
                    exact ⟨by rw [HF.out], HS2⟩
                  · have HF : Hid (ab = false) := Lib.hid (by rw [← HAB.out]; exact decide_eq_false (by omega))
                    clear hls
                    go_wp2_with fail
                    go_meet
                    exact ⟨by rw [HF.out], HS2⟩
              case rest =>
                clear HS2 HX2
                obtain ⟨rfl, HS2⟩ := hcut
                go_upto_if 128 with fail
                go_cut [11] (fun s11 wx => (∃ xw cw, s11 = .slice xw M cw) ∧ Hid (RSt w wx R out s11 (.slice xo T co)))
                case first =>
                  cases ab
                  · have hls := of_decide_eq_false HAB.out
                    have hRL : R = L := by rw [← HR.out]; unfold Lz.addW; rw [if_neg (by have := HK.out; omega)]
                    have hKM : M = K := by rw [← HM.out, hRL, HK.out]
                    subst hRL
                    subst hKM
                    clear hls
                    go_wp2_with fail
                    go_meet
                    exact ⟨⟨_, _, rfl⟩, HS2⟩
                  · obtain ⟨hls, hf⟩ := of_decide_eq_true HAB.out
                    obtain ⟨z, hz⟩ : ∃ z, x.extract 0 1 = z := ⟨_, rfl⟩
                    have hzs : z.size = 1 := by rw [← hz, ByteArray.size_extract]; omega
                    have HZ := Lib.hid hz
                    have HRL : Hid (R = L ++ [last ++ z]) := Lib.hid (by rw [← HR.out, ← hz]; unfold Lz.addW; rw [if_pos (by have := HK.out; omega)])
                    have hMK : M = K + 1 := by rw [← HM.out, HRL.out, List.length_append, List.length_singleton, HK.out]
                    have hov : ¬ 9223372036854775807 < last.size + 1 := by omega
                    have hx1i : (1 : Int) ≤ (x.size : Int) := by omega
                    have hrv := HS2.out.rv
                    rw [HK.out] at hrv
                    have HRV := Lib.hid hrv
                    have hszc := HS2.out.old.size
                    have HMK := Lib.hid hMK
                    clear hls hrv hMK
                    go_wp2_with (at_builtin; refine wpList_append_own_at _ rfl _ _ 86 rfl w.heap.size 9 j0 (.string ⟨#[]⟩) 1 16 Tryd.underlying86 hj0 hj1 hj2 hj3 rfl (by decide) _ _ _ rfl (HRV.out.alloc _) ⟨wc.heap.size, 0, none⟩ 1 1 [.string (last ++ z)] rfl rfl ?c1 ?c2 ?c3 ?c4 ?c5 ?_)
                    case c1 =>
                      intro j u hu
                      rw [add_plain]
                      exact (Bk.at (w := wc) rfl).cell j |>.trans (by simpa using hu)
                    case c2 => intro u hu; simp at hu; subst hu; rfl
                    case c3 => unfold maxLen; omega
                    case c4 => omega
                    case c5 => first | omega | (rw [World.size_alloc]; omega)
                    intro v2 w2 hown hgrow _ hat
                    have HS3 := Lib.hid (HS2.out.add ((Ext.refl _).alloc _) hgrow (by rw [HK.out]; exact hown) (by rw [World.size_alloc]; exact hat))
                    obtain ⟨xw, cw, rfl⟩ := lit_row hown
                    rw [← HRL.out] at HS3
                    clear hown hgrow hat
                    go_wp2_with fail
                    go_meet
                    exact ⟨⟨xw, cw, by rw [HMK.out]⟩, HS3⟩
                case rest =>
                  clear HS2 HAB
                  obtain ⟨⟨xw, cw, rfl⟩, HS2⟩ := hcut
                  obtain ⟨Dp, hD⟩ : ∃ D : Nat, 2 ^ size = D := ⟨_, rfl⟩
                  have hDl : Dp ≤ 4096 := by rw [← hD]; exact Nat.le_trans (Nat.pow_le_pow_right (by decide) hsz12) (by decide)
                  have hDI := pow_int hD
                  have HD := Lib.hid hD
                  clear hD
                  have hMl : M ≤ 4096 := by have e1 := HM.out; have e3 := HK.out; have e4 := addW_len c L last x; rw [HR.out] at e4; omega
                  have HZE : Hid (Lz.sizeW c R size = if c + 2 + M = Dp ∧ size < 12 then size + 1 else size) := Lib.hid (by rw [← HM.out, ← HD.out]; rfl)
                  by_cases hb : most < T + x.size
                  · have HQ : Hid (r = .bound) := Lib.hid (by rw [← HRr.out]; exact Lz.unl_bound HAL.out (by omega) HNN.out HNE.out.1 HNE.out.2 HW.out (by rw [HT.out]; exact hb))
                    have hbI : (most : Int) < (T : Int) + (x.size : Int) := by omega
                    clear hb
                    by_cases hg : c + 2 + M = Dp
                    · have t5 : ((M : Int) + (c : Int) + 2 == (Dp : Int)) = true := beq_iff_eq.2 (by omega)
                      by_cases h12 : (size : Int) < 12
                      · have HE2 : Hid (Lz.sizeW c R size = size + 1) := Lib.hid (by rw [HZE.out]; exact if_pos ⟨hg, by omega⟩)
                        clear hg
                        clear HE2
                        go_wp2_with fail
                        go_ret3
                        exact unlq_bound HS2.out.old HQ.out
                      · have HE2 : Hid (Lz.sizeW c R size = size) := Lib.hid (by rw [HZE.out]; exact if_neg (fun h => by omega))
                        clear hg
                        clear HE2
                        go_wp2_with fail
                        go_ret3
                        exact unlq_bound HS2.out.old HQ.out
                    · have t5 : ((M : Int) + (c : Int) + 2 == (Dp : Int)) = false := beq_eq_false_iff_ne.2 (by omega)
                      have HE2 : Hid (Lz.sizeW c R size = size) := Lib.hid (by rw [HZE.out]; exact if_neg (fun h => hg h.1))
                      clear hg
                      clear HE2
                      go_wp2_with fail
                      go_ret3
                      exact unlq_bound HS2.out.old HQ.out
                  · have HR2 := Lib.hid ((Lz.unl_word (wd := wd) HAL.out (by omega) HNN.out HNE.out.1 HNE.out.2 HW.out (by rw [HT.out]; exact hb)).symm.trans HRr.out)
                    have HOK2 := Lib.hid (HOK.out.step HW.out (by rw [HT.out]; exact hb))
                    rw [HR.out] at HR2 HOK2
                    have hbI : ¬ (most : Int) < (T : Int) + (x.size : Int) := by omega
                    have hro := HS2.out.ro
                    rw [HT.out] at hro
                    have HRO := Lib.hid hro
                    have hszc := HS2.out.old.size
                    clear hro hb
                    by_cases hg : c + 2 + M = Dp
                    · have t5 : ((M : Int) + (c : Int) + 2 == (Dp : Int)) = true := beq_iff_eq.2 (by omega)
                      by_cases h12 : (size : Int) < 12
                      · have HE2 : Hid (Lz.sizeW c R size = size + 1) := Lib.hid (by rw [HZE.out]; exact if_pos ⟨hg, by omega⟩)
                        clear hg
                        go_wp2_with (at_builtin; refine Lib.wpList_append_own_string _ rfl _ _ 23 9 rfl w.heap.size 5 i0 Tryd.underlying23 Tryd.underlying9 hi0 hz0 hz1 hz2 _ _ _ rfl HRO.out x rfl ?c3 ?c4 hszc ?_)
                        case c3 => unfold maxLen; omega
                        case c4 => omega
                        intro o6 w6 hown hgrow _
                        have HS6 := Lib.hid (HS2.out.push hx0 hgrow (by rw [HT.out]; exact hown))
                        clear hown hgrow
                        go_wp2_with fail
                        go_roundg (8 * s.size - (a + size))
                        case measure => have := HG.out; omega
                        case rel => exact ⟨_, _, _, _, _, by rw [HE2.out]; go_num, rfl, by go_num, HS6, HOK2, HR2, Lib.hid (by omega)⟩
                      · have HE2 : Hid (Lz.sizeW c R size = size) := Lib.hid (by rw [HZE.out]; exact if_neg (fun h => by omega))
                        clear hg
                        go_wp2_with (at_builtin; refine Lib.wpList_append_own_string _ rfl _ _ 23 9 rfl w.heap.size 5 i0 Tryd.underlying23 Tryd.underlying9 hi0 hz0 hz1 hz2 _ _ _ rfl HRO.out x rfl ?d3 ?d4 hszc ?_)
                        case d3 => unfold maxLen; omega
                        case d4 => omega
                        intro o6 w6 hown hgrow _
                        have HS6 := Lib.hid (HS2.out.push hx0 hgrow (by rw [HT.out]; exact hown))
                        clear hown hgrow
                        go_wp2_with fail
                        go_roundg (8 * s.size - (a + size))
                        case measure => have := HG.out; omega
                        case rel => exact ⟨_, _, _, _, _, by rw [HE2.out], rfl, by go_num, HS6, HOK2, HR2, Lib.hid (by omega)⟩
                    · have t5 : ((M : Int) + (c : Int) + 2 == (Dp : Int)) = false := beq_eq_false_iff_ne.2 (by omega)
                      have HE2 : Hid (Lz.sizeW c R size = size) := Lib.hid (by rw [HZE.out]; exact if_neg (fun h => hg h.1))
                      clear hg
                      go_wp2_with (at_builtin; refine Lib.wpList_append_own_string _ rfl _ _ 23 9 rfl w.heap.size 5 i0 Tryd.underlying23 Tryd.underlying9 hi0 hz0 hz1 hz2 _ _ _ rfl HRO.out x rfl ?e3 ?e4 hszc ?_)
                      case e3 => unfold maxLen; omega
                      case e4 => omega
                      intro o6 w6 hown hgrow _
                      have HS6 := Lib.hid (HS2.out.push hx0 hgrow (by rw [HT.out]; exact hown))
                      clear hown hgrow
                      go_wp2_with fail
                      go_roundg (8 * s.size - (a + size))
                      case measure => have := HG.out; omega
                      case rel => exact ⟨_, _, _, _, _, by rw [HE2.out], rfl, by go_num, HS6, HOK2, HR2, Lib.hid (by omega)⟩
end Go.Proofs.YtdeiolagnheihaaDoor
