/-
  The document's words of lengths.
  The document's reader: codes; what stands beside it.
-/
import Derived.Test.YtnhbjgmfbcedaaaDoorInflateTellsG11
import Derived.Test.YtnhbjgmfbcedaaaDoorInflateTellsG2
import Derived.Test.YtnhbjgmfbcedaaaDoorInflateTellsG10
import Derived.Test.YtnhbjgmfbcedaaaDoorInflateTellsG5
namespace Go.Proofs.YtnhbjgmfbcedaaaDoor
open Go.RowKit
set_option maxRecDepth 100000
theorem strinfo : (Tryd.prog.info? 9).map (fun i => (i.zero, i.size, i.bytes)) = some (some (.string ⟨#[]⟩), 1, 16) := by kernel_rfl
/-- where the document's count of words stands: at length n, element i, the last word had length l and number c -/
def CodeAt (f : Nat → Int) (len n i l c : Nat) : Prop :=
  l ≤ n ∧ c < 32768 ∧ (l = 0 → c = 0 ∧ first f len n + many f n i = 0) ∧ (0 < l → first f len n + many f n i = (c + 1) * 2 ^ (n - l))
theorem CodeAt.skip {f : Nat → Int} {len n i l c : Nat} (h : CodeAt f len n i l c) (hf : ¬ f i = n) : CodeAt f len n (i + 1) l c := by
  unfold CodeAt at *; rw [many_not f n i hf]; exact h
theorem CodeAt.next {f : Nat → Int} {len n l c : Nat} (h : CodeAt f len n len l c) (hn : 1 ≤ n) : CodeAt f len (n + 1) 0 l c := by
  obtain ⟨h1, h2, h3, h4⟩ := h
  refine ⟨by omega, h2, fun q => ?_, fun q => ?_⟩
  · obtain ⟨q1, q2⟩ := h3 q
    refine ⟨q1, ?_⟩
    rw [first_succ f len n hn, q2]; rfl
  · have q2 := h4 q
    rw [first_succ f len n hn, q2, show many f (n + 1) 0 = 0 from rfl, Nat.add_zero, show n + 1 - l = (n - l) + 1 by omega, Nat.pow_succ, Nat.mul_assoc]
theorem CodeAt.start (f : Nat → Int) (len : Nat) : CodeAt f len 1 0 0 0 := ⟨by omega, by omega, fun _ => ⟨rfl, rfl⟩, fun h => by omega⟩
/-- the word of element i, of length n -/
theorem CodeAt.hit {f : Nat → Int} {len n i l c : Nat} (_h : CodeAt f len n i l c) (hf : f i = n) (hn : 1 ≤ n) (hw : first f len n + many f n i < 32768) :
    CodeAt f len n (i + 1) n (first f len n + many f n i) ∧ word f len i = first f len n + many f n i := by
  refine ⟨⟨by omega, hw, fun q => by omega, fun _ => ?_⟩, ?_⟩
  · rw [many_at f n i hf, Nat.sub_self, Nat.pow_zero]; omega
  · unfold word; rw [if_pos (by omega), hf]; rfl
def outAt (f : Nat → Int) (len n i j : Nat) : Value := if 1 ≤ f j ∧ (f j < n ∨ (f j = n ∧ j < i)) then .string (bs (Bts.high (word f len j) (f j).toNat)) else .string (bs [])
set_option maxHeartbeats 4000000 in
theorem codesOf_any (x : Option Addr) (len cap : Nat) (f : Nat → Int) (w : World) (hx : Ints w x len f) (hb : inBounds f len) (hc : complete f len) :
    Calls Tryd.prog 46 #[.slice x len cap] w fun e w' => (∃ B, w.heap.size ≤ B ∧ e = .returned (.slice (some ⟨B, 0, none⟩) len len) ∧ Cv w' B len (fun i => .string (bs (Bts.high (word f len i) (f i).toNat)))) ∧ Ext w w' := by
  have hl := hb.1
  have HX := Lib.hid hx
  have HB := Lib.hid hb
  have HC := Lib.hid hc
  have hmk := fun w => run_make_row' (P := Tryd.prog) 68 9 (.string ⟨#[]⟩) 16 Tryd.underlying68 strinfo rfl .i64 .i64 len (by omega) (by omega) w
  clear hx hb hc
  go_enter Tryd.func46, Tryd.ntmps46
  go_wp2_with fail
  clear hmk
  have HR0 : Hid (Cv (w.alloc (.cells (madeCells #[.string ⟨#[]⟩] len) 9)) w.heap.size len (outAt f len 1 0)) := Lib.hid ((Cv.made w len _ _).congr (fun j hj => by
    unfold outAt
    rw [if_neg (by omega)]
    exact congrArg Value.string bs_nil.symm))
  have HX0 : Hid (Ext w (w.alloc (.cells (madeCells #[.string ⟨#[]⟩] len) 9))) := Lib.hid ((Ext.refl w).alloc _)
  go_loopw [4, 5, 6] (fun u v q wr => ∃ n l c : Nat, 1 ≤ n ∧ n ≤ 16 ∧ q = .int .i64 n ∧ v = .int .i64 l ∧ u = .int .u32 c ∧ Hid (CodeAt f len n 0 l c) ∧ Hid (Cv wr w.heap.size len (outAt f len n 0)) ∧ Hid (Ext w wr)) (fun _ _ q _ => 16 - (intOf q).toNat)
  case atStart => exact ⟨1, 0, 0, by omega, by omega, rfl, rfl, rfl, Lib.hid (CodeAt.start f len), HR0, HX0⟩
  case round =>
    obtain ⟨n, l, c, hn1, hn2, rfl, rfl, rfl, HCA, HR, HE⟩ := hrel
    by_cases hlt : n < 16
    · have tn : decide ((n : Int) ≤ 15) = true := decide_eq_true (by omega)
      go_wp2_with fail
      go_loopw [4, 5, 7] (fun u v q wr => ∃ i l c : Nat, i ≤ len ∧ q = .int .i64 i ∧ v = .int .i64 l ∧ u = .int .u32 c ∧ Hid (CodeAt f len n i l c) ∧ Hid (Cv wr w.heap.size len (outAt f len n i)) ∧ Hid (Ext w wr)) (fun _ _ q _ => len - (intOf q).toNat)
      case atStart => exact ⟨0, l, c, by omega, rfl, rfl, rfl, HCA, HR, HE⟩
      case round =>
        clear HCA HR HE
        obtain ⟨i, l, c, hi, rfl, rfl, rfl, HCA, HR, HE⟩ := hrel
        by_cases hil : i < len
        · obtain ⟨a, rfl⟩ : ∃ a, x = some a := by
            cases x with
            | none => have := HX.out.1 rfl; omega
            | some a => exact ⟨a, rfl⟩
          obtain ⟨hcell, f1, f2⟩ := (HX.out.ext HE.out).2 a rfl i hil
          by_cases hfn : f i = n
          · have hwl := word_lt f len HC.out i n hil hfn hn1 (by omega)
            obtain ⟨W, hW⟩ : ∃ W, first f len n + many f n i = W := ⟨_, rfl⟩
            have hW15 : W < 32768 := by omega
            have hhit := CodeAt.hit HCA.out hfn hn1 (by omega)
            rw [hW] at hhit
            have HCA2 := Lib.hid hhit.1
            have HW := Lib.hid hhit.2
            have hln := HCA.out.1
            have hc15 := HCA.out.2.1
            have HR2 : Hid (∀ wz, Cv wz w.heap.size len (outAt f len n i) → Cv (wz.setCell ⟨w.heap.size, i, none⟩ (.string (bs (Bts.high W n)))) w.heap.size len (outAt f len n (i + 1))) := Lib.hid (fun wz hz => hz.put i _ _ hil (fun j _ => by
              unfold outAt
              by_cases hj : j = i
              · subst hj; rw [if_pos (by omega), if_pos rfl, HW.out, hfn]; rfl
              · rw [if_neg hj]
                by_cases h2 : 1 ≤ f j ∧ (f j < n ∨ (f j = n ∧ j < i))
                · rw [if_pos h2, if_pos (by omega)]
                · rw [if_neg h2, if_neg (by omega)]))
            have t1 : ((f i) != (n : Int)) = false := by rw [hfn]; simp
            rw [hfn] at hcell t1
            by_cases hl0 : l = 0
            · have hW0 : W = 0 := by rw [← hW]; exact (HCA.out.2.2.1 hl0).2
              have hc0 : c = 0 := (HCA.out.2.2.1 hl0).1
              obtain rfl : W = c := by omega
              have t2 : decide ((0 : Int) < (l : Int)) = false := decide_eq_false (by omega)
              have hlz : l ≤ 0 := by omega
              clear hwl hW hfn hhit f1 f2 hl0 hc0 hW0
              go_wp2_with fail
              refine (high_any W n (by omega) (by omega) _).mono ?_
              rintro e w5 ⟨rfl, h5⟩
              have HE5 := Lib.hid (HE.out.trans h5)
              have HR5 := Lib.hid (HR.out.ext h5)
              obtain ⟨c5, z5⟩ := HR5.out i hil
              clear h5 hcell
              go_wp2_with fail
              go_roundw
              case rel => exact ⟨i + 1, n, W, by omega, by go_num, rfl, rfl, HCA2, Lib.hid (HR2.out _ HR5.out), Lib.hid (Below.setCell HE5.out (by simp) _)⟩
              case measure => first | (simp [intOf]; done) | (simp [intOf]; omega)
            · have hWe : W = (c + 1) * 2 ^ (n - l) := by rw [← hW]; exact HCA.out.2.2.2 (by omega)
              obtain ⟨d, hd⟩ : ∃ d, n - l = d := ⟨_, rfl⟩
              have hd2 : (n : Int) - (l : Int) = (d : Int) := by omega
              rw [hd] at hWe
              have hm : ((c : Int) + 1) * 2 ^ d = (W : Int) := by rw [hWe]; simp
              have hlp : 0 < l := by omega
              clear hwl hW hfn hhit f1 f2 hd hWe hl0
              go_wp2_with fail
              refine (high_any W n (by omega) (by omega) _).mono ?_
              rintro e w5 ⟨rfl, h5⟩
              have HE5 := Lib.hid (HE.out.trans h5)
              have HR5 := Lib.hid (HR.out.ext h5)
              obtain ⟨c5, z5⟩ := HR5.out i hil
              clear h5 hcell
              go_wp2_with fail
              go_roundw
              case rel => exact ⟨i + 1, n, W, by omega, by go_num, rfl, rfl, HCA2, Lib.hid (HR2.out _ HR5.out), Lib.hid (Below.setCell HE5.out (by simp) _)⟩
              case measure => first | (simp [intOf]; done) | (simp [intOf]; omega)
          · have t1 : ((f i) != (n : Int)) = true := by rw [bne_iff_ne]; exact hfn
            have HCA2 := Lib.hid (HCA.out.skip hfn)
            have HR2 : Hid (Cv wr w.heap.size len (outAt f len n (i + 1))) := Lib.hid (HR.out.congr (fun j _ => by
              unfold outAt
              by_cases h2 : 1 ≤ f j ∧ (f j < n ∨ (f j = n ∧ j < i))
              · rw [if_pos h2, if_pos (by omega)]
              · rw [if_neg h2, if_neg (by intro h3; apply h2; refine ⟨h3.1, ?_⟩; rcases h3.2 with q | ⟨q1, q2⟩; exact .inl q; right; refine ⟨q1, ?_⟩; rcases Nat.lt_succ_iff_lt_or_eq.1 q2 with q3 | q3; exact q3; subst q3; exact absurd q1 hfn)]))
            clear hfn
            go_wp2_with fail
            go_roundw
            case rel => exact ⟨i + 1, l, c, by omega, by go_num, rfl, rfl, HCA2, HR2, HE⟩
            case measure => simp [intOf]; omega
        · obtain rfl : i = len := by omega
          have HCA2 := Lib.hid (HCA.out.next hn1)
          have HR2 : Hid (Cv wr w.heap.size i (outAt f i (n + 1) 0)) := Lib.hid (HR.out.congr (fun j hj => by
            unfold outAt
            by_cases h2 : 1 ≤ f j ∧ (f j < n ∨ (f j = n ∧ j < i))
            · rw [if_pos h2, if_pos (by omega)]
            · rw [if_neg h2, if_neg (by omega)]))
          go_wp2_with fail
          go_roundw
          case rel => exact ⟨n + 1, l, c, by omega, by omega, by go_num, rfl, rfl, HCA2, HR2, HE⟩
          case measure => simp [intOf]; omega
    · obtain rfl : n = 16 := by omega
      go_wp2_with fail
      go_ret
      refine ⟨⟨w.heap.size, Nat.le_refl _, rfl, HR.out.congr (fun j hj => ?_)⟩, HE.out⟩
      have q := HB.out.2 j hj
      unfold outAt
      by_cases h2 : 1 ≤ f j
      · rw [if_pos (by omega)]
      · have h0 : f j = 0 := by omega
        rw [if_neg (by omega), h0]; rfl
end Go.Proofs.YtnhbjgmfbcedaaaDoor
namespace Go.Proofs.YtnhbjgmfbcedaaaDoor
open Go.RowKit
set_option maxRecDepth 100000
theorem vcode_zero {f : Nat → Int} {len : Nat} (h : Inf.good f len) : vcode f len = 0 := by unfold vcode; rw [if_pos h.1, if_pos h.2]
theorem vcode_pos {f : Nat → Int} {len : Nat} (h : ¬ Inf.good f len) : 0 < vcode f len ∧ vcode f len ≤ 3 := by
  unfold vcode
  by_cases h1 : inBounds f len
  · rw [if_pos h1]
    rw [if_neg (fun h2 => h ⟨h1, h2⟩)]; omega
  · rw [if_neg h1]; omega
open Classical in
def CPost (Q : Nat) (T : ByteArray) (a e : Nat) (x : Nat → Value) (w : World) (f : Nat → Int) (len : Nat) (r : Ending) (w' : World) : Prop :=
  Keeps (fun k => k = Q) w w' ∧ if e = 0 then
    if Inf.good f len then ∃ v, r = .returned v ∧ Cw w' Q v f len ∧ Bk w' Q (qc T a 0 x) ∧ (∀ C l c, v = .slice (some ⟨C, 0, none⟩) l c → w.heap.size ≤ C)
    else r = .returned (.slice none 0 0) ∧ Bk w' Q (qc T a 1 x)
  else r = .returned (.slice none 0 0) ∧ Bk w' Q (qc T a e x)
set_option linter.unusedSimpArgs false in
set_option maxHeartbeats 2000000 in
theorem qcodes_any (Q a e len cap : Nat) (xp : Option Addr) (f : Nat → Int) (T : ByteArray) (x : Nat → Value) (w : World) (hB : Bk w Q (qc T a e x)) (hI : Ints w xp len f) (hl : len ≤ 400) :
    Calls Tryd.prog 87 #[.pointer (some ⟨Q, 0, none⟩), .slice xp len cap] w fun r w' => CPost Q T a e x w f len r w' := by
  have HO := Lib.hid (fun (w : World) (h : Bk w Q (qc T a e x)) => rok_any Q a e T x w h)
  have HO1 := Lib.hid (fun (w : World) (h : Bk w Q (qc T a 1 x)) => rok_any Q a 1 T x w h)
  have HF := Lib.hid (fun (w : World) (h : Bk w Q (qc T a e x)) => rfail_any Q a e 1 T x w h)
  have HB := Lib.hid hB
  have HI := Lib.hid hI
  have HQl := Lib.hid hB.lt
  clear hB hI
  by_cases he : e = 0
  · subst he
    by_cases hg : Inf.good f len
    · have hv := vcode_zero hg
      have HG := Lib.hid hg
      have HV := Lib.hid (validCode_any xp len cap f w HI.out (by unfold maxLen; omega))
      rw [hv] at HV
      have HCo := Lib.hid (codesOf_any xp len cap f w HI.out hg.1 hg.2)
      clear hg hv
      go_enter Tryd.func87, Tryd.ntmps87
      go_wp2_with fail
      refine (HO.out _ HB.out).mono ?_
      rintro r _ ⟨rfl, rfl⟩
      go_wp2_with fail
      refine HV.out.mono ?_
      rintro r _ ⟨rfl, rfl⟩
      go_wp2_with fail
      refine (HO.out _ HB.out).mono ?_
      rintro r _ ⟨rfl, rfl⟩
      go_wp2_with fail
      refine HCo.out.mono ?_
      rintro r w1 ⟨⟨C, hC, rfl, hcv⟩, hX⟩
      have H1 := Lib.hid (And.intro hC hcv)
      have HX := Lib.hid hX
      clear hC hcv hX
      go_wp2_with fail
      go_ret
      refine ⟨HX.out.keeps, ?_⟩
      rw [if_pos rfl, if_pos HG.out]
      exact ⟨_, rfl, ⟨HG.out, C, _, rfl, by have := H1.out.1; have := HQl.out; omega, H1.out.2⟩, HB.out.ext HX.out, fun C' l c q => by injection q with q; injection q with q; injection q with q; have := H1.out.1; omega⟩
    · have hv := vcode_pos hg
      obtain ⟨vc, hvc⟩ : ∃ vc, vcode f len = vc := ⟨_, rfl⟩
      rw [hvc] at hv
      have HG := Lib.hid hg
      have HV := Lib.hid (validCode_any xp len cap f w HI.out (by unfold maxLen; omega))
      rw [hvc] at HV
      have t1 : decide (0 < vc) = true := decide_eq_true hv.1
      clear hg hvc hv
      go_enter Tryd.func87, Tryd.ntmps87
      go_wp2_with fail
      refine (HO.out _ HB.out).mono ?_
      rintro r _ ⟨rfl, rfl⟩
      go_wp2_with fail
      refine HV.out.mono ?_
      rintro r _ ⟨rfl, rfl⟩
      go_wp2_with fail
      refine (HF.out _ HB.out).mono ?_
      rintro r w1 ⟨rfl, hB1, hK1⟩
      rw [show fl 0 1 = 1 from rfl] at hB1
      have HB1 := Lib.hid hB1
      have HK1 := Lib.hid hK1
      clear hB1 hK1
      go_wp2_with fail
      refine (HO1.out w1 HB1.out).mono ?_
      rintro r _ ⟨rfl, rfl⟩
      go_wp2_with fail
      go_ret
      refine ⟨HK1.out, ?_⟩
      rw [if_pos rfl, if_neg HG.out]
      exact ⟨rfl, HB1.out⟩
  · have hd : decide (e = 0) = false := decide_eq_false he
    go_enter Tryd.func87, Tryd.ntmps87
    go_wp2_with fail
    refine (HO.out _ HB.out).mono ?_
    rintro r _ ⟨rfl, rfl⟩
    rw [hd]
    go_wp2_with fail
    refine (HO.out _ HB.out).mono ?_
    rintro r _ ⟨rfl, rfl⟩
    rw [hd]
    go_wp2_with fail
    go_ret
    refine ⟨Keeps.refl _ _, ?_⟩
    rw [if_neg he]
    exact ⟨rfl, HB.out⟩
/-- a reader's memory on its way: its cells, its row of bytes; what was turned since w -/
structure QGo (w wr : World) (Q : Nat) (T : ByteArray) (a e : Nat) (x : Nat → Value) (v0 vo : Value) (out : List UInt8) : Prop where
  bk : Bk wr Q (qc T a e x)
  x2 : x 2 = vo
  row : wr.ownsRow 0 5 1 vo out.length (bytesV out)
  nq : vo.ownBlock ≠ some Q
  step : IStep w wr Q Q v0 vo
section
variable {w wr w' : World} {Q a a' e e' : Nat} {T : ByteArray} {x x' : Nat → Value} {v0 vo vo' : Value} {out out' : List UInt8}
theorem QGo.quiet (h : QGo w wr Q T a e x v0 vo out) (hk : Keeps (fun k => k = Q) wr w') (hb : Bk w' Q (qc T a' e' x)) : QGo w w' Q T a' e' x v0 vo out :=
  ⟨hb, h.x2, ownsRow_kept h.row hk (fun k q e => h.nq (by rw [q, e])), h.nq, h.step.trans ⟨hk.mono (fun _ _ q => .inl q), fun _ q => .inl q⟩⟩
theorem QGo.ext (h : QGo w wr Q T a e x v0 vo out) (hE : Ext wr w') : QGo w w' Q T a e x v0 vo out := h.quiet hE.keeps (h.bk.ext hE)
/-- a byte more -/
theorem QGo.push {L : Nat} {wb : World} {y : UInt8} (h : QGo w wr Q T a e x v0 vo out) (hL : out.length = L) (hE : Ext wr wb) (hg : wb.grownBy w' vo.ownBlock) (ho : w'.ownsRow 0 5 1 vo' (L + 1) (bytesV out ++ [.int .u8 (y.toNat : Int)]))
    (hat : vo'.ownBlock = vo.ownBlock ∨ vo'.ownBlock = some wb.heap.size) : Bk w' Q (qc T a e x) ∧ QGo w (w'.setCell ⟨Q, 2, none⟩ vo') Q T a e (xset x 2 vo') v0 vo' (out ++ [y]) := by
  have hQl : Q < wr.heap.size := h.bk.lt
  have hs := hE.size
  have hbk := (h.bk.ext hE).keeps (Keeps.grown hg) h.nq
  have hv : ∀ k, vo'.ownBlock = some k → vo.ownBlock = some k ∨ wr.heap.size ≤ k := by
    intro k hk
    rcases hat with q | q
    · rw [q] at hk; exact .inl hk
    · rw [q] at hk; injection hk with hk; exact .inr (by omega)
  have hvQ : vo'.ownBlock ≠ some Q := by
    intro e
    rcases hv Q e with q | q
    · exact h.nq q
    · omega
  have hK0 : Keeps (fun k => vo.ownBlock = some k) wr w' := (hE.keeps (S := fun k => vo.ownBlock = some k)).trans (Keeps.grown hg) (fun _ _ q => q)
  refine ⟨hbk, hbk.putx 2 (.inl rfl) vo', by simp [xset], ?_, hvQ, h.step.trans ⟨(hK0.mono (fun _ _ q => .inr (.inr q))).setCell (p := ⟨Q, 2, none⟩) (.inl (.inl rfl)) _, hv⟩⟩
  have e : bytesV (out ++ [y]) = bytesV out ++ [.int .u8 (y.toNat : Int)] := by simp [bytesV]
  rw [e, List.length_append, hL]
  exact ownsRow_setCell_other ho hvQ _
end
end Go.Proofs.YtnhbjgmfbcedaaaDoor
