/- HuffReads's walk. -/
import Derived.Test.YtkddbhngffbljaaDoorReadsLaw
import Derived.Test.YtkddbhngffbljaaDoorCoded1
import Derived.Test.YtkddbhngffbljaaDoorErrsTo
import Derived.Test.YtkddbhngffbljaaDoorRefValid
import Derived.Test.YtkddbhngffbljaaDoorReadBad
import Derived.Test.YtkddbhngffbljaaDoorTurned
import Derived.Test.YtkddbhngffbljaaDoorCellsV
import Derived.StillTailTactics
import Derived.Deep.RegionHeld3
import Derived.Deep.RegionWith
namespace Go.Proofs.YtkddbhngffbljaaDoor
open Go.RowKit
set_option maxRecDepth 100000
theorem reads_out (x y : Option Addr) (len cap n cap' : Nat) (w : World) (E : Nat → Addr) (hS : Errs w E) (h : 300 < len ∨ 100 < n) (hl : len ≤ maxLen) (hn : n ≤ maxLen) :
    Calls Tryd.prog 9 #[.slice x len cap, .slice y n cap'] w fun e w' => e = .returned (.bool true) ∧ Ext w w' := by
  unfold maxLen at hl hn
  by_cases h1 : 300 < len
  · go_enter Tryd.func9, Tryd.ntmps9
    go_wp2_with fail
    refine (two_any _ (errs_sents hS)).mono ?_
    rintro e w2 ⟨rfl, h2⟩
    have X2 := Lib.hid (h2)
    clear h2
    go_wp2_with fail
    go_ret
    exact ⟨rfl, X2.out⟩
  · have h2 : 100 < n := by omega
    go_enter Tryd.func9, Tryd.ntmps9
    go_wp2_with fail
    refine (two_any _ (errs_sents hS)).mono ?_
    rintro e w2 ⟨rfl, h2⟩
    have X2 := Lib.hid (h2)
    clear h2
    go_wp2_with fail
    go_ret
    exact ⟨rfl, X2.out⟩
theorem reads_good (x y : Option Addr) (len cap n cap' : Nat) (f g : Nat → Int) (w : World) (E : Nat → Addr) (hS : Errs w E) (hx : Ints w x len f) (hy : Ints w y n g) (hl : len ≤ 300) (hn : n ≤ 100) (hx0 : x = none → cap = 0) (hb : inBounds f len) (hc : complete f len) :
    Calls Tryd.prog 9 #[.slice x len cap, .slice y n cap'] w fun e w' => e = .returned (.bool true) ∧ Ext w w' := by
  have HS := Lib.hid hS
  have HX := Lib.hid hx
  have HY := Lib.hid hy
  have HX0 := Lib.hid hx0
  have HB := Lib.hid hb
  have HC := Lib.hid hc
  clear hS hx hy hx0 hb hc
  go_enter Tryd.func9, Tryd.ntmps9
  go_wp2_with fail
  refine (two_any _ (errs_sents HS.out)).mono ?_
  rintro e w2 ⟨rfl, h2⟩
  have X2 := Lib.hid (h2)
  clear h2
  go_wp2_with fail
  refine (ints_calls x len cap f _ (HX.out.ext X2.out) (by omega) HX0.out).mono ?_
  rintro e w3 ⟨⟨v3, rfl, y3, c3, rfl, hy3⟩, h3⟩
  have X3 := Lib.hid (X2.out.trans h3)
  have HY3 := Lib.hid (hy3)
  clear h3 hy3
  go_wp2_with fail
  refine (codes_good y3 len c3 f _ HY3.out (by unfold maxLen; omega) HB.out HC.out _ _ ((HS.out.ext X3.out).var 1 (by decide)) ((HS.out.ext X3.out).var 2 (by decide))).mono ?_
  rintro e w4 ⟨h4, B, hB, rfl, hC⟩
  have X4 := Lib.hid (X3.out.trans h4)
  have CC := Lib.hid (hC)
  have BB := Lib.hid ((Nat.le_trans X3.out.size hB))
  clear hC hB h4
  go_wp2_with fail
  refine (ints_calls x len cap f _ (HX.out.ext X4.out) (by omega) HX0.out).mono ?_
  rintro e w5 ⟨⟨v5, rfl, y5, c5, rfl, hy5⟩, h5⟩
  have X5 := Lib.hid (X4.out.trans h5)
  have HY5 := Lib.hid (hy5)
  have C5 := Lib.hid ((Cv.of_cs CC.out).ext h5)
  clear h5 hy5
  go_wp2_with fail
  refine (read_good y5 len c5 f _ E (HS.out.ext X5.out) HY5.out HB.out HC.out).mono ?_
  rintro e w6 ⟨⟨T, v, hT, hV, rfl, hTA⟩, h6⟩
  have X6 := Lib.hid (X5.out.trans h6)
  have TA6 := Lib.hid (hTA)
  have C6 := Lib.hid (C5.out.ext h6)
  clear h6 hTA hV hT
  clear CC C5 HY3 HY5
  go_wp2_with fail
  refine wp_world (fun wz => WR w6 wz w6.heap.size (.slice none 0 0) (vsW f len (toldL f g len 0)) (posW f (toldL f g len 0)) (.slice none 0 0) (toldL f g len 0)) ?_ ?_
  · exact ⟨(Ext.refl _).alloc _, WAt.fresh w6 _, World.ownsRow_nil _ _ _ _, Nat.le_refl _, (fun k h => by cases h), (fun k h => by cases h)⟩
  intro w7 hWR
  have WR7 := Lib.hid hWR
  clear hWR
  generalize w6.heap.size = W0 at *
  obtain ⟨i0, hi0, hz0, hz1, hz2⟩ := info_parts i64info
  go_loopw [11, 12] (fun t c wr => ∃ (i : Nat) (u : Value), i ≤ n ∧ c = .int .i64 i ∧ Hid (WR w6 wr W0 u (vsW f len (toldL f g len i)) (posW f (toldL f g len i)) t (toldL f g len i))) (fun _ c _ => n - (intOf c).toNat)
  case atStart => exact ⟨0, _, by omega, rfl, WR7⟩
  case round =>
    obtain ⟨i, u, hi, rfl, HW⟩ := hrel
    rename_i t
    by_cases hlt : i < n
    · obtain ⟨b, rfl⟩ : ∃ a, y = some a := by
        cases y with
        | none => have := HY.out.1 rfl; omega
        | some a => exact ⟨a, rfl⟩
      obtain ⟨hcell, g1, g2⟩ := (HY.out.ext (Ext.trans X6.out HW.out.ext)).2 b rfl i hlt
      by_cases hg0 : g i < 0
      · have HN := Lib.hid (toldL_no f g len i (by omega))
        have t1 : decide (g i < 0) = true := decide_eq_true hg0
        go_wp2_with fail
        go_roundw
        case rel => exact ⟨i + 1, u, by omega, by go_num, by rw [HN.out]; exact HW⟩
        case measure => simp [intOf]; omega
      · by_cases hgl : (len : Int) ≤ g i
        · have HN := Lib.hid (toldL_no f g len i (by omega))
          have t1 : decide (g i < 0) = false := decide_eq_false hg0
          have t2 : decide ((len : Int) ≤ g i) = true := decide_eq_true hgl
          go_wp2_with fail
          go_roundw
          case rel => exact ⟨i + 1, u, by omega, by go_num, by rw [HN.out]; exact HW⟩
          case measure => simp [intOf]; omega
        · obtain ⟨k, hk⟩ : ∃ k : Nat, g i = k := ⟨(g i).toNat, by omega⟩
          obtain ⟨a, rfl⟩ : ∃ a, x = some a := by
            cases x with
            | none => have := HX.out.1 rfl; omega
            | some a => exact ⟨a, rfl⟩
          have hkl : k < len := by omega
          obtain ⟨hcx, _, _⟩ := (HX.out.ext (Ext.trans X6.out HW.out.ext)).2 a rfl k hkl
          obtain ⟨q1, q2⟩ := HB.out.2 k hkl
          obtain ⟨m, hm⟩ : ∃ m : Nat, f k = m := ⟨(f k).toNat, by omega⟩
          rw [hm] at hcx q1 q2
          have HM := Lib.hid hm
          have HKG := Lib.hid hk
          rw [hk] at hcell g1 g2
          clear hm hg0 hgl hk
          have t1 : decide ((k : Int) < 0) = false := decide_eq_false (by omega)
          have t2 : decide (len ≤ k) = false := decide_eq_false (by omega)
          by_cases hm0 : m = 0
          · have HN := Lib.hid (toldL_no f g len i (by rw [HKG.out, Int.toNat_natCast, HM.out]; omega))
            have t3 : ((m : Int) == 0) = true := by rw [hm0]; rfl
            clear hm0
            go_wp2_with fail
            go_roundw
            case rel => exact ⟨i + 1, u, by omega, by go_num, by rw [HN.out]; exact HW⟩
            case measure => simp [intOf]; omega
          · have HN := Lib.hid (toldL_yes f g len i k HKG.out hkl (by rw [HM.out]; omega))
            have t3 : ((m : Int) == 0) = false := beq_eq_false_iff_ne.2 (by omega)
            have hcw := ((C6.out.ext HW.out.ext) k hkl).1
            obtain ⟨W, hW⟩ : ∃ W, word f len k = W := ⟨_, rfl⟩
            rw [hW] at hcw
            have HWW := Lib.hid hW
            have hWl : W < 2 ^ m := by rw [← hW]; exact (word_lt2 f len k m HC.out hkl HM.out (by omega) (by omega)).2
            have HWL := Lib.hid hWl
            clear hW hWl hm0
            go_wp2_with fail
            go_still_tail 9, (by kernel_rfl)
            change wpList _ _ _ _ _ wr.drew
            have HW1 := Lib.hid HW.out.drew
            clear HW hcell hcx hcw t3
            generalize wr.drew = wq at *
            have hpos := posW_le f (toldL f g len i) (fun j hj => (HB.out.2 j (toldL_mem f g len i j hj).1).2)
            have htl := toldL_len f g len i
            go_wp2_with fail
            refine (turned_in W0 0 _ _ W m u _ HW1.out.wat (by omega) HWL.out (by omega)).mono ?_
            rintro e w8 ⟨rfl, u', hA8, hS8⟩
            have HW8 := Lib.hid (HW1.out.written hA8 hS8)
            clear hS8 hA8
            have hrow := HW8.out.row
            have hll : (toldL f g len i).length ≤ 100 := by omega
            have HSN := Lib.hid (vsW_snoc f len (toldL f g len i) k m HM.out)
            clear hpos htl HW1
            generalize toldL f g len i = l at *
            go_wp2_with (at_builtin; refine wpList_append_own_at _ rfl _ _ 45 rfl 0 3 i0 (.int .i64 0) 1 8 Tryd.underlying45 hi0 hz0 hz1 hz2 rfl (by decide) _ _ _ rfl (hrow.alloc _) ⟨w8.heap.size, 0, none⟩ 1 1 [.int .i64 (k : Int)] rfl rfl ?c1 ?c2 ?c3 ?c4 ?c5 ?_)
            case c1 =>
              intro j u hj
              match j, hj with
              | 0, hj => simp only [List.getElem?_cons_zero, Option.some.injEq] at hj; subst hj; rw [add_plain, World.cell?_alloc_at _ _ _ _ rfl]; rfl
            case c2 => intro u hu; rw [List.mem_singleton.1 hu]; rfl
            case c3 => unfold maxLen; omega
            case c4 => omega
            case c5 => exact Nat.zero_le _
            intro t' w9 hown hgrow _ hat
            have HW9 := Lib.hid (HW8.out.pushed hgrow hown hat)
            clear hown hgrow hat hrow
            go_wp2_with fail
            go_roundw
            case rel =>
              refine ⟨i + 1, u', by omega, by go_num, ?_⟩
              rw [HN.out, HSN.out.1, HSN.out.2, HWW.out]; exact HW9
            case measure => simp [intOf]; omega
    · obtain rfl : i = n := by omega
      obtain ⟨wo, rfl⟩ : ∃ wo : World, wo = wr := ⟨_, rfl⟩
      have hmem := Lib.hid (toldL_mem f g len i)
      have hlen : (toldL f g len i).length ≤ 100 := Nat.le_trans (toldL_len f g len i) (by omega)
      generalize toldL f g len i = l at *
      clear WR7
      obtain ⟨xt, ct, rfl, hti⟩ := told_ints HW.out.row (fun k hk => by have := (hmem.out k hk).1; omega)
      have HTI := Lib.hid hti
      clear hti
      go_wp2_with fail
      refine (len_calls _ _ _ _ _ _ HW.out.wat).mono ?_
      rintro e w8 ⟨rfl, rfl⟩
      go_wp2_with fail
      refine (text_calls _ _ _ _ _ _ HW.out.wat).mono ?_
      rintro e w8 ⟨⟨tl, htl, hV, rfl⟩, rfl⟩
      have HTL := Lib.hid (htl)
      have HV := Lib.hid (hV)
      clear hV htl
      have hsz : (⟨tl.toArray⟩ : ByteArray).size ≤ 1000 := by
        have := posW_le f l (fun j hj => (HB.out.2 j (hmem.out j hj).1).2)
        show tl.toArray.size ≤ 1000
        rw [List.size_toArray, HTL.out]; omega
      go_wp2_with fail
      refine (newReader_calls ⟨tl.toArray⟩ _ (by omega)).mono ?_
      rintro e w9 ⟨rfl, hR, h9⟩
      have R9 := Lib.hid (hR)
      have X9 := Lib.hid (h9)
      clear h9 hR
      have hBR : w.heap.size ≤ wo.heap.size := Nat.le_trans X6.out.size HW.out.ext.size
      have XR := Lib.hid (Ext.trans X6.out HW.out.ext)
      have HTT := Lib.hid (show T < wo.heap.size ∧ v.ownBlock ≠ some wo.heap.size from ⟨Nat.lt_of_lt_of_le (World.block_lt_of_cell? w6 _ TA6.out.cell) HW.out.ext.size, fun q => by have := ownsRow_lt TA6.out.row q; have := HW.out.ext.size; omega⟩)
      have TA9 := Lib.hid (TA6.out.kept (S := fun _ => False) (HW.out.ext).keeps id (fun _ _ => id))
      go_wp2_with fail
      go_loopw [16] (fun c wz => ∃ (j : Nat), j ≤ l.length ∧ c = .int .i64 j ∧ Hid (RAt wz wo.heap.size 0 ⟨tl.toArray⟩ (posW f (l.take j))) ∧ Hid (Ext wo wz)) (fun c _ => l.length - (intOf c).toNat)
      case atStart => exact ⟨0, by omega, rfl, R9, X9⟩
      case round =>
        clear R9 X9
        obtain ⟨j, hj, rfl, HRZ, HXZ⟩ := hrel
        have hpos := posW_le f l (fun j hj => (HB.out.2 j (hmem.out j hj).1).2)
        by_cases hlt : j < l.length
        · obtain ⟨bt, rfl⟩ : ∃ a, xt = some a := by
            cases xt with
            | none => have := HTI.out.1 rfl; omega
            | some a => exact ⟨a, rfl⟩
          obtain ⟨k, hk⟩ : ∃ k, l[j]? = some k := ⟨l[j], List.getElem?_eq_getElem hlt⟩
          obtain ⟨hkl, hk0⟩ := hmem.out k (List.mem_of_getElem? hk)
          obtain ⟨q1, q2⟩ := HB.out.2 k hkl
          obtain ⟨m, hm⟩ : ∃ m : Nat, f k = m := ⟨(f k).toNat, by omega⟩
          obtain ⟨sp1, sp2⟩ := take_split l j k hk
          have hcode := code_there f len (l.take j) (l.drop (j + 1)) k m HC.out hkl hm (by omega) (by omega)
          rw [← sp1] at hcode
          have hpn : posW f (l.take (j + 1)) = posW f (l.take j) + m := by rw [sp2]; exact (vsW_snoc f len (l.take j) k m hm).2
          have hple : posW f (l.take (j + 1)) ≤ posW f l := by
            have := posW_append f (l.take (j + 1)) (l.drop (j + 1))
            rw [List.take_append_drop] at this; omega
          have hsz8 : 8 * (⟨tl.toArray⟩ : ByteArray).size ≥ posW f l := by
            show 8 * tl.toArray.size ≥ _
            rw [List.size_toArray, HTL.out]; omega
          have hti : wr.cell? (bt.add j) = some (.int .i64 ((l.getD j 0 : Nat) : Int)) ∧ _ := (HTI.out.ext HXZ.out).2 bt rfl j hlt
          rw [show l.getD j 0 = k by simp [List.getD, hk]] at hti
          have hcell := hti.1
          have HSP := Lib.hid hpn
          have HCO := Lib.hid hcode
          have HMM := Lib.hid hm
          have HKJ := Lib.hid (show l.getD j 0 = k by simp [List.getD, hk])
          have hm1 : 1 ≤ m ∧ m ≤ 15 := by omega
          clear hti hcell sp1 sp2 hcode hk hm q1 q2 hk0 hpn
          have hp1000 : posW f l ≤ 1500 := by omega
          go_wp2_with fail
          refine (next_any T wo.heap.size 0 (posW f (l.take j)) v f len _ w wr E HS.out (Ext.trans XR.out HXZ.out) hBR hl (TA9.out.kept (S := fun _ => False) HXZ.out.keeps id (fun _ _ => id)) HRZ.out (by have := HSP.out; omega) (Nat.ne_of_lt HTT.out.1) HTT.out.2).mono ?_
          rintro e w10 ⟨hN, h10⟩
          have NW := Lib.hid (next_word hN HC.out hkl HMM.out (by omega) (by omega) (by have := HSP.out; omega) (by rw [show (⟨tl.toArray⟩ : ByteArray).data.toList = tl from rfl, HV.out]; exact HCO.out))
          have X10 := Lib.hid (Below.trans HXZ.out (h10.below (Nat.le_refl _) HXZ.out.size))
          clear h10 hN
          obtain ⟨rfl, hR10⟩ := NW.out
          have R10 : Hid (RAt w10 wo.heap.size 0 ⟨tl.toArray⟩ (posW f (l.take (j + 1)))) := Lib.hid (by rw [HSP.out]; exact hR10)
          have hcell : w10.cell? (bt.add j) = some (.int .i64 (k : Int)) := by
            have hti : w10.cell? (bt.add j) = some (.int .i64 ((l.getD j 0 : Nat) : Int)) ∧ _ := (HTI.out.ext X10.out).2 bt rfl j hlt
            rw [HKJ.out] at hti; exact hti.1
          clear NW hR10
          go_wp2_with fail
          go_roundw
          case rel => exact ⟨j + 1, by omega, by go_num, R10, X10⟩
          case measure => simp [intOf]; omega
        · obtain rfl : j = l.length := by omega
          rw [List.take_length] at HRZ
          go_wp2_with fail
          refine (at_calls _ _ _ _ _ HRZ.out).mono ?_
          rintro e w10 ⟨rfl, rfl⟩
          go_wp2_with fail
          go_ret
          refine ⟨ret_bool (by simp), ?_⟩
          exact Ext.trans XR.out HXZ.out
theorem reads_bad (x y : Option Addr) (len cap n cap' : Nat) (f : Nat → Int) (w : World) (E : Nat → Addr) (hS : Errs w E) (hx : Ints w x len f) (hl : len ≤ 300) (hn : n ≤ 100) (hx0 : x = none → cap = 0) (hb : ¬ (inBounds f len ∧ complete f len)) :
    Calls Tryd.prog 9 #[.slice x len cap, .slice y n cap'] w fun e w' => e = .returned (.bool true) ∧ Ext w w' := by
  have HS := Lib.hid hS
  have HX := Lib.hid hx
  have HX0 := Lib.hid hx0
  have HB := Lib.hid hb
  clear hS hx hx0 hb
  go_enter Tryd.func9, Tryd.ntmps9
  go_wp2_with fail
  refine (two_any _ (errs_sents HS.out)).mono ?_
  rintro e w2 ⟨rfl, h2⟩
  have X2 := Lib.hid (h2)
  clear h2
  go_wp2_with fail
  refine (ints_calls x len cap f _ (HX.out.ext X2.out) (by omega) HX0.out).mono ?_
  rintro e w3 ⟨⟨v3, rfl, y3, c3, rfl, hy3⟩, h3⟩
  have X3 := Lib.hid (X2.out.trans h3)
  have HY3 := Lib.hid (hy3)
  clear h3 hy3
  go_wp2_with fail
  refine (codes_no y3 len c3 f _ E (HS.out.ext X3.out) HY3.out (by unfold maxLen; omega) HB.out).mono ?_
  rintro e w4 ⟨⟨k, hk, rfl, hv⟩, h4⟩
  have X4 := Lib.hid (X3.out.trans h4)
  clear h4 hv
  go_wp2_with fail
  refine (ints_calls x len cap f _ (HX.out.ext X4.out) (by omega) HX0.out).mono ?_
  rintro e w5 ⟨⟨v5, rfl, y5, c5, rfl, hy5⟩, h5⟩
  have X5 := Lib.hid (X4.out.trans h5)
  have HY5 := Lib.hid (hy5)
  clear h5 hy5
  go_wp2_with fail
  refine (read_no y5 len c5 f _ E (HS.out.ext X5.out) HY5.out (by unfold maxLen; omega) HB.out).mono ?_
  rintro e w6 ⟨⟨k', hk', rfl, hv'⟩, h6⟩
  have X6 := Lib.hid (X5.out.trans h6)
  have HV := Lib.hid (hv')
  clear h6 hv'
  go_wp2_with fail
  refine (validCode_any x len cap f _ (HX.out.ext X6.out) (by unfold maxLen; omega)).mono ?_
  rintro e w7 ⟨rfl, rfl⟩
  rw [HV.out]
  go_wp2_with fail
  refine (coded_any _ E (HS.out.ext X6.out) _ _ _ ((k' : Int) + 1) (.sent k' hk')).mono ?_
  rintro e w7 ⟨he, h7⟩
  have X7 := Lib.hid (X6.out.trans h7)
  clear h7
  obtain rfl : e = .returned (.bool true) := by rw [he]; exact ret_bool (by simp)
  clear he
  go_wp2_with fail
  go_ret
  exact ⟨rfl, X7.out⟩
theorem reads_any (x y : Option Addr) (len cap n cap' : Nat) (f g : Nat → Int) (w : World) (E : Nat → Addr) (hS : Errs w E) (hx : Ints w x len f) (hy : Ints w y n g) (hl : len ≤ maxLen) (hn : n ≤ maxLen) (hx0 : x = none → cap = 0) :
    Calls Tryd.prog 9 #[.slice x len cap, .slice y n cap'] w fun e w' => e = .returned (.bool true) ∧ Ext w w' := by
  by_cases h : 300 < len ∨ 100 < n
  · exact reads_out x y len cap n cap' w E hS h hl hn
  · by_cases hb : inBounds f len ∧ complete f len
    · exact reads_good x y len cap n cap' f g w E hS hx hy (by omega) (by omega) hx0 hb.1 hb.2
    · exact reads_bad x y len cap n cap' f w E hS hx (by omega) (by omega) hx0 hb
end Go.Proofs.YtkddbhngffbljaaDoor
