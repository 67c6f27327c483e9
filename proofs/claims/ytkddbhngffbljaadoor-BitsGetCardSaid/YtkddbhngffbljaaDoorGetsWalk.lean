/- BitsGet's walk. -/
import Derived.Test.YtkddbhngffbljaaDoorGetOut
import Derived.Test.YtkddbhngffbljaaDoorRefGet
import Derived.Test.YtkddbhngffbljaaDoorThree
import Derived.Test.YtkddbhngffbljaaDoorOpenI
import Derived.Test.YtkddbhngffbljaaDoorCoded1
namespace Go.Proofs.YtkddbhngffbljaaDoor
open Go.RowKit
set_option maxRecDepth 100000
theorem gets_out (s : ByteArray) (x : Option Addr) (len cap : Nat) (w : World) (h : 500 < s.size ∨ 100 < len) (hs : s.size ≤ maxLen) (hlen : len ≤ maxLen) :
    Calls Tryd.prog 5 #[.string s, .slice x len cap] w fun e w' => e = .returned (.bool true) ∧ Ext w w' := by
  unfold maxLen at hs hlen
  by_cases h1 : 500 < s.size
  · clear h
    go_enter Tryd.func5, Tryd.ntmps5
    go_wp2_with fail
    refine (three_any _).mono ?_
    rintro e w2 ⟨rfl, h2⟩
    go_wp2_with fail
    go_ret
    exact ⟨rfl, h2⟩
  · have h2 : 100 < len := by omega
    clear h
    go_enter Tryd.func5, Tryd.ntmps5
    go_wp2_with fail
    refine (three_any _).mono ?_
    rintro e w2 ⟨rfl, h2⟩
    go_wp2_with fail
    go_ret
    exact ⟨rfl, h2⟩
theorem RStep.keep {w w' : World} {R a : Nat} {s : ByteArray} (h : RAt w R 0 s a) (hE : Ext w w') : RAt w' R 0 s a := by
  have hlt : R < w.heap.size := World.block_lt_of_cell? w _ h.c0
  exact ⟨(hE.cell (p := ⟨R, 0, none⟩) hlt).trans h.c0, (hE.cell (p := ⟨R, 0 + 1, none⟩) hlt).trans h.c1, (hE.frozen (p := ⟨R, 0 + 1, none⟩) hlt).trans h.f1, h.size, h.le⟩
theorem bs_extract (L : List Bool) (a k : Nat) : (bs L).extract a (a + k) = bs ((L.drop a).take k) := by
  apply bytes_ext
  rw [bs_list]
  have e : ((bs L).extract a (a + k)).data.toList = ((bs L).data.toList.drop a).take k := by
    simp [ByteArray.data_extract]
  rw [e, bs_list]
  simp [Bts.str, List.map_take, List.map_drop]
structure GSt (w wr : World) (R : Nat) (s : ByteArray) (a : Nat) : Prop where
  at_ : RAt wr R 0 s a
  le : a ≤ 8 * s.size
  ext : Ext w wr
set_option maxHeartbeats 4000000 in
theorem gets_in (s : ByteArray) (x : Option Addr) (len cap : Nat) (f : Nat → Int) (w : World) (E : Nat → Addr) (hS : Errs w E) (h : len ≤ 100) (hs : s.size ≤ 500) (hx : Ints w x len f) :
    Calls Tryd.prog 5 #[.string s, .slice x len cap] w fun e w' => e = .returned (.bool true) ∧ Ext w w' := by
  have HS := Lib.hid hS
  have HX := Lib.hid hx
  clear hS hx
  go_enter Tryd.func5, Tryd.ntmps5
  go_wp2_with fail
  refine (three_any _).mono ?_
  rintro e w2 ⟨rfl, h2⟩
  have H2 := Lib.hid h2
  have hz2 : w.heap.size ≤ w2.heap.size := h2.size
  clear h2
  go_wp2_with fail
  refine (newReader_calls s _ (by omega)).mono ?_
  rintro e w3 ⟨rfl, hR, hB⟩
  have HR := Lib.hid hR
  have H3 : Hid (Ext w w3) := Lib.hid (H2.out.trans hB)
  have hz3 : w2.heap.size < w3.heap.size := World.block_lt_of_cell? w3 _ hR.c0
  clear hR hB
  go_wp2_with fail
  refine (bits_any s _ (by omega)).mono ?_
  rintro e w4 ⟨rfl, hB⟩
  have HR4 := Lib.hid (show RAt w4 w2.heap.size 0 s 0 from ⟨(hB.cell (p := ⟨w2.heap.size, 0, none⟩) hz3).trans HR.out.c0, (hB.cell (p := ⟨w2.heap.size, 0 + 1, none⟩) hz3).trans HR.out.c1, (hB.frozen (p := ⟨w2.heap.size, 0 + 1, none⟩) hz3).trans HR.out.f1, HR.out.size, HR.out.le⟩)
  have H4 : Hid (Ext w w4) := Lib.hid (H3.out.trans hB)
  clear hB
  go_wp2_with fail
  have hzA : (bs (Bts.allB s.data.toList)).size = 8 * s.size := by rw [bs_size, Bts.allB_length, Array.length_toList]; rfl
  have hzA1 : (bs (Bts.allB s.data.toList)).size ≤ 4000 := by omega
  have HZA := Lib.hid hzA
  clear hzA
  go_loopw [8, 9] (fun p v wr => ∃ (i a : Nat), i ≤ len ∧ v = .int .i64 i ∧ p = .int .i64 a ∧ Hid (GSt w wr w2.heap.size s a)) (fun _ v _ => len - (intOf v).toNat)
  case atStart => exact ⟨0, 0, by omega, rfl, rfl, Lib.hid ⟨HR4.out, by omega, H4.out⟩⟩
  case round =>
    obtain ⟨i, a, hi, rfl, rfl, HG⟩ := hrel
    have hale := HG.out.le
    by_cases hlt : i < len
    · obtain ⟨b, rfl⟩ : ∃ a, x = some a := by
        cases x with
        | none => have := HX.out.1 rfl; omega
        | some a => exact ⟨a, rfl⟩
      obtain ⟨hc, f1, f2⟩ := (HX.out.ext HG.out.ext).2 b rfl i hlt
      have CELL : ∀ wz, Ext w wz → wz.cell? (b.add i) = some (.int .i64 (f i)) := fun wz hz => ((HX.out.ext hz).2 b rfl i hlt).1
      have HCELL := Lib.hid CELL
      clear CELL
      by_cases hm1 : f i = -1
      · have t1 : (f i == -1) = true := beq_iff_eq.2 hm1
        clear hm1
        go_wp2_with fail
        refine (ralign_calls _ _ _ _ _ HG.out.at_ hale).mono ?_
        rintro e w5 ⟨rfl, hR5, hS5⟩
        have X5 : Ext w w5 := Below.trans HG.out.ext (hS5.below hz2 HG.out.ext.size)
        have G5 : Hid (GSt w w5 w2.heap.size s ((a + 7) / 8 * 8)) := Lib.hid ⟨hR5, by omega, X5⟩
        clear hc hR5 hS5 X5
        go_wp2_with fail
        refine (at_calls _ _ _ _ _ G5.out.at_).mono ?_
        rintro e w6 ⟨rfl, rfl⟩
        go_wp2_with fail
        refine (left_calls _ _ _ _ _ G5.out.at_).mono ?_
        rintro e w6 ⟨rfl, m, rfl⟩
        have hzI : ((bs (Bts.allB s.data.toList)).size : Int) = 8 * (s.size : Int) := by rw [HZA.out]; omega
        go_wp2_with fail
        go_roundw
        case rel => exact ⟨i + 1, (a + 7) / 8 * 8, by omega, by go_num, by go_num, Lib.hid ⟨G5.out.at_.drewN m, G5.out.le, G5.out.ext.drewN m⟩⟩
        case measure => simp [intOf]; omega
      · have t1 : (f i == -1) = false := beq_eq_false_iff_ne.2 hm1
        by_cases hbd : f i < 0 ∨ 32 < f i
        · have HBD := Lib.hid hbd
          go_wp2_with fail
          refine (get_bound _ _ _ _ _ _ E (HS.out.ext HG.out.ext) HG.out.at_ f1 f2 HBD.out).mono ?_
          rintro e w5 ⟨rfl, h5⟩
          have X5 := Lib.hid (HG.out.ext.trans h5)
          have R5 := Lib.hid (RStep.keep HG.out.at_ h5)
          have hc5 := HCELL.out _ X5.out
          clear hc hm1 hbd h5
          rcases HBD.out with q | q
          all_goals
            go_wp2_with fail
            refine (coded_any _ E (HS.out.ext X5.out) _ 2 (-1) 2 (.sent 1 (by decide))).mono ?_
            rintro e w7 ⟨he, h7⟩
            obtain rfl : e = .returned (.bool true) := by rw [he]; exact ret_bool (by decide)
            have X7 := Lib.hid (X5.out.trans h7)
            have G7 : Hid (GSt w w7 w2.heap.size s a) := Lib.hid ⟨RStep.keep R5.out h7, hale, X7.out⟩
            clear he h7 hc5
            go_wp2_with fail
            refine (at_calls _ _ _ _ _ G7.out.at_).mono ?_
            rintro e w6 ⟨rfl, rfl⟩
            go_wp2_with fail
            refine (left_calls _ _ _ _ _ G7.out.at_).mono ?_
            rintro e w6 ⟨rfl, m, rfl⟩
            have hzI : ((bs (Bts.allB s.data.toList)).size : Int) = 8 * (s.size : Int) := by rw [HZA.out]; omega
            go_wp2_with fail
            go_roundw
            case rel => exact ⟨i + 1, a, by omega, by go_num, by go_num, Lib.hid ⟨G7.out.at_.drewN m, G7.out.le, G7.out.ext.drewN m⟩⟩
            case measure => simp [intOf]; omega
        · obtain ⟨k, hk⟩ : ∃ k : Nat, f i = k := ⟨(f i).toNat, by omega⟩
          have hk32 : k ≤ 32 := by omega
          rw [hk] at hc t1 HCELL
          clear hk hbd hm1
          by_cases htx : 8 * s.size < a + k
          · go_wp2_with fail
            refine (get_text _ _ _ k _ _ E (HS.out.ext HG.out.ext) HG.out.at_ hk32 htx hale).mono ?_
            rintro e w5 ⟨rfl, h5⟩
            have X5 := Lib.hid (HG.out.ext.trans h5)
            have R5 := Lib.hid (RStep.keep HG.out.at_ h5)
            have hc5 := HCELL.out _ X5.out
            have hzI : ((bs (Bts.allB s.data.toList)).size : Int) = 8 * (s.size : Int) := by rw [HZA.out]; omega
            clear hc h5
            go_wp2_with fail
            clear hzI
            refine (coded_any _ E (HS.out.ext X5.out) _ 1 (-1) 1 (.sent 0 (by decide))).mono ?_
            rintro e w7 ⟨he, h7⟩
            obtain rfl : e = .returned (.bool true) := by rw [he]; exact ret_bool (by decide)
            have X7 := Lib.hid (X5.out.trans h7)
            have G7 : Hid (GSt w w7 w2.heap.size s a) := Lib.hid ⟨RStep.keep R5.out h7, hale, X7.out⟩
            clear he h7 hc5
            go_wp2_with fail
            refine (at_calls _ _ _ _ _ G7.out.at_).mono ?_
            rintro e w6 ⟨rfl, rfl⟩
            go_wp2_with fail
            refine (left_calls _ _ _ _ _ G7.out.at_).mono ?_
            rintro e w6 ⟨rfl, m, rfl⟩
            have hzI : ((bs (Bts.allB s.data.toList)).size : Int) = 8 * (s.size : Int) := by rw [HZA.out]; omega
            go_wp2_with fail
            go_roundw
            case rel => exact ⟨i + 1, a, by omega, by go_num, by go_num, Lib.hid ⟨G7.out.at_.drewN m, G7.out.le, G7.out.ext.drewN m⟩⟩
            case measure => simp [intOf]; omega
          · have hin : a + k ≤ 8 * s.size := by omega
            go_wp2_with fail
            refine (get_in _ _ _ k _ _ HG.out.at_ hk32 hin).mono ?_
            rintro e w5 ⟨rfl, hR5, hS5⟩
            have X5 : Hid (Ext w w5) := Lib.hid (Below.trans HG.out.ext (hS5.below hz2 HG.out.ext.size))
            have G5 : Hid (GSt w w5 w2.heap.size s (a + k)) := Lib.hid ⟨hR5, hin, X5.out⟩
            have hc5 := HCELL.out _ X5.out
            have hzI : ((bs (Bts.allB s.data.toList)).size : Int) = 8 * (s.size : Int) := by rw [HZA.out]; omega
            have HSL : Hid ((bs (Bts.allB s.data.toList)).extract a (a + k) = bs (((Bts.allB s.data.toList).drop a).take k)) := Lib.hid (bs_extract _ _ _)
            have HVL : Hid (Bts.val (((Bts.allB s.data.toList).drop a).take k) = Crc.num s.data.toList / 2 ^ a % 2 ^ k) := Lib.hid (by rw [Bts.val_take, Bts.val_drop, val_allB])
            have HLN : Hid ((((Bts.allB s.data.toList).drop a).take k).length ≤ 32) := Lib.hid (by rw [List.length_take]; omega)
            clear hc hR5 hS5
            go_wp2_with fail
            clear hzI
            rw [HSL.out]
            refine (lowOf_any _ _ HLN.out).mono ?_
            rintro e w6 ⟨rfl, rfl⟩
            rw [HVL.out]
            have hc6 := HCELL.out _ X5.out
            clear hc5
            go_wp2_with fail
            refine (at_calls _ _ _ _ _ G5.out.at_).mono ?_
            rintro e w6 ⟨rfl, rfl⟩
            go_wp2_with fail
            refine (left_calls _ _ _ _ _ G5.out.at_).mono ?_
            rintro e w6 ⟨rfl, m, rfl⟩
            have hzI : ((bs (Bts.allB s.data.toList)).size : Int) = 8 * (s.size : Int) := by rw [HZA.out]; omega
            go_wp2_with fail
            go_roundw
            case rel => exact ⟨i + 1, a + k, by omega, by go_num, by go_num, Lib.hid ⟨G5.out.at_.drewN m, G5.out.le, G5.out.ext.drewN m⟩⟩
            case measure => simp [intOf]; omega
    · obtain rfl : i = len := by omega
      go_wp2_with fail
      go_ret
      exact ⟨rfl, HG.out.ext⟩
theorem gets_any (s : ByteArray) (x : Option Addr) (len cap : Nat) (f : Nat → Int) (w : World) (E : Nat → Addr) (hS : Errs w E) (hs : s.size ≤ maxLen) (hlen : len ≤ maxLen) (hx : Ints w x len f) :
    Calls Tryd.prog 5 #[.string s, .slice x len cap] w fun e w' => e = .returned (.bool true) ∧ Ext w w' := by
  by_cases h : 500 < s.size ∨ 100 < len
  · exact gets_out s x len cap w h hs hlen
  · exact gets_in s x len cap f w E hS (by omega) (by omega) hx
end Go.Proofs.YtkddbhngffbljaaDoor
