/- lzw.Pack. -/
import Derived.Test.YtdeiolagnheihaaDoorLzwQ
import Derived.Test.YtdeiolagnheihaaDoorLzwX
import Derived.Deep.LoopGhost
import Derived.Deep.DeepCutAuto
import Derived.Deep.CutBlock
namespace Go.Proofs.YtdeiolagnheihaaDoor
open Go.RowKit
set_option maxRecDepth 100000
theorem byte_at (s : ByteArray) (i : Nat) (h : i < s.size) : s.data.toList.getD i 0 = s[i] := by
  have h' : i < s.data.toList.length := by rw [list_size]; exact h
  rw [List.getD, List.getElem?_eq_getElem h']; simp; rfl
set_option linter.unusedSimpArgs false in
set_option maxHeartbeats 4000000 in
theorem pack_bad (s : ByteArray) (wd : Int) (w : World) (E : Nat → Addr) (hE : Errs w E) (hs : s.size ≤ maxLen) (h : (wd < 2 ∨ 8 < wd) ∨ 300000 < s.size) :
    Calls Tryd.prog 12 #[.string s, .int .i64 wd] w fun e w' => e = .returned (.tuple #[.string ⟨#[]⟩, .iface 180 (.pointer (some (E 1)))]) ∧ Ext w w' := by
  unfold maxLen at hs
  have hv := errs_cell1 hE.er2
  clear hE
  by_cases hs3 : 300000 < s.size
  · have hs4 : (300000 : Int) < (s.size : Int) := by omega
    clear h hs3
    go_enter Tryd.func12, Tryd.ntmps12
    go_wp2_with fail
    go_region
    all_goals
      (try go_wp2_with fail)
      go_ret2
      exact ⟨rfl, (show Ext w _ from Below.drew (Ext.refl w))⟩
  · have hb : wd < 2 ∨ 8 < wd := by omega
    have hs4 : ¬ (300000 : Int) < (s.size : Int) := by omega
    clear h hs3
    go_enter Tryd.func12, Tryd.ntmps12
    go_wp2_with fail
    refine (lbad_yes _ _ hb).mono ?_
    rintro e w9 ⟨rfl, rfl⟩
    go_wp2_with fail
    go_region
    all_goals
      (try go_wp2_with fail)
      go_ret2
      exact ⟨rfl, (show Ext w _ from Below.drew (Ext.refl w))⟩
set_option linter.unusedSimpArgs false in
set_option maxHeartbeats 4000000 in
theorem pack_shape (s : ByteArray) (wd i : Nat) (w : World) (E : Nat → Addr) (hE : Errs w E) (hs : s.size ≤ 300000) (h2 : 2 ≤ wd) (h8 : wd ≤ 8) (hi : i < s.size) (hgood : ∀ j, j < i → (s.data.toList.getD j 0).toNat < 2 ^ wd) (hbad : 2 ^ wd ≤ (s.data.toList.getD i 0).toNat) :
    Calls Tryd.prog 12 #[.string s, .int .i64 (wd : Int)] w fun e w' => ∃ F : Nat, e = .returned (.tuple #[.string ⟨#[]⟩, .iface 68 (.pointer (some ⟨F, 0, none⟩))]) ∧ w'.heap[F]? = some (.cells #[.int .i64 (i : Int), sentV (E 2)] 70 (0, 0)) ∧ Ext w w' := by
  obtain ⟨c, hc⟩ : ∃ c : Nat, 2 ^ wd = c := ⟨_, rfl⟩
  obtain ⟨hcl, hch⟩ := pow_bds hc h2 h8
  have hcI := pow_int hc
  have HC := Lib.hid hc
  have hw2 : 2 ≤ (wd : Int) := by omega
  have hw8 : (wd : Int) ≤ 8 := by omega
  have hsI : ¬ (300000 : Int) < (s.size : Int) := by omega
  rw [hc] at hgood
  have HGd := Lib.hid hgood
  clear hgood hc
  rw [HC.out] at hbad
  have HBd := Lib.hid hbad
  have HE := Lib.hid hE
  clear hbad hE
  clear hcI
  go_enter Tryd.func12, Tryd.ntmps12
  go_wp2_with fail
  refine (lbad_no _ _ hw2 hw8).mono ?_
  rintro e w9 ⟨rfl, rfl⟩
  go_wp2_with fail
  go_loopw [22] (fun x wr => ∃ k : Nat, k ≤ i ∧ x = .int .i64 (k : Int) ∧ Hid (Ext w wr)) (fun x _ => i + 1 - (intOf x).toNat)
  case atStart => exact ⟨0, by omega, rfl, Lib.hid (Ext.refl _)⟩
  case round =>
    obtain ⟨k, hk, rfl, HX⟩ := hrel
    have hks : k < s.size := by omega
    have hcI := pow_int HC.out
    obtain ⟨y, hy⟩ : ∃ y, s[k].toNat = y := ⟨_, rfl⟩
    have hgy : (s.data.toList.getD k 0).toNat = y := by rw [byte_at s k hks, hy]
    have hkI : ((s[k].toNat : Nat) : Int) = (y : Int) := by rw [hy]
    have hy256 : y < 256 := by rw [← hy]; exact UInt8.toNat_lt _
    by_cases hlt : k < i
    · have hyc : y < c := by rw [← hgy]; exact HGd.out k hlt
      have hdv : (y : Int) / (c : Int) = 0 := Int.ediv_eq_zero_of_lt (by omega) (by omega)
      clear hy hgy
      go_wp2_with fail
      go_roundw
      case rel => exact ⟨k + 1, by omega, by go_num, HX⟩
      case measure => simp [intOf]; omega
    · obtain rfl : k = i := by omega
      have hyc : c ≤ y := by rw [← hgy]; exact HBd.out
      obtain ⟨q, hq, hq0⟩ : ∃ q : Nat, (y : Int) / (c : Int) = (q : Int) ∧ 0 < q := ⟨y / c, by simp, Nat.div_pos hyc (by omega)⟩
      have hq1 : (0 : Int) < (q : Int) := by omega
      have hv := (HE.out.ext HX.out).var 2 (by decide)
      simp only [gk, sentV] at hv
      clear hy hgy
      go_wp2_with fail
      go_region
      all_goals
        (try go_wp2_with fail)
        go_ret2
        exact ⟨wr.heap.size, rfl, heap_alloc_new wr.drew _, (show Ext w wr.drew from Below.drew HX.out).alloc _⟩
end Go.Proofs.YtdeiolagnheihaaDoor
