/- lzw.Join and the document's. -/
import Derived.Test.YtdeiolagnheihaaDoorBlkW
namespace Go.Proofs.YtdeiolagnheihaaDoor
open Go.RowKit
set_option maxRecDepth 100000
def JoinPost (w w' : World) (E : Nat → Addr) (r : Option (List UInt8 × Nat)) (e : Ending) : Prop :=
  Ext w w' ∧ ((∃ out u, r = some (out, u) ∧ e = .returned (.tuple #[.string (tb out), .int .i64 (u : Int), .nilIface])) ∨ (r = none ∧ e = .returned (.tuple #[.string ⟨#[]⟩, .int .i64 0, .iface 180 (.pointer (some (E 0)))])))
def JoinOfPost (w w' : World) (r : Option (List UInt8 × Nat)) (e : Ending) : Prop :=
  Ext w w' ∧ ((∃ out u, r = some (out, u) ∧ e = .returned (.tuple #[.string (tb out), .int .i64 (u : Int), .int .i64 0])) ∨ (r = none ∧ e = .returned (.tuple #[.string ⟨#[]⟩, .int .i64 0, .int .i64 1])))
theorem byte_getD (s : ByteArray) (i : Nat) (h : i < s.size) : s.data.toList.getD i 0 = s[i] := by
  have h' : i < s.data.toList.length := by rw [list_size]; exact h
  rw [List.getD, List.getElem?_eq_getElem h']; simp; rfl
set_option linter.unusedSimpArgs false in
set_option maxHeartbeats 2000000 in
theorem join_any (s : ByteArray) (w : World) (E : Nat → Addr) (hE : Errs w E) (hs : s.size ≤ 1000000) :
    Calls Tryd.prog 20 #[.string s] w fun e w' => JoinPost w w' E (joined s.data.toList) e := by
  have HE := Lib.hid hE
  clear hE
  obtain ⟨i0, hi0, hz0, hz1, hz2⟩ := info_parts u8inf
  go_enter Tryd.func20, Tryd.ntmps20
  go_wp2_with fail
  go_loopw [3, 5] (fun u v wr => ∃ (a f : Nat) (out : List UInt8), a ≤ s.size ∧ u = .int .i64 a ∧ Hid (joined s.data.toList = jn s.data.toList f a out) ∧ s.size < f + a ∧ out.length ≤ a ∧ Hid (wr.ownsRow w.heap.size 5 1 v (out).length (bytesV (out))) ∧ Hid (Ext w wr)) (fun u _ _ => s.size + 1 - (intOf u).toNat)
  case atStart => exact ⟨0, s.size + 1, [], by omega, rfl, Lib.hid (by unfold joined; rw [list_size]), by omega, by simp, Lib.hid (World.ownsRow_nil _ _ _ _), Lib.hid (Ext.refl _)⟩
  case round =>
    obtain ⟨a, f, out, ha, rfl, HJ, hf, hol, HR, HX⟩ := hrel
    obtain ⟨L, hL⟩ : ∃ L, out.length = L := ⟨_, rfl⟩
    have HL := Lib.hid hL
    rw [hL] at HR hol
    clear hL
    have hsz : w.heap.size ≤ wr.heap.size := HX.out.size
    by_cases hlt : a < s.size
    · have hg := byte_getD s a hlt
      obtain ⟨n, hn⟩ : ∃ n, s[a].toNat = n := ⟨_, rfl⟩
      have hgn : (s.data.toList.getD a 0).toNat = n := by rw [hg, hn]
      have hkI : ((s[a].toNat : Nat) : Int) = (n : Int) := by rw [hn]
      have hn256 : n < 256 := by rw [← hn]; exact UInt8.toNat_lt _
      have hlt2 : a < s.data.toList.length := by rw [list_size]; exact hlt
      have hf2 : s.data.toList.length < f + a := by rw [list_size]; exact hf
      obtain ⟨A, hA⟩ : ∃ A, a + 1 = A := ⟨_, rfl⟩
      have hAI : (a : Int) + 1 = (A : Int) := by omega
      obtain ⟨C, hC⟩ : ∃ C, A + n = C := ⟨_, rfl⟩
      have hCI : (A : Int) + (n : Int) = (C : Int) := by omega
      by_cases h0 : n = 0
      · have HZ : Hid (joined s.data.toList = some (out, A)) := Lib.hid (by rw [HJ.out, jn_zero hlt2 hf2 (by rw [hgn]; exact h0), hA])
        have t0 : ((n : Int) == 0) = true := by rw [h0]; rfl
        clear hg hn hgn hlt2 hf2 hA hC h0
        have hcr := conv_row HL.out HR.out
        go_wp2_with fail
        go_ret3
        exact ⟨HX.out, .inl ⟨out, A, HZ.out, rfl⟩⟩
      · have t0 : ((n : Int) == 0) = false := beq_eq_false_iff_ne.2 (by omega)
        by_cases hov : s.size < C
        · have HN : Hid (joined s.data.toList = none) := Lib.hid (by rw [HJ.out]; exact jn_over hlt2 hgn h0 (by rw [list_size]; omega))
          clear hg hn hgn hlt2 hf2 hA hC h0
          have hv := (HE.out.ext HX.out).var 0 (by decide)
          simp only [gk, sentV] at hv
          go_wp2_with fail
          go_region
          all_goals
            (try go_wp2_with fail)
            go_ret3
            exact ⟨(show Ext w _ from Below.drew HX.out), .inr ⟨HN.out, rfl⟩⟩
        · obtain ⟨f', q1, q2⟩ := jn_next (out := out) hlt2 hf2 hgn h0 (by rw [list_size]; omega)
          have hCl : C ≤ s.size := by omega
          obtain ⟨R, hR⟩ : ∃ R, s.extract A C = R := ⟨_, rfl⟩
          have hRl : (s.data.toList.drop (a + 1)).take n = R.data.toList := by rw [← hR, ex_list, ← hC, hA]; congr 1; omega
          have hRs : R.size = n := by rw [← hR, ByteArray.size_extract]; omega
          rw [hRl, hA, hC] at q1
          rw [hA, hC, list_size] at q2
          have HQ : Hid (joined s.data.toList = jn s.data.toList f' C (out ++ R.data.toList)) := Lib.hid (HJ.out.trans q1)
          have HAC := Lib.hid (And.intro hA hC)
          have HRS := Lib.hid hRs
          have hRb : R.size ≤ 255 := by omega
          have hAC : A ≤ C := by omega
          have hCa : a < C := by omega
          have hLC : L + n ≤ C := by omega
          clear hg hn hgn hlt2 hf2 hA hC h0 q1 hRl hRs
          go_wp2_with (at_builtin; refine Lib.wpList_append_own_string _ rfl _ _ 23 9 rfl w.heap.size 5 i0 Tryd.underlying23 Tryd.underlying9 hi0 hz0 hz1 hz2 _ _ _ rfl HR.out R rfl ?c3 ?c4 hsz ?_)
          case c3 => unfold maxLen; omega
          case c4 => omega
          intro v' w1 hown hgrow _
          have P1 := grow_str HX.out HR.out hgrow hown
          have HR1 : Hid (w1.ownsRow w.heap.size 5 1 v' (out ++ R.data.toList).length (bytesV (out ++ R.data.toList))) := Lib.hid (by rw [List.length_append, HL.out, list_size]; exact P1.1)
          have HX1 := Lib.hid P1.2
          clear P1 hown hgrow
          go_wp2_with fail
          go_roundw
          case rel => exact ⟨C, f', out ++ R.data.toList, hCl, rfl, HQ, q2, by rw [List.length_append, list_size, HL.out, HRS.out]; exact hLC, HR1, HX1⟩
          case measure => simp [intOf]; omega
    · have HN : Hid (joined s.data.toList = none) := Lib.hid (by rw [HJ.out]; exact jn_end (by rw [list_size]; omega))
      have hv := (HE.out.ext HX.out).var 0 (by decide)
      simp only [gk, sentV] at hv
      go_wp2_with fail
      go_region
      all_goals
        (try go_wp2_with fail)
        go_ret3
        exact ⟨(show Ext w _ from Below.drew HX.out), .inr ⟨HN.out, rfl⟩⟩
set_option linter.unusedSimpArgs false in
set_option maxHeartbeats 2000000 in
theorem joinOf_any (s : ByteArray) (w : World) (hs : s.size ≤ 1000000) :
    Calls Tryd.prog 21 #[.string s] w fun e w' => JoinOfPost w w' (joined s.data.toList) e := by
  obtain ⟨i0, hi0, hz0, hz1, hz2⟩ := info_parts u8inf
  go_enter Tryd.func21, Tryd.ntmps21
  go_wp2_with fail
  go_loopw [5, 6] (fun v u wr => ∃ (a f : Nat) (out : List UInt8), a ≤ s.size ∧ u = .int .i64 a ∧ Hid (joined s.data.toList = jn s.data.toList f a out) ∧ s.size < f + a ∧ out.length ≤ a ∧ v = .string (tb out) ∧ Hid (Ext w wr)) (fun _ u _ => s.size + 1 - (intOf u).toNat)
  case atStart => exact ⟨0, s.size + 1, [], by omega, rfl, Lib.hid (by unfold joined; rw [list_size]), by omega, by simp, by rw [← tb_nil], Lib.hid (Ext.refl _)⟩
  case round =>
    obtain ⟨a, f, out, ha, rfl, HJ, hf, hol, rfl, HX⟩ := hrel
    obtain ⟨T, hT⟩ : ∃ T, tb out = T := ⟨_, rfl⟩
    have HT := Lib.hid hT
    have hTs : T.size ≤ a := by rw [← hT, tb_size]; exact hol
    rw [hT]
    clear hT
    by_cases hlt : a < s.size
    · have hg := byte_getD s a hlt
      obtain ⟨n, hn⟩ : ∃ n, s[a].toNat = n := ⟨_, rfl⟩
      have hgn : (s.data.toList.getD a 0).toNat = n := by rw [hg, hn]
      have hkI : ((s[a].toNat : Nat) : Int) = (n : Int) := by rw [hn]
      have hn256 : n < 256 := by rw [← hn]; exact UInt8.toNat_lt _
      have hlt2 : a < s.data.toList.length := by rw [list_size]; exact hlt
      have hf2 : s.data.toList.length < f + a := by rw [list_size]; exact hf
      obtain ⟨A, hA⟩ : ∃ A, a + 1 = A := ⟨_, rfl⟩
      have hAI : (a : Int) + 1 = (A : Int) := by omega
      obtain ⟨C, hC⟩ : ∃ C, A + n = C := ⟨_, rfl⟩
      have hCI : (A : Int) + (n : Int) = (C : Int) := by omega
      by_cases h0 : n = 0
      · have HZ : Hid (joined s.data.toList = some (out, A)) := Lib.hid (by rw [HJ.out, jn_zero hlt2 hf2 (by rw [hgn]; exact h0), hA])
        have t0 : ((n : Int) == 0) = true := by rw [h0]; rfl
        clear hg hn hgn hlt2 hf2 hA hC h0
        go_wp2_with fail
        go_ret3
        exact ⟨HX.out, .inl ⟨out, A, HZ.out, by rw [HT.out]; rfl⟩⟩
      · have t0 : ((n : Int) == 0) = false := beq_eq_false_iff_ne.2 (by omega)
        by_cases hov : s.size < C
        · have HN : Hid (joined s.data.toList = none) := Lib.hid (by rw [HJ.out]; exact jn_over hlt2 hgn h0 (by rw [list_size]; omega))
          clear hg hn hgn hlt2 hf2 hA hC h0
          go_wp2_with fail
          go_ret3
          exact ⟨HX.out, .inr ⟨HN.out, rfl⟩⟩
        · obtain ⟨f', q1, q2⟩ := jn_next (out := out) hlt2 hf2 hgn h0 (by rw [list_size]; omega)
          have hCl : C ≤ s.size := by omega
          obtain ⟨R, hR⟩ : ∃ R, s.extract A C = R := ⟨_, rfl⟩
          have hRl : (s.data.toList.drop (a + 1)).take n = R.data.toList := by rw [← hR, ex_list, ← hC, hA]; congr 1; omega
          have hRs : R.size = n := by rw [← hR, ByteArray.size_extract]; omega
          rw [hRl, hA, hC] at q1
          rw [hA, hC, list_size] at q2
          have HQ : Hid (joined s.data.toList = jn s.data.toList f' C (out ++ R.data.toList)) := Lib.hid (HJ.out.trans q1)
          have HAC := Lib.hid (And.intro hA hC)
          have HRS := Lib.hid hRs
          have hRb : R.size ≤ 255 := by omega
          have hAC : A ≤ C := by omega
          have hCa : a < C := by omega
          have hLC : T.size + n ≤ C := by omega
          clear hg hn hgn hlt2 hf2 hA hC h0 q1 hRl hRs
          go_wp2_with fail
          go_roundw
          case rel => exact ⟨C, f', out ++ R.data.toList, hCl, rfl, HQ, q2, by rw [List.length_append, list_size, HRS.out]; have := tb_size out; rw [HT.out] at this; omega, by rw [← HT.out]; congr 1; apply bts_ext; rw [bts_cat, tb_list, tb_list], HX⟩
          case measure => simp [intOf]; omega
    · have HN : Hid (joined s.data.toList = none) := Lib.hid (by rw [HJ.out]; exact jn_end (by rw [list_size]; omega))
      go_wp2_with fail
      go_ret3
      exact ⟨HX.out, .inr ⟨HN.out, rfl⟩⟩
end Go.Proofs.YtdeiolagnheihaaDoor
