/- LzwBlocks' walk. -/
import Derived.Test.YtdeiolagnheihaaDoorJoinW
import Derived.Test.YtdeiolagnheihaaDoorLzwEnd
import Derived.Test.YtdeiolagnheihaaDoorCoded1
namespace Go.Proofs.YtdeiolagnheihaaDoor
open Go.RowKit
set_option maxRecDepth 100000
theorem outL_len (s : ByteArray) (hs : s.size ≤ 2000) : (outL s).length ≤ 2049 := by
  have h := blkL_length s (nch s)
  have h2 : nch s ≤ 8 := by unfold nch; omega
  unfold outL
  rw [List.length_append]
  show _ + 1 ≤ _
  omega
theorem blocks_big (s t : ByteArray) (w : World) (hs : s.size ≤ maxLen) (ht : t.size ≤ maxLen) (h : 2000 < s.size ∨ 2000 < t.size) :
    Calls Tryd.prog 5 #[.string s, .string t] w fun e w' => e = .returned (.bool true) ∧ Ext w w' := by
  unfold maxLen at hs ht
  by_cases h1 : 2000 < s.size
  · clear h
    go_enter Tryd.func5, Tryd.ntmps5
    go_wp2_with fail
    refine (end_any _).mono ?_
    rintro e w1 ⟨rfl, h1⟩
    have X1 := Lib.hid (h1)
    clear h1
    go_wp2_with fail
    go_ret
    exact ⟨rfl, X1.out⟩
  · have h2 : 2000 < t.size := by omega
    clear h
    go_enter Tryd.func5, Tryd.ntmps5
    go_wp2_with fail
    refine (end_any _).mono ?_
    rintro e w1 ⟨rfl, h3⟩
    have X1 := Lib.hid (h3)
    clear h3
    go_wp2_with fail
    go_ret
    exact ⟨rfl, X1.out⟩
set_option maxHeartbeats 2000000 in
theorem lzwBlocks_any (s t : ByteArray) (w : World) (E : Nat → Addr) (hE : Errs w E) (hs : s.size ≤ maxLen) (ht : t.size ≤ maxLen) :
    Calls Tryd.prog 5 #[.string s, .string t] w fun e w' => e = .returned (.bool true) ∧ Ext w w' := by
  by_cases h : 2000 < s.size ∨ 2000 < t.size
  · exact blocks_big s t w hs ht h
  have hs1 : s.size ≤ 2000 := by omega
  have ht1 : t.size ≤ 2000 := by omega
  clear h
  have HE := Lib.hid hE
  clear hE
  have hol := outL_len s hs1
  have HBL := Lib.hid (fun W => blocks_any s W (by omega))
  have HBO := Lib.hid (fun W => blocksOf_any s W (by omega))
  have HJB := Lib.hid (join_blocks s t.data.toList)
  obtain ⟨T, hT⟩ : ∃ T, tb (outL s) = T := ⟨_, rfl⟩
  have hTs : T.size = (outL s).length := by rw [← hT, tb_size]
  have HTL : Hid ((T ++ t).data.toList = outL s ++ t.data.toList) := Lib.hid (by rw [bts_cat, ← hT, tb_list])
  rw [hT] at HBL HBO
  have HTS := Lib.hid hTs
  have hT2 : T.size ≤ 2049 := by omega
  have hTT : (T ++ t).size ≤ 1000000 := by rw [ByteArray.size_append]; omega
  have HTT := Lib.hid hTT
  clear hT hTs hol hTT
  go_enter Tryd.func5, Tryd.ntmps5
  go_wp2_with fail
  refine (end_any _).mono ?_
  rintro e w1 ⟨rfl, h1⟩
  have X1 := Lib.hid (h1)
  clear h1
  go_wp2_with fail
  refine (HBL.out _).mono ?_
  rintro e w2 ⟨rfl, h1⟩
  have X2 := Lib.hid (X1.out.trans h1)
  clear h1
  go_wp2_with fail
  refine (HBO.out _).mono ?_
  rintro e w3 ⟨rfl, h1⟩
  have X3 := Lib.hid (X2.out.trans h1)
  clear h1
  go_wp2_with fail
  refine (HBL.out _).mono ?_
  rintro e w4 ⟨rfl, h1⟩
  have X4 := Lib.hid (X3.out.trans h1)
  clear h1
  go_wp2_with fail
  refine (join_any (T ++ t) _ E (HE.out.ext X4.out) HTT.out).mono ?_
  rintro e w5 ⟨h5, h⟩
  have X5 := Lib.hid (X4.out.trans h5)
  clear h5
  rw [HTL.out, HJB.out] at h
  rcases h with ⟨out, u, ho, rfl⟩ | ⟨ho, _⟩
  rotate_left
  · cases ho
  injection ho with ho
  injection ho with ho1 ho2
  subst ho1 ho2
  have hts : tb s.data.toList = s := by apply bts_ext; rw [tb_list]
  rw [hts, ← HTS.out]
  clear hts
  go_wp2_with fail
  refine (HBL.out _).mono ?_
  rintro e w6 ⟨rfl, h1⟩
  have X6 := Lib.hid (X5.out.trans h1)
  clear h1
  go_wp2_with fail
  refine (join_any t _ E (HE.out.ext X6.out) (by omega)).mono ?_
  rintro e w7 ⟨h7, h⟩
  have X7 := Lib.hid (X6.out.trans h7)
  clear h7
  rcases h with ⟨out, u, ho, rfl⟩ | ⟨ho, rfl⟩
  · have HO := Lib.hid ho
    clear ho
    go_wp2_with fail
    refine (joinOf_any t _ (by omega)).mono ?_
    rintro e w8 ⟨h8, h⟩
    have X8 := Lib.hid (X7.out.trans h8)
    clear h8
    rw [HO.out] at h
    rcases h with ⟨out', u', ho, rfl⟩ | ⟨ho, _⟩
    · injection ho with ho
      injection ho with ho1 ho2
      subst ho1 ho2
      go_wp2_with fail
      go_ret
      exact ⟨rfl, X8.out⟩
    · cases ho
  · have HO := Lib.hid ho
    clear ho
    go_wp2_with fail
    refine (joinOf_any t _ (by omega)).mono ?_
    rintro e w8 ⟨h8, h⟩
    have X8 := Lib.hid (X7.out.trans h8)
    clear h8
    rw [HO.out] at h
    rcases h with ⟨out', u', ho, _⟩ | ⟨_, rfl⟩
    · cases ho
    · go_wp2_with fail
      refine (coded_any _ E (HE.out.ext X8.out) _ ((0 : Nat) + 1 : Int) (-1) 1 (.sent 0 (by decide))).mono ?_
      rintro e w9 ⟨he, h9⟩
      obtain rfl : e = .returned (.bool true) := by rw [he]; exact ret_bool (by simp)
      have X9 := Lib.hid (X8.out.trans h9)
      clear he h9
      go_wp2_with fail
      go_ret
      exact ⟨rfl, X9.out⟩
end Go.Proofs.YtdeiolagnheihaaDoor
