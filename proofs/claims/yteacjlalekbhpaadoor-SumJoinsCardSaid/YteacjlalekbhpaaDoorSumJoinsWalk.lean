/- SumJoins's walk. -/
import Derived.Test.YteacjlalekbhpaaDoorJoins
import Derived.Test.YteacjlalekbhpaaDoorKnown
import Derived.Test.YteacjlalekbhpaaDoorCoded1
namespace Go.Proofs.YteacjlalekbhpaaDoor
open Go.RowKit
set_option maxRecDepth 100000
theorem cat_list (a b : ByteArray) : (a ++ b).data.toList = a.data.toList ++ b.data.toList := by
  simp
theorem sj_out (a b : ByteArray) (x y : Nat) (n : Int) (w : World) (ha : a.size ≤ maxLen) (hb : b.size ≤ maxLen) (h : 2000 < a.size ∨ 2000 < b.size) :
    Calls Tryd.prog 4 #[.string a, .string b, .int .u32 (x : Int), .int .u32 (y : Int), .int .i64 n] w fun e w' => e = .returned (.bool true) ∧ Ext w w' := by
  unfold maxLen at ha hb
  by_cases h1 : 2000 < a.size
  · clear h
    go_enter Tryd.func4, Tryd.ntmps4
    go_wp2_with fail
    refine (known_any _).mono ?_
    rintro e w2 ⟨rfl, hE⟩
    go_wp2_with fail
    go_ret
    exact ⟨rfl, hE⟩
  · have h2 : 2000 < b.size := by omega
    clear h
    go_enter Tryd.func4, Tryd.ntmps4
    go_wp2_with fail
    refine (known_any _).mono ?_
    rintro e w2 ⟨rfl, hE⟩
    go_wp2_with fail
    go_ret
    exact ⟨rfl, hE⟩
set_option maxHeartbeats 4000000 in
theorem sj_in (a b : ByteArray) (x y : Nat) (n : Int) (w : World) (E : Nat → Addr) (hS : Errs w E) (ha : a.size ≤ 2000) (hb : b.size ≤ 2000) (hx : x < 4294967296) (hy : y < 4294967296) (hn1 : -9223372036854775808 ≤ n) (hn2 : n ≤ 9223372036854775807) :
    Calls Tryd.prog 4 #[.string a, .string b, .int .u32 (x : Int), .int .u32 (y : Int), .int .i64 n] w fun e w' => e = .returned (.bool true) ∧ Ext w w' := by
  have hca : Crc.crc a.data.toList < 4294967296 := Crc.flip_lt (Crc.run_lt (Crc.flip_lt (by omega)) _)
  have hcb : Crc.crc b.data.toList < 4294967296 := Crc.flip_lt (Crc.run_lt (Crc.flip_lt (by omega)) _)
  have hda : Adl.adler a.data.toList < 4294967296 := Adl.more_lt _ _
  have hdb : Adl.adler b.data.toList < 4294967296 := Adl.more_lt _ _
  have HJ : Hid (Crc.join (Crc.crc a.data.toList) (Crc.crc b.data.toList) b.size = Crc.crc (a ++ b).data.toList) := Lib.hid (by rw [cat_list, Crc.crc_join]; simp)
  have HA : Hid (Adl.join (Adl.adler a.data.toList) (Adl.adler b.data.toList) b.size = Adl.adler (a ++ b).data.toList) := Lib.hid (by rw [cat_list, Adl.adler_join]; simp)
  have hab : (a ++ b).size ≤ maxLen := by unfold maxLen; simp [ByteArray.size_append]; omega
  have HS := Lib.hid hS
  clear hS
  go_enter Tryd.func4, Tryd.ntmps4
  go_wp2_with fail
  refine (known_any _).mono ?_
  rintro e w1 ⟨rfl, hE⟩
  have X1 := Lib.hid hE
  clear hE
  go_wp2_with fail
  refine (crc_any a _ (by unfold maxLen; omega)).mono ?_
  rintro e w2 ⟨rfl, hE⟩
  have X2 := Lib.hid (X1.out.trans hE)
  clear hE
  go_wp2_with fail
  refine (crc_any b _ (by unfold maxLen; omega)).mono ?_
  rintro e w3 ⟨rfl, hE⟩
  have X3 := Lib.hid (X2.out.trans hE)
  clear hE
  go_wp2_with fail
  refine (joinCRC_in _ _ b.size _ hca hcb (by omega)).mono ?_
  rintro e w4 ⟨rfl, hE⟩
  rw [HJ.out]
  have X4 := Lib.hid (X3.out.trans hE)
  clear hE
  go_wp2_with fail
  refine (adler_any a _ (by unfold maxLen; omega)).mono ?_
  rintro e w5 ⟨rfl, rfl⟩
  go_wp2_with fail
  refine (adler_any b _ (by unfold maxLen; omega)).mono ?_
  rintro e w5 ⟨rfl, rfl⟩
  go_wp2_with fail
  refine (joinAdler_in _ _ b.size _ hda hdb (by omega)).mono ?_
  rintro e w5 ⟨rfl, rfl⟩
  rw [HA.out]
  go_wp2_with fail
  refine (refCRC_any (a ++ b) _ hab).mono ?_
  rintro e w5 ⟨rfl, rfl⟩
  go_wp2_with fail
  refine (refAdler_any (a ++ b) _ hab).mono ?_
  rintro e w5 ⟨rfl, rfl⟩
  by_cases hbad : n < 0 ∨ 1099511627776 < n
  · have HB := Lib.hid hbad
    clear hbad
    go_wp2_with fail
    refine (joinCRC_out x y n E _ (HS.out.ext X4.out) HB.out hn1 hn2).mono ?_
    rintro e w5 ⟨rfl, hE⟩
    have X5 := Lib.hid (X4.out.trans hE)
    clear hE
    go_wp2_with fail
    refine (joinAdler_out x y n E _ (HS.out.ext X5.out) HB.out hn1 hn2).mono ?_
    rintro e w6 ⟨rfl, hE⟩
    have X6 := Lib.hid (X5.out.trans hE)
    clear hE
    rcases HB.out with h0 | h0
    all_goals
      go_wp2_with fail
      refine (coded_any _ E (HS.out.ext X6.out) _ 2 (-1) 2 (.sent 1 (by decide))).mono ?_
      rintro e w7 ⟨he, hE⟩
      obtain rfl : e = .returned (.bool true) := by rw [he]; exact ret_bool (by decide)
      clear he
      have X7 := Lib.hid (X6.out.trans hE)
      clear hE
      go_wp2_with fail
      refine (coded_any _ E (HS.out.ext X7.out) _ 2 (-1) 2 (.sent 1 (by decide))).mono ?_
      rintro e w8 ⟨he, hE⟩
      obtain rfl : e = .returned (.bool true) := by rw [he]; exact ret_bool (by decide)
      clear he
      have X8 := Lib.hid (X7.out.trans hE)
      clear hE
      go_wp2_with fail
      go_ret
      exact ⟨rfl, X8.out⟩
  · obtain ⟨m, rfl⟩ : ∃ m : Nat, n = m := ⟨n.toNat, by omega⟩
    have hm : m ≤ 1099511627776 := by omega
    clear hbad
    go_wp2_with fail
    refine (joinCRC_in x y m _ hx hy hm).mono ?_
    rintro e w5 ⟨rfl, hE⟩
    have X5 := Lib.hid (X4.out.trans hE)
    clear hE
    go_wp2_with fail
    refine (joinAdler_in x y m _ hx hy hm).mono ?_
    rintro e w6 ⟨rfl, rfl⟩
    go_wp2_with fail
    refine (joinAdlerOf_any x y m _ hx hy hm).mono ?_
    rintro e w6 ⟨rfl, rfl⟩
    by_cases h3 : 3000 < m
    · go_wp2_with fail
      go_ret
      exact ⟨rfl, X5.out⟩
    · go_wp2_with fail
      refine (joinCRCOf_any x y m _ hx hy (by omega)).mono ?_
      rintro e w6 ⟨rfl, rfl⟩
      go_wp2_with fail
      go_ret
      exact ⟨rfl, X5.out⟩
theorem sj_any (a b : ByteArray) (x y n : Int) (w : World) (E : Nat → Addr) (hS : Errs w E) (ha : a.size ≤ maxLen) (hb : b.size ≤ maxLen) (hx : 0 ≤ x ∧ x ≤ 4294967295) (hy : 0 ≤ y ∧ y ≤ 4294967295) (hn : -9223372036854775808 ≤ n ∧ n ≤ 9223372036854775807) :
    Calls Tryd.prog 4 #[.string a, .string b, .int .u32 x, .int .u32 y, .int .i64 n] w fun e w' => e = .returned (.bool true) ∧ Ext w w' := by
  obtain ⟨X, rfl⟩ : ∃ n : Nat, x = n := ⟨x.toNat, by omega⟩
  obtain ⟨Y, rfl⟩ : ∃ n : Nat, y = n := ⟨y.toNat, by omega⟩
  by_cases h : 2000 < a.size ∨ 2000 < b.size
  · exact sj_out a b X Y n w ha hb h
  · exact sj_in a b X Y n w E hS (by omega) (by omega) (by omega) (by omega) hn.1 hn.2
end Go.Proofs.YteacjlalekbhpaaDoor
