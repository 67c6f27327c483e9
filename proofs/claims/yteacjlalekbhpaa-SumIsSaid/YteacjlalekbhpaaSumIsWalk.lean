/- The walk of SumIs: whatever the input, it returns true; new blocks alone are made. -/
import Derived.Test.YteacjlalekbhpaaSumRefs
namespace Go.Proofs.Yteacjlalekbhpaa
open Go.RowKit
theorem cat_list (a b : ByteArray) : (a ++ b).data.toList = a.data.toList ++ b.data.toList := by
  rw [ByteArray.data_append, Array.toList_append]
theorem sumIs_any (a b : ByteArray) (n : Nat) (w : World) (hn : n < 4294967296) (ha : a.size ≤ maxLen) (hb : b.size ≤ maxLen) :
    Calls Try.prog 3 #[.string a, .string b, .int .u32 (n : Int)] w fun e w' => e = .returned (.bool true) ∧ Ext w w' := by
  by_cases h1 : 2000 < a.size
  · go_enter Try.func3, Try.ntmps3
    go_wp2_with (go_at_call 5; refine (known_any _).mono ?_; rintro e w' ⟨rfl, h⟩)
    go_ret
    exact ⟨rfl, h⟩
  by_cases h2 : 2000 < b.size
  · go_enter Try.func3, Try.ntmps3
    go_wp2_with (go_at_call 5; refine (known_any _).mono ?_; rintro e w' ⟨rfl, h⟩)
    go_ret
    exact ⟨rfl, h⟩
  have hs : (a ++ b).size ≤ maxLen := by rw [ByteArray.size_append]; unfold maxLen; omega
  have l1 : Crc.crc a.data.toList < 4294967296 := Crc.flip_lt (Crc.run_lt (Crc.flip_lt (by omega)) _)
  have l2 : Adl.adler a.data.toList < 4294967296 := Adl.more_lt _ _
  have E1 : Hid (Crc.crc (a ++ b).data.toList = Crc.more (Crc.crc a.data.toList) b.data.toList) := by
    rw [cat_list]; exact (Crc.more_more 0 _ _).symm
  have E2 : Hid (Adl.adler (a ++ b).data.toList = Adl.more (Adl.adler a.data.toList) b.data.toList) := by
    rw [cat_list]; exact (Adl.more_more 1 _ _).symm
  go_enter Try.func3, Try.ntmps3
  go_wp2_with (first
    | (go_at_call 5; refine (known_any _).mono ?_; rintro e w' ⟨rfl, h⟩)
    | (go_at_call 6; refine (crc_any _ _ (by assumption)).mono ?_; rintro e w' ⟨rfl, h⟩)
    | (go_at_call 8; refine (adler_any _ _ (by assumption)).mono ?_; rintro e w' ⟨rfl, rfl⟩)
    | (go_at_call 9; refine (refAdler_any _ _ (by assumption)).mono ?_; rintro e w' ⟨rfl, rfl⟩; try rw [E2.out])
    | (go_at_call 7; refine (refCRC_any _ _ (by assumption)).mono ?_; rintro e w' ⟨rfl, rfl⟩; try rw [E1.out])
    | (go_at_call 10; refine (moreCRC_any _ _ _ (by assumption) (by assumption)).mono ?_; rintro e w' ⟨rfl, h⟩)
    | (go_at_call 11; refine (moreAdler_any _ _ _ (by assumption) (by assumption)).mono ?_; rintro e w' ⟨rfl, rfl⟩)
    | (go_at_call 12; refine (refMoreAdler_any _ _ _ (by assumption) (by assumption)).mono ?_; rintro e w' ⟨rfl, rfl⟩))
  go_ret
  refine ⟨rfl, ?_⟩
  repeat (first | exact Ext.refl _ | assumption | refine Ext.trans ?_ (by assumption))
end Go.Proofs.Yteacjlalekbhpaa
