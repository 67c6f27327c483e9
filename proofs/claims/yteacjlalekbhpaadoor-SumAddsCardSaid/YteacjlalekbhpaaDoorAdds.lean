/- SumAdds: joined sums, joined again, whichever first, are the same. -/
import Derived.Test.YteacjlalekbhpaaDoorJoinCrc
import Derived.Test.YteacjlalekbhpaaDoorKnown
namespace Go.Proofs.YteacjlalekbhpaaDoor
open Go.RowKit
set_option maxRecDepth 100000
theorem adds_out (x y z : Nat) (a b : Int) (w : World) (ha : -9223372036854775808 ≤ a ∧ a ≤ 9223372036854775807) (hb : -9223372036854775808 ≤ b ∧ b ≤ 9223372036854775807) (h : a < 0 ∨ 1073741824 < a ∨ b < 0 ∨ 1073741824 < b) :
    Calls Tryd.prog 3 #[.int .u32 (x : Int), .int .u32 (y : Int), .int .u32 (z : Int), .int .i64 a, .int .i64 b] w fun e w' => e = .returned (.bool true) ∧ Ext w w' := by
  obtain ⟨ha1, ha2⟩ := ha
  obtain ⟨hb1, hb2⟩ := hb
  by_cases h1 : a < 0
  · clear h
    go_enter Tryd.func3, Tryd.ntmps3
    go_wp2_with fail
    refine (known_any _).mono ?_
    rintro e w2 ⟨rfl, hE⟩
    go_wp2_with fail
    go_ret
    exact ⟨rfl, hE⟩
  by_cases h2 : 1073741824 < a
  · clear h
    go_enter Tryd.func3, Tryd.ntmps3
    go_wp2_with fail
    refine (known_any _).mono ?_
    rintro e w2 ⟨rfl, hE⟩
    go_wp2_with fail
    go_ret
    exact ⟨rfl, hE⟩
  by_cases h3 : b < 0
  · clear h
    go_enter Tryd.func3, Tryd.ntmps3
    go_wp2_with fail
    refine (known_any _).mono ?_
    rintro e w2 ⟨rfl, hE⟩
    go_wp2_with fail
    go_ret
    exact ⟨rfl, hE⟩
  have h4 : 1073741824 < b := by omega
  clear h
  go_enter Tryd.func3, Tryd.ntmps3
  go_wp2_with fail
  refine (known_any _).mono ?_
  rintro e w2 ⟨rfl, hE⟩
  go_wp2_with fail
  go_ret
  exact ⟨rfl, hE⟩
theorem adds_in (x y z a b : Nat) (w : World) (hx : x < 4294967296) (hy : y < 4294967296) (hz : z < 4294967296) (ha : a ≤ 1073741824) (hb : b ≤ 1073741824) :
    Calls Tryd.prog 3 #[.int .u32 (x : Int), .int .u32 (y : Int), .int .u32 (z : Int), .int .i64 (a : Int), .int .i64 (b : Int)] w fun e w' => e = .returned (.bool true) ∧ Ext w w' := by
  have j1 : Crc.join x y a < 4294967296 := Crc.join_lt hx hy
  have j2 : Crc.join y z b < 4294967296 := Crc.join_lt hy hz
  have HJ := Lib.hid (Crc.join_join x y z a b)
  go_enter Tryd.func3, Tryd.ntmps3
  go_wp2_with fail
  refine (known_any _).mono ?_
  rintro e w2 ⟨rfl, hE⟩
  have HE := Lib.hid hE
  clear hE
  go_wp2_with fail
  refine (joinCRC_in x y a _ hx hy (by omega)).mono ?_
  rintro e w3 ⟨rfl, hE⟩
  have HE3 := Lib.hid (HE.out.trans hE)
  clear hE
  go_wp2_with fail
  refine (joinCRC_in (Crc.join x y a) z b _ j1 hz (by omega)).mono ?_
  rintro e w4 ⟨rfl, hE⟩
  have HE4 := Lib.hid (HE3.out.trans hE)
  clear hE
  rw [HJ.out]
  go_wp2_with fail
  refine (joinCRC_in y z b _ hy hz (by omega)).mono ?_
  rintro e w5 ⟨rfl, hE⟩
  have HE5 := Lib.hid (HE4.out.trans hE)
  clear hE
  go_wp2_with fail
  rw [show (a : Int) + (b : Int) = ((a + b : Nat) : Int) by simp]
  refine (joinCRC_in x (Crc.join y z b) (a + b) _ hx j2 (by omega)).mono ?_
  rintro e w6 ⟨rfl, hE⟩
  have HE6 := Lib.hid (HE5.out.trans hE)
  clear hE
  go_wp2_with fail
  go_ret
  exact ⟨by simp, HE6.out⟩
theorem adds_any (x y z a b : Int) (w : World) (hx : 0 ≤ x ∧ x ≤ 4294967295) (hy : 0 ≤ y ∧ y ≤ 4294967295) (hz : 0 ≤ z ∧ z ≤ 4294967295) (ha : -9223372036854775808 ≤ a ∧ a ≤ 9223372036854775807) (hb : -9223372036854775808 ≤ b ∧ b ≤ 9223372036854775807) :
    Calls Tryd.prog 3 #[.int .u32 x, .int .u32 y, .int .u32 z, .int .i64 a, .int .i64 b] w fun e w' => e = .returned (.bool true) ∧ Ext w w' := by
  obtain ⟨X, rfl⟩ : ∃ n : Nat, x = n := ⟨x.toNat, by omega⟩
  obtain ⟨Y, rfl⟩ : ∃ n : Nat, y = n := ⟨y.toNat, by omega⟩
  obtain ⟨Z, rfl⟩ : ∃ n : Nat, z = n := ⟨z.toNat, by omega⟩
  by_cases h : a < 0 ∨ 1073741824 < a ∨ b < 0 ∨ 1073741824 < b
  · exact adds_out X Y Z a b w ha hb h
  · obtain ⟨A, rfl⟩ : ∃ n : Nat, a = n := ⟨a.toNat, by omega⟩
    obtain ⟨B, rfl⟩ : ∃ n : Nat, b = n := ⟨b.toNat, by omega⟩
    exact adds_in X Y Z A B w (by omega) (by omega) (by omega) (by omega) (by omega)
end Go.Proofs.YteacjlalekbhpaaDoor
