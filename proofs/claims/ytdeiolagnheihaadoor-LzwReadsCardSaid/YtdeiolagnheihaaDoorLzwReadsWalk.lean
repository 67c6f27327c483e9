/- LzwReads' walk. -/
import Derived.Test.YtdeiolagnheihaaDoorLzwO
import Derived.Test.YtdeiolagnheihaaDoorLzwEnd
import Derived.Test.YtdeiolagnheihaaDoorCoded1
namespace Go.Proofs.YtdeiolagnheihaaDoor
open Go.RowKit
set_option maxRecDepth 100000
theorem unpack_any (s : ByteArray) (wd most : Int) (hs : s.size ≤ maxLen) : ∃ r : Lz.Res,
    (∀ (w : World) (E : Nat → Addr), Errs w E → Calls Tryd.prog 13 #[.string s, .int .i64 wd, .int .i64 most] w fun e w' => UnlPost w w' E r e) ∧
    (∀ (w : World), Calls Tryd.prog 23 #[.string s, .int .i64 wd, .int .i64 most] w fun e w' => UnlOfPost w w' r e) := by
  by_cases h : (wd < 2 ∨ 8 < wd) ∨ most < 0 ∨ 300000 < most ∨ 300000 < s.size
  · exact ⟨.bound, fun w E hE => unpack_bad s wd most w E hE hs h, fun w => unlzwOf_bad s wd most w hs h⟩
  · obtain ⟨a, rfl⟩ : ∃ a : Nat, wd = a := ⟨wd.toNat, by omega⟩
    obtain ⟨b, rfl⟩ : ∃ b : Nat, most = b := ⟨most.toNat, by omega⟩
    exact ⟨_, fun w E hE => unpack_in s a b w E hE (by omega) (by omega) (by omega) (by omega), fun w => unlzwOf_in s a b w (by omega) (by omega) (by omega) (by omega)⟩
set_option maxHeartbeats 2000000 in
theorem lzwReads_any (s : ByteArray) (wd most : Int) (w : World) (E : Nat → Addr) (hE : Errs w E) (hs : s.size ≤ maxLen) :
    Calls Tryd.prog 6 #[.string s, .int .i64 wd, .int .i64 most] w fun e w' => e = .returned (.bool true) ∧ Ext w w' := by
  obtain ⟨r, hP, hQ⟩ := unpack_any s wd most hs
  have HE := Lib.hid hE
  have HP := Lib.hid hP
  have HQ := Lib.hid hQ
  unfold maxLen at hs
  clear hE hP hQ
  by_cases h1 : 2000 < s.size
  · go_enter Tryd.func6, Tryd.ntmps6
    go_wp2_with fail
    refine (end_any _).mono ?_
    rintro e w1 ⟨rfl, h1⟩
    have X1 := Lib.hid (h1)
    clear h1
    go_wp2_with fail
    go_ret
    exact ⟨rfl, X1.out⟩
  · go_enter Tryd.func6, Tryd.ntmps6
    go_wp2_with fail
    refine (end_any _).mono ?_
    rintro e w1 ⟨rfl, h2⟩
    have X1 := Lib.hid (h2)
    clear h2
    go_wp2_with fail
    refine (HP.out _ E (HE.out.ext X1.out)).mono ?_
    rintro e w2 ⟨h2, he⟩
    have X2 := Lib.hid (X1.out.trans h2)
    clear h2
    cases r with
    | text =>
      have he1 := he
      simp only at he1
      subst he1
      clear he
      go_wp2_with fail
      refine (HQ.out _).mono ?_
      rintro e w3 ⟨h3, he⟩
      have X3 := Lib.hid (X2.out.trans h3)
      simp only at he
      subst he
      clear h3
      go_wp2_with fail
      refine (coded_any _ E (HE.out.ext X3.out) _ ((0 : Nat) + 1 : Int) (-1) 1 (.sent 0 (by decide))).mono ?_
      rintro e w9 ⟨he, h9⟩
      obtain rfl : e = .returned (.bool true) := by rw [he]; exact ret_bool (by simp)
      have X9 := Lib.hid (X3.out.trans h9)
      clear he h9
      go_wp2_with fail
      go_ret
      exact ⟨rfl, X9.out⟩
    | bound =>
      have he1 := he
      simp only at he1
      subst he1
      clear he
      go_wp2_with fail
      refine (HQ.out _).mono ?_
      rintro e w3 ⟨h3, he⟩
      have X3 := Lib.hid (X2.out.trans h3)
      simp only at he
      subst he
      clear h3
      go_wp2_with fail
      refine (coded_any _ E (HE.out.ext X3.out) _ ((1 : Nat) + 1 : Int) (-1) 2 (.sent 1 (by decide))).mono ?_
      rintro e w9 ⟨he, h9⟩
      obtain rfl : e = .returned (.bool true) := by rw [he]; exact ret_bool (by simp)
      have X9 := Lib.hid (X3.out.trans h9)
      clear he h9
      go_wp2_with fail
      go_ret
      exact ⟨rfl, X9.out⟩
    | ok out u =>
      have he1 := he
      simp only at he1
      subst he1
      clear he
      obtain ⟨T, hT⟩ : ∃ T, tb out = T := ⟨_, rfl⟩
      rw [hT]
      go_wp2_with fail
      refine (HQ.out _).mono ?_
      rintro e w3 ⟨h3, he⟩
      have X3 := Lib.hid (X2.out.trans h3)
      simp only at he
      rw [hT] at he
      subst he
      clear h3 hT
      go_wp2_with fail
      go_ret
      exact ⟨rfl, X3.out⟩
end Go.Proofs.YtdeiolagnheihaaDoor
