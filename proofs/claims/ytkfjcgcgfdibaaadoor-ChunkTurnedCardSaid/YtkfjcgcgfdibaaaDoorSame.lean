/- sameChunks at equal rows; few; bare. -/
import Derived.Test.YtkfjcgcgfdibaaaDoorChkOf
namespace Go.Proofs.YtkfjcgcgfdibaaaDoor
open Go.RowKit
set_option maxRecDepth 100000
theorem same_any (x y : Option Addr) (c d : Nat) (L : List Ck) (w : World) (hx : Cks w x L) (hy : Cks w y L) (hn : L.length ≤ 100000) :
    Calls Tryd.prog 53 #[.slice x L.length c, .slice y L.length d] w fun e w' => e = .returned (.bool true) ∧ Ext w w' := by
  have HX := Lib.hid hx
  have HY := Lib.hid hy
  clear hx hy
  obtain ⟨n, hn0⟩ : ∃ n, L.length = n := ⟨_, rfl⟩
  have HN := Lib.hid hn0
  rw [hn0] at hn ⊢
  clear hn0
  go_enter Tryd.func53, Tryd.ntmps53
  go_wp2_with fail
  go_loopw [5] (fun c wr => ∃ (k : Nat), k ≤ n ∧ c = .int .i64 k ∧ Hid (Ext w wr)) (fun c _ => n - (intOf c).toNat)
  case atStart => exact ⟨0, by omega, rfl, Lib.hid (Ext.refl _)⟩
  case round =>
    obtain ⟨k, hk, rfl, HW⟩ := hrel
    by_cases hlt : k < n
    · obtain ⟨a, rfl⟩ := HX.out.isSome (i := k) (by rw [HN.out]; exact hlt)
      obtain ⟨b, rfl⟩ := HY.out.isSome (i := k) (by rw [HN.out]; exact hlt)
      obtain ⟨c, hc⟩ : ∃ c, L[k]? = some c := ⟨_, List.getElem?_eq_getElem (by rw [HN.out]; exact hlt)⟩
      obtain ⟨c0, c1⟩ := (HX.out.ext HW.out).2 a rfl k c hc
      obtain ⟨d0, d1⟩ := (HY.out.ext HW.out).2 b rfl k c hc
      clear hc
      obtain ⟨ck, cd⟩ := c
      simp only at c0 c1 d0 d1
      have e1 : (ck.toList == ck.toList) = true := beq_self_eq_true _
      have e2 : (cd.toList == cd.toList) = true := beq_self_eq_true _
      go_wp2_with fail
      go_region
      all_goals
        (try simp only [e1, e2, Bool.not_true])
        go_wp2_with fail
        go_roundw
        case rel => exact ⟨k + 1, by omega, by go_num, Lib.hid (show Ext w wr.drew from Below.drew HW.out)⟩
        case measure => simp [intOf]; omega
    · obtain rfl : k = n := by omega
      go_wp2_with fail
      go_ret
      exact ⟨rfl, HW.out⟩
theorem bare_any (w : World) (E : Nat → Addr) (hE : ErrC w E) : Calls Tryd.prog 46 #[] w fun e w' => e = .returned (.bool true) ∧ Ext w w' := by
  have HWR := Lib.hid (write_any none 0 [] w E hE ⟨fun _ => rfl, fun a h => by cases h⟩ (by decide) (fun c h => by cases h))
  clear hE
  obtain ⟨SG, hSG⟩ : ∃ b : ByteArray, b = ⟨sigB.toArray⟩ := ⟨_, rfl⟩
  have hsg := fun w => sig_any w
  rw [← hSG] at hsg
  have HSG := Lib.hid hsg
  have HS := Lib.hid hSG
  clear hsg hSG
  have e1 : (SG.toList == SG.toList) = true := beq_self_eq_true _
  go_enter Tryd.func46, Tryd.ntmps46
  go_wp2_with fail
  refine HWR.out.mono ?_
  rintro e w1 ⟨hX, h⟩
  rcases h with ⟨out, hr, rfl⟩ | ⟨c, i, F, _, _, hr, _⟩
  · injection hr with hr
    subst hr
    rw [← HS.out]
    have HX := Lib.hid hX
    clear hX
    go_wp2_with fail
    refine (HSG.out _).mono ?_
    rintro e w2 ⟨rfl, h2⟩
    have HX2 := Lib.hid (HX.out.trans h2)
    clear h2
    go_wp2_with fail
    go_ret
    exact ⟨ret_bool (by simp), HX2.out⟩
  · cases hr
end Go.Proofs.YtkfjcgcgfdibaaaDoor
