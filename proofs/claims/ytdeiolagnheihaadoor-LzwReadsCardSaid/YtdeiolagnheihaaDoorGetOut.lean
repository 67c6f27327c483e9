/- Get where it cannot: too wide, or no more bits. -/
import Derived.Test.YtdeiolagnheihaaDoorGet
import Derived.Test.YtdeiolagnheihaaDoorErrs
namespace Go.Proofs.YtdeiolagnheihaaDoor
open Go.RowKit
set_option maxRecDepth 100000
theorem get_bound (B o a : Nat) (width : Int) (s : ByteArray) (w : World) (E : Nat → Addr) (hE : Errs w E) (_hR : RAt w B o s a) (h1 : -9223372036854775808 ≤ width) (h2 : width ≤ 9223372036854775807) (h : width < 0 ∨ 32 < width) :
    Calls Tryd.prog 46 #[.pointer (some ⟨B, o, none⟩), .int .i64 width] w fun e w' => e = .returned (.tuple #[.int .u32 0, sentV (E 1)]) ∧ Ext w w' := by
  have c1 := hE.var 1 (by decide)
  simp only [gk, sentV] at c1
  clear hE
  rcases h with h0 | h0
  · go_enter Tryd.func46, Tryd.ntmps46
    go_wp2
    go_quiet (fail)
    go_wp2
    go_ret2
    exact ⟨rfl, by repeat (first | exact Ext.refl _ | refine Ext.drewN ?_ _)⟩
  · go_enter Tryd.func46, Tryd.ntmps46
    go_wp2
    go_quiet (fail)
    go_wp2
    go_ret2
    exact ⟨rfl, by repeat (first | exact Ext.refl _ | refine Ext.drewN ?_ _)⟩
theorem get_text (B o a k : Nat) (s : ByteArray) (w : World) (E : Nat → Addr) (hE : Errs w E) (hR : RAt w B o s a) (hk : k ≤ 32) (ha : 8 * s.size < a + k) (_ha2 : a ≤ 8 * s.size) :
    Calls Tryd.prog 46 #[.pointer (some ⟨B, o, none⟩), .int .i64 (k : Int)] w fun e w' => e = .returned (.tuple #[.int .u32 0, sentV (E 0)]) ∧ Ext w w' := by
  have c1 := hE.var 0 (by decide)
  simp only [gk, sentV] at c1
  clear hE
  go_enter Tryd.func46, Tryd.ntmps46
  go_wp2_with fail
  refine (left_calls B o a s _ hR).mono ?_
  rintro e w2 ⟨rfl, m, rfl⟩
  go_wp2_with fail
  go_quiet (fail)
  go_wp2
  go_ret2
  exact ⟨rfl, by repeat (first | exact Ext.refl _ | refine Ext.drewN ?_ _)⟩
end Go.Proofs.YtdeiolagnheihaaDoor
