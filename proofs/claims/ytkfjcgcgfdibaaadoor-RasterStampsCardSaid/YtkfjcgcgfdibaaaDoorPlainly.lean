/- plainly: the closed fact of pictures. -/
import Derived.Test.YtkfjcgcgfdibaaaDoorBackLaw
namespace Go.Proofs.YtkfjcgcgfdibaaaDoor
open Go.RowKit
set_option maxRecDepth 100000
theorem plainly_any (w : World) : Calls Tryd.prog 13 #[] w fun e w' => e = .returned (.bool true) ∧ Ext w w' := by
  go_enter Tryd.func13, Tryd.ntmps13
  go_wp2_with fail
  refine (new_good 2 3 ⟨9, 0, 0, 0⟩ _ (by decide) (by decide)).mono ?_
  rintro e w2 ⟨⟨v, rfl, hown⟩, h2⟩
  have hok : ∀ i, i < 2 * 3 → ((fun _ : Nat => (⟨9, 0, 0, 0⟩ : P4)) i).Ok := fun _ _ => show (⟨9, 0, 0, 0⟩ : P4).Ok from ⟨⟨by decide, by decide⟩, ⟨by decide, by decide⟩, ⟨by decide, by decide⟩, ⟨by decide, by decide⟩⟩
  obtain ⟨x, c, rfl, hx, _⟩ := Pxs.of_own hown hok
  obtain ⟨a, rfl⟩ := hx.isSome (show 5 < 2 * 3 by decide)
  obtain ⟨c0, c1, c2, c3, _⟩ := (hx.ext ((Ext.refl w2).alloc (.cells #[.int .i64 2, .int .i64 3, .slice (some a) 6 c] 24))).2 a rfl 5 (by decide)
  have X2 := Lib.hid h2
  clear hown hok hx h2
  have k0 : (w2.alloc (.cells #[.int .i64 2, .int .i64 3, .slice (some a) 6 c] 24)).cell? ⟨a.block, a.off + 20, none⟩ = some (.int .u8 9) := c0
  have k1 : (w2.alloc (.cells #[.int .i64 2, .int .i64 3, .slice (some a) 6 c] 24)).cell? ⟨a.block, a.off + 20 + 1, none⟩ = some (.int .u8 0) := c1
  have k2 : (w2.alloc (.cells #[.int .i64 2, .int .i64 3, .slice (some a) 6 c] 24)).cell? ⟨a.block, a.off + 20 + 2, none⟩ = some (.int .u8 0) := c2
  have k3 : (w2.alloc (.cells #[.int .i64 2, .int .i64 3, .slice (some a) 6 c] 24)).cell? ⟨a.block, a.off + 20 + 3, none⟩ = some (.int .u8 0) := c3
  clear c0 c1 c2 c3
  go_wp2_with fail
  go_ret
  exact ⟨rfl, X2.out.alloc _⟩
end Go.Proofs.YtkfjcgcgfdibaaaDoor
