/- known: the closed fact of chapter 1. -/
import Derived.Test.YteacjlalekbhpaaDoorAdlerWalks
namespace Go.Proofs.YteacjlalekbhpaaDoor
open Go.RowKit
theorem crc_known : Crc.crc [49, 50, 51, 52, 53, 54, 55, 56, 57] = 3421780262 := by decide +kernel
theorem adl_known : Adl.adler [97, 98, 99] = 38600999 := by decide +kernel
theorem known_any (w : World) : Calls Tryd.prog 9 #[] w fun e w' => e = .returned (.bool true) ∧ Ext w w' := by
  go_enter Tryd.func9, Tryd.ntmps9
  have e1 := crc_known
  have e2 := adl_known
  go_wp2_with (first | (go_at_call 11; refine (crc_any _ _ (by decide)).mono ?_; rintro e w' ⟨rfl, h⟩) | (go_at_call 13; refine (adler_any _ _ (by decide)).mono ?_; rintro e w' ⟨rfl, rfl⟩))
  go_ret
  exact ⟨rfl, h⟩
end Go.Proofs.YteacjlalekbhpaaDoor
