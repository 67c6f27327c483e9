/-
  DERIVED. GIVEN WITH THE SEED: THE PROGRAM's TIES (one call each: nine closed facts by the kernel) AND EACH ROW's TIE, after the 31st guide's Derived/Test/Toyas{Tie, Card}.lean. No idea stands in it: it is a product of the set-up. Laid BY PROGRAM, IN A SANDBOX (cutbox-door.mjs). By AI agents, Wed Nov 11 2026. No macro, syntax, notation, axiom, sorry.
-/
import Derived.Test.YtkfjcgcgfdibaaaDoorRows
import Derived.LaidByTextLater
import Derived.SevenTiedAt
import Derived.LaidSub
import Derived.LaidOnce
namespace Go.Proofs.YtkfjcgcgfdibaaaDoor
open Go
set_option maxRecDepth 100000
theorem seatTie1 : Tryd.prog.laidByTextLater [("errors.errorType", Rows.laid_errors_errorType), ("layercake/api.ErrText", Rows.laid_layercake_api_ErrText), ("layercake/api.ErrBound", Rows.laid_layercake_api_ErrBound), ("layercake/api.ErrShape", Rows.laid_layercake_api_ErrShape), ("layercake/api.ErrSum", Rows.laid_layercake_api_ErrSum), ("layercake/api.ErrName", Rows.laid_layercake_api_ErrName), ("layercake/api.ErrNone", Rows.laid_layercake_api_ErrNone), ("layercake/api.ErrColors", Rows.laid_layercake_api_ErrColors), ("layercake/api.ErrFull", Rows.laid_layercake_api_ErrFull), ("layercake/api.ErrPower", Rows.laid_layercake_api_ErrPower)] [.handle, .sentinel, .sentinel, .sentinel, .sentinel, .sentinel, .sentinel, .sentinel, .sentinel, .sentinel] true :=
  Program.laidByTextLater_by_one 187 8 2 (by kernel_rfl) (by kernel_rfl) (by kernel_rfl) (by kernel_rfl) (by kernel_rfl) (by kernel_rfl) (fun _ _ => by kernel_rfl)
theorem noOwnUnsafe : Tryd.pinned.checked.prog.headLifts.contains "ownunsafe" = false := by kernel_rfl
theorem tie : Tryd.prog.laidByTextLater [("layercake/api.ErrBound", Rows.laid_layercake_api_ErrBound), ("layercake/api.ErrShape", Rows.laid_layercake_api_ErrShape)] [.sentinel, .sentinel] true :=
  Program.laidByTextLater.sub seatTie1 ["layercake/api.ErrBound", "layercake/api.ErrShape"] (by kernel_rfl) (by kernel_rfl)
theorem rasterBack_row_tie : Rows.rasterBackRow.laidByTextAt .later Tryd.pinned [.sentinel, .sentinel] true :=
  OpenClaim.laidByTextAt_later rfl rfl tie noOwnUnsafe
theorem tie2 : Tryd.prog.laidByTextLater [("errors.errorType", Rows.laid_errors_errorType), ("layercake/api.ErrText", Rows.laid_layercake_api_ErrText), ("layercake/api.ErrBound", Rows.laid_layercake_api_ErrBound), ("layercake/api.ErrShape", Rows.laid_layercake_api_ErrShape), ("layercake/api.ErrSum", Rows.laid_layercake_api_ErrSum), ("layercake/api.ErrName", Rows.laid_layercake_api_ErrName), ("layercake/api.ErrNone", Rows.laid_layercake_api_ErrNone), ("layercake/api.ErrColors", Rows.laid_layercake_api_ErrColors), ("layercake/api.ErrFull", Rows.laid_layercake_api_ErrFull), ("layercake/api.ErrPower", Rows.laid_layercake_api_ErrPower)] [.handle, .sentinel, .sentinel, .sentinel, .sentinel, .sentinel, .sentinel, .sentinel, .sentinel, .sentinel] true :=
  Program.laidByTextLater.sub seatTie1 ["errors.errorType", "layercake/api.ErrText", "layercake/api.ErrBound", "layercake/api.ErrShape", "layercake/api.ErrSum", "layercake/api.ErrName", "layercake/api.ErrNone", "layercake/api.ErrColors", "layercake/api.ErrFull", "layercake/api.ErrPower"] (by kernel_rfl) (by kernel_rfl)
theorem rasterNew_row_tie : Rows.rasterNewRow.laidByTextAt .later Tryd.pinned [.handle, .sentinel, .sentinel, .sentinel, .sentinel, .sentinel, .sentinel, .sentinel, .sentinel, .sentinel] true :=
  OpenClaim.laidByTextAt_later rfl rfl tie2 noOwnUnsafe
theorem rasterParts_row_tie : Rows.rasterPartsRow.laidByTextAt .later Tryd.pinned [.handle, .sentinel, .sentinel, .sentinel, .sentinel, .sentinel, .sentinel, .sentinel, .sentinel, .sentinel] true :=
  OpenClaim.laidByTextAt_later rfl rfl tie2 noOwnUnsafe
theorem rasterFloods_row_tie : Rows.rasterFloodsRow.laidByTextAt .later Tryd.pinned [.handle, .sentinel, .sentinel, .sentinel, .sentinel, .sentinel, .sentinel, .sentinel, .sentinel, .sentinel] true :=
  OpenClaim.laidByTextAt_later rfl rfl tie2 noOwnUnsafe
theorem rasterLines_row_tie : Rows.rasterLinesRow.laidByTextAt .later Tryd.pinned [.handle, .sentinel, .sentinel, .sentinel, .sentinel, .sentinel, .sentinel, .sentinel, .sentinel, .sentinel] true :=
  OpenClaim.laidByTextAt_later rfl rfl tie2 noOwnUnsafe
theorem rasterStamps_row_tie : Rows.rasterStampsRow.laidByTextAt .later Tryd.pinned [.handle, .sentinel, .sentinel, .sentinel, .sentinel, .sentinel, .sentinel, .sentinel, .sentinel, .sentinel] true :=
  OpenClaim.laidByTextAt_later rfl rfl tie2 noOwnUnsafe
theorem rasterTurns_row_tie : Rows.rasterTurnsRow.laidByTextAt .later Tryd.pinned [.handle, .sentinel, .sentinel, .sentinel, .sentinel, .sentinel, .sentinel, .sentinel, .sentinel, .sentinel] true :=
  OpenClaim.laidByTextAt_later rfl rfl tie2 noOwnUnsafe
theorem chunkWrites_row_tie : Rows.chunkWritesRow.laidByTextAt .later Tryd.pinned [.handle, .sentinel, .sentinel, .sentinel, .sentinel, .sentinel, .sentinel, .sentinel, .sentinel, .sentinel] true :=
  OpenClaim.laidByTextAt_later rfl rfl tie2 noOwnUnsafe
theorem chunkReads_row_tie : Rows.chunkReadsRow.laidByTextAt .later Tryd.pinned [.handle, .sentinel, .sentinel, .sentinel, .sentinel, .sentinel, .sentinel, .sentinel, .sentinel, .sentinel] true :=
  OpenClaim.laidByTextAt_later rfl rfl tie2 noOwnUnsafe
theorem tie3 : Tryd.prog.laidByTextLater [("layercake/api.ErrText", Rows.laid_layercake_api_ErrText), ("layercake/api.ErrBound", Rows.laid_layercake_api_ErrBound), ("layercake/api.ErrShape", Rows.laid_layercake_api_ErrShape), ("layercake/api.ErrSum", Rows.laid_layercake_api_ErrSum)] [.sentinel, .sentinel, .sentinel, .sentinel] true :=
  Program.laidByTextLater.sub seatTie1 ["layercake/api.ErrText", "layercake/api.ErrBound", "layercake/api.ErrShape", "layercake/api.ErrSum"] (by kernel_rfl) (by kernel_rfl)
theorem chunkTurned_row_tie : Rows.chunkTurnedRow.laidByTextAt .later Tryd.pinned [.sentinel, .sentinel, .sentinel, .sentinel] true :=
  OpenClaim.laidByTextAt_later rfl rfl tie3 noOwnUnsafe
theorem rasterBackUpto_row_tie : Rows.rasterBackUptoRow.laidByTextAt .later Tryd.pinned [.sentinel, .sentinel] true :=
  OpenClaim.laidByTextAt_later rfl rfl tie noOwnUnsafe
theorem rasterNewUpto_row_tie : Rows.rasterNewUptoRow.laidByTextAt .later Tryd.pinned [.handle, .sentinel, .sentinel, .sentinel, .sentinel, .sentinel, .sentinel, .sentinel, .sentinel, .sentinel] true :=
  OpenClaim.laidByTextAt_later rfl rfl tie2 noOwnUnsafe
theorem rasterPartsUpto_row_tie : Rows.rasterPartsUptoRow.laidByTextAt .later Tryd.pinned [.handle, .sentinel, .sentinel, .sentinel, .sentinel, .sentinel, .sentinel, .sentinel, .sentinel, .sentinel] true :=
  OpenClaim.laidByTextAt_later rfl rfl tie2 noOwnUnsafe
theorem rasterFloodsUpto_row_tie : Rows.rasterFloodsUptoRow.laidByTextAt .later Tryd.pinned [.handle, .sentinel, .sentinel, .sentinel, .sentinel, .sentinel, .sentinel, .sentinel, .sentinel, .sentinel] true :=
  OpenClaim.laidByTextAt_later rfl rfl tie2 noOwnUnsafe
theorem rasterLinesUpto_row_tie : Rows.rasterLinesUptoRow.laidByTextAt .later Tryd.pinned [.handle, .sentinel, .sentinel, .sentinel, .sentinel, .sentinel, .sentinel, .sentinel, .sentinel, .sentinel] true :=
  OpenClaim.laidByTextAt_later rfl rfl tie2 noOwnUnsafe
theorem rasterStampsUpto_row_tie : Rows.rasterStampsUptoRow.laidByTextAt .later Tryd.pinned [.handle, .sentinel, .sentinel, .sentinel, .sentinel, .sentinel, .sentinel, .sentinel, .sentinel, .sentinel] true :=
  OpenClaim.laidByTextAt_later rfl rfl tie2 noOwnUnsafe
theorem rasterTurnsUpto_row_tie : Rows.rasterTurnsUptoRow.laidByTextAt .later Tryd.pinned [.handle, .sentinel, .sentinel, .sentinel, .sentinel, .sentinel, .sentinel, .sentinel, .sentinel, .sentinel] true :=
  OpenClaim.laidByTextAt_later rfl rfl tie2 noOwnUnsafe
theorem chunkTurnedUpto_row_tie : Rows.chunkTurnedUptoRow.laidByTextAt .later Tryd.pinned [.sentinel, .sentinel, .sentinel, .sentinel] true :=
  OpenClaim.laidByTextAt_later rfl rfl tie3 noOwnUnsafe
theorem chunkWritesUpto_row_tie : Rows.chunkWritesUptoRow.laidByTextAt .later Tryd.pinned [.handle, .sentinel, .sentinel, .sentinel, .sentinel, .sentinel, .sentinel, .sentinel, .sentinel, .sentinel] true :=
  OpenClaim.laidByTextAt_later rfl rfl tie2 noOwnUnsafe
theorem chunkReadsUpto_row_tie : Rows.chunkReadsUptoRow.laidByTextAt .later Tryd.pinned [.handle, .sentinel, .sentinel, .sentinel, .sentinel, .sentinel, .sentinel, .sentinel, .sentinel, .sentinel] true :=
  OpenClaim.laidByTextAt_later rfl rfl tie2 noOwnUnsafe
end Go.Proofs.YtkfjcgcgfdibaaaDoor
