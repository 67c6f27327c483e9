/-
  DERIVED. GIVEN WITH THE SEED: THE PROGRAM's TIES (one call each: nine closed facts by the kernel) AND EACH ROW's TIE, after the 31st guide's Derived/Test/Toyas{Tie, Card}.lean. No idea stands in it: it is a product of the set-up. Laid BY PROGRAM, IN A SANDBOX (cutbox-door.mjs). By AI agents, Wed Nov 11 2026. No macro, syntax, notation, axiom, sorry.
-/
import Derived.Test.YtnhbjgmfbcedaaaDoorRows
import Derived.LaidByTextLater
import Derived.SevenTiedAt
import Derived.LaidSub
import Derived.LaidOnce
namespace Go.Proofs.YtnhbjgmfbcedaaaDoor
open Go
set_option maxRecDepth 100000
theorem seatTie1 : Tryd.prog.laidByTextLater [("errors.errorType", Rows.laid_errors_errorType), ("layercake/api.ErrText", Rows.laid_layercake_api_ErrText), ("layercake/api.ErrBound", Rows.laid_layercake_api_ErrBound), ("layercake/api.ErrShape", Rows.laid_layercake_api_ErrShape), ("layercake/api.ErrSum", Rows.laid_layercake_api_ErrSum), ("layercake/api.ErrName", Rows.laid_layercake_api_ErrName), ("layercake/api.ErrNone", Rows.laid_layercake_api_ErrNone), ("layercake/api.ErrColors", Rows.laid_layercake_api_ErrColors), ("layercake/api.ErrFull", Rows.laid_layercake_api_ErrFull), ("layercake/api.ErrPower", Rows.laid_layercake_api_ErrPower), ("layercake/inflate.Lens", Rows.laid_layercake_inflate_Lens), ("layercake/inflate.LenBits", Rows.laid_layercake_inflate_LenBits), ("layercake/inflate.Dists", Rows.laid_layercake_inflate_Dists), ("layercake/inflate.DistBits", Rows.laid_layercake_inflate_DistBits), ("layercake/inflate.Order", Rows.laid_layercake_inflate_Order)] [.handle, .sentinel, .sentinel, .sentinel, .sentinel, .sentinel, .sentinel, .sentinel, .sentinel, .sentinel, .widerDeep, .data, .widerDeep, .data, .widerDeep] true :=
  Program.laidByTextLater_by_one 212 8 31 (by kernel_rfl) (by kernel_rfl) (by kernel_rfl) (by kernel_rfl) (by kernel_rfl) (by kernel_rfl) (fun _ _ => by kernel_rfl)
theorem noOwnUnsafe : Tryd.pinned.checked.prog.headLifts.contains "ownunsafe" = false := by kernel_rfl
theorem tie : Tryd.prog.laidByTextLater [("layercake/api.ErrText", Rows.laid_layercake_api_ErrText), ("layercake/api.ErrBound", Rows.laid_layercake_api_ErrBound), ("layercake/api.ErrShape", Rows.laid_layercake_api_ErrShape), ("layercake/inflate.Lens", Rows.laid_layercake_inflate_Lens), ("layercake/inflate.LenBits", Rows.laid_layercake_inflate_LenBits), ("layercake/inflate.Dists", Rows.laid_layercake_inflate_Dists), ("layercake/inflate.DistBits", Rows.laid_layercake_inflate_DistBits), ("layercake/inflate.Order", Rows.laid_layercake_inflate_Order)] [.sentinel, .sentinel, .sentinel, .widerDeep, .data, .widerDeep, .data, .widerDeep] true :=
  Program.laidByTextLater.sub seatTie1 ["layercake/api.ErrText", "layercake/api.ErrBound", "layercake/api.ErrShape", "layercake/inflate.Lens", "layercake/inflate.LenBits", "layercake/inflate.Dists", "layercake/inflate.DistBits", "layercake/inflate.Order"] (by kernel_rfl) (by kernel_rfl)
theorem deflateStored_row_tie : Rows.deflateStoredRow.laidByTextAt .later Tryd.pinned [.sentinel, .sentinel, .sentinel, .widerDeep, .data, .widerDeep, .data, .widerDeep] true :=
  OpenClaim.laidByTextAt_later rfl rfl tie noOwnUnsafe
theorem tie2 : Tryd.prog.laidByTextLater [("errors.errorType", Rows.laid_errors_errorType), ("layercake/api.ErrText", Rows.laid_layercake_api_ErrText), ("layercake/api.ErrBound", Rows.laid_layercake_api_ErrBound), ("layercake/api.ErrShape", Rows.laid_layercake_api_ErrShape), ("layercake/api.ErrSum", Rows.laid_layercake_api_ErrSum), ("layercake/api.ErrName", Rows.laid_layercake_api_ErrName), ("layercake/api.ErrNone", Rows.laid_layercake_api_ErrNone), ("layercake/api.ErrColors", Rows.laid_layercake_api_ErrColors), ("layercake/api.ErrFull", Rows.laid_layercake_api_ErrFull), ("layercake/api.ErrPower", Rows.laid_layercake_api_ErrPower), ("layercake/inflate.Lens", Rows.laid_layercake_inflate_Lens), ("layercake/inflate.LenBits", Rows.laid_layercake_inflate_LenBits), ("layercake/inflate.Dists", Rows.laid_layercake_inflate_Dists), ("layercake/inflate.DistBits", Rows.laid_layercake_inflate_DistBits), ("layercake/inflate.Order", Rows.laid_layercake_inflate_Order)] [.handle, .sentinel, .sentinel, .sentinel, .sentinel, .sentinel, .sentinel, .sentinel, .sentinel, .sentinel, .widerDeep, .data, .widerDeep, .data, .widerDeep] true :=
  Program.laidByTextLater.sub seatTie1 ["errors.errorType", "layercake/api.ErrText", "layercake/api.ErrBound", "layercake/api.ErrShape", "layercake/api.ErrSum", "layercake/api.ErrName", "layercake/api.ErrNone", "layercake/api.ErrColors", "layercake/api.ErrFull", "layercake/api.ErrPower", "layercake/inflate.Lens", "layercake/inflate.LenBits", "layercake/inflate.Dists", "layercake/inflate.DistBits", "layercake/inflate.Order"] (by kernel_rfl) (by kernel_rfl)
theorem inflateTells_row_tie : Rows.inflateTellsRow.laidByTextAt .later Tryd.pinned [.handle, .sentinel, .sentinel, .sentinel, .sentinel, .sentinel, .sentinel, .sentinel, .sentinel, .sentinel, .widerDeep, .data, .widerDeep, .data, .widerDeep] true :=
  OpenClaim.laidByTextAt_later rfl rfl tie2 noOwnUnsafe
theorem inflateMost_row_tie : Rows.inflateMostRow.laidByTextAt .later Tryd.pinned [.handle, .sentinel, .sentinel, .sentinel, .sentinel, .sentinel, .sentinel, .sentinel, .sentinel, .sentinel, .widerDeep, .data, .widerDeep, .data, .widerDeep] true :=
  OpenClaim.laidByTextAt_later rfl rfl tie2 noOwnUnsafe
theorem unzipTells_row_tie : Rows.unzipTellsRow.laidByTextAt .later Tryd.pinned [.handle, .sentinel, .sentinel, .sentinel, .sentinel, .sentinel, .sentinel, .sentinel, .sentinel, .sentinel, .widerDeep, .data, .widerDeep, .data, .widerDeep] true :=
  OpenClaim.laidByTextAt_later rfl rfl tie2 noOwnUnsafe
theorem deflateFixed_row_tie : Rows.deflateFixedRow.laidByTextAt .later Tryd.pinned [.handle, .sentinel, .sentinel, .sentinel, .sentinel, .sentinel, .sentinel, .sentinel, .sentinel, .sentinel, .widerDeep, .data, .widerDeep, .data, .widerDeep] true :=
  OpenClaim.laidByTextAt_later rfl rfl tie2 noOwnUnsafe
theorem deflateDynamic_row_tie : Rows.deflateDynamicRow.laidByTextAt .later Tryd.pinned [.handle, .sentinel, .sentinel, .sentinel, .sentinel, .sentinel, .sentinel, .sentinel, .sentinel, .sentinel, .widerDeep, .data, .widerDeep, .data, .widerDeep] true :=
  OpenClaim.laidByTextAt_later rfl rfl tie2 noOwnUnsafe
theorem tie3 : Tryd.prog.laidByTextLater [("layercake/api.ErrBound", Rows.laid_layercake_api_ErrBound), ("layercake/api.ErrShape", Rows.laid_layercake_api_ErrShape), ("layercake/inflate.Lens", Rows.laid_layercake_inflate_Lens), ("layercake/inflate.LenBits", Rows.laid_layercake_inflate_LenBits), ("layercake/inflate.Dists", Rows.laid_layercake_inflate_Dists), ("layercake/inflate.DistBits", Rows.laid_layercake_inflate_DistBits), ("layercake/inflate.Order", Rows.laid_layercake_inflate_Order)] [.sentinel, .sentinel, .widerDeep, .data, .widerDeep, .data, .widerDeep] true :=
  Program.laidByTextLater.sub seatTie1 ["layercake/api.ErrBound", "layercake/api.ErrShape", "layercake/inflate.Lens", "layercake/inflate.LenBits", "layercake/inflate.Dists", "layercake/inflate.DistBits", "layercake/inflate.Order"] (by kernel_rfl) (by kernel_rfl)
theorem deflatePacks_row_tie : Rows.deflatePacksRow.laidByTextAt .later Tryd.pinned [.sentinel, .sentinel, .widerDeep, .data, .widerDeep, .data, .widerDeep] true :=
  OpenClaim.laidByTextAt_later rfl rfl tie3 noOwnUnsafe
theorem tie4 : Tryd.prog.laidByTextLater [("layercake/api.ErrText", Rows.laid_layercake_api_ErrText), ("layercake/api.ErrBound", Rows.laid_layercake_api_ErrBound), ("layercake/api.ErrShape", Rows.laid_layercake_api_ErrShape), ("layercake/api.ErrSum", Rows.laid_layercake_api_ErrSum), ("layercake/inflate.Lens", Rows.laid_layercake_inflate_Lens), ("layercake/inflate.LenBits", Rows.laid_layercake_inflate_LenBits), ("layercake/inflate.Dists", Rows.laid_layercake_inflate_Dists), ("layercake/inflate.DistBits", Rows.laid_layercake_inflate_DistBits), ("layercake/inflate.Order", Rows.laid_layercake_inflate_Order)] [.sentinel, .sentinel, .sentinel, .sentinel, .widerDeep, .data, .widerDeep, .data, .widerDeep] true :=
  Program.laidByTextLater.sub seatTie1 ["layercake/api.ErrText", "layercake/api.ErrBound", "layercake/api.ErrShape", "layercake/api.ErrSum", "layercake/inflate.Lens", "layercake/inflate.LenBits", "layercake/inflate.Dists", "layercake/inflate.DistBits", "layercake/inflate.Order"] (by kernel_rfl) (by kernel_rfl)
theorem deflateTwice_row_tie : Rows.deflateTwiceRow.laidByTextAt .later Tryd.pinned [.sentinel, .sentinel, .sentinel, .sentinel, .widerDeep, .data, .widerDeep, .data, .widerDeep] true :=
  OpenClaim.laidByTextAt_later rfl rfl tie4 noOwnUnsafe
theorem deflateStoredUpto_row_tie : Rows.deflateStoredUptoRow.laidByTextAt .later Tryd.pinned [.sentinel, .sentinel, .sentinel, .widerDeep, .data, .widerDeep, .data, .widerDeep] true :=
  OpenClaim.laidByTextAt_later rfl rfl tie noOwnUnsafe
theorem inflateTellsUpto_row_tie : Rows.inflateTellsUptoRow.laidByTextAt .later Tryd.pinned [.handle, .sentinel, .sentinel, .sentinel, .sentinel, .sentinel, .sentinel, .sentinel, .sentinel, .sentinel, .widerDeep, .data, .widerDeep, .data, .widerDeep] true :=
  OpenClaim.laidByTextAt_later rfl rfl tie2 noOwnUnsafe
theorem inflateMostUpto_row_tie : Rows.inflateMostUptoRow.laidByTextAt .later Tryd.pinned [.handle, .sentinel, .sentinel, .sentinel, .sentinel, .sentinel, .sentinel, .sentinel, .sentinel, .sentinel, .widerDeep, .data, .widerDeep, .data, .widerDeep] true :=
  OpenClaim.laidByTextAt_later rfl rfl tie2 noOwnUnsafe
theorem unzipTellsUpto_row_tie : Rows.unzipTellsUptoRow.laidByTextAt .later Tryd.pinned [.handle, .sentinel, .sentinel, .sentinel, .sentinel, .sentinel, .sentinel, .sentinel, .sentinel, .sentinel, .widerDeep, .data, .widerDeep, .data, .widerDeep] true :=
  OpenClaim.laidByTextAt_later rfl rfl tie2 noOwnUnsafe
theorem deflatePacksUpto_row_tie : Rows.deflatePacksUptoRow.laidByTextAt .later Tryd.pinned [.sentinel, .sentinel, .widerDeep, .data, .widerDeep, .data, .widerDeep] true :=
  OpenClaim.laidByTextAt_later rfl rfl tie3 noOwnUnsafe
theorem deflateFixedUpto_row_tie : Rows.deflateFixedUptoRow.laidByTextAt .later Tryd.pinned [.handle, .sentinel, .sentinel, .sentinel, .sentinel, .sentinel, .sentinel, .sentinel, .sentinel, .sentinel, .widerDeep, .data, .widerDeep, .data, .widerDeep] true :=
  OpenClaim.laidByTextAt_later rfl rfl tie2 noOwnUnsafe
theorem deflateDynamicUpto_row_tie : Rows.deflateDynamicUptoRow.laidByTextAt .later Tryd.pinned [.handle, .sentinel, .sentinel, .sentinel, .sentinel, .sentinel, .sentinel, .sentinel, .sentinel, .sentinel, .widerDeep, .data, .widerDeep, .data, .widerDeep] true :=
  OpenClaim.laidByTextAt_later rfl rfl tie2 noOwnUnsafe
theorem deflateTwiceUpto_row_tie : Rows.deflateTwiceUptoRow.laidByTextAt .later Tryd.pinned [.sentinel, .sentinel, .sentinel, .sentinel, .widerDeep, .data, .widerDeep, .data, .widerDeep] true :=
  OpenClaim.laidByTextAt_later rfl rfl tie4 noOwnUnsafe
end Go.Proofs.YtnhbjgmfbcedaaaDoor
