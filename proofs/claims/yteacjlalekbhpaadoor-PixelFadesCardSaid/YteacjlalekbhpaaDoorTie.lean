/-
  DERIVED. GIVEN WITH THE SEED: THE PROGRAM's TIES (one call each: nine closed facts by the kernel) AND EACH ROW's TIE, after the 31st guide's Derived/Test/Toyas{Tie, Card}.lean. No idea stands in it: it is a product of the set-up. Laid BY PROGRAM, IN A SANDBOX (cutbox-door.mjs). By AI agents, Wed Nov 11 2026. No macro, syntax, notation, axiom, sorry.
-/
import Derived.Test.YteacjlalekbhpaaDoorRows
import Derived.LaidByTextLater
import Derived.SevenTiedAt
import Derived.LaidSub
import Derived.LaidOnce
namespace Go.Proofs.YteacjlalekbhpaaDoor
open Go
set_option maxRecDepth 100000
theorem seatTie1 : Tryd.prog.laidByTextLater [("math/bits.deBruijn32tab", Rows.laid_math_bits_deBruijn32tab), ("math/bits.deBruijn64tab", Rows.laid_math_bits_deBruijn64tab), ("internal/strconv.uint64pow10", Rows.laid_internal_strconv_uint64pow10), ("errors.errorType", Rows.laid_errors_errorType), ("layercake/api.ErrText", Rows.laid_layercake_api_ErrText), ("layercake/api.ErrBound", Rows.laid_layercake_api_ErrBound), ("layercake/api.ErrShape", Rows.laid_layercake_api_ErrShape), ("layercake/api.ErrSum", Rows.laid_layercake_api_ErrSum), ("layercake/api.ErrName", Rows.laid_layercake_api_ErrName), ("layercake/api.ErrNone", Rows.laid_layercake_api_ErrNone), ("layercake/api.ErrColors", Rows.laid_layercake_api_ErrColors), ("layercake/api.ErrFull", Rows.laid_layercake_api_ErrFull), ("layercake/api.ErrPower", Rows.laid_layercake_api_ErrPower), ("strconv.ErrRange", Rows.laid_strconv_ErrRange), ("strconv.ErrSyntax", Rows.laid_strconv_ErrSyntax)] [.data, .data, .data, .handle, .sentinel, .sentinel, .sentinel, .sentinel, .sentinel, .sentinel, .sentinel, .sentinel, .sentinel, .sentinel, .sentinel] true :=
  Program.laidByTextLater_by_one 240 8 65 (by kernel_rfl) (by kernel_rfl) (by kernel_rfl) (by kernel_rfl) (by kernel_rfl) (by kernel_rfl) (fun _ _ => by kernel_rfl)
theorem noOwnUnsafe : Tryd.pinned.checked.prog.headLifts.contains "ownunsafe" = false := by kernel_rfl
theorem tie : Tryd.prog.laidByTextLater [("layercake/api.ErrBound", Rows.laid_layercake_api_ErrBound)] [.sentinel] true :=
  Program.laidByTextLater.sub seatTie1 ["layercake/api.ErrBound"] (by kernel_rfl) (by kernel_rfl)
theorem sumAdds_row_tie : Rows.sumAddsRow.laidByTextAt .later Tryd.pinned [.sentinel] true :=
  OpenClaim.laidByTextAt_later rfl rfl tie noOwnUnsafe
theorem pixelStill_row_tie : Rows.pixelStillRow.laidByTextAt .later Tryd.pinned [.sentinel] true :=
  OpenClaim.laidByTextAt_later rfl rfl tie noOwnUnsafe
theorem pixelCovers_row_tie : Rows.pixelCoversRow.laidByTextAt .later Tryd.pinned [.sentinel] true :=
  OpenClaim.laidByTextAt_later rfl rfl tie noOwnUnsafe
theorem tie2 : Tryd.prog.laidByTextLater [("errors.errorType", Rows.laid_errors_errorType), ("layercake/api.ErrText", Rows.laid_layercake_api_ErrText), ("layercake/api.ErrBound", Rows.laid_layercake_api_ErrBound), ("layercake/api.ErrShape", Rows.laid_layercake_api_ErrShape), ("layercake/api.ErrSum", Rows.laid_layercake_api_ErrSum), ("layercake/api.ErrName", Rows.laid_layercake_api_ErrName), ("layercake/api.ErrNone", Rows.laid_layercake_api_ErrNone), ("layercake/api.ErrColors", Rows.laid_layercake_api_ErrColors), ("layercake/api.ErrFull", Rows.laid_layercake_api_ErrFull), ("layercake/api.ErrPower", Rows.laid_layercake_api_ErrPower)] [.handle, .sentinel, .sentinel, .sentinel, .sentinel, .sentinel, .sentinel, .sentinel, .sentinel, .sentinel] true :=
  Program.laidByTextLater.sub seatTie1 ["errors.errorType", "layercake/api.ErrText", "layercake/api.ErrBound", "layercake/api.ErrShape", "layercake/api.ErrSum", "layercake/api.ErrName", "layercake/api.ErrNone", "layercake/api.ErrColors", "layercake/api.ErrFull", "layercake/api.ErrPower"] (by kernel_rfl) (by kernel_rfl)
theorem sumJoins_row_tie : Rows.sumJoinsRow.laidByTextAt .later Tryd.pinned [.handle, .sentinel, .sentinel, .sentinel, .sentinel, .sentinel, .sentinel, .sentinel, .sentinel, .sentinel] true :=
  OpenClaim.laidByTextAt_later rfl rfl tie2 noOwnUnsafe
theorem pixelOver_row_tie : Rows.pixelOverRow.laidByTextAt .later Tryd.pinned [.handle, .sentinel, .sentinel, .sentinel, .sentinel, .sentinel, .sentinel, .sentinel, .sentinel, .sentinel] true :=
  OpenClaim.laidByTextAt_later rfl rfl tie2 noOwnUnsafe
theorem tie3 : Tryd.prog.laidByTextLater [("math/bits.deBruijn32tab", Rows.laid_math_bits_deBruijn32tab), ("math/bits.deBruijn64tab", Rows.laid_math_bits_deBruijn64tab), ("internal/strconv.uint64pow10", Rows.laid_internal_strconv_uint64pow10), ("errors.errorType", Rows.laid_errors_errorType), ("layercake/api.ErrText", Rows.laid_layercake_api_ErrText), ("layercake/api.ErrBound", Rows.laid_layercake_api_ErrBound), ("layercake/api.ErrShape", Rows.laid_layercake_api_ErrShape), ("layercake/api.ErrSum", Rows.laid_layercake_api_ErrSum), ("layercake/api.ErrName", Rows.laid_layercake_api_ErrName), ("layercake/api.ErrNone", Rows.laid_layercake_api_ErrNone), ("layercake/api.ErrColors", Rows.laid_layercake_api_ErrColors), ("layercake/api.ErrFull", Rows.laid_layercake_api_ErrFull), ("layercake/api.ErrPower", Rows.laid_layercake_api_ErrPower), ("strconv.ErrRange", Rows.laid_strconv_ErrRange), ("strconv.ErrSyntax", Rows.laid_strconv_ErrSyntax)] [.data, .data, .data, .handle, .sentinel, .sentinel, .sentinel, .sentinel, .sentinel, .sentinel, .sentinel, .sentinel, .sentinel, .sentinel, .sentinel] true :=
  Program.laidByTextLater.sub seatTie1 ["math/bits.deBruijn32tab", "math/bits.deBruijn64tab", "internal/strconv.uint64pow10", "errors.errorType", "layercake/api.ErrText", "layercake/api.ErrBound", "layercake/api.ErrShape", "layercake/api.ErrSum", "layercake/api.ErrName", "layercake/api.ErrNone", "layercake/api.ErrColors", "layercake/api.ErrFull", "layercake/api.ErrPower", "strconv.ErrRange", "strconv.ErrSyntax"] (by kernel_rfl) (by kernel_rfl)
theorem pixelFades_row_tie : Rows.pixelFadesRow.laidByTextAt .later Tryd.pinned [.data, .data, .data, .handle, .sentinel, .sentinel, .sentinel, .sentinel, .sentinel, .sentinel, .sentinel, .sentinel, .sentinel, .sentinel, .sentinel] true :=
  OpenClaim.laidByTextAt_later rfl rfl tie3 noOwnUnsafe
theorem sumAddsUpto_row_tie : Rows.sumAddsUptoRow.laidByTextAt .later Tryd.pinned [.sentinel] true :=
  OpenClaim.laidByTextAt_later rfl rfl tie noOwnUnsafe
theorem sumJoinsUpto_row_tie : Rows.sumJoinsUptoRow.laidByTextAt .later Tryd.pinned [.handle, .sentinel, .sentinel, .sentinel, .sentinel, .sentinel, .sentinel, .sentinel, .sentinel, .sentinel] true :=
  OpenClaim.laidByTextAt_later rfl rfl tie2 noOwnUnsafe
theorem pixelStillUpto_row_tie : Rows.pixelStillUptoRow.laidByTextAt .later Tryd.pinned [.sentinel] true :=
  OpenClaim.laidByTextAt_later rfl rfl tie noOwnUnsafe
theorem pixelCoversUpto_row_tie : Rows.pixelCoversUptoRow.laidByTextAt .later Tryd.pinned [.sentinel] true :=
  OpenClaim.laidByTextAt_later rfl rfl tie noOwnUnsafe
theorem pixelOverUpto_row_tie : Rows.pixelOverUptoRow.laidByTextAt .later Tryd.pinned [.handle, .sentinel, .sentinel, .sentinel, .sentinel, .sentinel, .sentinel, .sentinel, .sentinel, .sentinel] true :=
  OpenClaim.laidByTextAt_later rfl rfl tie2 noOwnUnsafe
theorem pixelFadesUpto_row_tie : Rows.pixelFadesUptoRow.laidByTextAt .later Tryd.pinned [.data, .data, .data, .handle, .sentinel, .sentinel, .sentinel, .sentinel, .sentinel, .sentinel, .sentinel, .sentinel, .sentinel, .sentinel, .sentinel] true :=
  OpenClaim.laidByTextAt_later rfl rfl tie3 noOwnUnsafe
end Go.Proofs.YteacjlalekbhpaaDoor
