/-
  NARROWER THAN 'FOR EVERY INPUT', by the rows' own cells (each row's printed sentence says how): SumAdds: laid · SumJoins: laid · PixelStill: laid · PixelCovers: laid · PixelOver: laid · PixelFades: laid.
  DERIVED. THE GIVEN ROWS OF THIS SEAT. 6 by the template 'for every input the law returns true; each argument reads behind the call as it read before'; 0 by the template 'total and deterministic' (their statements: YteacjlalekbhpaaDoorTotals.lean).
  GIVEN WITH THE SEED: the statements are not yours to turn. If you find one false, say at which input.
  Laid BY PROGRAM, IN A SANDBOX (cutbox-rows.mjs): the forced cells as the released guide's own fill.sh prints them over the translation 6f9427f4ea13bf91… (all of the seat's roots in one cut). By AI agents, Wed Nov 11 2026. No macro, syntax, notation, axiom, sorry.
-/
import Derived.Test.YteacjlalekbhpaaDoorChecked
import GoSem.Claim
import GoSem.ClaimJoined
import GoSem.ClaimMapViews
import Derived.JoinedTies
import Derived.KernelRfl
namespace Go.Proofs.YteacjlalekbhpaaDoor
/- THE CELL 'sum', in the pinned program and in every row, IS THE sha256 OF THE DUMP (.gsa) THAT YteacjlalekbhpaaDoorProg.lean LOADS. Nothing in Lean hashes anything: it is a label: what it is worth is what the hold of that sum in a sandbox is worth. -/
noncomputable def Tryd.pinned : Pinned := { name := "yteacjlalekbhpaadoor", sum := "6f9427f4ea13bf9169b5ef136a1e9d09a7d61811085926d18018acb3ee4e925d", checked := Tryd.checked }
namespace Rows
def none {H : Type} : Left H := { results := [], args := [] }

/- WHAT THE LISTED PACKAGE-LEVEL VARIABLES READ AS WHEN THE CALL BEGINS. Each datum BY PROGRAM (the guide's laid-datum.mjs) off the statement by which the dump's own 'gosem.cut.vars' lays the variable. In a bare row this is a premise. The card (YteacjlalekbhpaaDoorCards.lean) ties it to the program's text. -/
def laid_layercake_api_ErrBound {H : Type} : DataW H := .iface "*errors.errorString" (.ptr (.agg [.lit (.string [108, 97, 121, 101, 114, 99, 97, 107, 101, 58, 32, 98, 111, 117, 110, 100])]))
def laid_errors_errorType {H : Type} : DataW H := .iface "internal/reflectlite.rtype" (.agg [.ptr (.lit (.string [101, 114, 114, 111, 114]))])
def laid_layercake_api_ErrText {H : Type} : DataW H := .iface "*errors.errorString" (.ptr (.agg [.lit (.string [108, 97, 121, 101, 114, 99, 97, 107, 101, 58, 32, 116, 101, 120, 116])]))
def laid_layercake_api_ErrShape {H : Type} : DataW H := .iface "*errors.errorString" (.ptr (.agg [.lit (.string [108, 97, 121, 101, 114, 99, 97, 107, 101, 58, 32, 115, 104, 97, 112, 101])]))
def laid_layercake_api_ErrSum {H : Type} : DataW H := .iface "*errors.errorString" (.ptr (.agg [.lit (.string [108, 97, 121, 101, 114, 99, 97, 107, 101, 58, 32, 115, 117, 109])]))
def laid_layercake_api_ErrName {H : Type} : DataW H := .iface "*errors.errorString" (.ptr (.agg [.lit (.string [108, 97, 121, 101, 114, 99, 97, 107, 101, 58, 32, 110, 97, 109, 101])]))
def laid_layercake_api_ErrNone {H : Type} : DataW H := .iface "*errors.errorString" (.ptr (.agg [.lit (.string [108, 97, 121, 101, 114, 99, 97, 107, 101, 58, 32, 110, 111, 110, 101])]))
def laid_layercake_api_ErrColors {H : Type} : DataW H := .iface "*errors.errorString" (.ptr (.agg [.lit (.string [108, 97, 121, 101, 114, 99, 97, 107, 101, 58, 32, 99, 111, 108, 111, 114, 115])]))
def laid_layercake_api_ErrFull {H : Type} : DataW H := .iface "*errors.errorString" (.ptr (.agg [.lit (.string [108, 97, 121, 101, 114, 99, 97, 107, 101, 58, 32, 102, 117, 108, 108])]))
def laid_layercake_api_ErrPower {H : Type} : DataW H := .iface "*errors.errorString" (.ptr (.agg [.lit (.string [108, 97, 121, 101, 114, 99, 97, 107, 101, 58, 32, 112, 111, 119, 101, 114])]))
def laid_math_bits_deBruijn32tab {H : Type} : DataW H := .agg [.lit (.int .u8 0), .lit (.int .u8 1), .lit (.int .u8 28), .lit (.int .u8 2), .lit (.int .u8 29), .lit (.int .u8 14), .lit (.int .u8 24), .lit (.int .u8 3), .lit (.int .u8 30), .lit (.int .u8 22), .lit (.int .u8 20), .lit (.int .u8 15), .lit (.int .u8 25), .lit (.int .u8 17), .lit (.int .u8 4), .lit (.int .u8 8), .lit (.int .u8 31), .lit (.int .u8 27), .lit (.int .u8 13), .lit (.int .u8 23), .lit (.int .u8 21), .lit (.int .u8 19), .lit (.int .u8 16), .lit (.int .u8 7), .lit (.int .u8 26), .lit (.int .u8 12), .lit (.int .u8 18), .lit (.int .u8 6), .lit (.int .u8 11), .lit (.int .u8 5), .lit (.int .u8 10), .lit (.int .u8 9)]
def laid_math_bits_deBruijn64tab {H : Type} : DataW H := .agg [.lit (.int .u8 0), .lit (.int .u8 1), .lit (.int .u8 56), .lit (.int .u8 2), .lit (.int .u8 57), .lit (.int .u8 49), .lit (.int .u8 28), .lit (.int .u8 3), .lit (.int .u8 61), .lit (.int .u8 58), .lit (.int .u8 42), .lit (.int .u8 50), .lit (.int .u8 38), .lit (.int .u8 29), .lit (.int .u8 17), .lit (.int .u8 4), .lit (.int .u8 62), .lit (.int .u8 47), .lit (.int .u8 59), .lit (.int .u8 36), .lit (.int .u8 45), .lit (.int .u8 43), .lit (.int .u8 51), .lit (.int .u8 22), .lit (.int .u8 53), .lit (.int .u8 39), .lit (.int .u8 33), .lit (.int .u8 30), .lit (.int .u8 24), .lit (.int .u8 18), .lit (.int .u8 12), .lit (.int .u8 5), .lit (.int .u8 63), .lit (.int .u8 55), .lit (.int .u8 48), .lit (.int .u8 27), .lit (.int .u8 60), .lit (.int .u8 41), .lit (.int .u8 37), .lit (.int .u8 16), .lit (.int .u8 46), .lit (.int .u8 35), .lit (.int .u8 44), .lit (.int .u8 21), .lit (.int .u8 52), .lit (.int .u8 32), .lit (.int .u8 23), .lit (.int .u8 11), .lit (.int .u8 54), .lit (.int .u8 26), .lit (.int .u8 40), .lit (.int .u8 15), .lit (.int .u8 34), .lit (.int .u8 20), .lit (.int .u8 31), .lit (.int .u8 10), .lit (.int .u8 25), .lit (.int .u8 14), .lit (.int .u8 19), .lit (.int .u8 9), .lit (.int .u8 13), .lit (.int .u8 8), .lit (.int .u8 7), .lit (.int .u8 6)]
def laid_internal_strconv_uint64pow10 {H : Type} : DataW H := .agg [.lit (.int .u64 1), .lit (.int .u64 10), .lit (.int .u64 100), .lit (.int .u64 1000), .lit (.int .u64 10000), .lit (.int .u64 100000), .lit (.int .u64 1000000), .lit (.int .u64 10000000), .lit (.int .u64 100000000), .lit (.int .u64 1000000000), .lit (.int .u64 10000000000), .lit (.int .u64 100000000000), .lit (.int .u64 1000000000000), .lit (.int .u64 10000000000000), .lit (.int .u64 100000000000000), .lit (.int .u64 1000000000000000), .lit (.int .u64 10000000000000000), .lit (.int .u64 100000000000000000), .lit (.int .u64 1000000000000000000), .lit (.int .u64 10000000000000000000)]
def laid_strconv_ErrRange {H : Type} : DataW H := .iface "*errors.errorString" (.ptr (.agg [.lit (.string [118, 97, 108, 117, 101, 32, 111, 117, 116, 32, 111, 102, 32, 114, 97, 110, 103, 101])]))
def laid_strconv_ErrSyntax {H : Type} : DataW H := .iface "*errors.errorString" (.ptr (.agg [.lit (.string [105, 110, 118, 97, 108, 105, 100, 32, 115, 121, 110, 116, 97, 120])]))

/-- 'layercakelaw1.SumAdds': WHATEVER THE INPUT: true; the input reads as it did. -/
def sumAddsSpec : ChangeSpec := { name := "sumAdds", fn := fun _ => fun
  | [d1, d2, d3, d4, d5] => { results := [.lit (.bool true)], args := [d1, d2, d3, d4, d5] }
  | _ => none }
def sumAddsRow : OpenClaim := { program := "yteacjlalekbhpaadoor", sum := "6f9427f4ea13bf9169b5ef136a1e9d09a7d61811085926d18018acb3ee4e925d", func := "layercake/layercakelaw1.SumAdds", spec := "sumAdds", named := ["layercake/api.ErrBound"], apart := false, laid := [("layercake/api.ErrBound", laid_layercake_api_ErrBound)] }
def SumAddsSaid : Prop := sumAddsRow.holds Tryd.pinned (OpenSpec.ofChange sumAddsSpec)

/-- ITS FALSE NEIGHBOUR: 'it returns false'. Refute it at one input. -/
def sumAddsWrong : ChangeSpec := { name := "sumAdds", fn := fun _ => fun
  | [d1, d2, d3, d4, d5] => { results := [.lit (.bool false)], args := [d1, d2, d3, d4, d5] }
  | _ => none }
def SumAddsWrongFalsely : Prop := sumAddsRow.holds Tryd.pinned (OpenSpec.ofChange sumAddsWrong)

/-- 'layercakelaw1.SumJoins': WHATEVER THE INPUT: true; the input reads as it did. -/
def sumJoinsSpec : ChangeSpec := { name := "sumJoins", fn := fun _ => fun
  | [d1, d2, d3, d4, d5] => { results := [.lit (.bool true)], args := [d1, d2, d3, d4, d5] }
  | _ => none }
def sumJoinsRow : OpenClaim := { program := "yteacjlalekbhpaadoor", sum := "6f9427f4ea13bf9169b5ef136a1e9d09a7d61811085926d18018acb3ee4e925d", func := "layercake/layercakelaw1.SumJoins", spec := "sumJoins", inPlace := ["internal/reflectlite.ValueOf", "(internal/reflectlite.Value).Type", "(internal/reflectlite.Value).IsNil", "internal/reflectlite.TypeOf", "(internal/reflectlite.Value).Elem", "(internal/reflectlite.Value).Set"], unfollowed := true, recurses := true, named := ["layercake/api.ErrBound", "layercake/api.ErrText", "layercake/api.ErrShape", "layercake/api.ErrSum", "layercake/api.ErrName", "layercake/api.ErrNone", "layercake/api.ErrColors", "layercake/api.ErrFull", "layercake/api.ErrPower", "errors.errorType"], apart := false, laid := [("errors.errorType", laid_errors_errorType), ("layercake/api.ErrText", laid_layercake_api_ErrText), ("layercake/api.ErrBound", laid_layercake_api_ErrBound), ("layercake/api.ErrShape", laid_layercake_api_ErrShape), ("layercake/api.ErrSum", laid_layercake_api_ErrSum), ("layercake/api.ErrName", laid_layercake_api_ErrName), ("layercake/api.ErrNone", laid_layercake_api_ErrNone), ("layercake/api.ErrColors", laid_layercake_api_ErrColors), ("layercake/api.ErrFull", laid_layercake_api_ErrFull), ("layercake/api.ErrPower", laid_layercake_api_ErrPower)] }
def SumJoinsSaid : Prop := sumJoinsRow.holds Tryd.pinned (OpenSpec.ofChange sumJoinsSpec)

/-- ITS FALSE NEIGHBOUR: 'it returns false'. Refute it at one input. -/
def sumJoinsWrong : ChangeSpec := { name := "sumJoins", fn := fun _ => fun
  | [d1, d2, d3, d4, d5] => { results := [.lit (.bool false)], args := [d1, d2, d3, d4, d5] }
  | _ => none }
def SumJoinsWrongFalsely : Prop := sumJoinsRow.holds Tryd.pinned (OpenSpec.ofChange sumJoinsWrong)

/-- 'layercakelaw2.PixelStill': WHATEVER THE INPUT: true; the input reads as it did. -/
def pixelStillSpec : ChangeSpec := { name := "pixelStill", fn := fun _ => fun
  | [d1, d2, d3] => { results := [.lit (.bool true)], args := [d1, d2, d3] }
  | _ => none }
def pixelStillRow : OpenClaim := { program := "yteacjlalekbhpaadoor", sum := "6f9427f4ea13bf9169b5ef136a1e9d09a7d61811085926d18018acb3ee4e925d", func := "layercake/layercakelaw2.PixelStill", spec := "pixelStill", unfollowed := true, recurses := true, named := ["layercake/api.ErrBound"], apart := false, laid := [("layercake/api.ErrBound", laid_layercake_api_ErrBound)] }
def PixelStillSaid : Prop := pixelStillRow.holds Tryd.pinned (OpenSpec.ofChange pixelStillSpec)

/-- ITS FALSE NEIGHBOUR: 'it returns false'. Refute it at one input. -/
def pixelStillWrong : ChangeSpec := { name := "pixelStill", fn := fun _ => fun
  | [d1, d2, d3] => { results := [.lit (.bool false)], args := [d1, d2, d3] }
  | _ => none }
def PixelStillWrongFalsely : Prop := pixelStillRow.holds Tryd.pinned (OpenSpec.ofChange pixelStillWrong)

/-- 'layercakelaw2.PixelCovers': WHATEVER THE INPUT: true; the input reads as it did. -/
def pixelCoversSpec : ChangeSpec := { name := "pixelCovers", fn := fun _ => fun
  | [d1, d2, d3, d4] => { results := [.lit (.bool true)], args := [d1, d2, d3, d4] }
  | _ => none }
def pixelCoversRow : OpenClaim := { program := "yteacjlalekbhpaadoor", sum := "6f9427f4ea13bf9169b5ef136a1e9d09a7d61811085926d18018acb3ee4e925d", func := "layercake/layercakelaw2.PixelCovers", spec := "pixelCovers", unfollowed := true, recurses := true, named := ["layercake/api.ErrBound"], apart := false, laid := [("layercake/api.ErrBound", laid_layercake_api_ErrBound)] }
def PixelCoversSaid : Prop := pixelCoversRow.holds Tryd.pinned (OpenSpec.ofChange pixelCoversSpec)

/-- ITS FALSE NEIGHBOUR: 'it returns false'. Refute it at one input. -/
def pixelCoversWrong : ChangeSpec := { name := "pixelCovers", fn := fun _ => fun
  | [d1, d2, d3, d4] => { results := [.lit (.bool false)], args := [d1, d2, d3, d4] }
  | _ => none }
def PixelCoversWrongFalsely : Prop := pixelCoversRow.holds Tryd.pinned (OpenSpec.ofChange pixelCoversWrong)

/-- 'layercakelaw2.PixelOver': WHATEVER THE INPUT: true; the input reads as it did. -/
def pixelOverSpec : ChangeSpec := { name := "pixelOver", fn := fun _ => fun
  | [d1, d2, d3] => { results := [.lit (.bool true)], args := [d1, d2, d3] }
  | _ => none }
def pixelOverRow : OpenClaim := { program := "yteacjlalekbhpaadoor", sum := "6f9427f4ea13bf9169b5ef136a1e9d09a7d61811085926d18018acb3ee4e925d", func := "layercake/layercakelaw2.PixelOver", spec := "pixelOver", inPlace := ["internal/reflectlite.ValueOf", "(internal/reflectlite.Value).Type", "(internal/reflectlite.Value).IsNil", "internal/reflectlite.TypeOf", "(internal/reflectlite.Value).Elem", "(internal/reflectlite.Value).Set"], unfollowed := true, recurses := true, named := ["layercake/api.ErrBound", "layercake/api.ErrText", "layercake/api.ErrShape", "layercake/api.ErrSum", "layercake/api.ErrName", "layercake/api.ErrNone", "layercake/api.ErrColors", "layercake/api.ErrFull", "layercake/api.ErrPower", "errors.errorType"], apart := false, laid := [("errors.errorType", laid_errors_errorType), ("layercake/api.ErrText", laid_layercake_api_ErrText), ("layercake/api.ErrBound", laid_layercake_api_ErrBound), ("layercake/api.ErrShape", laid_layercake_api_ErrShape), ("layercake/api.ErrSum", laid_layercake_api_ErrSum), ("layercake/api.ErrName", laid_layercake_api_ErrName), ("layercake/api.ErrNone", laid_layercake_api_ErrNone), ("layercake/api.ErrColors", laid_layercake_api_ErrColors), ("layercake/api.ErrFull", laid_layercake_api_ErrFull), ("layercake/api.ErrPower", laid_layercake_api_ErrPower)] }
def PixelOverSaid : Prop := pixelOverRow.holds Tryd.pinned (OpenSpec.ofChange pixelOverSpec)

/-- ITS FALSE NEIGHBOUR: 'it returns false'. Refute it at one input. -/
def pixelOverWrong : ChangeSpec := { name := "pixelOver", fn := fun _ => fun
  | [d1, d2, d3] => { results := [.lit (.bool false)], args := [d1, d2, d3] }
  | _ => none }
def PixelOverWrongFalsely : Prop := pixelOverRow.holds Tryd.pinned (OpenSpec.ofChange pixelOverWrong)

/-- 'layercakelaw2.PixelFades': WHATEVER THE INPUT: true; the input reads as it did. -/
def pixelFadesSpec : ChangeSpec := { name := "pixelFades", fn := fun _ => fun
  | [d1, d2, d3, d4] => { results := [.lit (.bool true)], args := [d1, d2, d3, d4] }
  | _ => none }
def pixelFadesRow : OpenClaim := { program := "yteacjlalekbhpaadoor", sum := "6f9427f4ea13bf9169b5ef136a1e9d09a7d61811085926d18018acb3ee4e925d", func := "layercake/layercakelaw2.PixelFades", spec := "pixelFades", inPlace := ["internal/reflectlite.ValueOf", "(internal/reflectlite.Value).Type", "(internal/reflectlite.Value).IsNil", "internal/reflectlite.TypeOf", "(internal/reflectlite.Value).Elem", "(internal/reflectlite.Value).Set"], unfollowed := true, recurses := true, named := ["layercake/api.ErrBound", "layercake/api.ErrText", "layercake/api.ErrShape", "layercake/api.ErrSum", "layercake/api.ErrName", "layercake/api.ErrNone", "layercake/api.ErrColors", "layercake/api.ErrFull", "layercake/api.ErrPower", "errors.errorType", "strconv.ErrSyntax", "strconv.ErrRange", "internal/strconv.uint64pow10", "math/bits.deBruijn32tab", "math/bits.deBruijn64tab"], apart := false, laid := [("math/bits.deBruijn32tab", laid_math_bits_deBruijn32tab), ("math/bits.deBruijn64tab", laid_math_bits_deBruijn64tab), ("internal/strconv.uint64pow10", laid_internal_strconv_uint64pow10), ("errors.errorType", laid_errors_errorType), ("layercake/api.ErrText", laid_layercake_api_ErrText), ("layercake/api.ErrBound", laid_layercake_api_ErrBound), ("layercake/api.ErrShape", laid_layercake_api_ErrShape), ("layercake/api.ErrSum", laid_layercake_api_ErrSum), ("layercake/api.ErrName", laid_layercake_api_ErrName), ("layercake/api.ErrNone", laid_layercake_api_ErrNone), ("layercake/api.ErrColors", laid_layercake_api_ErrColors), ("layercake/api.ErrFull", laid_layercake_api_ErrFull), ("layercake/api.ErrPower", laid_layercake_api_ErrPower), ("strconv.ErrRange", laid_strconv_ErrRange), ("strconv.ErrSyntax", laid_strconv_ErrSyntax)] }
def PixelFadesSaid : Prop := pixelFadesRow.holds Tryd.pinned (OpenSpec.ofChange pixelFadesSpec)

/-- ITS FALSE NEIGHBOUR: 'it returns false'. Refute it at one input. -/
def pixelFadesWrong : ChangeSpec := { name := "pixelFades", fn := fun _ => fun
  | [d1, d2, d3, d4] => { results := [.lit (.bool false)], args := [d1, d2, d3, d4] }
  | _ => none }
def PixelFadesWrongFalsely : Prop := pixelFadesRow.holds Tryd.pinned (OpenSpec.ofChange pixelFadesWrong)

/- THE SECOND FORM. 'bulk': how many values and letters a reading holds, each counted each time it is reached (what is shared counts as often as it is met; a slice's spare places count too). A statement '..UptoSaid' is the law's where the arguments, and the package variables that the reading takes, are together of bulk at most 1048576: NARROWER than '..Said'. Prove '..Said' where nothing that the law and all that it calls make is longer than what came in: it says more and counts as full. Else prove '..UptoSaid'. A law counts once. -/
mutual
def uptoBulk {H : Type} : DataW H → Nat
  | .lit (.string bytes) => bytes.length + 1
  | .lit _ => 1
  | .nil => 1
  | .ptr d => uptoBulk d + 1
  | .slice elems spare => uptoBulkAll elems + uptoBulkAll spare + 1
  | .agg parts => uptoBulkAll parts + 1
  | .iface _ d => uptoBulk d + 1
  | .map entries => uptoBulkEntries entries + 1
  | .held _ => 1
def uptoBulkAll {H : Type} : List (DataW H) → Nat
  | [] => 0
  | d :: r => uptoBulk d + uptoBulkAll r
def uptoBulkEntries {H : Type} : List (Lit × DataW H) → Nat
  | [] => 0
  | x :: r => uptoBulkEntry x + uptoBulkEntries r
def uptoBulkEntry {H : Type} : Lit × DataW H → Nat
  | (.string bytes, d) => bytes.length + uptoBulk d + 1
  | (_, d) => uptoBulk d + 1
 end
def uptoSmall : (H : Type) → List (DataW H) → Bool := fun _ ds => decide (uptoBulkAll ds ≤ 1048576)
def OpenSpec.upto (s : _root_.Go.ChangeSpec) : _root_.Go.OpenSpec := { _root_.Go.OpenSpec.ofChange s with cond := some uptoSmall }

/-- 'layercakelaw1.SumAdds', WHERE WHAT IT READS IS OF BULK AT MOST 1048576: true; the input reads as it did. -/
def sumAddsUptoRow : OpenClaim := { program := "yteacjlalekbhpaadoor", sum := "6f9427f4ea13bf9169b5ef136a1e9d09a7d61811085926d18018acb3ee4e925d", func := "layercake/layercakelaw1.SumAdds", spec := "sumAdds", named := ["layercake/api.ErrBound"], apart := false, laid := [("layercake/api.ErrBound", laid_layercake_api_ErrBound)], narrowed := true }
def SumAddsUptoSaid : Prop := sumAddsUptoRow.holds Tryd.pinned (OpenSpec.upto sumAddsSpec)

/-- 'layercakelaw1.SumJoins', WHERE WHAT IT READS IS OF BULK AT MOST 1048576: true; the input reads as it did. -/
def sumJoinsUptoRow : OpenClaim := { program := "yteacjlalekbhpaadoor", sum := "6f9427f4ea13bf9169b5ef136a1e9d09a7d61811085926d18018acb3ee4e925d", func := "layercake/layercakelaw1.SumJoins", spec := "sumJoins", inPlace := ["internal/reflectlite.ValueOf", "(internal/reflectlite.Value).Type", "(internal/reflectlite.Value).IsNil", "internal/reflectlite.TypeOf", "(internal/reflectlite.Value).Elem", "(internal/reflectlite.Value).Set"], unfollowed := true, recurses := true, named := ["layercake/api.ErrBound", "layercake/api.ErrText", "layercake/api.ErrShape", "layercake/api.ErrSum", "layercake/api.ErrName", "layercake/api.ErrNone", "layercake/api.ErrColors", "layercake/api.ErrFull", "layercake/api.ErrPower", "errors.errorType"], apart := false, laid := [("errors.errorType", laid_errors_errorType), ("layercake/api.ErrText", laid_layercake_api_ErrText), ("layercake/api.ErrBound", laid_layercake_api_ErrBound), ("layercake/api.ErrShape", laid_layercake_api_ErrShape), ("layercake/api.ErrSum", laid_layercake_api_ErrSum), ("layercake/api.ErrName", laid_layercake_api_ErrName), ("layercake/api.ErrNone", laid_layercake_api_ErrNone), ("layercake/api.ErrColors", laid_layercake_api_ErrColors), ("layercake/api.ErrFull", laid_layercake_api_ErrFull), ("layercake/api.ErrPower", laid_layercake_api_ErrPower)], narrowed := true }
def SumJoinsUptoSaid : Prop := sumJoinsUptoRow.holds Tryd.pinned (OpenSpec.upto sumJoinsSpec)

/-- 'layercakelaw2.PixelStill', WHERE WHAT IT READS IS OF BULK AT MOST 1048576: true; the input reads as it did. -/
def pixelStillUptoRow : OpenClaim := { program := "yteacjlalekbhpaadoor", sum := "6f9427f4ea13bf9169b5ef136a1e9d09a7d61811085926d18018acb3ee4e925d", func := "layercake/layercakelaw2.PixelStill", spec := "pixelStill", unfollowed := true, recurses := true, named := ["layercake/api.ErrBound"], apart := false, laid := [("layercake/api.ErrBound", laid_layercake_api_ErrBound)], narrowed := true }
def PixelStillUptoSaid : Prop := pixelStillUptoRow.holds Tryd.pinned (OpenSpec.upto pixelStillSpec)

/-- 'layercakelaw2.PixelCovers', WHERE WHAT IT READS IS OF BULK AT MOST 1048576: true; the input reads as it did. -/
def pixelCoversUptoRow : OpenClaim := { program := "yteacjlalekbhpaadoor", sum := "6f9427f4ea13bf9169b5ef136a1e9d09a7d61811085926d18018acb3ee4e925d", func := "layercake/layercakelaw2.PixelCovers", spec := "pixelCovers", unfollowed := true, recurses := true, named := ["layercake/api.ErrBound"], apart := false, laid := [("layercake/api.ErrBound", laid_layercake_api_ErrBound)], narrowed := true }
def PixelCoversUptoSaid : Prop := pixelCoversUptoRow.holds Tryd.pinned (OpenSpec.upto pixelCoversSpec)

/-- 'layercakelaw2.PixelOver', WHERE WHAT IT READS IS OF BULK AT MOST 1048576: true; the input reads as it did. -/
def pixelOverUptoRow : OpenClaim := { program := "yteacjlalekbhpaadoor", sum := "6f9427f4ea13bf9169b5ef136a1e9d09a7d61811085926d18018acb3ee4e925d", func := "layercake/layercakelaw2.PixelOver", spec := "pixelOver", inPlace := ["internal/reflectlite.ValueOf", "(internal/reflectlite.Value).Type", "(internal/reflectlite.Value).IsNil", "internal/reflectlite.TypeOf", "(internal/reflectlite.Value).Elem", "(internal/reflectlite.Value).Set"], unfollowed := true, recurses := true, named := ["layercake/api.ErrBound", "layercake/api.ErrText", "layercake/api.ErrShape", "layercake/api.ErrSum", "layercake/api.ErrName", "layercake/api.ErrNone", "layercake/api.ErrColors", "layercake/api.ErrFull", "layercake/api.ErrPower", "errors.errorType"], apart := false, laid := [("errors.errorType", laid_errors_errorType), ("layercake/api.ErrText", laid_layercake_api_ErrText), ("layercake/api.ErrBound", laid_layercake_api_ErrBound), ("layercake/api.ErrShape", laid_layercake_api_ErrShape), ("layercake/api.ErrSum", laid_layercake_api_ErrSum), ("layercake/api.ErrName", laid_layercake_api_ErrName), ("layercake/api.ErrNone", laid_layercake_api_ErrNone), ("layercake/api.ErrColors", laid_layercake_api_ErrColors), ("layercake/api.ErrFull", laid_layercake_api_ErrFull), ("layercake/api.ErrPower", laid_layercake_api_ErrPower)], narrowed := true }
def PixelOverUptoSaid : Prop := pixelOverUptoRow.holds Tryd.pinned (OpenSpec.upto pixelOverSpec)

/-- 'layercakelaw2.PixelFades', WHERE WHAT IT READS IS OF BULK AT MOST 1048576: true; the input reads as it did. -/
def pixelFadesUptoRow : OpenClaim := { program := "yteacjlalekbhpaadoor", sum := "6f9427f4ea13bf9169b5ef136a1e9d09a7d61811085926d18018acb3ee4e925d", func := "layercake/layercakelaw2.PixelFades", spec := "pixelFades", inPlace := ["internal/reflectlite.ValueOf", "(internal/reflectlite.Value).Type", "(internal/reflectlite.Value).IsNil", "internal/reflectlite.TypeOf", "(internal/reflectlite.Value).Elem", "(internal/reflectlite.Value).Set"], unfollowed := true, recurses := true, named := ["layercake/api.ErrBound", "layercake/api.ErrText", "layercake/api.ErrShape", "layercake/api.ErrSum", "layercake/api.ErrName", "layercake/api.ErrNone", "layercake/api.ErrColors", "layercake/api.ErrFull", "layercake/api.ErrPower", "errors.errorType", "strconv.ErrSyntax", "strconv.ErrRange", "internal/strconv.uint64pow10", "math/bits.deBruijn32tab", "math/bits.deBruijn64tab"], apart := false, laid := [("math/bits.deBruijn32tab", laid_math_bits_deBruijn32tab), ("math/bits.deBruijn64tab", laid_math_bits_deBruijn64tab), ("internal/strconv.uint64pow10", laid_internal_strconv_uint64pow10), ("errors.errorType", laid_errors_errorType), ("layercake/api.ErrText", laid_layercake_api_ErrText), ("layercake/api.ErrBound", laid_layercake_api_ErrBound), ("layercake/api.ErrShape", laid_layercake_api_ErrShape), ("layercake/api.ErrSum", laid_layercake_api_ErrSum), ("layercake/api.ErrName", laid_layercake_api_ErrName), ("layercake/api.ErrNone", laid_layercake_api_ErrNone), ("layercake/api.ErrColors", laid_layercake_api_ErrColors), ("layercake/api.ErrFull", laid_layercake_api_ErrFull), ("layercake/api.ErrPower", laid_layercake_api_ErrPower), ("strconv.ErrRange", laid_strconv_ErrRange), ("strconv.ErrSyntax", laid_strconv_ErrSyntax)], narrowed := true }
def PixelFadesUptoSaid : Prop := pixelFadesUptoRow.holds Tryd.pinned (OpenSpec.upto pixelFadesSpec)

end Rows
end Go.Proofs.YteacjlalekbhpaaDoor
