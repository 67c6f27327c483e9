/-
  NARROWER THAN 'FOR EVERY INPUT', by the rows' own cells (each row's printed sentence says how): RasterBack: laid · RasterNew: laid · RasterParts: laid · RasterFloods: laid · RasterLines: laid · RasterStamps: laid · RasterTurns: laid · ChunkTurned: laid · ChunkWrites: laid · ChunkReads: laid.
  DERIVED. THE GIVEN ROWS OF THIS SEAT. 10 by the template 'for every input the law returns true; each argument reads behind the call as it read before'; 0 by the template 'total and deterministic' (their statements: YtkfjcgcgfdibaaaDoorTotals.lean).
  GIVEN WITH THE SEED: the statements are not yours to turn. If you find one false, say at which input.
  Laid BY PROGRAM, IN A SANDBOX (cutbox-rows.mjs): the forced cells as the released guide's own fill.sh prints them over the translation ff82e6d2e236cad2… (all of the seat's roots in one cut). By AI agents, Wed Nov 11 2026. No macro, syntax, notation, axiom, sorry.
-/
import Derived.Test.YtkfjcgcgfdibaaaDoorChecked
import GoSem.Claim
import GoSem.ClaimJoined
import GoSem.ClaimMapViews
import Derived.JoinedTies
import Derived.KernelRfl
namespace Go.Proofs.YtkfjcgcgfdibaaaDoor
/- THE CELL 'sum', in the pinned program and in every row, IS THE sha256 OF THE DUMP (.gsa) THAT YtkfjcgcgfdibaaaDoorProg.lean LOADS. Nothing in Lean hashes anything: it is a label: what it is worth is what the hold of that sum in a sandbox is worth. -/
noncomputable def Tryd.pinned : Pinned := { name := "ytkfjcgcgfdibaaadoor", sum := "ff82e6d2e236cad2861eafa46903897cd6f1951f3208867c8c72e2993fc2a41e", checked := Tryd.checked }
namespace Rows
def none {H : Type} : Left H := { results := [], args := [] }

/- WHAT THE LISTED PACKAGE-LEVEL VARIABLES READ AS WHEN THE CALL BEGINS. Each datum BY PROGRAM (the guide's laid-datum.mjs) off the statement by which the dump's own 'gosem.cut.vars' lays the variable. In a bare row this is a premise. The card (YtkfjcgcgfdibaaaDoorCards.lean) ties it to the program's text. -/
def laid_layercake_api_ErrBound {H : Type} : DataW H := .iface "*errors.errorString" (.ptr (.agg [.lit (.string [108, 97, 121, 101, 114, 99, 97, 107, 101, 58, 32, 98, 111, 117, 110, 100])]))
def laid_layercake_api_ErrShape {H : Type} : DataW H := .iface "*errors.errorString" (.ptr (.agg [.lit (.string [108, 97, 121, 101, 114, 99, 97, 107, 101, 58, 32, 115, 104, 97, 112, 101])]))
def laid_errors_errorType {H : Type} : DataW H := .iface "internal/reflectlite.rtype" (.agg [.ptr (.lit (.string [101, 114, 114, 111, 114]))])
def laid_layercake_api_ErrText {H : Type} : DataW H := .iface "*errors.errorString" (.ptr (.agg [.lit (.string [108, 97, 121, 101, 114, 99, 97, 107, 101, 58, 32, 116, 101, 120, 116])]))
def laid_layercake_api_ErrSum {H : Type} : DataW H := .iface "*errors.errorString" (.ptr (.agg [.lit (.string [108, 97, 121, 101, 114, 99, 97, 107, 101, 58, 32, 115, 117, 109])]))
def laid_layercake_api_ErrName {H : Type} : DataW H := .iface "*errors.errorString" (.ptr (.agg [.lit (.string [108, 97, 121, 101, 114, 99, 97, 107, 101, 58, 32, 110, 97, 109, 101])]))
def laid_layercake_api_ErrNone {H : Type} : DataW H := .iface "*errors.errorString" (.ptr (.agg [.lit (.string [108, 97, 121, 101, 114, 99, 97, 107, 101, 58, 32, 110, 111, 110, 101])]))
def laid_layercake_api_ErrColors {H : Type} : DataW H := .iface "*errors.errorString" (.ptr (.agg [.lit (.string [108, 97, 121, 101, 114, 99, 97, 107, 101, 58, 32, 99, 111, 108, 111, 114, 115])]))
def laid_layercake_api_ErrFull {H : Type} : DataW H := .iface "*errors.errorString" (.ptr (.agg [.lit (.string [108, 97, 121, 101, 114, 99, 97, 107, 101, 58, 32, 102, 117, 108, 108])]))
def laid_layercake_api_ErrPower {H : Type} : DataW H := .iface "*errors.errorString" (.ptr (.agg [.lit (.string [108, 97, 121, 101, 114, 99, 97, 107, 101, 58, 32, 112, 111, 119, 101, 114])]))

/-- 'layercakelaw2.RasterBack': WHATEVER THE INPUT: true; the input reads as it did. -/
def rasterBackSpec : ChangeSpec := { name := "rasterBack", fn := fun _ => fun
  | [d1, d2] => { results := [.lit (.bool true)], args := [d1, d2] }
  | _ => none }
def rasterBackRow : OpenClaim := { program := "ytkfjcgcgfdibaaadoor", sum := "ff82e6d2e236cad2861eafa46903897cd6f1951f3208867c8c72e2993fc2a41e", func := "layercake/layercakelaw2.RasterBack", spec := "rasterBack", unfollowed := true, recurses := true, named := ["layercake/api.ErrBound", "layercake/api.ErrShape"], apart := false, laid := [("layercake/api.ErrBound", laid_layercake_api_ErrBound), ("layercake/api.ErrShape", laid_layercake_api_ErrShape)] }
def RasterBackSaid : Prop := rasterBackRow.holds Tryd.pinned (OpenSpec.ofChange rasterBackSpec)

/-- ITS FALSE NEIGHBOUR: 'it returns false'. Refute it at one input. -/
def rasterBackWrong : ChangeSpec := { name := "rasterBack", fn := fun _ => fun
  | [d1, d2] => { results := [.lit (.bool false)], args := [d1, d2] }
  | _ => none }
def RasterBackWrongFalsely : Prop := rasterBackRow.holds Tryd.pinned (OpenSpec.ofChange rasterBackWrong)

/-- 'layercakelaw2.RasterNew': WHATEVER THE INPUT: true; the input reads as it did. -/
def rasterNewSpec : ChangeSpec := { name := "rasterNew", fn := fun _ => fun
  | [d1, d2, d3, d4, d5, d6] => { results := [.lit (.bool true)], args := [d1, d2, d3, d4, d5, d6] }
  | _ => none }
def rasterNewRow : OpenClaim := { program := "ytkfjcgcgfdibaaadoor", sum := "ff82e6d2e236cad2861eafa46903897cd6f1951f3208867c8c72e2993fc2a41e", func := "layercake/layercakelaw2.RasterNew", spec := "rasterNew", inPlace := ["internal/reflectlite.ValueOf", "(internal/reflectlite.Value).Type", "(internal/reflectlite.Value).IsNil", "internal/reflectlite.TypeOf", "(internal/reflectlite.Value).Elem", "(internal/reflectlite.Value).Set"], unfollowed := true, recurses := true, named := ["layercake/api.ErrBound", "layercake/api.ErrText", "layercake/api.ErrShape", "layercake/api.ErrSum", "layercake/api.ErrName", "layercake/api.ErrNone", "layercake/api.ErrColors", "layercake/api.ErrFull", "layercake/api.ErrPower", "errors.errorType"], apart := false, laid := [("errors.errorType", laid_errors_errorType), ("layercake/api.ErrText", laid_layercake_api_ErrText), ("layercake/api.ErrBound", laid_layercake_api_ErrBound), ("layercake/api.ErrShape", laid_layercake_api_ErrShape), ("layercake/api.ErrSum", laid_layercake_api_ErrSum), ("layercake/api.ErrName", laid_layercake_api_ErrName), ("layercake/api.ErrNone", laid_layercake_api_ErrNone), ("layercake/api.ErrColors", laid_layercake_api_ErrColors), ("layercake/api.ErrFull", laid_layercake_api_ErrFull), ("layercake/api.ErrPower", laid_layercake_api_ErrPower)] }
def RasterNewSaid : Prop := rasterNewRow.holds Tryd.pinned (OpenSpec.ofChange rasterNewSpec)

/-- ITS FALSE NEIGHBOUR: 'it returns false'. Refute it at one input. -/
def rasterNewWrong : ChangeSpec := { name := "rasterNew", fn := fun _ => fun
  | [d1, d2, d3, d4, d5, d6] => { results := [.lit (.bool false)], args := [d1, d2, d3, d4, d5, d6] }
  | _ => none }
def RasterNewWrongFalsely : Prop := rasterNewRow.holds Tryd.pinned (OpenSpec.ofChange rasterNewWrong)

/-- 'layercakelaw2.RasterParts': WHATEVER THE INPUT: true; the input reads as it did. -/
def rasterPartsSpec : ChangeSpec := { name := "rasterParts", fn := fun _ => fun
  | [d1, d2, d3] => { results := [.lit (.bool true)], args := [d1, d2, d3] }
  | _ => none }
def rasterPartsRow : OpenClaim := { program := "ytkfjcgcgfdibaaadoor", sum := "ff82e6d2e236cad2861eafa46903897cd6f1951f3208867c8c72e2993fc2a41e", func := "layercake/layercakelaw2.RasterParts", spec := "rasterParts", inPlace := ["internal/reflectlite.ValueOf", "(internal/reflectlite.Value).Type", "(internal/reflectlite.Value).IsNil", "internal/reflectlite.TypeOf", "(internal/reflectlite.Value).Elem", "(internal/reflectlite.Value).Set"], unfollowed := true, recurses := true, named := ["layercake/api.ErrBound", "layercake/api.ErrShape", "layercake/api.ErrText", "layercake/api.ErrSum", "layercake/api.ErrName", "layercake/api.ErrNone", "layercake/api.ErrColors", "layercake/api.ErrFull", "layercake/api.ErrPower", "errors.errorType"], apart := false, laid := [("errors.errorType", laid_errors_errorType), ("layercake/api.ErrText", laid_layercake_api_ErrText), ("layercake/api.ErrBound", laid_layercake_api_ErrBound), ("layercake/api.ErrShape", laid_layercake_api_ErrShape), ("layercake/api.ErrSum", laid_layercake_api_ErrSum), ("layercake/api.ErrName", laid_layercake_api_ErrName), ("layercake/api.ErrNone", laid_layercake_api_ErrNone), ("layercake/api.ErrColors", laid_layercake_api_ErrColors), ("layercake/api.ErrFull", laid_layercake_api_ErrFull), ("layercake/api.ErrPower", laid_layercake_api_ErrPower)] }
def RasterPartsSaid : Prop := rasterPartsRow.holds Tryd.pinned (OpenSpec.ofChange rasterPartsSpec)

/-- ITS FALSE NEIGHBOUR: 'it returns false'. Refute it at one input. -/
def rasterPartsWrong : ChangeSpec := { name := "rasterParts", fn := fun _ => fun
  | [d1, d2, d3] => { results := [.lit (.bool false)], args := [d1, d2, d3] }
  | _ => none }
def RasterPartsWrongFalsely : Prop := rasterPartsRow.holds Tryd.pinned (OpenSpec.ofChange rasterPartsWrong)

/-- 'layercakelaw2.RasterFloods': WHATEVER THE INPUT: true; the input reads as it did. -/
def rasterFloodsSpec : ChangeSpec := { name := "rasterFloods", fn := fun _ => fun
  | [d1, d2, d3, d4] => { results := [.lit (.bool true)], args := [d1, d2, d3, d4] }
  | _ => none }
def rasterFloodsRow : OpenClaim := { program := "ytkfjcgcgfdibaaadoor", sum := "ff82e6d2e236cad2861eafa46903897cd6f1951f3208867c8c72e2993fc2a41e", func := "layercake/layercakelaw2.RasterFloods", spec := "rasterFloods", inPlace := ["internal/reflectlite.ValueOf", "(internal/reflectlite.Value).Type", "(internal/reflectlite.Value).IsNil", "internal/reflectlite.TypeOf", "(internal/reflectlite.Value).Elem", "(internal/reflectlite.Value).Set"], unfollowed := true, recurses := true, named := ["layercake/api.ErrBound", "layercake/api.ErrShape", "layercake/api.ErrText", "layercake/api.ErrSum", "layercake/api.ErrName", "layercake/api.ErrNone", "layercake/api.ErrColors", "layercake/api.ErrFull", "layercake/api.ErrPower", "errors.errorType"], apart := false, laid := [("errors.errorType", laid_errors_errorType), ("layercake/api.ErrText", laid_layercake_api_ErrText), ("layercake/api.ErrBound", laid_layercake_api_ErrBound), ("layercake/api.ErrShape", laid_layercake_api_ErrShape), ("layercake/api.ErrSum", laid_layercake_api_ErrSum), ("layercake/api.ErrName", laid_layercake_api_ErrName), ("layercake/api.ErrNone", laid_layercake_api_ErrNone), ("layercake/api.ErrColors", laid_layercake_api_ErrColors), ("layercake/api.ErrFull", laid_layercake_api_ErrFull), ("layercake/api.ErrPower", laid_layercake_api_ErrPower)] }
def RasterFloodsSaid : Prop := rasterFloodsRow.holds Tryd.pinned (OpenSpec.ofChange rasterFloodsSpec)

/-- ITS FALSE NEIGHBOUR: 'it returns false'. Refute it at one input. -/
def rasterFloodsWrong : ChangeSpec := { name := "rasterFloods", fn := fun _ => fun
  | [d1, d2, d3, d4] => { results := [.lit (.bool false)], args := [d1, d2, d3, d4] }
  | _ => none }
def RasterFloodsWrongFalsely : Prop := rasterFloodsRow.holds Tryd.pinned (OpenSpec.ofChange rasterFloodsWrong)

/-- 'layercakelaw2.RasterLines': WHATEVER THE INPUT: true; the input reads as it did. -/
def rasterLinesSpec : ChangeSpec := { name := "rasterLines", fn := fun _ => fun
  | [d1, d2, d3, d4, d5, d6] => { results := [.lit (.bool true)], args := [d1, d2, d3, d4, d5, d6] }
  | _ => none }
def rasterLinesRow : OpenClaim := { program := "ytkfjcgcgfdibaaadoor", sum := "ff82e6d2e236cad2861eafa46903897cd6f1951f3208867c8c72e2993fc2a41e", func := "layercake/layercakelaw2.RasterLines", spec := "rasterLines", inPlace := ["internal/reflectlite.ValueOf", "(internal/reflectlite.Value).Type", "(internal/reflectlite.Value).IsNil", "internal/reflectlite.TypeOf", "(internal/reflectlite.Value).Elem", "(internal/reflectlite.Value).Set"], unfollowed := true, recurses := true, named := ["layercake/api.ErrBound", "layercake/api.ErrShape", "layercake/api.ErrText", "layercake/api.ErrSum", "layercake/api.ErrName", "layercake/api.ErrNone", "layercake/api.ErrColors", "layercake/api.ErrFull", "layercake/api.ErrPower", "errors.errorType"], apart := false, laid := [("errors.errorType", laid_errors_errorType), ("layercake/api.ErrText", laid_layercake_api_ErrText), ("layercake/api.ErrBound", laid_layercake_api_ErrBound), ("layercake/api.ErrShape", laid_layercake_api_ErrShape), ("layercake/api.ErrSum", laid_layercake_api_ErrSum), ("layercake/api.ErrName", laid_layercake_api_ErrName), ("layercake/api.ErrNone", laid_layercake_api_ErrNone), ("layercake/api.ErrColors", laid_layercake_api_ErrColors), ("layercake/api.ErrFull", laid_layercake_api_ErrFull), ("layercake/api.ErrPower", laid_layercake_api_ErrPower)] }
def RasterLinesSaid : Prop := rasterLinesRow.holds Tryd.pinned (OpenSpec.ofChange rasterLinesSpec)

/-- ITS FALSE NEIGHBOUR: 'it returns false'. Refute it at one input. -/
def rasterLinesWrong : ChangeSpec := { name := "rasterLines", fn := fun _ => fun
  | [d1, d2, d3, d4, d5, d6] => { results := [.lit (.bool false)], args := [d1, d2, d3, d4, d5, d6] }
  | _ => none }
def RasterLinesWrongFalsely : Prop := rasterLinesRow.holds Tryd.pinned (OpenSpec.ofChange rasterLinesWrong)

/-- 'layercakelaw2.RasterStamps': WHATEVER THE INPUT: true; the input reads as it did. -/
def rasterStampsSpec : ChangeSpec := { name := "rasterStamps", fn := fun _ => fun
  | [d1, d2, d3, d4, d5] => { results := [.lit (.bool true)], args := [d1, d2, d3, d4, d5] }
  | _ => none }
def rasterStampsRow : OpenClaim := { program := "ytkfjcgcgfdibaaadoor", sum := "ff82e6d2e236cad2861eafa46903897cd6f1951f3208867c8c72e2993fc2a41e", func := "layercake/layercakelaw2.RasterStamps", spec := "rasterStamps", inPlace := ["internal/reflectlite.ValueOf", "(internal/reflectlite.Value).Type", "(internal/reflectlite.Value).IsNil", "internal/reflectlite.TypeOf", "(internal/reflectlite.Value).Elem", "(internal/reflectlite.Value).Set"], unfollowed := true, recurses := true, named := ["layercake/api.ErrBound", "layercake/api.ErrShape", "layercake/api.ErrText", "layercake/api.ErrSum", "layercake/api.ErrName", "layercake/api.ErrNone", "layercake/api.ErrColors", "layercake/api.ErrFull", "layercake/api.ErrPower", "errors.errorType"], apart := false, laid := [("errors.errorType", laid_errors_errorType), ("layercake/api.ErrText", laid_layercake_api_ErrText), ("layercake/api.ErrBound", laid_layercake_api_ErrBound), ("layercake/api.ErrShape", laid_layercake_api_ErrShape), ("layercake/api.ErrSum", laid_layercake_api_ErrSum), ("layercake/api.ErrName", laid_layercake_api_ErrName), ("layercake/api.ErrNone", laid_layercake_api_ErrNone), ("layercake/api.ErrColors", laid_layercake_api_ErrColors), ("layercake/api.ErrFull", laid_layercake_api_ErrFull), ("layercake/api.ErrPower", laid_layercake_api_ErrPower)] }
def RasterStampsSaid : Prop := rasterStampsRow.holds Tryd.pinned (OpenSpec.ofChange rasterStampsSpec)

/-- ITS FALSE NEIGHBOUR: 'it returns false'. Refute it at one input. -/
def rasterStampsWrong : ChangeSpec := { name := "rasterStamps", fn := fun _ => fun
  | [d1, d2, d3, d4, d5] => { results := [.lit (.bool false)], args := [d1, d2, d3, d4, d5] }
  | _ => none }
def RasterStampsWrongFalsely : Prop := rasterStampsRow.holds Tryd.pinned (OpenSpec.ofChange rasterStampsWrong)

/-- 'layercakelaw2.RasterTurns': WHATEVER THE INPUT: true; the input reads as it did. -/
def rasterTurnsSpec : ChangeSpec := { name := "rasterTurns", fn := fun _ => fun
  | [d1, d2, d3, d4, d5] => { results := [.lit (.bool true)], args := [d1, d2, d3, d4, d5] }
  | _ => none }
def rasterTurnsRow : OpenClaim := { program := "ytkfjcgcgfdibaaadoor", sum := "ff82e6d2e236cad2861eafa46903897cd6f1951f3208867c8c72e2993fc2a41e", func := "layercake/layercakelaw2.RasterTurns", spec := "rasterTurns", inPlace := ["internal/reflectlite.ValueOf", "(internal/reflectlite.Value).Type", "(internal/reflectlite.Value).IsNil", "internal/reflectlite.TypeOf", "(internal/reflectlite.Value).Elem", "(internal/reflectlite.Value).Set"], unfollowed := true, recurses := true, named := ["layercake/api.ErrBound", "layercake/api.ErrShape", "layercake/api.ErrText", "layercake/api.ErrSum", "layercake/api.ErrName", "layercake/api.ErrNone", "layercake/api.ErrColors", "layercake/api.ErrFull", "layercake/api.ErrPower", "errors.errorType"], apart := false, laid := [("errors.errorType", laid_errors_errorType), ("layercake/api.ErrText", laid_layercake_api_ErrText), ("layercake/api.ErrBound", laid_layercake_api_ErrBound), ("layercake/api.ErrShape", laid_layercake_api_ErrShape), ("layercake/api.ErrSum", laid_layercake_api_ErrSum), ("layercake/api.ErrName", laid_layercake_api_ErrName), ("layercake/api.ErrNone", laid_layercake_api_ErrNone), ("layercake/api.ErrColors", laid_layercake_api_ErrColors), ("layercake/api.ErrFull", laid_layercake_api_ErrFull), ("layercake/api.ErrPower", laid_layercake_api_ErrPower)] }
def RasterTurnsSaid : Prop := rasterTurnsRow.holds Tryd.pinned (OpenSpec.ofChange rasterTurnsSpec)

/-- ITS FALSE NEIGHBOUR: 'it returns false'. Refute it at one input. -/
def rasterTurnsWrong : ChangeSpec := { name := "rasterTurns", fn := fun _ => fun
  | [d1, d2, d3, d4, d5] => { results := [.lit (.bool false)], args := [d1, d2, d3, d4, d5] }
  | _ => none }
def RasterTurnsWrongFalsely : Prop := rasterTurnsRow.holds Tryd.pinned (OpenSpec.ofChange rasterTurnsWrong)

/-- 'layercakelaw2.ChunkTurned': WHATEVER THE INPUT: true; the input reads as it did. -/
def chunkTurnedSpec : ChangeSpec := { name := "chunkTurned", fn := fun _ => fun
  | [d1, d2, d3] => { results := [.lit (.bool true)], args := [d1, d2, d3] }
  | _ => none }
def chunkTurnedRow : OpenClaim := { program := "ytkfjcgcgfdibaaadoor", sum := "ff82e6d2e236cad2861eafa46903897cd6f1951f3208867c8c72e2993fc2a41e", func := "layercake/layercakelaw2.ChunkTurned", spec := "chunkTurned", inPlace := ["internal/abi.NoEscape"], unfollowed := true, recurses := true, named := ["layercake/api.ErrShape", "layercake/api.ErrBound", "layercake/api.ErrText", "layercake/api.ErrSum"], apart := false, laid := [("layercake/api.ErrText", laid_layercake_api_ErrText), ("layercake/api.ErrBound", laid_layercake_api_ErrBound), ("layercake/api.ErrShape", laid_layercake_api_ErrShape), ("layercake/api.ErrSum", laid_layercake_api_ErrSum)] }
def ChunkTurnedSaid : Prop := chunkTurnedRow.holds Tryd.pinned (OpenSpec.ofChange chunkTurnedSpec)

/-- ITS FALSE NEIGHBOUR: 'it returns false'. Refute it at one input. -/
def chunkTurnedWrong : ChangeSpec := { name := "chunkTurned", fn := fun _ => fun
  | [d1, d2, d3] => { results := [.lit (.bool false)], args := [d1, d2, d3] }
  | _ => none }
def ChunkTurnedWrongFalsely : Prop := chunkTurnedRow.holds Tryd.pinned (OpenSpec.ofChange chunkTurnedWrong)

/-- 'layercakelaw2.ChunkWrites': WHATEVER THE INPUT: true; the input reads as it did. -/
def chunkWritesSpec : ChangeSpec := { name := "chunkWrites", fn := fun _ => fun
  | [d] => { results := [.lit (.bool true)], args := [d] }
  | _ => none }
def chunkWritesRow : OpenClaim := { program := "ytkfjcgcgfdibaaadoor", sum := "ff82e6d2e236cad2861eafa46903897cd6f1951f3208867c8c72e2993fc2a41e", func := "layercake/layercakelaw2.ChunkWrites", spec := "chunkWrites", inPlace := ["internal/abi.NoEscape", "internal/reflectlite.ValueOf", "(internal/reflectlite.Value).Type", "(internal/reflectlite.Value).IsNil", "internal/reflectlite.TypeOf", "(internal/reflectlite.Value).Elem", "(internal/reflectlite.Value).Set"], unfollowed := true, recurses := true, named := ["layercake/api.ErrShape", "layercake/api.ErrBound", "layercake/api.ErrText", "layercake/api.ErrSum", "layercake/api.ErrName", "layercake/api.ErrNone", "layercake/api.ErrColors", "layercake/api.ErrFull", "layercake/api.ErrPower", "errors.errorType"], apart := false, laid := [("errors.errorType", laid_errors_errorType), ("layercake/api.ErrText", laid_layercake_api_ErrText), ("layercake/api.ErrBound", laid_layercake_api_ErrBound), ("layercake/api.ErrShape", laid_layercake_api_ErrShape), ("layercake/api.ErrSum", laid_layercake_api_ErrSum), ("layercake/api.ErrName", laid_layercake_api_ErrName), ("layercake/api.ErrNone", laid_layercake_api_ErrNone), ("layercake/api.ErrColors", laid_layercake_api_ErrColors), ("layercake/api.ErrFull", laid_layercake_api_ErrFull), ("layercake/api.ErrPower", laid_layercake_api_ErrPower)] }
def ChunkWritesSaid : Prop := chunkWritesRow.holds Tryd.pinned (OpenSpec.ofChange chunkWritesSpec)

/-- ITS FALSE NEIGHBOUR: 'it returns false'. Refute it at one input. -/
def chunkWritesWrong : ChangeSpec := { name := "chunkWrites", fn := fun _ => fun
  | [d] => { results := [.lit (.bool false)], args := [d] }
  | _ => none }
def ChunkWritesWrongFalsely : Prop := chunkWritesRow.holds Tryd.pinned (OpenSpec.ofChange chunkWritesWrong)

/-- 'layercakelaw2.ChunkReads': WHATEVER THE INPUT: true; the input reads as it did. -/
def chunkReadsSpec : ChangeSpec := { name := "chunkReads", fn := fun _ => fun
  | [d] => { results := [.lit (.bool true)], args := [d] }
  | _ => none }
def chunkReadsRow : OpenClaim := { program := "ytkfjcgcgfdibaaadoor", sum := "ff82e6d2e236cad2861eafa46903897cd6f1951f3208867c8c72e2993fc2a41e", func := "layercake/layercakelaw2.ChunkReads", spec := "chunkReads", inPlace := ["internal/abi.NoEscape", "internal/reflectlite.ValueOf", "(internal/reflectlite.Value).Type", "(internal/reflectlite.Value).IsNil", "internal/reflectlite.TypeOf", "(internal/reflectlite.Value).Elem", "(internal/reflectlite.Value).Set"], unfollowed := true, recurses := true, named := ["layercake/api.ErrShape", "layercake/api.ErrBound", "layercake/api.ErrText", "layercake/api.ErrSum", "layercake/api.ErrName", "layercake/api.ErrNone", "layercake/api.ErrColors", "layercake/api.ErrFull", "layercake/api.ErrPower", "errors.errorType"], apart := false, laid := [("errors.errorType", laid_errors_errorType), ("layercake/api.ErrText", laid_layercake_api_ErrText), ("layercake/api.ErrBound", laid_layercake_api_ErrBound), ("layercake/api.ErrShape", laid_layercake_api_ErrShape), ("layercake/api.ErrSum", laid_layercake_api_ErrSum), ("layercake/api.ErrName", laid_layercake_api_ErrName), ("layercake/api.ErrNone", laid_layercake_api_ErrNone), ("layercake/api.ErrColors", laid_layercake_api_ErrColors), ("layercake/api.ErrFull", laid_layercake_api_ErrFull), ("layercake/api.ErrPower", laid_layercake_api_ErrPower)] }
def ChunkReadsSaid : Prop := chunkReadsRow.holds Tryd.pinned (OpenSpec.ofChange chunkReadsSpec)

/-- ITS FALSE NEIGHBOUR: 'it returns false'. Refute it at one input. -/
def chunkReadsWrong : ChangeSpec := { name := "chunkReads", fn := fun _ => fun
  | [d] => { results := [.lit (.bool false)], args := [d] }
  | _ => none }
def ChunkReadsWrongFalsely : Prop := chunkReadsRow.holds Tryd.pinned (OpenSpec.ofChange chunkReadsWrong)

/- THE SECOND FORM. 'bulk': how many values and letters a reading holds, each counted each time it is reached (what is shared counts as often as it is met; a slice's spare places count too). A statement '..UptoSaid' is the law's where the arguments, and the package variables that the reading takes, are together of bulk at most 1048576: NARROWER than '..Said'. Prove '..Said' where nothing that the law and all that it calls make is longer than what came in: it says more and counts as full. Else prove '..UptoSaid'. A law counts once. -/
mutual
def uptoBulk {H : Type} : DataW H → Nat
  | .lit (.string bytes) => bytes.length + 1
  | .lit _ => 1
  | .nil => 1
  | .ptr d => uptoBulk d + 1
  | .slice elems spare => uptoBulkAll elems + uptoBulkAll spare + 1
  | .agg parts => uptoBulkAll parts + 1
  | .iface _ d => uptoBulk d + 1
  | .map entries => uptoBulkEntries entries + 1
  | .held _ => 1
def uptoBulkAll {H : Type} : List (DataW H) → Nat
  | [] => 0
  | d :: r => uptoBulk d + uptoBulkAll r
def uptoBulkEntries {H : Type} : List (Lit × DataW H) → Nat
  | [] => 0
  | x :: r => uptoBulkEntry x + uptoBulkEntries r
def uptoBulkEntry {H : Type} : Lit × DataW H → Nat
  | (.string bytes, d) => bytes.length + uptoBulk d + 1
  | (_, d) => uptoBulk d + 1
 end
def uptoSmall : (H : Type) → List (DataW H) → Bool := fun _ ds => decide (uptoBulkAll ds ≤ 1048576)
def OpenSpec.upto (s : _root_.Go.ChangeSpec) : _root_.Go.OpenSpec := { _root_.Go.OpenSpec.ofChange s with cond := some uptoSmall }

/-- 'layercakelaw2.RasterBack', WHERE WHAT IT READS IS OF BULK AT MOST 1048576: true; the input reads as it did. -/
def rasterBackUptoRow : OpenClaim := { program := "ytkfjcgcgfdibaaadoor", sum := "ff82e6d2e236cad2861eafa46903897cd6f1951f3208867c8c72e2993fc2a41e", func := "layercake/layercakelaw2.RasterBack", spec := "rasterBack", unfollowed := true, recurses := true, named := ["layercake/api.ErrBound", "layercake/api.ErrShape"], apart := false, laid := [("layercake/api.ErrBound", laid_layercake_api_ErrBound), ("layercake/api.ErrShape", laid_layercake_api_ErrShape)], narrowed := true }
def RasterBackUptoSaid : Prop := rasterBackUptoRow.holds Tryd.pinned (OpenSpec.upto rasterBackSpec)

/-- 'layercakelaw2.RasterNew', WHERE WHAT IT READS IS OF BULK AT MOST 1048576: true; the input reads as it did. -/
def rasterNewUptoRow : OpenClaim := { program := "ytkfjcgcgfdibaaadoor", sum := "ff82e6d2e236cad2861eafa46903897cd6f1951f3208867c8c72e2993fc2a41e", func := "layercake/layercakelaw2.RasterNew", spec := "rasterNew", inPlace := ["internal/reflectlite.ValueOf", "(internal/reflectlite.Value).Type", "(internal/reflectlite.Value).IsNil", "internal/reflectlite.TypeOf", "(internal/reflectlite.Value).Elem", "(internal/reflectlite.Value).Set"], unfollowed := true, recurses := true, named := ["layercake/api.ErrBound", "layercake/api.ErrText", "layercake/api.ErrShape", "layercake/api.ErrSum", "layercake/api.ErrName", "layercake/api.ErrNone", "layercake/api.ErrColors", "layercake/api.ErrFull", "layercake/api.ErrPower", "errors.errorType"], apart := false, laid := [("errors.errorType", laid_errors_errorType), ("layercake/api.ErrText", laid_layercake_api_ErrText), ("layercake/api.ErrBound", laid_layercake_api_ErrBound), ("layercake/api.ErrShape", laid_layercake_api_ErrShape), ("layercake/api.ErrSum", laid_layercake_api_ErrSum), ("layercake/api.ErrName", laid_layercake_api_ErrName), ("layercake/api.ErrNone", laid_layercake_api_ErrNone), ("layercake/api.ErrColors", laid_layercake_api_ErrColors), ("layercake/api.ErrFull", laid_layercake_api_ErrFull), ("layercake/api.ErrPower", laid_layercake_api_ErrPower)], narrowed := true }
def RasterNewUptoSaid : Prop := rasterNewUptoRow.holds Tryd.pinned (OpenSpec.upto rasterNewSpec)

/-- 'layercakelaw2.RasterParts', WHERE WHAT IT READS IS OF BULK AT MOST 1048576: true; the input reads as it did. -/
def rasterPartsUptoRow : OpenClaim := { program := "ytkfjcgcgfdibaaadoor", sum := "ff82e6d2e236cad2861eafa46903897cd6f1951f3208867c8c72e2993fc2a41e", func := "layercake/layercakelaw2.RasterParts", spec := "rasterParts", inPlace := ["internal/reflectlite.ValueOf", "(internal/reflectlite.Value).Type", "(internal/reflectlite.Value).IsNil", "internal/reflectlite.TypeOf", "(internal/reflectlite.Value).Elem", "(internal/reflectlite.Value).Set"], unfollowed := true, recurses := true, named := ["layercake/api.ErrBound", "layercake/api.ErrShape", "layercake/api.ErrText", "layercake/api.ErrSum", "layercake/api.ErrName", "layercake/api.ErrNone", "layercake/api.ErrColors", "layercake/api.ErrFull", "layercake/api.ErrPower", "errors.errorType"], apart := false, laid := [("errors.errorType", laid_errors_errorType), ("layercake/api.ErrText", laid_layercake_api_ErrText), ("layercake/api.ErrBound", laid_layercake_api_ErrBound), ("layercake/api.ErrShape", laid_layercake_api_ErrShape), ("layercake/api.ErrSum", laid_layercake_api_ErrSum), ("layercake/api.ErrName", laid_layercake_api_ErrName), ("layercake/api.ErrNone", laid_layercake_api_ErrNone), ("layercake/api.ErrColors", laid_layercake_api_ErrColors), ("layercake/api.ErrFull", laid_layercake_api_ErrFull), ("layercake/api.ErrPower", laid_layercake_api_ErrPower)], narrowed := true }
def RasterPartsUptoSaid : Prop := rasterPartsUptoRow.holds Tryd.pinned (OpenSpec.upto rasterPartsSpec)

/-- 'layercakelaw2.RasterFloods', WHERE WHAT IT READS IS OF BULK AT MOST 1048576: true; the input reads as it did. -/
def rasterFloodsUptoRow : OpenClaim := { program := "ytkfjcgcgfdibaaadoor", sum := "ff82e6d2e236cad2861eafa46903897cd6f1951f3208867c8c72e2993fc2a41e", func := "layercake/layercakelaw2.RasterFloods", spec := "rasterFloods", inPlace := ["internal/reflectlite.ValueOf", "(internal/reflectlite.Value).Type", "(internal/reflectlite.Value).IsNil", "internal/reflectlite.TypeOf", "(internal/reflectlite.Value).Elem", "(internal/reflectlite.Value).Set"], unfollowed := true, recurses := true, named := ["layercake/api.ErrBound", "layercake/api.ErrShape", "layercake/api.ErrText", "layercake/api.ErrSum", "layercake/api.ErrName", "layercake/api.ErrNone", "layercake/api.ErrColors", "layercake/api.ErrFull", "layercake/api.ErrPower", "errors.errorType"], apart := false, laid := [("errors.errorType", laid_errors_errorType), ("layercake/api.ErrText", laid_layercake_api_ErrText), ("layercake/api.ErrBound", laid_layercake_api_ErrBound), ("layercake/api.ErrShape", laid_layercake_api_ErrShape), ("layercake/api.ErrSum", laid_layercake_api_ErrSum), ("layercake/api.ErrName", laid_layercake_api_ErrName), ("layercake/api.ErrNone", laid_layercake_api_ErrNone), ("layercake/api.ErrColors", laid_layercake_api_ErrColors), ("layercake/api.ErrFull", laid_layercake_api_ErrFull), ("layercake/api.ErrPower", laid_layercake_api_ErrPower)], narrowed := true }
def RasterFloodsUptoSaid : Prop := rasterFloodsUptoRow.holds Tryd.pinned (OpenSpec.upto rasterFloodsSpec)

/-- 'layercakelaw2.RasterLines', WHERE WHAT IT READS IS OF BULK AT MOST 1048576: true; the input reads as it did. -/
def rasterLinesUptoRow : OpenClaim := { program := "ytkfjcgcgfdibaaadoor", sum := "ff82e6d2e236cad2861eafa46903897cd6f1951f3208867c8c72e2993fc2a41e", func := "layercake/layercakelaw2.RasterLines", spec := "rasterLines", inPlace := ["internal/reflectlite.ValueOf", "(internal/reflectlite.Value).Type", "(internal/reflectlite.Value).IsNil", "internal/reflectlite.TypeOf", "(internal/reflectlite.Value).Elem", "(internal/reflectlite.Value).Set"], unfollowed := true, recurses := true, named := ["layercake/api.ErrBound", "layercake/api.ErrShape", "layercake/api.ErrText", "layercake/api.ErrSum", "layercake/api.ErrName", "layercake/api.ErrNone", "layercake/api.ErrColors", "layercake/api.ErrFull", "layercake/api.ErrPower", "errors.errorType"], apart := false, laid := [("errors.errorType", laid_errors_errorType), ("layercake/api.ErrText", laid_layercake_api_ErrText), ("layercake/api.ErrBound", laid_layercake_api_ErrBound), ("layercake/api.ErrShape", laid_layercake_api_ErrShape), ("layercake/api.ErrSum", laid_layercake_api_ErrSum), ("layercake/api.ErrName", laid_layercake_api_ErrName), ("layercake/api.ErrNone", laid_layercake_api_ErrNone), ("layercake/api.ErrColors", laid_layercake_api_ErrColors), ("layercake/api.ErrFull", laid_layercake_api_ErrFull), ("layercake/api.ErrPower", laid_layercake_api_ErrPower)], narrowed := true }
def RasterLinesUptoSaid : Prop := rasterLinesUptoRow.holds Tryd.pinned (OpenSpec.upto rasterLinesSpec)

/-- 'layercakelaw2.RasterStamps', WHERE WHAT IT READS IS OF BULK AT MOST 1048576: true; the input reads as it did. -/
def rasterStampsUptoRow : OpenClaim := { program := "ytkfjcgcgfdibaaadoor", sum := "ff82e6d2e236cad2861eafa46903897cd6f1951f3208867c8c72e2993fc2a41e", func := "layercake/layercakelaw2.RasterStamps", spec := "rasterStamps", inPlace := ["internal/reflectlite.ValueOf", "(internal/reflectlite.Value).Type", "(internal/reflectlite.Value).IsNil", "internal/reflectlite.TypeOf", "(internal/reflectlite.Value).Elem", "(internal/reflectlite.Value).Set"], unfollowed := true, recurses := true, named := ["layercake/api.ErrBound", "layercake/api.ErrShape", "layercake/api.ErrText", "layercake/api.ErrSum", "layercake/api.ErrName", "layercake/api.ErrNone", "layercake/api.ErrColors", "layercake/api.ErrFull", "layercake/api.ErrPower", "errors.errorType"], apart := false, laid := [("errors.errorType", laid_errors_errorType), ("layercake/api.ErrText", laid_layercake_api_ErrText), ("layercake/api.ErrBound", laid_layercake_api_ErrBound), ("layercake/api.ErrShape", laid_layercake_api_ErrShape), ("layercake/api.ErrSum", laid_layercake_api_ErrSum), ("layercake/api.ErrName", laid_layercake_api_ErrName), ("layercake/api.ErrNone", laid_layercake_api_ErrNone), ("layercake/api.ErrColors", laid_layercake_api_ErrColors), ("layercake/api.ErrFull", laid_layercake_api_ErrFull), ("layercake/api.ErrPower", laid_layercake_api_ErrPower)], narrowed := true }
def RasterStampsUptoSaid : Prop := rasterStampsUptoRow.holds Tryd.pinned (OpenSpec.upto rasterStampsSpec)

/-- 'layercakelaw2.RasterTurns', WHERE WHAT IT READS IS OF BULK AT MOST 1048576: true; the input reads as it did. -/
def rasterTurnsUptoRow : OpenClaim := { program := "ytkfjcgcgfdibaaadoor", sum := "ff82e6d2e236cad2861eafa46903897cd6f1951f3208867c8c72e2993fc2a41e", func := "layercake/layercakelaw2.RasterTurns", spec := "rasterTurns", inPlace := ["internal/reflectlite.ValueOf", "(internal/reflectlite.Value).Type", "(internal/reflectlite.Value).IsNil", "internal/reflectlite.TypeOf", "(internal/reflectlite.Value).Elem", "(internal/reflectlite.Value).Set"], unfollowed := true, recurses := true, named := ["layercake/api.ErrBound", "layercake/api.ErrShape", "layercake/api.ErrText", "layercake/api.ErrSum", "layercake/api.ErrName", "layercake/api.ErrNone", "layercake/api.ErrColors", "layercake/api.ErrFull", "layercake/api.ErrPower", "errors.errorType"], apart := false, laid := [("errors.errorType", laid_errors_errorType), ("layercake/api.ErrText", laid_layercake_api_ErrText), ("layercake/api.ErrBound", laid_layercake_api_ErrBound), ("layercake/api.ErrShape", laid_layercake_api_ErrShape), ("layercake/api.ErrSum", laid_layercake_api_ErrSum), ("layercake/api.ErrName", laid_layercake_api_ErrName), ("layercake/api.ErrNone", laid_layercake_api_ErrNone), ("layercake/api.ErrColors", laid_layercake_api_ErrColors), ("layercake/api.ErrFull", laid_layercake_api_ErrFull), ("layercake/api.ErrPower", laid_layercake_api_ErrPower)], narrowed := true }
def RasterTurnsUptoSaid : Prop := rasterTurnsUptoRow.holds Tryd.pinned (OpenSpec.upto rasterTurnsSpec)

/-- 'layercakelaw2.ChunkTurned', WHERE WHAT IT READS IS OF BULK AT MOST 1048576: true; the input reads as it did. -/
def chunkTurnedUptoRow : OpenClaim := { program := "ytkfjcgcgfdibaaadoor", sum := "ff82e6d2e236cad2861eafa46903897cd6f1951f3208867c8c72e2993fc2a41e", func := "layercake/layercakelaw2.ChunkTurned", spec := "chunkTurned", inPlace := ["internal/abi.NoEscape"], unfollowed := true, recurses := true, named := ["layercake/api.ErrShape", "layercake/api.ErrBound", "layercake/api.ErrText", "layercake/api.ErrSum"], apart := false, laid := [("layercake/api.ErrText", laid_layercake_api_ErrText), ("layercake/api.ErrBound", laid_layercake_api_ErrBound), ("layercake/api.ErrShape", laid_layercake_api_ErrShape), ("layercake/api.ErrSum", laid_layercake_api_ErrSum)], narrowed := true }
def ChunkTurnedUptoSaid : Prop := chunkTurnedUptoRow.holds Tryd.pinned (OpenSpec.upto chunkTurnedSpec)

/-- 'layercakelaw2.ChunkWrites', WHERE WHAT IT READS IS OF BULK AT MOST 1048576: true; the input reads as it did. -/
def chunkWritesUptoRow : OpenClaim := { program := "ytkfjcgcgfdibaaadoor", sum := "ff82e6d2e236cad2861eafa46903897cd6f1951f3208867c8c72e2993fc2a41e", func := "layercake/layercakelaw2.ChunkWrites", spec := "chunkWrites", inPlace := ["internal/abi.NoEscape", "internal/reflectlite.ValueOf", "(internal/reflectlite.Value).Type", "(internal/reflectlite.Value).IsNil", "internal/reflectlite.TypeOf", "(internal/reflectlite.Value).Elem", "(internal/reflectlite.Value).Set"], unfollowed := true, recurses := true, named := ["layercake/api.ErrShape", "layercake/api.ErrBound", "layercake/api.ErrText", "layercake/api.ErrSum", "layercake/api.ErrName", "layercake/api.ErrNone", "layercake/api.ErrColors", "layercake/api.ErrFull", "layercake/api.ErrPower", "errors.errorType"], apart := false, laid := [("errors.errorType", laid_errors_errorType), ("layercake/api.ErrText", laid_layercake_api_ErrText), ("layercake/api.ErrBound", laid_layercake_api_ErrBound), ("layercake/api.ErrShape", laid_layercake_api_ErrShape), ("layercake/api.ErrSum", laid_layercake_api_ErrSum), ("layercake/api.ErrName", laid_layercake_api_ErrName), ("layercake/api.ErrNone", laid_layercake_api_ErrNone), ("layercake/api.ErrColors", laid_layercake_api_ErrColors), ("layercake/api.ErrFull", laid_layercake_api_ErrFull), ("layercake/api.ErrPower", laid_layercake_api_ErrPower)], narrowed := true }
def ChunkWritesUptoSaid : Prop := chunkWritesUptoRow.holds Tryd.pinned (OpenSpec.upto chunkWritesSpec)

/-- 'layercakelaw2.ChunkReads', WHERE WHAT IT READS IS OF BULK AT MOST 1048576: true; the input reads as it did. -/
def chunkReadsUptoRow : OpenClaim := { program := "ytkfjcgcgfdibaaadoor", sum := "ff82e6d2e236cad2861eafa46903897cd6f1951f3208867c8c72e2993fc2a41e", func := "layercake/layercakelaw2.ChunkReads", spec := "chunkReads", inPlace := ["internal/abi.NoEscape", "internal/reflectlite.ValueOf", "(internal/reflectlite.Value).Type", "(internal/reflectlite.Value).IsNil", "internal/reflectlite.TypeOf", "(internal/reflectlite.Value).Elem", "(internal/reflectlite.Value).Set"], unfollowed := true, recurses := true, named := ["layercake/api.ErrShape", "layercake/api.ErrBound", "layercake/api.ErrText", "layercake/api.ErrSum", "layercake/api.ErrName", "layercake/api.ErrNone", "layercake/api.ErrColors", "layercake/api.ErrFull", "layercake/api.ErrPower", "errors.errorType"], apart := false, laid := [("errors.errorType", laid_errors_errorType), ("layercake/api.ErrText", laid_layercake_api_ErrText), ("layercake/api.ErrBound", laid_layercake_api_ErrBound), ("layercake/api.ErrShape", laid_layercake_api_ErrShape), ("layercake/api.ErrSum", laid_layercake_api_ErrSum), ("layercake/api.ErrName", laid_layercake_api_ErrName), ("layercake/api.ErrNone", laid_layercake_api_ErrNone), ("layercake/api.ErrColors", laid_layercake_api_ErrColors), ("layercake/api.ErrFull", laid_layercake_api_ErrFull), ("layercake/api.ErrPower", laid_layercake_api_ErrPower)], narrowed := true }
def ChunkReadsUptoSaid : Prop := chunkReadsUptoRow.holds Tryd.pinned (OpenSpec.upto chunkReadsSpec)

end Rows
end Go.Proofs.YtkfjcgcgfdibaaaDoor
