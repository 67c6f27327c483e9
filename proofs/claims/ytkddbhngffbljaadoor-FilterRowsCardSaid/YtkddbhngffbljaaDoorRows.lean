/-
  NARROWER THAN 'FOR EVERY INPUT', by the rows' own cells (each row's printed sentence says how): BitsTwice: laid · BitsPut: laid · BitsGet: laid · HuffApart: laid · HuffCodes: laid · HuffCosts: laid · HuffReads: laid · HuffFalls: laid · Names: laid · FilterTwice: laid · FilterDoes: laid · FilterRows: laid.
  DERIVED. THE GIVEN ROWS OF THIS SEAT. 12 by the template 'for every input the law returns true; each argument reads behind the call as it read before'; 0 by the template 'total and deterministic' (their statements: YtkddbhngffbljaaDoorTotals.lean).
  GIVEN WITH THE SEED: the statements are not yours to turn. If you find one false, say at which input.
  Laid BY PROGRAM, IN A SANDBOX (cutbox-rows.mjs): the forced cells as the released guide's own fill.sh prints them over the translation e9607645fe3d7abc… (all of the seat's roots in one cut). By AI agents, Wed Nov 11 2026. No macro, syntax, notation, axiom, sorry.
-/
import Derived.Test.YtkddbhngffbljaaDoorChecked
import GoSem.Claim
import GoSem.ClaimJoined
import GoSem.ClaimMapViews
import Derived.JoinedTies
import Derived.KernelRfl
namespace Go.Proofs.YtkddbhngffbljaaDoor
/- THE CELL 'sum', in the pinned program and in every row, IS THE sha256 OF THE DUMP (.gsa) THAT YtkddbhngffbljaaDoorProg.lean LOADS. Nothing in Lean hashes anything: it is a label: what it is worth is what the hold of that sum in a sandbox is worth. -/
noncomputable def Tryd.pinned : Pinned := { name := "ytkddbhngffbljaadoor", sum := "e9607645fe3d7abcd46fedb4f8624f144f7f0a0be3b8f3a2fb33d28ec729c5e6", checked := Tryd.checked }
namespace Rows
def none {H : Type} : Left H := { results := [], args := [] }

/- WHAT THE LISTED PACKAGE-LEVEL VARIABLES READ AS WHEN THE CALL BEGINS. Each datum BY PROGRAM (the guide's laid-datum.mjs) off the statement by which the dump's own 'gosem.cut.vars' lays the variable. In a bare row this is a premise. The card (YtkddbhngffbljaaDoorCards.lean) ties it to the program's text. -/
def laid_layercake_api_ErrText {H : Type} : DataW H := .iface "*errors.errorString" (.ptr (.agg [.lit (.string [108, 97, 121, 101, 114, 99, 97, 107, 101, 58, 32, 116, 101, 120, 116])]))
def laid_layercake_api_ErrBound {H : Type} : DataW H := .iface "*errors.errorString" (.ptr (.agg [.lit (.string [108, 97, 121, 101, 114, 99, 97, 107, 101, 58, 32, 98, 111, 117, 110, 100])]))
def laid_errors_errorType {H : Type} : DataW H := .iface "internal/reflectlite.rtype" (.agg [.ptr (.lit (.string [101, 114, 114, 111, 114]))])
def laid_layercake_api_ErrShape {H : Type} : DataW H := .iface "*errors.errorString" (.ptr (.agg [.lit (.string [108, 97, 121, 101, 114, 99, 97, 107, 101, 58, 32, 115, 104, 97, 112, 101])]))
def laid_layercake_api_ErrSum {H : Type} : DataW H := .iface "*errors.errorString" (.ptr (.agg [.lit (.string [108, 97, 121, 101, 114, 99, 97, 107, 101, 58, 32, 115, 117, 109])]))
def laid_layercake_api_ErrName {H : Type} : DataW H := .iface "*errors.errorString" (.ptr (.agg [.lit (.string [108, 97, 121, 101, 114, 99, 97, 107, 101, 58, 32, 110, 97, 109, 101])]))
def laid_layercake_api_ErrNone {H : Type} : DataW H := .iface "*errors.errorString" (.ptr (.agg [.lit (.string [108, 97, 121, 101, 114, 99, 97, 107, 101, 58, 32, 110, 111, 110, 101])]))
def laid_layercake_api_ErrColors {H : Type} : DataW H := .iface "*errors.errorString" (.ptr (.agg [.lit (.string [108, 97, 121, 101, 114, 99, 97, 107, 101, 58, 32, 99, 111, 108, 111, 114, 115])]))
def laid_layercake_api_ErrFull {H : Type} : DataW H := .iface "*errors.errorString" (.ptr (.agg [.lit (.string [108, 97, 121, 101, 114, 99, 97, 107, 101, 58, 32, 102, 117, 108, 108])]))
def laid_layercake_api_ErrPower {H : Type} : DataW H := .iface "*errors.errorString" (.ptr (.agg [.lit (.string [108, 97, 121, 101, 114, 99, 97, 107, 101, 58, 32, 112, 111, 119, 101, 114])]))

/-- 'layercakelaw1.BitsTwice': WHATEVER THE INPUT: true; the input reads as it did. -/
def bitsTwiceSpec : ChangeSpec := { name := "bitsTwice", fn := fun _ => fun
  | [d] => { results := [.lit (.bool true)], args := [d] }
  | _ => none }
def bitsTwiceRow : OpenClaim := { program := "ytkddbhngffbljaadoor", sum := "e9607645fe3d7abcd46fedb4f8624f144f7f0a0be3b8f3a2fb33d28ec729c5e6", func := "layercake/layercakelaw1.BitsTwice", spec := "bitsTwice", named := ["layercake/api.ErrBound", "layercake/api.ErrText"], apart := false, laid := [("layercake/api.ErrText", laid_layercake_api_ErrText), ("layercake/api.ErrBound", laid_layercake_api_ErrBound)] }
def BitsTwiceSaid : Prop := bitsTwiceRow.holds Tryd.pinned (OpenSpec.ofChange bitsTwiceSpec)

/-- ITS FALSE NEIGHBOUR: 'it returns false'. Refute it at one input. -/
def bitsTwiceWrong : ChangeSpec := { name := "bitsTwice", fn := fun _ => fun
  | [d] => { results := [.lit (.bool false)], args := [d] }
  | _ => none }
def BitsTwiceWrongFalsely : Prop := bitsTwiceRow.holds Tryd.pinned (OpenSpec.ofChange bitsTwiceWrong)

/-- 'layercakelaw1.BitsPut': WHATEVER THE INPUT: true; the input reads as it did. -/
def bitsPutSpec : ChangeSpec := { name := "bitsPut", fn := fun _ => fun
  | [d] => { results := [.lit (.bool true)], args := [d] }
  | _ => none }
def bitsPutRow : OpenClaim := { program := "ytkddbhngffbljaadoor", sum := "e9607645fe3d7abcd46fedb4f8624f144f7f0a0be3b8f3a2fb33d28ec729c5e6", func := "layercake/layercakelaw1.BitsPut", spec := "bitsPut", inPlace := ["internal/reflectlite.ValueOf", "(internal/reflectlite.Value).Type", "(internal/reflectlite.Value).IsNil", "internal/reflectlite.TypeOf", "(internal/reflectlite.Value).Elem", "(internal/reflectlite.Value).Set"], unfollowed := true, recurses := true, named := ["layercake/api.ErrBound", "layercake/api.ErrText", "layercake/api.ErrShape", "layercake/api.ErrSum", "layercake/api.ErrName", "layercake/api.ErrNone", "layercake/api.ErrColors", "layercake/api.ErrFull", "layercake/api.ErrPower", "errors.errorType"], apart := false, laid := [("errors.errorType", laid_errors_errorType), ("layercake/api.ErrText", laid_layercake_api_ErrText), ("layercake/api.ErrBound", laid_layercake_api_ErrBound), ("layercake/api.ErrShape", laid_layercake_api_ErrShape), ("layercake/api.ErrSum", laid_layercake_api_ErrSum), ("layercake/api.ErrName", laid_layercake_api_ErrName), ("layercake/api.ErrNone", laid_layercake_api_ErrNone), ("layercake/api.ErrColors", laid_layercake_api_ErrColors), ("layercake/api.ErrFull", laid_layercake_api_ErrFull), ("layercake/api.ErrPower", laid_layercake_api_ErrPower)] }
def BitsPutSaid : Prop := bitsPutRow.holds Tryd.pinned (OpenSpec.ofChange bitsPutSpec)

/-- ITS FALSE NEIGHBOUR: 'it returns false'. Refute it at one input. -/
def bitsPutWrong : ChangeSpec := { name := "bitsPut", fn := fun _ => fun
  | [d] => { results := [.lit (.bool false)], args := [d] }
  | _ => none }
def BitsPutWrongFalsely : Prop := bitsPutRow.holds Tryd.pinned (OpenSpec.ofChange bitsPutWrong)

/-- 'layercakelaw1.BitsGet': WHATEVER THE INPUT: true; the input reads as it did. -/
def bitsGetSpec : ChangeSpec := { name := "bitsGet", fn := fun _ => fun
  | [d1, d2] => { results := [.lit (.bool true)], args := [d1, d2] }
  | _ => none }
def bitsGetRow : OpenClaim := { program := "ytkddbhngffbljaadoor", sum := "e9607645fe3d7abcd46fedb4f8624f144f7f0a0be3b8f3a2fb33d28ec729c5e6", func := "layercake/layercakelaw1.BitsGet", spec := "bitsGet", inPlace := ["internal/reflectlite.ValueOf", "(internal/reflectlite.Value).Type", "(internal/reflectlite.Value).IsNil", "internal/reflectlite.TypeOf", "(internal/reflectlite.Value).Elem", "(internal/reflectlite.Value).Set"], unfollowed := true, recurses := true, named := ["layercake/api.ErrBound", "layercake/api.ErrText", "layercake/api.ErrShape", "layercake/api.ErrSum", "layercake/api.ErrName", "layercake/api.ErrNone", "layercake/api.ErrColors", "layercake/api.ErrFull", "layercake/api.ErrPower", "errors.errorType"], apart := false, laid := [("errors.errorType", laid_errors_errorType), ("layercake/api.ErrText", laid_layercake_api_ErrText), ("layercake/api.ErrBound", laid_layercake_api_ErrBound), ("layercake/api.ErrShape", laid_layercake_api_ErrShape), ("layercake/api.ErrSum", laid_layercake_api_ErrSum), ("layercake/api.ErrName", laid_layercake_api_ErrName), ("layercake/api.ErrNone", laid_layercake_api_ErrNone), ("layercake/api.ErrColors", laid_layercake_api_ErrColors), ("layercake/api.ErrFull", laid_layercake_api_ErrFull), ("layercake/api.ErrPower", laid_layercake_api_ErrPower)] }
def BitsGetSaid : Prop := bitsGetRow.holds Tryd.pinned (OpenSpec.ofChange bitsGetSpec)

/-- ITS FALSE NEIGHBOUR: 'it returns false'. Refute it at one input. -/
def bitsGetWrong : ChangeSpec := { name := "bitsGet", fn := fun _ => fun
  | [d1, d2] => { results := [.lit (.bool false)], args := [d1, d2] }
  | _ => none }
def BitsGetWrongFalsely : Prop := bitsGetRow.holds Tryd.pinned (OpenSpec.ofChange bitsGetWrong)

/-- 'layercakelaw1.HuffApart': WHATEVER THE INPUT: true; the input reads as it did. -/
def huffApartSpec : ChangeSpec := { name := "huffApart", fn := fun _ => fun
  | [d] => { results := [.lit (.bool true)], args := [d] }
  | _ => none }
def huffApartRow : OpenClaim := { program := "ytkddbhngffbljaadoor", sum := "e9607645fe3d7abcd46fedb4f8624f144f7f0a0be3b8f3a2fb33d28ec729c5e6", func := "layercake/layercakelaw1.HuffApart", spec := "huffApart", unfollowed := true, recurses := true, named := ["layercake/api.ErrBound", "layercake/api.ErrShape"], apart := false, laid := [("layercake/api.ErrBound", laid_layercake_api_ErrBound), ("layercake/api.ErrShape", laid_layercake_api_ErrShape)] }
def HuffApartSaid : Prop := huffApartRow.holds Tryd.pinned (OpenSpec.ofChange huffApartSpec)

/-- ITS FALSE NEIGHBOUR: 'it returns false'. Refute it at one input. -/
def huffApartWrong : ChangeSpec := { name := "huffApart", fn := fun _ => fun
  | [d] => { results := [.lit (.bool false)], args := [d] }
  | _ => none }
def HuffApartWrongFalsely : Prop := huffApartRow.holds Tryd.pinned (OpenSpec.ofChange huffApartWrong)

/-- 'layercakelaw1.HuffCodes': WHATEVER THE INPUT: true; the input reads as it did. -/
def huffCodesSpec : ChangeSpec := { name := "huffCodes", fn := fun _ => fun
  | [d] => { results := [.lit (.bool true)], args := [d] }
  | _ => none }
def huffCodesRow : OpenClaim := { program := "ytkddbhngffbljaadoor", sum := "e9607645fe3d7abcd46fedb4f8624f144f7f0a0be3b8f3a2fb33d28ec729c5e6", func := "layercake/layercakelaw1.HuffCodes", spec := "huffCodes", inPlace := ["internal/reflectlite.ValueOf", "(internal/reflectlite.Value).Type", "(internal/reflectlite.Value).IsNil", "internal/reflectlite.TypeOf", "(internal/reflectlite.Value).Elem", "(internal/reflectlite.Value).Set"], unfollowed := true, recurses := true, named := ["layercake/api.ErrBound", "layercake/api.ErrShape", "layercake/api.ErrText", "layercake/api.ErrSum", "layercake/api.ErrName", "layercake/api.ErrNone", "layercake/api.ErrColors", "layercake/api.ErrFull", "layercake/api.ErrPower", "errors.errorType"], apart := false, laid := [("errors.errorType", laid_errors_errorType), ("layercake/api.ErrText", laid_layercake_api_ErrText), ("layercake/api.ErrBound", laid_layercake_api_ErrBound), ("layercake/api.ErrShape", laid_layercake_api_ErrShape), ("layercake/api.ErrSum", laid_layercake_api_ErrSum), ("layercake/api.ErrName", laid_layercake_api_ErrName), ("layercake/api.ErrNone", laid_layercake_api_ErrNone), ("layercake/api.ErrColors", laid_layercake_api_ErrColors), ("layercake/api.ErrFull", laid_layercake_api_ErrFull), ("layercake/api.ErrPower", laid_layercake_api_ErrPower)] }
def HuffCodesSaid : Prop := huffCodesRow.holds Tryd.pinned (OpenSpec.ofChange huffCodesSpec)

/-- ITS FALSE NEIGHBOUR: 'it returns false'. Refute it at one input. -/
def huffCodesWrong : ChangeSpec := { name := "huffCodes", fn := fun _ => fun
  | [d] => { results := [.lit (.bool false)], args := [d] }
  | _ => none }
def HuffCodesWrongFalsely : Prop := huffCodesRow.holds Tryd.pinned (OpenSpec.ofChange huffCodesWrong)

/-- 'layercakelaw1.HuffCosts': WHATEVER THE INPUT: true; the input reads as it did. -/
def huffCostsSpec : ChangeSpec := { name := "huffCosts", fn := fun _ => fun
  | [d1, d2] => { results := [.lit (.bool true)], args := [d1, d2] }
  | _ => none }
def huffCostsRow : OpenClaim := { program := "ytkddbhngffbljaadoor", sum := "e9607645fe3d7abcd46fedb4f8624f144f7f0a0be3b8f3a2fb33d28ec729c5e6", func := "layercake/layercakelaw1.HuffCosts", spec := "huffCosts", inPlace := ["internal/reflectlite.ValueOf", "(internal/reflectlite.Value).Type", "(internal/reflectlite.Value).IsNil", "internal/reflectlite.TypeOf", "(internal/reflectlite.Value).Elem", "(internal/reflectlite.Value).Set"], unfollowed := true, recurses := true, named := ["layercake/api.ErrBound", "layercake/api.ErrShape", "layercake/api.ErrText", "layercake/api.ErrSum", "layercake/api.ErrName", "layercake/api.ErrNone", "layercake/api.ErrColors", "layercake/api.ErrFull", "layercake/api.ErrPower", "errors.errorType"], apart := false, laid := [("errors.errorType", laid_errors_errorType), ("layercake/api.ErrText", laid_layercake_api_ErrText), ("layercake/api.ErrBound", laid_layercake_api_ErrBound), ("layercake/api.ErrShape", laid_layercake_api_ErrShape), ("layercake/api.ErrSum", laid_layercake_api_ErrSum), ("layercake/api.ErrName", laid_layercake_api_ErrName), ("layercake/api.ErrNone", laid_layercake_api_ErrNone), ("layercake/api.ErrColors", laid_layercake_api_ErrColors), ("layercake/api.ErrFull", laid_layercake_api_ErrFull), ("layercake/api.ErrPower", laid_layercake_api_ErrPower)] }
def HuffCostsSaid : Prop := huffCostsRow.holds Tryd.pinned (OpenSpec.ofChange huffCostsSpec)

/-- ITS FALSE NEIGHBOUR: 'it returns false'. Refute it at one input. -/
def huffCostsWrong : ChangeSpec := { name := "huffCosts", fn := fun _ => fun
  | [d1, d2] => { results := [.lit (.bool false)], args := [d1, d2] }
  | _ => none }
def HuffCostsWrongFalsely : Prop := huffCostsRow.holds Tryd.pinned (OpenSpec.ofChange huffCostsWrong)

/-- 'layercakelaw1.HuffReads': WHATEVER THE INPUT: true; the input reads as it did. -/
def huffReadsSpec : ChangeSpec := { name := "huffReads", fn := fun _ => fun
  | [d1, d2] => { results := [.lit (.bool true)], args := [d1, d2] }
  | _ => none }
def huffReadsRow : OpenClaim := { program := "ytkddbhngffbljaadoor", sum := "e9607645fe3d7abcd46fedb4f8624f144f7f0a0be3b8f3a2fb33d28ec729c5e6", func := "layercake/layercakelaw1.HuffReads", spec := "huffReads", inPlace := ["internal/reflectlite.ValueOf", "(internal/reflectlite.Value).Type", "(internal/reflectlite.Value).IsNil", "internal/reflectlite.TypeOf", "(internal/reflectlite.Value).Elem", "(internal/reflectlite.Value).Set"], unfollowed := true, recurses := true, named := ["layercake/api.ErrBound", "layercake/api.ErrShape", "layercake/api.ErrText", "layercake/api.ErrSum", "layercake/api.ErrName", "layercake/api.ErrNone", "layercake/api.ErrColors", "layercake/api.ErrFull", "layercake/api.ErrPower", "errors.errorType"], apart := false, laid := [("errors.errorType", laid_errors_errorType), ("layercake/api.ErrText", laid_layercake_api_ErrText), ("layercake/api.ErrBound", laid_layercake_api_ErrBound), ("layercake/api.ErrShape", laid_layercake_api_ErrShape), ("layercake/api.ErrSum", laid_layercake_api_ErrSum), ("layercake/api.ErrName", laid_layercake_api_ErrName), ("layercake/api.ErrNone", laid_layercake_api_ErrNone), ("layercake/api.ErrColors", laid_layercake_api_ErrColors), ("layercake/api.ErrFull", laid_layercake_api_ErrFull), ("layercake/api.ErrPower", laid_layercake_api_ErrPower)] }
def HuffReadsSaid : Prop := huffReadsRow.holds Tryd.pinned (OpenSpec.ofChange huffReadsSpec)

/-- ITS FALSE NEIGHBOUR: 'it returns false'. Refute it at one input. -/
def huffReadsWrong : ChangeSpec := { name := "huffReads", fn := fun _ => fun
  | [d1, d2] => { results := [.lit (.bool false)], args := [d1, d2] }
  | _ => none }
def HuffReadsWrongFalsely : Prop := huffReadsRow.holds Tryd.pinned (OpenSpec.ofChange huffReadsWrong)

/-- 'layercakelaw1.HuffFalls': WHATEVER THE INPUT: true; the input reads as it did. -/
def huffFallsSpec : ChangeSpec := { name := "huffFalls", fn := fun _ => fun
  | [d1, d2] => { results := [.lit (.bool true)], args := [d1, d2] }
  | _ => none }
def huffFallsRow : OpenClaim := { program := "ytkddbhngffbljaadoor", sum := "e9607645fe3d7abcd46fedb4f8624f144f7f0a0be3b8f3a2fb33d28ec729c5e6", func := "layercake/layercakelaw1.HuffFalls", spec := "huffFalls", inPlace := ["internal/reflectlite.ValueOf", "(internal/reflectlite.Value).Type", "(internal/reflectlite.Value).IsNil", "internal/reflectlite.TypeOf", "(internal/reflectlite.Value).Elem", "(internal/reflectlite.Value).Set"], unfollowed := true, recurses := true, named := ["layercake/api.ErrBound", "layercake/api.ErrShape", "layercake/api.ErrText", "layercake/api.ErrSum", "layercake/api.ErrName", "layercake/api.ErrNone", "layercake/api.ErrColors", "layercake/api.ErrFull", "layercake/api.ErrPower", "errors.errorType"], apart := false, laid := [("errors.errorType", laid_errors_errorType), ("layercake/api.ErrText", laid_layercake_api_ErrText), ("layercake/api.ErrBound", laid_layercake_api_ErrBound), ("layercake/api.ErrShape", laid_layercake_api_ErrShape), ("layercake/api.ErrSum", laid_layercake_api_ErrSum), ("layercake/api.ErrName", laid_layercake_api_ErrName), ("layercake/api.ErrNone", laid_layercake_api_ErrNone), ("layercake/api.ErrColors", laid_layercake_api_ErrColors), ("layercake/api.ErrFull", laid_layercake_api_ErrFull), ("layercake/api.ErrPower", laid_layercake_api_ErrPower)] }
def HuffFallsSaid : Prop := huffFallsRow.holds Tryd.pinned (OpenSpec.ofChange huffFallsSpec)

/-- ITS FALSE NEIGHBOUR: 'it returns false'. Refute it at one input. -/
def huffFallsWrong : ChangeSpec := { name := "huffFalls", fn := fun _ => fun
  | [d1, d2] => { results := [.lit (.bool false)], args := [d1, d2] }
  | _ => none }
def HuffFallsWrongFalsely : Prop := huffFallsRow.holds Tryd.pinned (OpenSpec.ofChange huffFallsWrong)

/-- 'layercakelaw1.Names': WHATEVER THE INPUT: true; the input reads as it did. -/
def namesSpec : ChangeSpec := { name := "names", fn := fun _ => fun
  | [] => { results := [.lit (.bool true)], args := [] }
  | _ => none }
def namesRow : OpenClaim := { program := "ytkddbhngffbljaadoor", sum := "e9607645fe3d7abcd46fedb4f8624f144f7f0a0be3b8f3a2fb33d28ec729c5e6", func := "layercake/layercakelaw1.Names", spec := "names", inPlace := ["internal/reflectlite.ValueOf", "(internal/reflectlite.Value).Type", "(internal/reflectlite.Value).IsNil", "internal/reflectlite.TypeOf", "(internal/reflectlite.Value).Elem", "(internal/reflectlite.Value).Set"], unfollowed := true, recurses := true, named := ["layercake/api.ErrText", "layercake/api.ErrBound", "layercake/api.ErrShape", "layercake/api.ErrSum", "layercake/api.ErrName", "layercake/api.ErrNone", "layercake/api.ErrColors", "layercake/api.ErrFull", "layercake/api.ErrPower", "errors.errorType"], apart := false, laid := [("errors.errorType", laid_errors_errorType), ("layercake/api.ErrText", laid_layercake_api_ErrText), ("layercake/api.ErrBound", laid_layercake_api_ErrBound), ("layercake/api.ErrShape", laid_layercake_api_ErrShape), ("layercake/api.ErrSum", laid_layercake_api_ErrSum), ("layercake/api.ErrName", laid_layercake_api_ErrName), ("layercake/api.ErrNone", laid_layercake_api_ErrNone), ("layercake/api.ErrColors", laid_layercake_api_ErrColors), ("layercake/api.ErrFull", laid_layercake_api_ErrFull), ("layercake/api.ErrPower", laid_layercake_api_ErrPower)] }
def NamesSaid : Prop := namesRow.holds Tryd.pinned (OpenSpec.ofChange namesSpec)

/-- ITS FALSE NEIGHBOUR: 'it returns false'. Refute it at one input. -/
def namesWrong : ChangeSpec := { name := "names", fn := fun _ => fun
  | [] => { results := [.lit (.bool false)], args := [] }
  | _ => none }
def NamesWrongFalsely : Prop := namesRow.holds Tryd.pinned (OpenSpec.ofChange namesWrong)

/-- 'layercakelaw1.FilterTwice': WHATEVER THE INPUT: true; the input reads as it did. -/
def filterTwiceSpec : ChangeSpec := { name := "filterTwice", fn := fun _ => fun
  | [d1, d2, d3, d4] => { results := [.lit (.bool true)], args := [d1, d2, d3, d4] }
  | _ => none }
def filterTwiceRow : OpenClaim := { program := "ytkddbhngffbljaadoor", sum := "e9607645fe3d7abcd46fedb4f8624f144f7f0a0be3b8f3a2fb33d28ec729c5e6", func := "layercake/layercakelaw1.FilterTwice", spec := "filterTwice", named := ["layercake/api.ErrBound", "layercake/api.ErrShape"], apart := false, laid := [("layercake/api.ErrBound", laid_layercake_api_ErrBound), ("layercake/api.ErrShape", laid_layercake_api_ErrShape)] }
def FilterTwiceSaid : Prop := filterTwiceRow.holds Tryd.pinned (OpenSpec.ofChange filterTwiceSpec)

/-- ITS FALSE NEIGHBOUR: 'it returns false'. Refute it at one input. -/
def filterTwiceWrong : ChangeSpec := { name := "filterTwice", fn := fun _ => fun
  | [d1, d2, d3, d4] => { results := [.lit (.bool false)], args := [d1, d2, d3, d4] }
  | _ => none }
def FilterTwiceWrongFalsely : Prop := filterTwiceRow.holds Tryd.pinned (OpenSpec.ofChange filterTwiceWrong)

/-- 'layercakelaw1.FilterDoes': WHATEVER THE INPUT: true; the input reads as it did. -/
def filterDoesSpec : ChangeSpec := { name := "filterDoes", fn := fun _ => fun
  | [d1, d2, d3, d4] => { results := [.lit (.bool true)], args := [d1, d2, d3, d4] }
  | _ => none }
def filterDoesRow : OpenClaim := { program := "ytkddbhngffbljaadoor", sum := "e9607645fe3d7abcd46fedb4f8624f144f7f0a0be3b8f3a2fb33d28ec729c5e6", func := "layercake/layercakelaw1.FilterDoes", spec := "filterDoes", inPlace := ["internal/reflectlite.ValueOf", "(internal/reflectlite.Value).Type", "(internal/reflectlite.Value).IsNil", "internal/reflectlite.TypeOf", "(internal/reflectlite.Value).Elem", "(internal/reflectlite.Value).Set"], unfollowed := true, recurses := true, named := ["layercake/api.ErrBound", "layercake/api.ErrShape", "layercake/api.ErrText", "layercake/api.ErrSum", "layercake/api.ErrName", "layercake/api.ErrNone", "layercake/api.ErrColors", "layercake/api.ErrFull", "layercake/api.ErrPower", "errors.errorType"], apart := false, laid := [("errors.errorType", laid_errors_errorType), ("layercake/api.ErrText", laid_layercake_api_ErrText), ("layercake/api.ErrBound", laid_layercake_api_ErrBound), ("layercake/api.ErrShape", laid_layercake_api_ErrShape), ("layercake/api.ErrSum", laid_layercake_api_ErrSum), ("layercake/api.ErrName", laid_layercake_api_ErrName), ("layercake/api.ErrNone", laid_layercake_api_ErrNone), ("layercake/api.ErrColors", laid_layercake_api_ErrColors), ("layercake/api.ErrFull", laid_layercake_api_ErrFull), ("layercake/api.ErrPower", laid_layercake_api_ErrPower)] }
def FilterDoesSaid : Prop := filterDoesRow.holds Tryd.pinned (OpenSpec.ofChange filterDoesSpec)

/-- ITS FALSE NEIGHBOUR: 'it returns false'. Refute it at one input. -/
def filterDoesWrong : ChangeSpec := { name := "filterDoes", fn := fun _ => fun
  | [d1, d2, d3, d4] => { results := [.lit (.bool false)], args := [d1, d2, d3, d4] }
  | _ => none }
def FilterDoesWrongFalsely : Prop := filterDoesRow.holds Tryd.pinned (OpenSpec.ofChange filterDoesWrong)

/-- 'layercakelaw1.FilterRows': WHATEVER THE INPUT: true; the input reads as it did. -/
def filterRowsSpec : ChangeSpec := { name := "filterRows", fn := fun _ => fun
  | [d1, d2, d3, d4] => { results := [.lit (.bool true)], args := [d1, d2, d3, d4] }
  | _ => none }
def filterRowsRow : OpenClaim := { program := "ytkddbhngffbljaadoor", sum := "e9607645fe3d7abcd46fedb4f8624f144f7f0a0be3b8f3a2fb33d28ec729c5e6", func := "layercake/layercakelaw1.FilterRows", spec := "filterRows", inPlace := ["internal/reflectlite.ValueOf", "(internal/reflectlite.Value).Type", "(internal/reflectlite.Value).IsNil", "internal/reflectlite.TypeOf", "(internal/reflectlite.Value).Elem", "(internal/reflectlite.Value).Set"], unfollowed := true, recurses := true, named := ["layercake/api.ErrBound", "layercake/api.ErrShape", "layercake/api.ErrText", "layercake/api.ErrSum", "layercake/api.ErrName", "layercake/api.ErrNone", "layercake/api.ErrColors", "layercake/api.ErrFull", "layercake/api.ErrPower", "errors.errorType"], apart := false, laid := [("errors.errorType", laid_errors_errorType), ("layercake/api.ErrText", laid_layercake_api_ErrText), ("layercake/api.ErrBound", laid_layercake_api_ErrBound), ("layercake/api.ErrShape", laid_layercake_api_ErrShape), ("layercake/api.ErrSum", laid_layercake_api_ErrSum), ("layercake/api.ErrName", laid_layercake_api_ErrName), ("layercake/api.ErrNone", laid_layercake_api_ErrNone), ("layercake/api.ErrColors", laid_layercake_api_ErrColors), ("layercake/api.ErrFull", laid_layercake_api_ErrFull), ("layercake/api.ErrPower", laid_layercake_api_ErrPower)] }
def FilterRowsSaid : Prop := filterRowsRow.holds Tryd.pinned (OpenSpec.ofChange filterRowsSpec)

/-- ITS FALSE NEIGHBOUR: 'it returns false'. Refute it at one input. -/
def filterRowsWrong : ChangeSpec := { name := "filterRows", fn := fun _ => fun
  | [d1, d2, d3, d4] => { results := [.lit (.bool false)], args := [d1, d2, d3, d4] }
  | _ => none }
def FilterRowsWrongFalsely : Prop := filterRowsRow.holds Tryd.pinned (OpenSpec.ofChange filterRowsWrong)

/- THE SECOND FORM. 'bulk': how many values and letters a reading holds, each counted each time it is reached (what is shared counts as often as it is met; a slice's spare places count too). A statement '..UptoSaid' is the law's where the arguments, and the package variables that the reading takes, are together of bulk at most 1048576: NARROWER than '..Said'. Prove '..Said' where nothing that the law and all that it calls make is longer than what came in: it says more and counts as full. Else prove '..UptoSaid'. A law counts once. -/
mutual
def uptoBulk {H : Type} : DataW H → Nat
  | .lit (.string bytes) => bytes.length + 1
  | .lit _ => 1
  | .nil => 1
  | .ptr d => uptoBulk d + 1
  | .slice elems spare => uptoBulkAll elems + uptoBulkAll spare + 1
  | .agg parts => uptoBulkAll parts + 1
  | .iface _ d => uptoBulk d + 1
  | .map entries => uptoBulkEntries entries + 1
  | .held _ => 1
def uptoBulkAll {H : Type} : List (DataW H) → Nat
  | [] => 0
  | d :: r => uptoBulk d + uptoBulkAll r
def uptoBulkEntries {H : Type} : List (Lit × DataW H) → Nat
  | [] => 0
  | x :: r => uptoBulkEntry x + uptoBulkEntries r
def uptoBulkEntry {H : Type} : Lit × DataW H → Nat
  | (.string bytes, d) => bytes.length + uptoBulk d + 1
  | (_, d) => uptoBulk d + 1
 end
def uptoSmall : (H : Type) → List (DataW H) → Bool := fun _ ds => decide (uptoBulkAll ds ≤ 1048576)
def OpenSpec.upto (s : _root_.Go.ChangeSpec) : _root_.Go.OpenSpec := { _root_.Go.OpenSpec.ofChange s with cond := some uptoSmall }

/-- 'layercakelaw1.BitsTwice', WHERE WHAT IT READS IS OF BULK AT MOST 1048576: true; the input reads as it did. -/
def bitsTwiceUptoRow : OpenClaim := { program := "ytkddbhngffbljaadoor", sum := "e9607645fe3d7abcd46fedb4f8624f144f7f0a0be3b8f3a2fb33d28ec729c5e6", func := "layercake/layercakelaw1.BitsTwice", spec := "bitsTwice", named := ["layercake/api.ErrBound", "layercake/api.ErrText"], apart := false, laid := [("layercake/api.ErrText", laid_layercake_api_ErrText), ("layercake/api.ErrBound", laid_layercake_api_ErrBound)], narrowed := true }
def BitsTwiceUptoSaid : Prop := bitsTwiceUptoRow.holds Tryd.pinned (OpenSpec.upto bitsTwiceSpec)

/-- 'layercakelaw1.BitsPut', WHERE WHAT IT READS IS OF BULK AT MOST 1048576: true; the input reads as it did. -/
def bitsPutUptoRow : OpenClaim := { program := "ytkddbhngffbljaadoor", sum := "e9607645fe3d7abcd46fedb4f8624f144f7f0a0be3b8f3a2fb33d28ec729c5e6", func := "layercake/layercakelaw1.BitsPut", spec := "bitsPut", inPlace := ["internal/reflectlite.ValueOf", "(internal/reflectlite.Value).Type", "(internal/reflectlite.Value).IsNil", "internal/reflectlite.TypeOf", "(internal/reflectlite.Value).Elem", "(internal/reflectlite.Value).Set"], unfollowed := true, recurses := true, named := ["layercake/api.ErrBound", "layercake/api.ErrText", "layercake/api.ErrShape", "layercake/api.ErrSum", "layercake/api.ErrName", "layercake/api.ErrNone", "layercake/api.ErrColors", "layercake/api.ErrFull", "layercake/api.ErrPower", "errors.errorType"], apart := false, laid := [("errors.errorType", laid_errors_errorType), ("layercake/api.ErrText", laid_layercake_api_ErrText), ("layercake/api.ErrBound", laid_layercake_api_ErrBound), ("layercake/api.ErrShape", laid_layercake_api_ErrShape), ("layercake/api.ErrSum", laid_layercake_api_ErrSum), ("layercake/api.ErrName", laid_layercake_api_ErrName), ("layercake/api.ErrNone", laid_layercake_api_ErrNone), ("layercake/api.ErrColors", laid_layercake_api_ErrColors), ("layercake/api.ErrFull", laid_layercake_api_ErrFull), ("layercake/api.ErrPower", laid_layercake_api_ErrPower)], narrowed := true }
def BitsPutUptoSaid : Prop := bitsPutUptoRow.holds Tryd.pinned (OpenSpec.upto bitsPutSpec)

/-- 'layercakelaw1.BitsGet', WHERE WHAT IT READS IS OF BULK AT MOST 1048576: true; the input reads as it did. -/
def bitsGetUptoRow : OpenClaim := { program := "ytkddbhngffbljaadoor", sum := "e9607645fe3d7abcd46fedb4f8624f144f7f0a0be3b8f3a2fb33d28ec729c5e6", func := "layercake/layercakelaw1.BitsGet", spec := "bitsGet", inPlace := ["internal/reflectlite.ValueOf", "(internal/reflectlite.Value).Type", "(internal/reflectlite.Value).IsNil", "internal/reflectlite.TypeOf", "(internal/reflectlite.Value).Elem", "(internal/reflectlite.Value).Set"], unfollowed := true, recurses := true, named := ["layercake/api.ErrBound", "layercake/api.ErrText", "layercake/api.ErrShape", "layercake/api.ErrSum", "layercake/api.ErrName", "layercake/api.ErrNone", "layercake/api.ErrColors", "layercake/api.ErrFull", "layercake/api.ErrPower", "errors.errorType"], apart := false, laid := [("errors.errorType", laid_errors_errorType), ("layercake/api.ErrText", laid_layercake_api_ErrText), ("layercake/api.ErrBound", laid_layercake_api_ErrBound), ("layercake/api.ErrShape", laid_layercake_api_ErrShape), ("layercake/api.ErrSum", laid_layercake_api_ErrSum), ("layercake/api.ErrName", laid_layercake_api_ErrName), ("layercake/api.ErrNone", laid_layercake_api_ErrNone), ("layercake/api.ErrColors", laid_layercake_api_ErrColors), ("layercake/api.ErrFull", laid_layercake_api_ErrFull), ("layercake/api.ErrPower", laid_layercake_api_ErrPower)], narrowed := true }
def BitsGetUptoSaid : Prop := bitsGetUptoRow.holds Tryd.pinned (OpenSpec.upto bitsGetSpec)

/-- 'layercakelaw1.HuffApart', WHERE WHAT IT READS IS OF BULK AT MOST 1048576: true; the input reads as it did. -/
def huffApartUptoRow : OpenClaim := { program := "ytkddbhngffbljaadoor", sum := "e9607645fe3d7abcd46fedb4f8624f144f7f0a0be3b8f3a2fb33d28ec729c5e6", func := "layercake/layercakelaw1.HuffApart", spec := "huffApart", unfollowed := true, recurses := true, named := ["layercake/api.ErrBound", "layercake/api.ErrShape"], apart := false, laid := [("layercake/api.ErrBound", laid_layercake_api_ErrBound), ("layercake/api.ErrShape", laid_layercake_api_ErrShape)], narrowed := true }
def HuffApartUptoSaid : Prop := huffApartUptoRow.holds Tryd.pinned (OpenSpec.upto huffApartSpec)

/-- 'layercakelaw1.HuffCodes', WHERE WHAT IT READS IS OF BULK AT MOST 1048576: true; the input reads as it did. -/
def huffCodesUptoRow : OpenClaim := { program := "ytkddbhngffbljaadoor", sum := "e9607645fe3d7abcd46fedb4f8624f144f7f0a0be3b8f3a2fb33d28ec729c5e6", func := "layercake/layercakelaw1.HuffCodes", spec := "huffCodes", inPlace := ["internal/reflectlite.ValueOf", "(internal/reflectlite.Value).Type", "(internal/reflectlite.Value).IsNil", "internal/reflectlite.TypeOf", "(internal/reflectlite.Value).Elem", "(internal/reflectlite.Value).Set"], unfollowed := true, recurses := true, named := ["layercake/api.ErrBound", "layercake/api.ErrShape", "layercake/api.ErrText", "layercake/api.ErrSum", "layercake/api.ErrName", "layercake/api.ErrNone", "layercake/api.ErrColors", "layercake/api.ErrFull", "layercake/api.ErrPower", "errors.errorType"], apart := false, laid := [("errors.errorType", laid_errors_errorType), ("layercake/api.ErrText", laid_layercake_api_ErrText), ("layercake/api.ErrBound", laid_layercake_api_ErrBound), ("layercake/api.ErrShape", laid_layercake_api_ErrShape), ("layercake/api.ErrSum", laid_layercake_api_ErrSum), ("layercake/api.ErrName", laid_layercake_api_ErrName), ("layercake/api.ErrNone", laid_layercake_api_ErrNone), ("layercake/api.ErrColors", laid_layercake_api_ErrColors), ("layercake/api.ErrFull", laid_layercake_api_ErrFull), ("layercake/api.ErrPower", laid_layercake_api_ErrPower)], narrowed := true }
def HuffCodesUptoSaid : Prop := huffCodesUptoRow.holds Tryd.pinned (OpenSpec.upto huffCodesSpec)

/-- 'layercakelaw1.HuffCosts', WHERE WHAT IT READS IS OF BULK AT MOST 1048576: true; the input reads as it did. -/
def huffCostsUptoRow : OpenClaim := { program := "ytkddbhngffbljaadoor", sum := "e9607645fe3d7abcd46fedb4f8624f144f7f0a0be3b8f3a2fb33d28ec729c5e6", func := "layercake/layercakelaw1.HuffCosts", spec := "huffCosts", inPlace := ["internal/reflectlite.ValueOf", "(internal/reflectlite.Value).Type", "(internal/reflectlite.Value).IsNil", "internal/reflectlite.TypeOf", "(internal/reflectlite.Value).Elem", "(internal/reflectlite.Value).Set"], unfollowed := true, recurses := true, named := ["layercake/api.ErrBound", "layercake/api.ErrShape", "layercake/api.ErrText", "layercake/api.ErrSum", "layercake/api.ErrName", "layercake/api.ErrNone", "layercake/api.ErrColors", "layercake/api.ErrFull", "layercake/api.ErrPower", "errors.errorType"], apart := false, laid := [("errors.errorType", laid_errors_errorType), ("layercake/api.ErrText", laid_layercake_api_ErrText), ("layercake/api.ErrBound", laid_layercake_api_ErrBound), ("layercake/api.ErrShape", laid_layercake_api_ErrShape), ("layercake/api.ErrSum", laid_layercake_api_ErrSum), ("layercake/api.ErrName", laid_layercake_api_ErrName), ("layercake/api.ErrNone", laid_layercake_api_ErrNone), ("layercake/api.ErrColors", laid_layercake_api_ErrColors), ("layercake/api.ErrFull", laid_layercake_api_ErrFull), ("layercake/api.ErrPower", laid_layercake_api_ErrPower)], narrowed := true }
def HuffCostsUptoSaid : Prop := huffCostsUptoRow.holds Tryd.pinned (OpenSpec.upto huffCostsSpec)

/-- 'layercakelaw1.HuffReads', WHERE WHAT IT READS IS OF BULK AT MOST 1048576: true; the input reads as it did. -/
def huffReadsUptoRow : OpenClaim := { program := "ytkddbhngffbljaadoor", sum := "e9607645fe3d7abcd46fedb4f8624f144f7f0a0be3b8f3a2fb33d28ec729c5e6", func := "layercake/layercakelaw1.HuffReads", spec := "huffReads", inPlace := ["internal/reflectlite.ValueOf", "(internal/reflectlite.Value).Type", "(internal/reflectlite.Value).IsNil", "internal/reflectlite.TypeOf", "(internal/reflectlite.Value).Elem", "(internal/reflectlite.Value).Set"], unfollowed := true, recurses := true, named := ["layercake/api.ErrBound", "layercake/api.ErrShape", "layercake/api.ErrText", "layercake/api.ErrSum", "layercake/api.ErrName", "layercake/api.ErrNone", "layercake/api.ErrColors", "layercake/api.ErrFull", "layercake/api.ErrPower", "errors.errorType"], apart := false, laid := [("errors.errorType", laid_errors_errorType), ("layercake/api.ErrText", laid_layercake_api_ErrText), ("layercake/api.ErrBound", laid_layercake_api_ErrBound), ("layercake/api.ErrShape", laid_layercake_api_ErrShape), ("layercake/api.ErrSum", laid_layercake_api_ErrSum), ("layercake/api.ErrName", laid_layercake_api_ErrName), ("layercake/api.ErrNone", laid_layercake_api_ErrNone), ("layercake/api.ErrColors", laid_layercake_api_ErrColors), ("layercake/api.ErrFull", laid_layercake_api_ErrFull), ("layercake/api.ErrPower", laid_layercake_api_ErrPower)], narrowed := true }
def HuffReadsUptoSaid : Prop := huffReadsUptoRow.holds Tryd.pinned (OpenSpec.upto huffReadsSpec)

/-- 'layercakelaw1.HuffFalls', WHERE WHAT IT READS IS OF BULK AT MOST 1048576: true; the input reads as it did. -/
def huffFallsUptoRow : OpenClaim := { program := "ytkddbhngffbljaadoor", sum := "e9607645fe3d7abcd46fedb4f8624f144f7f0a0be3b8f3a2fb33d28ec729c5e6", func := "layercake/layercakelaw1.HuffFalls", spec := "huffFalls", inPlace := ["internal/reflectlite.ValueOf", "(internal/reflectlite.Value).Type", "(internal/reflectlite.Value).IsNil", "internal/reflectlite.TypeOf", "(internal/reflectlite.Value).Elem", "(internal/reflectlite.Value).Set"], unfollowed := true, recurses := true, named := ["layercake/api.ErrBound", "layercake/api.ErrShape", "layercake/api.ErrText", "layercake/api.ErrSum", "layercake/api.ErrName", "layercake/api.ErrNone", "layercake/api.ErrColors", "layercake/api.ErrFull", "layercake/api.ErrPower", "errors.errorType"], apart := false, laid := [("errors.errorType", laid_errors_errorType), ("layercake/api.ErrText", laid_layercake_api_ErrText), ("layercake/api.ErrBound", laid_layercake_api_ErrBound), ("layercake/api.ErrShape", laid_layercake_api_ErrShape), ("layercake/api.ErrSum", laid_layercake_api_ErrSum), ("layercake/api.ErrName", laid_layercake_api_ErrName), ("layercake/api.ErrNone", laid_layercake_api_ErrNone), ("layercake/api.ErrColors", laid_layercake_api_ErrColors), ("layercake/api.ErrFull", laid_layercake_api_ErrFull), ("layercake/api.ErrPower", laid_layercake_api_ErrPower)], narrowed := true }
def HuffFallsUptoSaid : Prop := huffFallsUptoRow.holds Tryd.pinned (OpenSpec.upto huffFallsSpec)

/-- 'layercakelaw1.Names', WHERE WHAT IT READS IS OF BULK AT MOST 1048576: true; the input reads as it did. -/
def namesUptoRow : OpenClaim := { program := "ytkddbhngffbljaadoor", sum := "e9607645fe3d7abcd46fedb4f8624f144f7f0a0be3b8f3a2fb33d28ec729c5e6", func := "layercake/layercakelaw1.Names", spec := "names", inPlace := ["internal/reflectlite.ValueOf", "(internal/reflectlite.Value).Type", "(internal/reflectlite.Value).IsNil", "internal/reflectlite.TypeOf", "(internal/reflectlite.Value).Elem", "(internal/reflectlite.Value).Set"], unfollowed := true, recurses := true, named := ["layercake/api.ErrText", "layercake/api.ErrBound", "layercake/api.ErrShape", "layercake/api.ErrSum", "layercake/api.ErrName", "layercake/api.ErrNone", "layercake/api.ErrColors", "layercake/api.ErrFull", "layercake/api.ErrPower", "errors.errorType"], apart := false, laid := [("errors.errorType", laid_errors_errorType), ("layercake/api.ErrText", laid_layercake_api_ErrText), ("layercake/api.ErrBound", laid_layercake_api_ErrBound), ("layercake/api.ErrShape", laid_layercake_api_ErrShape), ("layercake/api.ErrSum", laid_layercake_api_ErrSum), ("layercake/api.ErrName", laid_layercake_api_ErrName), ("layercake/api.ErrNone", laid_layercake_api_ErrNone), ("layercake/api.ErrColors", laid_layercake_api_ErrColors), ("layercake/api.ErrFull", laid_layercake_api_ErrFull), ("layercake/api.ErrPower", laid_layercake_api_ErrPower)], narrowed := true }
def NamesUptoSaid : Prop := namesUptoRow.holds Tryd.pinned (OpenSpec.upto namesSpec)

/-- 'layercakelaw1.FilterTwice', WHERE WHAT IT READS IS OF BULK AT MOST 1048576: true; the input reads as it did. -/
def filterTwiceUptoRow : OpenClaim := { program := "ytkddbhngffbljaadoor", sum := "e9607645fe3d7abcd46fedb4f8624f144f7f0a0be3b8f3a2fb33d28ec729c5e6", func := "layercake/layercakelaw1.FilterTwice", spec := "filterTwice", named := ["layercake/api.ErrBound", "layercake/api.ErrShape"], apart := false, laid := [("layercake/api.ErrBound", laid_layercake_api_ErrBound), ("layercake/api.ErrShape", laid_layercake_api_ErrShape)], narrowed := true }
def FilterTwiceUptoSaid : Prop := filterTwiceUptoRow.holds Tryd.pinned (OpenSpec.upto filterTwiceSpec)

/-- 'layercakelaw1.FilterDoes', WHERE WHAT IT READS IS OF BULK AT MOST 1048576: true; the input reads as it did. -/
def filterDoesUptoRow : OpenClaim := { program := "ytkddbhngffbljaadoor", sum := "e9607645fe3d7abcd46fedb4f8624f144f7f0a0be3b8f3a2fb33d28ec729c5e6", func := "layercake/layercakelaw1.FilterDoes", spec := "filterDoes", inPlace := ["internal/reflectlite.ValueOf", "(internal/reflectlite.Value).Type", "(internal/reflectlite.Value).IsNil", "internal/reflectlite.TypeOf", "(internal/reflectlite.Value).Elem", "(internal/reflectlite.Value).Set"], unfollowed := true, recurses := true, named := ["layercake/api.ErrBound", "layercake/api.ErrShape", "layercake/api.ErrText", "layercake/api.ErrSum", "layercake/api.ErrName", "layercake/api.ErrNone", "layercake/api.ErrColors", "layercake/api.ErrFull", "layercake/api.ErrPower", "errors.errorType"], apart := false, laid := [("errors.errorType", laid_errors_errorType), ("layercake/api.ErrText", laid_layercake_api_ErrText), ("layercake/api.ErrBound", laid_layercake_api_ErrBound), ("layercake/api.ErrShape", laid_layercake_api_ErrShape), ("layercake/api.ErrSum", laid_layercake_api_ErrSum), ("layercake/api.ErrName", laid_layercake_api_ErrName), ("layercake/api.ErrNone", laid_layercake_api_ErrNone), ("layercake/api.ErrColors", laid_layercake_api_ErrColors), ("layercake/api.ErrFull", laid_layercake_api_ErrFull), ("layercake/api.ErrPower", laid_layercake_api_ErrPower)], narrowed := true }
def FilterDoesUptoSaid : Prop := filterDoesUptoRow.holds Tryd.pinned (OpenSpec.upto filterDoesSpec)

/-- 'layercakelaw1.FilterRows', WHERE WHAT IT READS IS OF BULK AT MOST 1048576: true; the input reads as it did. -/
def filterRowsUptoRow : OpenClaim := { program := "ytkddbhngffbljaadoor", sum := "e9607645fe3d7abcd46fedb4f8624f144f7f0a0be3b8f3a2fb33d28ec729c5e6", func := "layercake/layercakelaw1.FilterRows", spec := "filterRows", inPlace := ["internal/reflectlite.ValueOf", "(internal/reflectlite.Value).Type", "(internal/reflectlite.Value).IsNil", "internal/reflectlite.TypeOf", "(internal/reflectlite.Value).Elem", "(internal/reflectlite.Value).Set"], unfollowed := true, recurses := true, named := ["layercake/api.ErrBound", "layercake/api.ErrShape", "layercake/api.ErrText", "layercake/api.ErrSum", "layercake/api.ErrName", "layercake/api.ErrNone", "layercake/api.ErrColors", "layercake/api.ErrFull", "layercake/api.ErrPower", "errors.errorType"], apart := false, laid := [("errors.errorType", laid_errors_errorType), ("layercake/api.ErrText", laid_layercake_api_ErrText), ("layercake/api.ErrBound", laid_layercake_api_ErrBound), ("layercake/api.ErrShape", laid_layercake_api_ErrShape), ("layercake/api.ErrSum", laid_layercake_api_ErrSum), ("layercake/api.ErrName", laid_layercake_api_ErrName), ("layercake/api.ErrNone", laid_layercake_api_ErrNone), ("layercake/api.ErrColors", laid_layercake_api_ErrColors), ("layercake/api.ErrFull", laid_layercake_api_ErrFull), ("layercake/api.ErrPower", laid_layercake_api_ErrPower)], narrowed := true }
def FilterRowsUptoSaid : Prop := filterRowsUptoRow.holds Tryd.pinned (OpenSpec.upto filterRowsSpec)

end Rows
end Go.Proofs.YtkddbhngffbljaaDoor
