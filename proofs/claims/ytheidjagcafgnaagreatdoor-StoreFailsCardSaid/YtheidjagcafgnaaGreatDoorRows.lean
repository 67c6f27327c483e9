/-
  NARROWER THAN 'FOR EVERY INPUT', by the rows' own cells (each row's printed sentence says how): StoreMany: laid · StoreFull: laid · StoreNone: laid · StoreKeeps: laid · StoreFails: laid.
  DERIVED. THE GIVEN ROWS OF THIS SEAT. 5 by the template 'for every input the law returns true; each argument reads behind the call as it read before'; 0 by the template 'total and deterministic' (their statements: YtheidjagcafgnaaGreatDoorTotals.lean).
  GIVEN WITH THE SEED: the statements are not yours to turn. If you find one false, say at which input.
  Laid BY PROGRAM, IN A SANDBOX (cutbox-rows.mjs): the forced cells as the released guide's own fill.sh prints them over the translation 3c72631723a76023… (all of the seat's roots in one cut). By AI agents, Wed Nov 11 2026. No macro, syntax, notation, axiom, sorry.
-/
import Derived.Test.YtheidjagcafgnaaGreatDoorChecked
import GoSem.Claim
import GoSem.ClaimJoined
import GoSem.ClaimMapViews
import Derived.JoinedTies
import Derived.KernelRfl
namespace Go.Proofs.YtheidjagcafgnaaGreatDoor
/- THE CELL 'sum', in the pinned program and in every row, IS THE sha256 OF THE DUMP (.gsa) THAT YtheidjagcafgnaaGreatDoorProg.lean LOADS. Nothing in Lean hashes anything: it is a label: what it is worth is what the hold of that sum in a sandbox is worth. -/
noncomputable def Tryz.pinned : Pinned := { name := "ytheidjagcafgnaagreatdoor", sum := "3c72631723a7602379a3b63ead1f632e8070ea248e413969832b7b1c11261906", checked := Tryz.checked }
namespace Rows
def none {H : Type} : Left H := { results := [], args := [] }

/- WHAT THE LISTED PACKAGE-LEVEL VARIABLES READ AS WHEN THE CALL BEGINS. Each datum BY PROGRAM (the guide's laid-datum.mjs) off the statement by which the dump's own 'gosem.cut.vars' lays the variable. In a bare row this is a premise. The card (YtheidjagcafgnaaGreatDoorCards.lean) ties it to the program's text. -/
def laid_errors_errorType {H : Type} : DataW H := .iface "internal/reflectlite.rtype" (.agg [.ptr (.lit (.string [101, 114, 114, 111, 114]))])
def laid_layercake_api_ErrText {H : Type} : DataW H := .iface "*errors.errorString" (.ptr (.agg [.lit (.string [108, 97, 121, 101, 114, 99, 97, 107, 101, 58, 32, 116, 101, 120, 116])]))
def laid_layercake_api_ErrBound {H : Type} : DataW H := .iface "*errors.errorString" (.ptr (.agg [.lit (.string [108, 97, 121, 101, 114, 99, 97, 107, 101, 58, 32, 98, 111, 117, 110, 100])]))
def laid_layercake_api_ErrShape {H : Type} : DataW H := .iface "*errors.errorString" (.ptr (.agg [.lit (.string [108, 97, 121, 101, 114, 99, 97, 107, 101, 58, 32, 115, 104, 97, 112, 101])]))
def laid_layercake_api_ErrSum {H : Type} : DataW H := .iface "*errors.errorString" (.ptr (.agg [.lit (.string [108, 97, 121, 101, 114, 99, 97, 107, 101, 58, 32, 115, 117, 109])]))
def laid_layercake_api_ErrName {H : Type} : DataW H := .iface "*errors.errorString" (.ptr (.agg [.lit (.string [108, 97, 121, 101, 114, 99, 97, 107, 101, 58, 32, 110, 97, 109, 101])]))
def laid_layercake_api_ErrNone {H : Type} : DataW H := .iface "*errors.errorString" (.ptr (.agg [.lit (.string [108, 97, 121, 101, 114, 99, 97, 107, 101, 58, 32, 110, 111, 110, 101])]))
def laid_layercake_api_ErrColors {H : Type} : DataW H := .iface "*errors.errorString" (.ptr (.agg [.lit (.string [108, 97, 121, 101, 114, 99, 97, 107, 101, 58, 32, 99, 111, 108, 111, 114, 115])]))
def laid_layercake_api_ErrFull {H : Type} : DataW H := .iface "*errors.errorString" (.ptr (.agg [.lit (.string [108, 97, 121, 101, 114, 99, 97, 107, 101, 58, 32, 102, 117, 108, 108])]))
def laid_layercake_api_ErrPower {H : Type} : DataW H := .iface "*errors.errorString" (.ptr (.agg [.lit (.string [108, 97, 121, 101, 114, 99, 97, 107, 101, 58, 32, 112, 111, 119, 101, 114])]))

/-- 'layercakelaw4.StoreMany': WHATEVER THE INPUT: true; the input reads as it did. -/
def storeManySpec : ChangeSpec := { name := "storeMany", fn := fun _ => fun
  | [d1, d2] => { results := [.lit (.bool true)], args := [d1, d2] }
  | _ => none }
def storeManyRow : OpenClaim := { program := "ytheidjagcafgnaagreatdoor", sum := "3c72631723a7602379a3b63ead1f632e8070ea248e413969832b7b1c11261906", func := "layercake/layercakelaw4.StoreMany", spec := "storeMany", inPlace := ["internal/abi.NoEscape", "internal/bytealg.MakeNoZero", "internal/reflectlite.ValueOf", "(internal/reflectlite.Value).Type", "(internal/reflectlite.Value).IsNil", "internal/reflectlite.TypeOf", "(internal/reflectlite.Value).Elem", "(internal/reflectlite.Value).Set"], unfollowed := true, recurses := true, named := ["layercake/api.ErrBound", "layercake/api.ErrFull", "layercake/api.ErrShape", "layercake/api.ErrPower", "layercake/api.ErrName", "layercake/api.ErrText", "layercake/api.ErrNone", "layercake/api.ErrSum", "layercake/api.ErrColors", "errors.errorType"], apart := false, laid := [("errors.errorType", laid_errors_errorType), ("layercake/api.ErrText", laid_layercake_api_ErrText), ("layercake/api.ErrBound", laid_layercake_api_ErrBound), ("layercake/api.ErrShape", laid_layercake_api_ErrShape), ("layercake/api.ErrSum", laid_layercake_api_ErrSum), ("layercake/api.ErrName", laid_layercake_api_ErrName), ("layercake/api.ErrNone", laid_layercake_api_ErrNone), ("layercake/api.ErrColors", laid_layercake_api_ErrColors), ("layercake/api.ErrFull", laid_layercake_api_ErrFull), ("layercake/api.ErrPower", laid_layercake_api_ErrPower)] }
def StoreManySaid : Prop := storeManyRow.holds Tryz.pinned (OpenSpec.ofChange storeManySpec)

/-- ITS FALSE NEIGHBOUR: 'it returns false'. Refute it at one input. -/
def storeManyWrong : ChangeSpec := { name := "storeMany", fn := fun _ => fun
  | [d1, d2] => { results := [.lit (.bool false)], args := [d1, d2] }
  | _ => none }
def StoreManyWrongFalsely : Prop := storeManyRow.holds Tryz.pinned (OpenSpec.ofChange storeManyWrong)

/-- 'layercakelaw4.StoreFull': WHATEVER THE INPUT: true; the input reads as it did. -/
def storeFullSpec : ChangeSpec := { name := "storeFull", fn := fun _ => fun
  | [d1, d2] => { results := [.lit (.bool true)], args := [d1, d2] }
  | _ => none }
def storeFullRow : OpenClaim := { program := "ytheidjagcafgnaagreatdoor", sum := "3c72631723a7602379a3b63ead1f632e8070ea248e413969832b7b1c11261906", func := "layercake/layercakelaw4.StoreFull", spec := "storeFull", inPlace := ["internal/abi.NoEscape", "internal/bytealg.MakeNoZero", "internal/reflectlite.ValueOf", "(internal/reflectlite.Value).Type", "(internal/reflectlite.Value).IsNil", "internal/reflectlite.TypeOf", "(internal/reflectlite.Value).Elem", "(internal/reflectlite.Value).Set"], unfollowed := true, recurses := true, named := ["layercake/api.ErrBound", "layercake/api.ErrFull", "layercake/api.ErrShape", "layercake/api.ErrPower", "layercake/api.ErrName", "layercake/api.ErrText", "layercake/api.ErrNone", "layercake/api.ErrSum", "layercake/api.ErrColors", "errors.errorType"], apart := false, laid := [("errors.errorType", laid_errors_errorType), ("layercake/api.ErrText", laid_layercake_api_ErrText), ("layercake/api.ErrBound", laid_layercake_api_ErrBound), ("layercake/api.ErrShape", laid_layercake_api_ErrShape), ("layercake/api.ErrSum", laid_layercake_api_ErrSum), ("layercake/api.ErrName", laid_layercake_api_ErrName), ("layercake/api.ErrNone", laid_layercake_api_ErrNone), ("layercake/api.ErrColors", laid_layercake_api_ErrColors), ("layercake/api.ErrFull", laid_layercake_api_ErrFull), ("layercake/api.ErrPower", laid_layercake_api_ErrPower)] }
def StoreFullSaid : Prop := storeFullRow.holds Tryz.pinned (OpenSpec.ofChange storeFullSpec)

/-- ITS FALSE NEIGHBOUR: 'it returns false'. Refute it at one input. -/
def storeFullWrong : ChangeSpec := { name := "storeFull", fn := fun _ => fun
  | [d1, d2] => { results := [.lit (.bool false)], args := [d1, d2] }
  | _ => none }
def StoreFullWrongFalsely : Prop := storeFullRow.holds Tryz.pinned (OpenSpec.ofChange storeFullWrong)

/-- 'layercakelaw4.StoreNone': WHATEVER THE INPUT: true; the input reads as it did. -/
def storeNoneSpec : ChangeSpec := { name := "storeNone", fn := fun _ => fun
  | [d1, d2] => { results := [.lit (.bool true)], args := [d1, d2] }
  | _ => none }
def storeNoneRow : OpenClaim := { program := "ytheidjagcafgnaagreatdoor", sum := "3c72631723a7602379a3b63ead1f632e8070ea248e413969832b7b1c11261906", func := "layercake/layercakelaw4.StoreNone", spec := "storeNone", inPlace := ["internal/abi.NoEscape", "internal/bytealg.MakeNoZero", "internal/reflectlite.ValueOf", "(internal/reflectlite.Value).Type", "(internal/reflectlite.Value).IsNil", "internal/reflectlite.TypeOf", "(internal/reflectlite.Value).Elem", "(internal/reflectlite.Value).Set"], unfollowed := true, recurses := true, named := ["layercake/api.ErrBound", "layercake/api.ErrFull", "layercake/api.ErrShape", "layercake/api.ErrPower", "layercake/api.ErrName", "layercake/api.ErrText", "layercake/api.ErrNone", "layercake/api.ErrSum", "layercake/api.ErrColors", "errors.errorType"], apart := false, laid := [("errors.errorType", laid_errors_errorType), ("layercake/api.ErrText", laid_layercake_api_ErrText), ("layercake/api.ErrBound", laid_layercake_api_ErrBound), ("layercake/api.ErrShape", laid_layercake_api_ErrShape), ("layercake/api.ErrSum", laid_layercake_api_ErrSum), ("layercake/api.ErrName", laid_layercake_api_ErrName), ("layercake/api.ErrNone", laid_layercake_api_ErrNone), ("layercake/api.ErrColors", laid_layercake_api_ErrColors), ("layercake/api.ErrFull", laid_layercake_api_ErrFull), ("layercake/api.ErrPower", laid_layercake_api_ErrPower)] }
def StoreNoneSaid : Prop := storeNoneRow.holds Tryz.pinned (OpenSpec.ofChange storeNoneSpec)

/-- ITS FALSE NEIGHBOUR: 'it returns false'. Refute it at one input. -/
def storeNoneWrong : ChangeSpec := { name := "storeNone", fn := fun _ => fun
  | [d1, d2] => { results := [.lit (.bool false)], args := [d1, d2] }
  | _ => none }
def StoreNoneWrongFalsely : Prop := storeNoneRow.holds Tryz.pinned (OpenSpec.ofChange storeNoneWrong)

/-- 'layercakelaw4.StoreKeeps': WHATEVER THE INPUT: true; the input reads as it did. -/
def storeKeepsSpec : ChangeSpec := { name := "storeKeeps", fn := fun _ => fun
  | [d1, d2] => { results := [.lit (.bool true)], args := [d1, d2] }
  | _ => none }
def storeKeepsRow : OpenClaim := { program := "ytheidjagcafgnaagreatdoor", sum := "3c72631723a7602379a3b63ead1f632e8070ea248e413969832b7b1c11261906", func := "layercake/layercakelaw4.StoreKeeps", spec := "storeKeeps", inPlace := ["internal/abi.NoEscape", "internal/bytealg.MakeNoZero", "internal/reflectlite.ValueOf", "(internal/reflectlite.Value).Type", "(internal/reflectlite.Value).IsNil", "internal/reflectlite.TypeOf", "(internal/reflectlite.Value).Elem", "(internal/reflectlite.Value).Set"], unfollowed := true, recurses := true, named := ["layercake/api.ErrBound", "layercake/api.ErrFull", "layercake/api.ErrShape", "layercake/api.ErrPower", "layercake/api.ErrName", "layercake/api.ErrText", "layercake/api.ErrNone", "layercake/api.ErrSum", "layercake/api.ErrColors", "errors.errorType"], apart := false, laid := [("errors.errorType", laid_errors_errorType), ("layercake/api.ErrText", laid_layercake_api_ErrText), ("layercake/api.ErrBound", laid_layercake_api_ErrBound), ("layercake/api.ErrShape", laid_layercake_api_ErrShape), ("layercake/api.ErrSum", laid_layercake_api_ErrSum), ("layercake/api.ErrName", laid_layercake_api_ErrName), ("layercake/api.ErrNone", laid_layercake_api_ErrNone), ("layercake/api.ErrColors", laid_layercake_api_ErrColors), ("layercake/api.ErrFull", laid_layercake_api_ErrFull), ("layercake/api.ErrPower", laid_layercake_api_ErrPower)] }
def StoreKeepsSaid : Prop := storeKeepsRow.holds Tryz.pinned (OpenSpec.ofChange storeKeepsSpec)

/-- ITS FALSE NEIGHBOUR: 'it returns false'. Refute it at one input. -/
def storeKeepsWrong : ChangeSpec := { name := "storeKeeps", fn := fun _ => fun
  | [d1, d2] => { results := [.lit (.bool false)], args := [d1, d2] }
  | _ => none }
def StoreKeepsWrongFalsely : Prop := storeKeepsRow.holds Tryz.pinned (OpenSpec.ofChange storeKeepsWrong)

/-- 'layercakelaw4.StoreFails': WHATEVER THE INPUT: true; the input reads as it did. -/
def storeFailsSpec : ChangeSpec := { name := "storeFails", fn := fun _ => fun
  | [d1, d2, d3, d4] => { results := [.lit (.bool true)], args := [d1, d2, d3, d4] }
  | _ => none }
def storeFailsRow : OpenClaim := { program := "ytheidjagcafgnaagreatdoor", sum := "3c72631723a7602379a3b63ead1f632e8070ea248e413969832b7b1c11261906", func := "layercake/layercakelaw4.StoreFails", spec := "storeFails", inPlace := ["internal/abi.NoEscape", "internal/bytealg.MakeNoZero", "internal/reflectlite.ValueOf", "(internal/reflectlite.Value).Type", "(internal/reflectlite.Value).IsNil", "internal/reflectlite.TypeOf", "(internal/reflectlite.Value).Elem", "(internal/reflectlite.Value).Set"], unfollowed := true, recurses := true, named := ["layercake/api.ErrBound", "layercake/api.ErrFull", "layercake/api.ErrShape", "layercake/api.ErrPower", "layercake/api.ErrName", "layercake/api.ErrText", "layercake/api.ErrNone", "layercake/api.ErrSum", "layercake/api.ErrColors", "errors.errorType"], apart := false, laid := [("errors.errorType", laid_errors_errorType), ("layercake/api.ErrText", laid_layercake_api_ErrText), ("layercake/api.ErrBound", laid_layercake_api_ErrBound), ("layercake/api.ErrShape", laid_layercake_api_ErrShape), ("layercake/api.ErrSum", laid_layercake_api_ErrSum), ("layercake/api.ErrName", laid_layercake_api_ErrName), ("layercake/api.ErrNone", laid_layercake_api_ErrNone), ("layercake/api.ErrColors", laid_layercake_api_ErrColors), ("layercake/api.ErrFull", laid_layercake_api_ErrFull), ("layercake/api.ErrPower", laid_layercake_api_ErrPower)] }
def StoreFailsSaid : Prop := storeFailsRow.holds Tryz.pinned (OpenSpec.ofChange storeFailsSpec)

/-- ITS FALSE NEIGHBOUR: 'it returns false'. Refute it at one input. -/
def storeFailsWrong : ChangeSpec := { name := "storeFails", fn := fun _ => fun
  | [d1, d2, d3, d4] => { results := [.lit (.bool false)], args := [d1, d2, d3, d4] }
  | _ => none }
def StoreFailsWrongFalsely : Prop := storeFailsRow.holds Tryz.pinned (OpenSpec.ofChange storeFailsWrong)

/- THE SECOND FORM. 'bulk': how many values and letters a reading holds, each counted each time it is reached (what is shared counts as often as it is met; a slice's spare places count too). A statement '..UptoSaid' is the law's where the arguments, and the package variables that the reading takes, are together of bulk at most 1048576: NARROWER than '..Said'. Prove '..Said' where nothing that the law and all that it calls make is longer than what came in: it says more and counts as full. Else prove '..UptoSaid'. A law counts once. -/
mutual
def uptoBulk {H : Type} : DataW H → Nat
  | .lit (.string bytes) => bytes.length + 1
  | .lit _ => 1
  | .nil => 1
  | .ptr d => uptoBulk d + 1
  | .slice elems spare => uptoBulkAll elems + uptoBulkAll spare + 1
  | .agg parts => uptoBulkAll parts + 1
  | .iface _ d => uptoBulk d + 1
  | .map entries => uptoBulkEntries entries + 1
  | .held _ => 1
def uptoBulkAll {H : Type} : List (DataW H) → Nat
  | [] => 0
  | d :: r => uptoBulk d + uptoBulkAll r
def uptoBulkEntries {H : Type} : List (Lit × DataW H) → Nat
  | [] => 0
  | x :: r => uptoBulkEntry x + uptoBulkEntries r
def uptoBulkEntry {H : Type} : Lit × DataW H → Nat
  | (.string bytes, d) => bytes.length + uptoBulk d + 1
  | (_, d) => uptoBulk d + 1
 end
def uptoSmall : (H : Type) → List (DataW H) → Bool := fun _ ds => decide (uptoBulkAll ds ≤ 1048576)
def OpenSpec.upto (s : _root_.Go.ChangeSpec) : _root_.Go.OpenSpec := { _root_.Go.OpenSpec.ofChange s with cond := some uptoSmall }

/-- 'layercakelaw4.StoreMany', WHERE WHAT IT READS IS OF BULK AT MOST 1048576: true; the input reads as it did. -/
def storeManyUptoRow : OpenClaim := { program := "ytheidjagcafgnaagreatdoor", sum := "3c72631723a7602379a3b63ead1f632e8070ea248e413969832b7b1c11261906", func := "layercake/layercakelaw4.StoreMany", spec := "storeMany", inPlace := ["internal/abi.NoEscape", "internal/bytealg.MakeNoZero", "internal/reflectlite.ValueOf", "(internal/reflectlite.Value).Type", "(internal/reflectlite.Value).IsNil", "internal/reflectlite.TypeOf", "(internal/reflectlite.Value).Elem", "(internal/reflectlite.Value).Set"], unfollowed := true, recurses := true, named := ["layercake/api.ErrBound", "layercake/api.ErrFull", "layercake/api.ErrShape", "layercake/api.ErrPower", "layercake/api.ErrName", "layercake/api.ErrText", "layercake/api.ErrNone", "layercake/api.ErrSum", "layercake/api.ErrColors", "errors.errorType"], apart := false, laid := [("errors.errorType", laid_errors_errorType), ("layercake/api.ErrText", laid_layercake_api_ErrText), ("layercake/api.ErrBound", laid_layercake_api_ErrBound), ("layercake/api.ErrShape", laid_layercake_api_ErrShape), ("layercake/api.ErrSum", laid_layercake_api_ErrSum), ("layercake/api.ErrName", laid_layercake_api_ErrName), ("layercake/api.ErrNone", laid_layercake_api_ErrNone), ("layercake/api.ErrColors", laid_layercake_api_ErrColors), ("layercake/api.ErrFull", laid_layercake_api_ErrFull), ("layercake/api.ErrPower", laid_layercake_api_ErrPower)], narrowed := true }
def StoreManyUptoSaid : Prop := storeManyUptoRow.holds Tryz.pinned (OpenSpec.upto storeManySpec)

/-- 'layercakelaw4.StoreFull', WHERE WHAT IT READS IS OF BULK AT MOST 1048576: true; the input reads as it did. -/
def storeFullUptoRow : OpenClaim := { program := "ytheidjagcafgnaagreatdoor", sum := "3c72631723a7602379a3b63ead1f632e8070ea248e413969832b7b1c11261906", func := "layercake/layercakelaw4.StoreFull", spec := "storeFull", inPlace := ["internal/abi.NoEscape", "internal/bytealg.MakeNoZero", "internal/reflectlite.ValueOf", "(internal/reflectlite.Value).Type", "(internal/reflectlite.Value).IsNil", "internal/reflectlite.TypeOf", "(internal/reflectlite.Value).Elem", "(internal/reflectlite.Value).Set"], unfollowed := true, recurses := true, named := ["layercake/api.ErrBound", "layercake/api.ErrFull", "layercake/api.ErrShape", "layercake/api.ErrPower", "layercake/api.ErrName", "layercake/api.ErrText", "layercake/api.ErrNone", "layercake/api.ErrSum", "layercake/api.ErrColors", "errors.errorType"], apart := false, laid := [("errors.errorType", laid_errors_errorType), ("layercake/api.ErrText", laid_layercake_api_ErrText), ("layercake/api.ErrBound", laid_layercake_api_ErrBound), ("layercake/api.ErrShape", laid_layercake_api_ErrShape), ("layercake/api.ErrSum", laid_layercake_api_ErrSum), ("layercake/api.ErrName", laid_layercake_api_ErrName), ("layercake/api.ErrNone", laid_layercake_api_ErrNone), ("layercake/api.ErrColors", laid_layercake_api_ErrColors), ("layercake/api.ErrFull", laid_layercake_api_ErrFull), ("layercake/api.ErrPower", laid_layercake_api_ErrPower)], narrowed := true }
def StoreFullUptoSaid : Prop := storeFullUptoRow.holds Tryz.pinned (OpenSpec.upto storeFullSpec)

/-- 'layercakelaw4.StoreNone', WHERE WHAT IT READS IS OF BULK AT MOST 1048576: true; the input reads as it did. -/
def storeNoneUptoRow : OpenClaim := { program := "ytheidjagcafgnaagreatdoor", sum := "3c72631723a7602379a3b63ead1f632e8070ea248e413969832b7b1c11261906", func := "layercake/layercakelaw4.StoreNone", spec := "storeNone", inPlace := ["internal/abi.NoEscape", "internal/bytealg.MakeNoZero", "internal/reflectlite.ValueOf", "(internal/reflectlite.Value).Type", "(internal/reflectlite.Value).IsNil", "internal/reflectlite.TypeOf", "(internal/reflectlite.Value).Elem", "(internal/reflectlite.Value).Set"], unfollowed := true, recurses := true, named := ["layercake/api.ErrBound", "layercake/api.ErrFull", "layercake/api.ErrShape", "layercake/api.ErrPower", "layercake/api.ErrName", "layercake/api.ErrText", "layercake/api.ErrNone", "layercake/api.ErrSum", "layercake/api.ErrColors", "errors.errorType"], apart := false, laid := [("errors.errorType", laid_errors_errorType), ("layercake/api.ErrText", laid_layercake_api_ErrText), ("layercake/api.ErrBound", laid_layercake_api_ErrBound), ("layercake/api.ErrShape", laid_layercake_api_ErrShape), ("layercake/api.ErrSum", laid_layercake_api_ErrSum), ("layercake/api.ErrName", laid_layercake_api_ErrName), ("layercake/api.ErrNone", laid_layercake_api_ErrNone), ("layercake/api.ErrColors", laid_layercake_api_ErrColors), ("layercake/api.ErrFull", laid_layercake_api_ErrFull), ("layercake/api.ErrPower", laid_layercake_api_ErrPower)], narrowed := true }
def StoreNoneUptoSaid : Prop := storeNoneUptoRow.holds Tryz.pinned (OpenSpec.upto storeNoneSpec)

/-- 'layercakelaw4.StoreKeeps', WHERE WHAT IT READS IS OF BULK AT MOST 1048576: true; the input reads as it did. -/
def storeKeepsUptoRow : OpenClaim := { program := "ytheidjagcafgnaagreatdoor", sum := "3c72631723a7602379a3b63ead1f632e8070ea248e413969832b7b1c11261906", func := "layercake/layercakelaw4.StoreKeeps", spec := "storeKeeps", inPlace := ["internal/abi.NoEscape", "internal/bytealg.MakeNoZero", "internal/reflectlite.ValueOf", "(internal/reflectlite.Value).Type", "(internal/reflectlite.Value).IsNil", "internal/reflectlite.TypeOf", "(internal/reflectlite.Value).Elem", "(internal/reflectlite.Value).Set"], unfollowed := true, recurses := true, named := ["layercake/api.ErrBound", "layercake/api.ErrFull", "layercake/api.ErrShape", "layercake/api.ErrPower", "layercake/api.ErrName", "layercake/api.ErrText", "layercake/api.ErrNone", "layercake/api.ErrSum", "layercake/api.ErrColors", "errors.errorType"], apart := false, laid := [("errors.errorType", laid_errors_errorType), ("layercake/api.ErrText", laid_layercake_api_ErrText), ("layercake/api.ErrBound", laid_layercake_api_ErrBound), ("layercake/api.ErrShape", laid_layercake_api_ErrShape), ("layercake/api.ErrSum", laid_layercake_api_ErrSum), ("layercake/api.ErrName", laid_layercake_api_ErrName), ("layercake/api.ErrNone", laid_layercake_api_ErrNone), ("layercake/api.ErrColors", laid_layercake_api_ErrColors), ("layercake/api.ErrFull", laid_layercake_api_ErrFull), ("layercake/api.ErrPower", laid_layercake_api_ErrPower)], narrowed := true }
def StoreKeepsUptoSaid : Prop := storeKeepsUptoRow.holds Tryz.pinned (OpenSpec.upto storeKeepsSpec)

/-- 'layercakelaw4.StoreFails', WHERE WHAT IT READS IS OF BULK AT MOST 1048576: true; the input reads as it did. -/
def storeFailsUptoRow : OpenClaim := { program := "ytheidjagcafgnaagreatdoor", sum := "3c72631723a7602379a3b63ead1f632e8070ea248e413969832b7b1c11261906", func := "layercake/layercakelaw4.StoreFails", spec := "storeFails", inPlace := ["internal/abi.NoEscape", "internal/bytealg.MakeNoZero", "internal/reflectlite.ValueOf", "(internal/reflectlite.Value).Type", "(internal/reflectlite.Value).IsNil", "internal/reflectlite.TypeOf", "(internal/reflectlite.Value).Elem", "(internal/reflectlite.Value).Set"], unfollowed := true, recurses := true, named := ["layercake/api.ErrBound", "layercake/api.ErrFull", "layercake/api.ErrShape", "layercake/api.ErrPower", "layercake/api.ErrName", "layercake/api.ErrText", "layercake/api.ErrNone", "layercake/api.ErrSum", "layercake/api.ErrColors", "errors.errorType"], apart := false, laid := [("errors.errorType", laid_errors_errorType), ("layercake/api.ErrText", laid_layercake_api_ErrText), ("layercake/api.ErrBound", laid_layercake_api_ErrBound), ("layercake/api.ErrShape", laid_layercake_api_ErrShape), ("layercake/api.ErrSum", laid_layercake_api_ErrSum), ("layercake/api.ErrName", laid_layercake_api_ErrName), ("layercake/api.ErrNone", laid_layercake_api_ErrNone), ("layercake/api.ErrColors", laid_layercake_api_ErrColors), ("layercake/api.ErrFull", laid_layercake_api_ErrFull), ("layercake/api.ErrPower", laid_layercake_api_ErrPower)], narrowed := true }
def StoreFailsUptoSaid : Prop := storeFailsUptoRow.holds Tryz.pinned (OpenSpec.upto storeFailsSpec)

end Rows
end Go.Proofs.YtheidjagcafgnaaGreatDoor
