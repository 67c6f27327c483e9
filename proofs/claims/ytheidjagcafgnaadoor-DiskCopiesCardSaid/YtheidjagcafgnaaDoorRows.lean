/-
  NARROWER THAN 'FOR EVERY INPUT', by the rows' own cells (each row's printed sentence says how): DiskKeeps: laid · DiskActs: laid · DiskCopies: laid.
  DERIVED. THE GIVEN ROWS OF THIS SEAT. 3 by the template 'for every input the law returns true; each argument reads behind the call as it read before'; 0 by the template 'total and deterministic' (their statements: YtheidjagcafgnaaDoorTotals.lean).
  GIVEN WITH THE SEED: the statements are not yours to turn. If you find one false, say at which input.
  Laid BY PROGRAM, IN A SANDBOX (cutbox-rows.mjs): the forced cells as the released guide's own fill.sh prints them over the translation 427c5e6afa0951ef… (all of the seat's roots in one cut). By AI agents, Wed Nov 11 2026. No macro, syntax, notation, axiom, sorry.
-/
import Derived.Test.YtheidjagcafgnaaDoorChecked
import GoSem.Claim
import GoSem.ClaimJoined
import GoSem.ClaimMapViews
import Derived.JoinedTies
import Derived.KernelRfl
namespace Go.Proofs.YtheidjagcafgnaaDoor
/- THE CELL 'sum', in the pinned program and in every row, IS THE sha256 OF THE DUMP (.gsa) THAT YtheidjagcafgnaaDoorProg.lean LOADS. Nothing in Lean hashes anything: it is a label: what it is worth is what the hold of that sum in a sandbox is worth. -/
noncomputable def Tryd.pinned : Pinned := { name := "ytheidjagcafgnaadoor", sum := "427c5e6afa0951efb2e8eaf54f344b88583a4a2f3599888ecf3e010ad84766b9", checked := Tryd.checked }
namespace Rows
def none {H : Type} : Left H := { results := [], args := [] }

/- WHAT THE LISTED PACKAGE-LEVEL VARIABLES READ AS WHEN THE CALL BEGINS. Each datum BY PROGRAM (the guide's laid-datum.mjs) off the statement by which the dump's own 'gosem.cut.vars' lays the variable. In a bare row this is a premise. The card (YtheidjagcafgnaaDoorCards.lean) ties it to the program's text. -/
def laid_layercake_api_ErrBound {H : Type} : DataW H := .iface "*errors.errorString" (.ptr (.agg [.lit (.string [108, 97, 121, 101, 114, 99, 97, 107, 101, 58, 32, 98, 111, 117, 110, 100])]))
def laid_layercake_api_ErrShape {H : Type} : DataW H := .iface "*errors.errorString" (.ptr (.agg [.lit (.string [108, 97, 121, 101, 114, 99, 97, 107, 101, 58, 32, 115, 104, 97, 112, 101])]))
def laid_layercake_api_ErrPower {H : Type} : DataW H := .iface "*errors.errorString" (.ptr (.agg [.lit (.string [108, 97, 121, 101, 114, 99, 97, 107, 101, 58, 32, 112, 111, 119, 101, 114])]))
def laid_errors_errorType {H : Type} : DataW H := .iface "internal/reflectlite.rtype" (.agg [.ptr (.lit (.string [101, 114, 114, 111, 114]))])
def laid_layercake_api_ErrText {H : Type} : DataW H := .iface "*errors.errorString" (.ptr (.agg [.lit (.string [108, 97, 121, 101, 114, 99, 97, 107, 101, 58, 32, 116, 101, 120, 116])]))
def laid_layercake_api_ErrSum {H : Type} : DataW H := .iface "*errors.errorString" (.ptr (.agg [.lit (.string [108, 97, 121, 101, 114, 99, 97, 107, 101, 58, 32, 115, 117, 109])]))
def laid_layercake_api_ErrName {H : Type} : DataW H := .iface "*errors.errorString" (.ptr (.agg [.lit (.string [108, 97, 121, 101, 114, 99, 97, 107, 101, 58, 32, 110, 97, 109, 101])]))
def laid_layercake_api_ErrNone {H : Type} : DataW H := .iface "*errors.errorString" (.ptr (.agg [.lit (.string [108, 97, 121, 101, 114, 99, 97, 107, 101, 58, 32, 110, 111, 110, 101])]))
def laid_layercake_api_ErrColors {H : Type} : DataW H := .iface "*errors.errorString" (.ptr (.agg [.lit (.string [108, 97, 121, 101, 114, 99, 97, 107, 101, 58, 32, 99, 111, 108, 111, 114, 115])]))
def laid_layercake_api_ErrFull {H : Type} : DataW H := .iface "*errors.errorString" (.ptr (.agg [.lit (.string [108, 97, 121, 101, 114, 99, 97, 107, 101, 58, 32, 102, 117, 108, 108])]))

/-- 'layercakelaw4.DiskKeeps': WHATEVER THE INPUT: true; the input reads as it did. -/
def diskKeepsSpec : ChangeSpec := { name := "diskKeeps", fn := fun _ => fun
  | [d1, d2, d3, d4] => { results := [.lit (.bool true)], args := [d1, d2, d3, d4] }
  | _ => none }
def diskKeepsRow : OpenClaim := { program := "ytheidjagcafgnaadoor", sum := "427c5e6afa0951efb2e8eaf54f344b88583a4a2f3599888ecf3e010ad84766b9", func := "layercake/layercakelaw4.DiskKeeps", spec := "diskKeeps", inPlace := ["internal/abi.NoEscape", "internal/bytealg.MakeNoZero"], named := ["layercake/api.ErrBound", "layercake/api.ErrShape", "layercake/api.ErrPower"], apart := false, laid := [("layercake/api.ErrBound", laid_layercake_api_ErrBound), ("layercake/api.ErrShape", laid_layercake_api_ErrShape), ("layercake/api.ErrPower", laid_layercake_api_ErrPower)] }
def DiskKeepsSaid : Prop := diskKeepsRow.holds Tryd.pinned (OpenSpec.ofChange diskKeepsSpec)

/-- ITS FALSE NEIGHBOUR: 'it returns false'. Refute it at one input. -/
def diskKeepsWrong : ChangeSpec := { name := "diskKeeps", fn := fun _ => fun
  | [d1, d2, d3, d4] => { results := [.lit (.bool false)], args := [d1, d2, d3, d4] }
  | _ => none }
def DiskKeepsWrongFalsely : Prop := diskKeepsRow.holds Tryd.pinned (OpenSpec.ofChange diskKeepsWrong)

/-- 'layercakelaw4.DiskActs': WHATEVER THE INPUT: true; the input reads as it did. -/
def diskActsSpec : ChangeSpec := { name := "diskActs", fn := fun _ => fun
  | [d1, d2, d3] => { results := [.lit (.bool true)], args := [d1, d2, d3] }
  | _ => none }
def diskActsRow : OpenClaim := { program := "ytheidjagcafgnaadoor", sum := "427c5e6afa0951efb2e8eaf54f344b88583a4a2f3599888ecf3e010ad84766b9", func := "layercake/layercakelaw4.DiskActs", spec := "diskActs", inPlace := ["internal/abi.NoEscape", "internal/bytealg.MakeNoZero", "internal/reflectlite.ValueOf", "(internal/reflectlite.Value).Type", "(internal/reflectlite.Value).IsNil", "internal/reflectlite.TypeOf", "(internal/reflectlite.Value).Elem", "(internal/reflectlite.Value).Set"], unfollowed := true, recurses := true, named := ["layercake/api.ErrBound", "layercake/api.ErrText", "layercake/api.ErrShape", "layercake/api.ErrSum", "layercake/api.ErrName", "layercake/api.ErrNone", "layercake/api.ErrColors", "layercake/api.ErrFull", "layercake/api.ErrPower", "errors.errorType"], apart := false, laid := [("errors.errorType", laid_errors_errorType), ("layercake/api.ErrText", laid_layercake_api_ErrText), ("layercake/api.ErrBound", laid_layercake_api_ErrBound), ("layercake/api.ErrShape", laid_layercake_api_ErrShape), ("layercake/api.ErrSum", laid_layercake_api_ErrSum), ("layercake/api.ErrName", laid_layercake_api_ErrName), ("layercake/api.ErrNone", laid_layercake_api_ErrNone), ("layercake/api.ErrColors", laid_layercake_api_ErrColors), ("layercake/api.ErrFull", laid_layercake_api_ErrFull), ("layercake/api.ErrPower", laid_layercake_api_ErrPower)] }
def DiskActsSaid : Prop := diskActsRow.holds Tryd.pinned (OpenSpec.ofChange diskActsSpec)

/-- ITS FALSE NEIGHBOUR: 'it returns false'. Refute it at one input. -/
def diskActsWrong : ChangeSpec := { name := "diskActs", fn := fun _ => fun
  | [d1, d2, d3] => { results := [.lit (.bool false)], args := [d1, d2, d3] }
  | _ => none }
def DiskActsWrongFalsely : Prop := diskActsRow.holds Tryd.pinned (OpenSpec.ofChange diskActsWrong)

/-- 'layercakelaw4.DiskCopies': WHATEVER THE INPUT: true; the input reads as it did. -/
def diskCopiesSpec : ChangeSpec := { name := "diskCopies", fn := fun _ => fun
  | [d1, d2, d3] => { results := [.lit (.bool true)], args := [d1, d2, d3] }
  | _ => none }
def diskCopiesRow : OpenClaim := { program := "ytheidjagcafgnaadoor", sum := "427c5e6afa0951efb2e8eaf54f344b88583a4a2f3599888ecf3e010ad84766b9", func := "layercake/layercakelaw4.DiskCopies", spec := "diskCopies", inPlace := ["internal/abi.NoEscape", "internal/bytealg.MakeNoZero", "internal/reflectlite.ValueOf", "(internal/reflectlite.Value).Type", "(internal/reflectlite.Value).IsNil", "internal/reflectlite.TypeOf", "(internal/reflectlite.Value).Elem", "(internal/reflectlite.Value).Set"], unfollowed := true, recurses := true, named := ["layercake/api.ErrBound", "layercake/api.ErrShape", "layercake/api.ErrPower", "layercake/api.ErrText", "layercake/api.ErrSum", "layercake/api.ErrName", "layercake/api.ErrNone", "layercake/api.ErrColors", "layercake/api.ErrFull", "errors.errorType"], apart := false, laid := [("errors.errorType", laid_errors_errorType), ("layercake/api.ErrText", laid_layercake_api_ErrText), ("layercake/api.ErrBound", laid_layercake_api_ErrBound), ("layercake/api.ErrShape", laid_layercake_api_ErrShape), ("layercake/api.ErrSum", laid_layercake_api_ErrSum), ("layercake/api.ErrName", laid_layercake_api_ErrName), ("layercake/api.ErrNone", laid_layercake_api_ErrNone), ("layercake/api.ErrColors", laid_layercake_api_ErrColors), ("layercake/api.ErrFull", laid_layercake_api_ErrFull), ("layercake/api.ErrPower", laid_layercake_api_ErrPower)] }
def DiskCopiesSaid : Prop := diskCopiesRow.holds Tryd.pinned (OpenSpec.ofChange diskCopiesSpec)

/-- ITS FALSE NEIGHBOUR: 'it returns false'. Refute it at one input. -/
def diskCopiesWrong : ChangeSpec := { name := "diskCopies", fn := fun _ => fun
  | [d1, d2, d3] => { results := [.lit (.bool false)], args := [d1, d2, d3] }
  | _ => none }
def DiskCopiesWrongFalsely : Prop := diskCopiesRow.holds Tryd.pinned (OpenSpec.ofChange diskCopiesWrong)

/- THE SECOND FORM. 'bulk': how many values and letters a reading holds, each counted each time it is reached (what is shared counts as often as it is met; a slice's spare places count too). A statement '..UptoSaid' is the law's where the arguments, and the package variables that the reading takes, are together of bulk at most 1048576: NARROWER than '..Said'. Prove '..Said' where nothing that the law and all that it calls make is longer than what came in: it says more and counts as full. Else prove '..UptoSaid'. A law counts once. -/
mutual
def uptoBulk {H : Type} : DataW H → Nat
  | .lit (.string bytes) => bytes.length + 1
  | .lit _ => 1
  | .nil => 1
  | .ptr d => uptoBulk d + 1
  | .slice elems spare => uptoBulkAll elems + uptoBulkAll spare + 1
  | .agg parts => uptoBulkAll parts + 1
  | .iface _ d => uptoBulk d + 1
  | .map entries => uptoBulkEntries entries + 1
  | .held _ => 1
def uptoBulkAll {H : Type} : List (DataW H) → Nat
  | [] => 0
  | d :: r => uptoBulk d + uptoBulkAll r
def uptoBulkEntries {H : Type} : List (Lit × DataW H) → Nat
  | [] => 0
  | x :: r => uptoBulkEntry x + uptoBulkEntries r
def uptoBulkEntry {H : Type} : Lit × DataW H → Nat
  | (.string bytes, d) => bytes.length + uptoBulk d + 1
  | (_, d) => uptoBulk d + 1
 end
def uptoSmall : (H : Type) → List (DataW H) → Bool := fun _ ds => decide (uptoBulkAll ds ≤ 1048576)
def OpenSpec.upto (s : _root_.Go.ChangeSpec) : _root_.Go.OpenSpec := { _root_.Go.OpenSpec.ofChange s with cond := some uptoSmall }

/-- 'layercakelaw4.DiskKeeps', WHERE WHAT IT READS IS OF BULK AT MOST 1048576: true; the input reads as it did. -/
def diskKeepsUptoRow : OpenClaim := { program := "ytheidjagcafgnaadoor", sum := "427c5e6afa0951efb2e8eaf54f344b88583a4a2f3599888ecf3e010ad84766b9", func := "layercake/layercakelaw4.DiskKeeps", spec := "diskKeeps", inPlace := ["internal/abi.NoEscape", "internal/bytealg.MakeNoZero"], named := ["layercake/api.ErrBound", "layercake/api.ErrShape", "layercake/api.ErrPower"], apart := false, laid := [("layercake/api.ErrBound", laid_layercake_api_ErrBound), ("layercake/api.ErrShape", laid_layercake_api_ErrShape), ("layercake/api.ErrPower", laid_layercake_api_ErrPower)], narrowed := true }
def DiskKeepsUptoSaid : Prop := diskKeepsUptoRow.holds Tryd.pinned (OpenSpec.upto diskKeepsSpec)

/-- 'layercakelaw4.DiskActs', WHERE WHAT IT READS IS OF BULK AT MOST 1048576: true; the input reads as it did. -/
def diskActsUptoRow : OpenClaim := { program := "ytheidjagcafgnaadoor", sum := "427c5e6afa0951efb2e8eaf54f344b88583a4a2f3599888ecf3e010ad84766b9", func := "layercake/layercakelaw4.DiskActs", spec := "diskActs", inPlace := ["internal/abi.NoEscape", "internal/bytealg.MakeNoZero", "internal/reflectlite.ValueOf", "(internal/reflectlite.Value).Type", "(internal/reflectlite.Value).IsNil", "internal/reflectlite.TypeOf", "(internal/reflectlite.Value).Elem", "(internal/reflectlite.Value).Set"], unfollowed := true, recurses := true, named := ["layercake/api.ErrBound", "layercake/api.ErrText", "layercake/api.ErrShape", "layercake/api.ErrSum", "layercake/api.ErrName", "layercake/api.ErrNone", "layercake/api.ErrColors", "layercake/api.ErrFull", "layercake/api.ErrPower", "errors.errorType"], apart := false, laid := [("errors.errorType", laid_errors_errorType), ("layercake/api.ErrText", laid_layercake_api_ErrText), ("layercake/api.ErrBound", laid_layercake_api_ErrBound), ("layercake/api.ErrShape", laid_layercake_api_ErrShape), ("layercake/api.ErrSum", laid_layercake_api_ErrSum), ("layercake/api.ErrName", laid_layercake_api_ErrName), ("layercake/api.ErrNone", laid_layercake_api_ErrNone), ("layercake/api.ErrColors", laid_layercake_api_ErrColors), ("layercake/api.ErrFull", laid_layercake_api_ErrFull), ("layercake/api.ErrPower", laid_layercake_api_ErrPower)], narrowed := true }
def DiskActsUptoSaid : Prop := diskActsUptoRow.holds Tryd.pinned (OpenSpec.upto diskActsSpec)

/-- 'layercakelaw4.DiskCopies', WHERE WHAT IT READS IS OF BULK AT MOST 1048576: true; the input reads as it did. -/
def diskCopiesUptoRow : OpenClaim := { program := "ytheidjagcafgnaadoor", sum := "427c5e6afa0951efb2e8eaf54f344b88583a4a2f3599888ecf3e010ad84766b9", func := "layercake/layercakelaw4.DiskCopies", spec := "diskCopies", inPlace := ["internal/abi.NoEscape", "internal/bytealg.MakeNoZero", "internal/reflectlite.ValueOf", "(internal/reflectlite.Value).Type", "(internal/reflectlite.Value).IsNil", "internal/reflectlite.TypeOf", "(internal/reflectlite.Value).Elem", "(internal/reflectlite.Value).Set"], unfollowed := true, recurses := true, named := ["layercake/api.ErrBound", "layercake/api.ErrShape", "layercake/api.ErrPower", "layercake/api.ErrText", "layercake/api.ErrSum", "layercake/api.ErrName", "layercake/api.ErrNone", "layercake/api.ErrColors", "layercake/api.ErrFull", "errors.errorType"], apart := false, laid := [("errors.errorType", laid_errors_errorType), ("layercake/api.ErrText", laid_layercake_api_ErrText), ("layercake/api.ErrBound", laid_layercake_api_ErrBound), ("layercake/api.ErrShape", laid_layercake_api_ErrShape), ("layercake/api.ErrSum", laid_layercake_api_ErrSum), ("layercake/api.ErrName", laid_layercake_api_ErrName), ("layercake/api.ErrNone", laid_layercake_api_ErrNone), ("layercake/api.ErrColors", laid_layercake_api_ErrColors), ("layercake/api.ErrFull", laid_layercake_api_ErrFull), ("layercake/api.ErrPower", laid_layercake_api_ErrPower)], narrowed := true }
def DiskCopiesUptoSaid : Prop := diskCopiesUptoRow.holds Tryd.pinned (OpenSpec.upto diskCopiesSpec)

end Rows
end Go.Proofs.YtheidjagcafgnaaDoor
