/-
  NARROWER THAN 'FOR EVERY INPUT', by the rows' own cells (each row's printed sentence says how): PngTwice: laid · PngWrites: laid · PngReads: laid.
  DERIVED. THE GIVEN ROWS OF THIS SEAT. 3 by the template 'for every input the law returns true; each argument reads behind the call as it read before'; 0 by the template 'total and deterministic' (their statements: YthlibiocadimhaaGreatDoorTotals.lean).
  GIVEN WITH THE SEED: the statements are not yours to turn. If you find one false, say at which input.
  Laid BY PROGRAM, IN A SANDBOX (cutbox-rows.mjs): the forced cells as the released guide's own fill.sh prints them over the translation a44ab4889aa7a625… (all of the seat's roots in one cut). By AI agents, Wed Nov 11 2026. No macro, syntax, notation, axiom, sorry.
-/
import Derived.Test.YthlibiocadimhaaGreatDoorChecked
import GoSem.Claim
import GoSem.ClaimJoined
import GoSem.ClaimMapViews
import Derived.JoinedTies
import Derived.KernelRfl
namespace Go.Proofs.YthlibiocadimhaaGreatDoor
/- THE CELL 'sum', in the pinned program and in every row, IS THE sha256 OF THE DUMP (.gsa) THAT YthlibiocadimhaaGreatDoorProg.lean LOADS. Nothing in Lean hashes anything: it is a label: what it is worth is what the hold of that sum in a sandbox is worth. -/
noncomputable def Tryz.pinned : Pinned := { name := "ythlibiocadimhaagreatdoor", sum := "a44ab4889aa7a6257035e9cc6c63caafc3deab74c071a0f9b6057968d5962369", checked := Tryz.checked }
namespace Rows
def none {H : Type} : Left H := { results := [], args := [] }

/- WHAT THE LISTED PACKAGE-LEVEL VARIABLES READ AS WHEN THE CALL BEGINS. Each datum BY PROGRAM (the guide's laid-datum.mjs) off the statement by which the dump's own 'gosem.cut.vars' lays the variable. In a bare row this is a premise. The card (YthlibiocadimhaaGreatDoorCards.lean) ties it to the program's text. -/
def laid_layercake_api_ErrText {H : Type} : DataW H := .iface "*errors.errorString" (.ptr (.agg [.lit (.string [108, 97, 121, 101, 114, 99, 97, 107, 101, 58, 32, 116, 101, 120, 116])]))
def laid_layercake_api_ErrBound {H : Type} : DataW H := .iface "*errors.errorString" (.ptr (.agg [.lit (.string [108, 97, 121, 101, 114, 99, 97, 107, 101, 58, 32, 98, 111, 117, 110, 100])]))
def laid_layercake_api_ErrShape {H : Type} : DataW H := .iface "*errors.errorString" (.ptr (.agg [.lit (.string [108, 97, 121, 101, 114, 99, 97, 107, 101, 58, 32, 115, 104, 97, 112, 101])]))
def laid_layercake_api_ErrSum {H : Type} : DataW H := .iface "*errors.errorString" (.ptr (.agg [.lit (.string [108, 97, 121, 101, 114, 99, 97, 107, 101, 58, 32, 115, 117, 109])]))
def laid_layercake_inflate_Lens {H : Type} : DataW H := .agg [.lit (.int .i64 3), .lit (.int .i64 4), .lit (.int .i64 5), .lit (.int .i64 6), .lit (.int .i64 7), .lit (.int .i64 8), .lit (.int .i64 9), .lit (.int .i64 10), .lit (.int .i64 11), .lit (.int .i64 13), .lit (.int .i64 15), .lit (.int .i64 17), .lit (.int .i64 19), .lit (.int .i64 23), .lit (.int .i64 27), .lit (.int .i64 31), .lit (.int .i64 35), .lit (.int .i64 43), .lit (.int .i64 51), .lit (.int .i64 59), .lit (.int .i64 67), .lit (.int .i64 83), .lit (.int .i64 99), .lit (.int .i64 115), .lit (.int .i64 131), .lit (.int .i64 163), .lit (.int .i64 195), .lit (.int .i64 227), .lit (.int .i64 258)]
def laid_layercake_inflate_LenBits {H : Type} : DataW H := .agg [.lit (.int .i64 0), .lit (.int .i64 0), .lit (.int .i64 0), .lit (.int .i64 0), .lit (.int .i64 0), .lit (.int .i64 0), .lit (.int .i64 0), .lit (.int .i64 0), .lit (.int .i64 1), .lit (.int .i64 1), .lit (.int .i64 1), .lit (.int .i64 1), .lit (.int .i64 2), .lit (.int .i64 2), .lit (.int .i64 2), .lit (.int .i64 2), .lit (.int .i64 3), .lit (.int .i64 3), .lit (.int .i64 3), .lit (.int .i64 3), .lit (.int .i64 4), .lit (.int .i64 4), .lit (.int .i64 4), .lit (.int .i64 4), .lit (.int .i64 5), .lit (.int .i64 5), .lit (.int .i64 5), .lit (.int .i64 5), .lit (.int .i64 0)]
def laid_layercake_inflate_Dists {H : Type} : DataW H := .agg [.lit (.int .i64 1), .lit (.int .i64 2), .lit (.int .i64 3), .lit (.int .i64 4), .lit (.int .i64 5), .lit (.int .i64 7), .lit (.int .i64 9), .lit (.int .i64 13), .lit (.int .i64 17), .lit (.int .i64 25), .lit (.int .i64 33), .lit (.int .i64 49), .lit (.int .i64 65), .lit (.int .i64 97), .lit (.int .i64 129), .lit (.int .i64 193), .lit (.int .i64 257), .lit (.int .i64 385), .lit (.int .i64 513), .lit (.int .i64 769), .lit (.int .i64 1025), .lit (.int .i64 1537), .lit (.int .i64 2049), .lit (.int .i64 3073), .lit (.int .i64 4097), .lit (.int .i64 6145), .lit (.int .i64 8193), .lit (.int .i64 12289), .lit (.int .i64 16385), .lit (.int .i64 24577)]
def laid_layercake_inflate_DistBits {H : Type} : DataW H := .agg [.lit (.int .i64 0), .lit (.int .i64 0), .lit (.int .i64 0), .lit (.int .i64 0), .lit (.int .i64 1), .lit (.int .i64 1), .lit (.int .i64 2), .lit (.int .i64 2), .lit (.int .i64 3), .lit (.int .i64 3), .lit (.int .i64 4), .lit (.int .i64 4), .lit (.int .i64 5), .lit (.int .i64 5), .lit (.int .i64 6), .lit (.int .i64 6), .lit (.int .i64 7), .lit (.int .i64 7), .lit (.int .i64 8), .lit (.int .i64 8), .lit (.int .i64 9), .lit (.int .i64 9), .lit (.int .i64 10), .lit (.int .i64 10), .lit (.int .i64 11), .lit (.int .i64 11), .lit (.int .i64 12), .lit (.int .i64 12), .lit (.int .i64 13), .lit (.int .i64 13)]
def laid_layercake_inflate_Order {H : Type} : DataW H := .agg [.lit (.int .i64 16), .lit (.int .i64 17), .lit (.int .i64 18), .lit (.int .i64 0), .lit (.int .i64 8), .lit (.int .i64 7), .lit (.int .i64 9), .lit (.int .i64 6), .lit (.int .i64 10), .lit (.int .i64 5), .lit (.int .i64 11), .lit (.int .i64 4), .lit (.int .i64 12), .lit (.int .i64 3), .lit (.int .i64 13), .lit (.int .i64 2), .lit (.int .i64 14), .lit (.int .i64 1), .lit (.int .i64 15)]
def laid_errors_errorType {H : Type} : DataW H := .iface "internal/reflectlite.rtype" (.agg [.ptr (.lit (.string [101, 114, 114, 111, 114]))])
def laid_layercake_api_ErrName {H : Type} : DataW H := .iface "*errors.errorString" (.ptr (.agg [.lit (.string [108, 97, 121, 101, 114, 99, 97, 107, 101, 58, 32, 110, 97, 109, 101])]))
def laid_layercake_api_ErrNone {H : Type} : DataW H := .iface "*errors.errorString" (.ptr (.agg [.lit (.string [108, 97, 121, 101, 114, 99, 97, 107, 101, 58, 32, 110, 111, 110, 101])]))
def laid_layercake_api_ErrColors {H : Type} : DataW H := .iface "*errors.errorString" (.ptr (.agg [.lit (.string [108, 97, 121, 101, 114, 99, 97, 107, 101, 58, 32, 99, 111, 108, 111, 114, 115])]))
def laid_layercake_api_ErrFull {H : Type} : DataW H := .iface "*errors.errorString" (.ptr (.agg [.lit (.string [108, 97, 121, 101, 114, 99, 97, 107, 101, 58, 32, 102, 117, 108, 108])]))
def laid_layercake_api_ErrPower {H : Type} : DataW H := .iface "*errors.errorString" (.ptr (.agg [.lit (.string [108, 97, 121, 101, 114, 99, 97, 107, 101, 58, 32, 112, 111, 119, 101, 114])]))

/-- 'layercakelaw2.PngTwice': WHATEVER THE INPUT: true; the input reads as it did. -/
def pngTwiceSpec : ChangeSpec := { name := "pngTwice", fn := fun _ => fun
  | [d1, d2] => { results := [.lit (.bool true)], args := [d1, d2] }
  | _ => none }
def pngTwiceRow : OpenClaim := { program := "ythlibiocadimhaagreatdoor", sum := "a44ab4889aa7a6257035e9cc6c63caafc3deab74c071a0f9b6057968d5962369", func := "layercake/layercakelaw2.PngTwice", spec := "pngTwice", inPlace := ["internal/abi.NoEscape"], unfollowed := true, recurses := true, named := ["layercake/api.ErrShape", "layercake/api.ErrBound", "layercake/inflate.Lens", "layercake/inflate.LenBits", "layercake/inflate.Dists", "layercake/inflate.DistBits", "layercake/inflate.Order", "layercake/api.ErrText", "layercake/api.ErrSum"], plainKeys := false, apart := false, laid := [("layercake/api.ErrText", laid_layercake_api_ErrText), ("layercake/api.ErrBound", laid_layercake_api_ErrBound), ("layercake/api.ErrShape", laid_layercake_api_ErrShape), ("layercake/api.ErrSum", laid_layercake_api_ErrSum), ("layercake/inflate.Lens", laid_layercake_inflate_Lens), ("layercake/inflate.LenBits", laid_layercake_inflate_LenBits), ("layercake/inflate.Dists", laid_layercake_inflate_Dists), ("layercake/inflate.DistBits", laid_layercake_inflate_DistBits), ("layercake/inflate.Order", laid_layercake_inflate_Order)] }
def PngTwiceSaid : Prop := pngTwiceRow.holds Tryz.pinned (OpenSpec.ofChange pngTwiceSpec)

/-- ITS FALSE NEIGHBOUR: 'it returns false'. Refute it at one input. -/
def pngTwiceWrong : ChangeSpec := { name := "pngTwice", fn := fun _ => fun
  | [d1, d2] => { results := [.lit (.bool false)], args := [d1, d2] }
  | _ => none }
def PngTwiceWrongFalsely : Prop := pngTwiceRow.holds Tryz.pinned (OpenSpec.ofChange pngTwiceWrong)

/-- 'layercakelaw2.PngWrites': WHATEVER THE INPUT: true; the input reads as it did. -/
def pngWritesSpec : ChangeSpec := { name := "pngWrites", fn := fun _ => fun
  | [d] => { results := [.lit (.bool true)], args := [d] }
  | _ => none }
def pngWritesRow : OpenClaim := { program := "ythlibiocadimhaagreatdoor", sum := "a44ab4889aa7a6257035e9cc6c63caafc3deab74c071a0f9b6057968d5962369", func := "layercake/layercakelaw2.PngWrites", spec := "pngWrites", inPlace := ["internal/abi.NoEscape", "internal/reflectlite.ValueOf", "(internal/reflectlite.Value).Type", "(internal/reflectlite.Value).IsNil", "internal/reflectlite.TypeOf", "(internal/reflectlite.Value).Elem", "(internal/reflectlite.Value).Set"], unfollowed := true, recurses := true, named := ["layercake/api.ErrShape", "layercake/api.ErrBound", "layercake/inflate.Lens", "layercake/inflate.LenBits", "layercake/inflate.Dists", "layercake/inflate.DistBits", "layercake/inflate.Order", "layercake/api.ErrText", "layercake/api.ErrSum", "layercake/api.ErrName", "layercake/api.ErrNone", "layercake/api.ErrColors", "layercake/api.ErrFull", "layercake/api.ErrPower", "errors.errorType"], plainKeys := false, apart := false, laid := [("errors.errorType", laid_errors_errorType), ("layercake/api.ErrText", laid_layercake_api_ErrText), ("layercake/api.ErrBound", laid_layercake_api_ErrBound), ("layercake/api.ErrShape", laid_layercake_api_ErrShape), ("layercake/api.ErrSum", laid_layercake_api_ErrSum), ("layercake/api.ErrName", laid_layercake_api_ErrName), ("layercake/api.ErrNone", laid_layercake_api_ErrNone), ("layercake/api.ErrColors", laid_layercake_api_ErrColors), ("layercake/api.ErrFull", laid_layercake_api_ErrFull), ("layercake/api.ErrPower", laid_layercake_api_ErrPower), ("layercake/inflate.Lens", laid_layercake_inflate_Lens), ("layercake/inflate.LenBits", laid_layercake_inflate_LenBits), ("layercake/inflate.Dists", laid_layercake_inflate_Dists), ("layercake/inflate.DistBits", laid_layercake_inflate_DistBits), ("layercake/inflate.Order", laid_layercake_inflate_Order)] }
def PngWritesSaid : Prop := pngWritesRow.holds Tryz.pinned (OpenSpec.ofChange pngWritesSpec)

/-- ITS FALSE NEIGHBOUR: 'it returns false'. Refute it at one input. -/
def pngWritesWrong : ChangeSpec := { name := "pngWrites", fn := fun _ => fun
  | [d] => { results := [.lit (.bool false)], args := [d] }
  | _ => none }
def PngWritesWrongFalsely : Prop := pngWritesRow.holds Tryz.pinned (OpenSpec.ofChange pngWritesWrong)

/-- 'layercakelaw2.PngReads': WHATEVER THE INPUT: true; the input reads as it did. -/
def pngReadsSpec : ChangeSpec := { name := "pngReads", fn := fun _ => fun
  | [d] => { results := [.lit (.bool true)], args := [d] }
  | _ => none }
def pngReadsRow : OpenClaim := { program := "ythlibiocadimhaagreatdoor", sum := "a44ab4889aa7a6257035e9cc6c63caafc3deab74c071a0f9b6057968d5962369", func := "layercake/layercakelaw2.PngReads", spec := "pngReads", inPlace := ["internal/abi.NoEscape", "internal/reflectlite.ValueOf", "(internal/reflectlite.Value).Type", "(internal/reflectlite.Value).IsNil", "internal/reflectlite.TypeOf", "(internal/reflectlite.Value).Elem", "(internal/reflectlite.Value).Set"], unfollowed := true, recurses := true, named := ["layercake/api.ErrShape", "layercake/api.ErrBound", "layercake/inflate.Lens", "layercake/inflate.LenBits", "layercake/inflate.Dists", "layercake/inflate.DistBits", "layercake/inflate.Order", "layercake/api.ErrText", "layercake/api.ErrSum", "layercake/api.ErrName", "layercake/api.ErrNone", "layercake/api.ErrColors", "layercake/api.ErrFull", "layercake/api.ErrPower", "errors.errorType"], plainKeys := false, apart := false, laid := [("errors.errorType", laid_errors_errorType), ("layercake/api.ErrText", laid_layercake_api_ErrText), ("layercake/api.ErrBound", laid_layercake_api_ErrBound), ("layercake/api.ErrShape", laid_layercake_api_ErrShape), ("layercake/api.ErrSum", laid_layercake_api_ErrSum), ("layercake/api.ErrName", laid_layercake_api_ErrName), ("layercake/api.ErrNone", laid_layercake_api_ErrNone), ("layercake/api.ErrColors", laid_layercake_api_ErrColors), ("layercake/api.ErrFull", laid_layercake_api_ErrFull), ("layercake/api.ErrPower", laid_layercake_api_ErrPower), ("layercake/inflate.Lens", laid_layercake_inflate_Lens), ("layercake/inflate.LenBits", laid_layercake_inflate_LenBits), ("layercake/inflate.Dists", laid_layercake_inflate_Dists), ("layercake/inflate.DistBits", laid_layercake_inflate_DistBits), ("layercake/inflate.Order", laid_layercake_inflate_Order)] }
def PngReadsSaid : Prop := pngReadsRow.holds Tryz.pinned (OpenSpec.ofChange pngReadsSpec)

/-- ITS FALSE NEIGHBOUR: 'it returns false'. Refute it at one input. -/
def pngReadsWrong : ChangeSpec := { name := "pngReads", fn := fun _ => fun
  | [d] => { results := [.lit (.bool false)], args := [d] }
  | _ => none }
def PngReadsWrongFalsely : Prop := pngReadsRow.holds Tryz.pinned (OpenSpec.ofChange pngReadsWrong)

/- THE SECOND FORM. 'bulk': how many values and letters a reading holds, each counted each time it is reached (what is shared counts as often as it is met; a slice's spare places count too). A statement '..UptoSaid' is the law's where the arguments, and the package variables that the reading takes, are together of bulk at most 1048576: NARROWER than '..Said'. Prove '..Said' where nothing that the law and all that it calls make is longer than what came in: it says more and counts as full. Else prove '..UptoSaid'. A law counts once. -/
mutual
def uptoBulk {H : Type} : DataW H → Nat
  | .lit (.string bytes) => bytes.length + 1
  | .lit _ => 1
  | .nil => 1
  | .ptr d => uptoBulk d + 1
  | .slice elems spare => uptoBulkAll elems + uptoBulkAll spare + 1
  | .agg parts => uptoBulkAll parts + 1
  | .iface _ d => uptoBulk d + 1
  | .map entries => uptoBulkEntries entries + 1
  | .held _ => 1
def uptoBulkAll {H : Type} : List (DataW H) → Nat
  | [] => 0
  | d :: r => uptoBulk d + uptoBulkAll r
def uptoBulkEntries {H : Type} : List (Lit × DataW H) → Nat
  | [] => 0
  | x :: r => uptoBulkEntry x + uptoBulkEntries r
def uptoBulkEntry {H : Type} : Lit × DataW H → Nat
  | (.string bytes, d) => bytes.length + uptoBulk d + 1
  | (_, d) => uptoBulk d + 1
 end
def uptoSmall : (H : Type) → List (DataW H) → Bool := fun _ ds => decide (uptoBulkAll ds ≤ 1048576)
def OpenSpec.upto (s : _root_.Go.ChangeSpec) : _root_.Go.OpenSpec := { _root_.Go.OpenSpec.ofChange s with cond := some uptoSmall }

/-- 'layercakelaw2.PngTwice', WHERE WHAT IT READS IS OF BULK AT MOST 1048576: true; the input reads as it did. -/
def pngTwiceUptoRow : OpenClaim := { program := "ythlibiocadimhaagreatdoor", sum := "a44ab4889aa7a6257035e9cc6c63caafc3deab74c071a0f9b6057968d5962369", func := "layercake/layercakelaw2.PngTwice", spec := "pngTwice", inPlace := ["internal/abi.NoEscape"], unfollowed := true, recurses := true, named := ["layercake/api.ErrShape", "layercake/api.ErrBound", "layercake/inflate.Lens", "layercake/inflate.LenBits", "layercake/inflate.Dists", "layercake/inflate.DistBits", "layercake/inflate.Order", "layercake/api.ErrText", "layercake/api.ErrSum"], plainKeys := false, apart := false, laid := [("layercake/api.ErrText", laid_layercake_api_ErrText), ("layercake/api.ErrBound", laid_layercake_api_ErrBound), ("layercake/api.ErrShape", laid_layercake_api_ErrShape), ("layercake/api.ErrSum", laid_layercake_api_ErrSum), ("layercake/inflate.Lens", laid_layercake_inflate_Lens), ("layercake/inflate.LenBits", laid_layercake_inflate_LenBits), ("layercake/inflate.Dists", laid_layercake_inflate_Dists), ("layercake/inflate.DistBits", laid_layercake_inflate_DistBits), ("layercake/inflate.Order", laid_layercake_inflate_Order)], narrowed := true }
def PngTwiceUptoSaid : Prop := pngTwiceUptoRow.holds Tryz.pinned (OpenSpec.upto pngTwiceSpec)

/-- 'layercakelaw2.PngWrites', WHERE WHAT IT READS IS OF BULK AT MOST 1048576: true; the input reads as it did. -/
def pngWritesUptoRow : OpenClaim := { program := "ythlibiocadimhaagreatdoor", sum := "a44ab4889aa7a6257035e9cc6c63caafc3deab74c071a0f9b6057968d5962369", func := "layercake/layercakelaw2.PngWrites", spec := "pngWrites", inPlace := ["internal/abi.NoEscape", "internal/reflectlite.ValueOf", "(internal/reflectlite.Value).Type", "(internal/reflectlite.Value).IsNil", "internal/reflectlite.TypeOf", "(internal/reflectlite.Value).Elem", "(internal/reflectlite.Value).Set"], unfollowed := true, recurses := true, named := ["layercake/api.ErrShape", "layercake/api.ErrBound", "layercake/inflate.Lens", "layercake/inflate.LenBits", "layercake/inflate.Dists", "layercake/inflate.DistBits", "layercake/inflate.Order", "layercake/api.ErrText", "layercake/api.ErrSum", "layercake/api.ErrName", "layercake/api.ErrNone", "layercake/api.ErrColors", "layercake/api.ErrFull", "layercake/api.ErrPower", "errors.errorType"], plainKeys := false, apart := false, laid := [("errors.errorType", laid_errors_errorType), ("layercake/api.ErrText", laid_layercake_api_ErrText), ("layercake/api.ErrBound", laid_layercake_api_ErrBound), ("layercake/api.ErrShape", laid_layercake_api_ErrShape), ("layercake/api.ErrSum", laid_layercake_api_ErrSum), ("layercake/api.ErrName", laid_layercake_api_ErrName), ("layercake/api.ErrNone", laid_layercake_api_ErrNone), ("layercake/api.ErrColors", laid_layercake_api_ErrColors), ("layercake/api.ErrFull", laid_layercake_api_ErrFull), ("layercake/api.ErrPower", laid_layercake_api_ErrPower), ("layercake/inflate.Lens", laid_layercake_inflate_Lens), ("layercake/inflate.LenBits", laid_layercake_inflate_LenBits), ("layercake/inflate.Dists", laid_layercake_inflate_Dists), ("layercake/inflate.DistBits", laid_layercake_inflate_DistBits), ("layercake/inflate.Order", laid_layercake_inflate_Order)], narrowed := true }
def PngWritesUptoSaid : Prop := pngWritesUptoRow.holds Tryz.pinned (OpenSpec.upto pngWritesSpec)

/-- 'layercakelaw2.PngReads', WHERE WHAT IT READS IS OF BULK AT MOST 1048576: true; the input reads as it did. -/
def pngReadsUptoRow : OpenClaim := { program := "ythlibiocadimhaagreatdoor", sum := "a44ab4889aa7a6257035e9cc6c63caafc3deab74c071a0f9b6057968d5962369", func := "layercake/layercakelaw2.PngReads", spec := "pngReads", inPlace := ["internal/abi.NoEscape", "internal/reflectlite.ValueOf", "(internal/reflectlite.Value).Type", "(internal/reflectlite.Value).IsNil", "internal/reflectlite.TypeOf", "(internal/reflectlite.Value).Elem", "(internal/reflectlite.Value).Set"], unfollowed := true, recurses := true, named := ["layercake/api.ErrShape", "layercake/api.ErrBound", "layercake/inflate.Lens", "layercake/inflate.LenBits", "layercake/inflate.Dists", "layercake/inflate.DistBits", "layercake/inflate.Order", "layercake/api.ErrText", "layercake/api.ErrSum", "layercake/api.ErrName", "layercake/api.ErrNone", "layercake/api.ErrColors", "layercake/api.ErrFull", "layercake/api.ErrPower", "errors.errorType"], plainKeys := false, apart := false, laid := [("errors.errorType", laid_errors_errorType), ("layercake/api.ErrText", laid_layercake_api_ErrText), ("layercake/api.ErrBound", laid_layercake_api_ErrBound), ("layercake/api.ErrShape", laid_layercake_api_ErrShape), ("layercake/api.ErrSum", laid_layercake_api_ErrSum), ("layercake/api.ErrName", laid_layercake_api_ErrName), ("layercake/api.ErrNone", laid_layercake_api_ErrNone), ("layercake/api.ErrColors", laid_layercake_api_ErrColors), ("layercake/api.ErrFull", laid_layercake_api_ErrFull), ("layercake/api.ErrPower", laid_layercake_api_ErrPower), ("layercake/inflate.Lens", laid_layercake_inflate_Lens), ("layercake/inflate.LenBits", laid_layercake_inflate_LenBits), ("layercake/inflate.Dists", laid_layercake_inflate_Dists), ("layercake/inflate.DistBits", laid_layercake_inflate_DistBits), ("layercake/inflate.Order", laid_layercake_inflate_Order)], narrowed := true }
def PngReadsUptoSaid : Prop := pngReadsUptoRow.holds Tryz.pinned (OpenSpec.upto pngReadsSpec)

end Rows
end Go.Proofs.YthlibiocadimhaaGreatDoor
