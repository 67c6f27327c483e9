/-
  errors.Is at a sentinel: of a sentinel, of an api.Fault that bears one. The library's own text is walked.
  errors.As at a target of type **api.Fault: of nil, of a sentinel, of an api.Fault. The library's own text is walked.
  plain.Code: the number of an error, and its place.
  The document's word on lengths.
  huff.Read: a tree of a code.
  Plain law of the CRC: a step, eight of them, a byte by the table. No program in sight.
  Plain law of bursts: bits turned within 32 in a row change the CRC. No program in sight.
-/
import Derived.Test.YtnhbjgmfbcedaaaDoorDeflateDynamicG1
import Derived.LaidEql
import Derived.Stop.Asserts
import Derived.RowKitTokens
import Derived.StillTailTactics
import Derived.Outline
set_option linter.unusedSimpArgs false
set_option linter.unusedVariables false
set_option maxRecDepth 100000
namespace Go.Proofs.YtnhbjgmfbcedaaaDoor
open Go.RowKit Go.Extern.Stop Go.Stop Go.Extern
@[irreducible] noncomputable def GN : Nat := Tryd.prog.globals.size
noncomputable abbrev hdl (t : Nat) : Value := .pointer (some ⟨GN, t, none⟩)
theorem typeOfE (v : Value) (w : World) : (Extern.ReflectliteType.typeOf #[.iface 210 v]).run Tryd.prog w = .ok (.iface 190 (.agg #[hdl 210])) w := by kernel_rfl
theorem compE (w : World) : ((Extern.ReflectliteType.method fun t => do Extern.Rtype.noPackHeld "Comparable" t; pure (.bool (← typeInfo t).comparable)) #[.agg #[hdl 210]]).run Tryd.prog w = .ok (.bool true) w := by kernel_rfl
theorem call_typeOfE (v : Value) (w : World) : (callFunc 116 #[.iface 210 v]).run Tryd.prog w = .ok (.value (.iface 190 (.agg #[hdl 210]))) w := by
 rw [@run_callFunc_extern Tryd.prog 116 _ Extern.ReflectliteType.typeOf Tryd.func116 (by kernel_rfl) (by kernel_rfl) (by kernel_rfl) (by kernel_rfl), typeOfE]; rfl
theorem call_compE (w : World) : (callFunc 163 #[.agg #[hdl 210]]).run Tryd.prog w = .ok (.value (.bool true)) w := by
 rw [@run_callFunc_extern Tryd.prog 163 _ (Extern.ReflectliteType.method fun t => do Extern.Rtype.noPackHeld "Comparable" t; pure (.bool (← typeInfo t).comparable)) Tryd.func163 (by kernel_rfl) (by kernel_rfl) (by kernel_rfl) (by kernel_rfl), compE]; rfl
theorem isMethodComparable (n : Nat) (v : Value) (w : World) : (Go.method (n + 1) 190 v "Comparable").run Tryd.prog w = .ok (163, v) w := by kernel_rfl
theorem isComp : (Tryd.prog.info? 210).map (·.comparable) = some true := by kernel_rfl
theorem isSize : (Tryd.prog.info? 229).map (·.size) = some 1 := by kernel_rfl
theorem noIsE (v : Value) (xT : TypeId) (w : World) : (Instr.typeAssert (.iface 210 v) xT 201 true).run Tryd.prog w = .ok (.tuple #[.nilIface, .bool false]) w := run_typeAssert_lacksB Tryd.underlying201 (by kernel_rfl) (by kernel_rfl) v xT w
theorem noUnwrapE (v : Value) (xT : TypeId) (w : World) : (Instr.typeAssert (.iface 210 v) xT 197 true).run Tryd.prog w = .ok (.tuple #[.nilIface, .bool false]) w := run_typeAssert_lacksB Tryd.underlying197 (by kernel_rfl) (by kernel_rfl) v xT w
theorem noUnwrapsE (v : Value) (xT : TypeId) (w : World) : (Instr.typeAssert (.iface 210 v) xT 199 true).run Tryd.prog w = .ok (.tuple #[.nilIface, .bool false]) w := run_typeAssert_lacksB Tryd.underlying199 (by kernel_rfl) (by kernel_rfl) v xT w
theorem noIsF (v : Value) (xT : TypeId) (w : World) : (Instr.typeAssert (.iface 108 v) xT 201 true).run Tryd.prog w = .ok (.tuple #[.nilIface, .bool false]) w := run_typeAssert_lacksB Tryd.underlying201 (by kernel_rfl) (by kernel_rfl) v xT w
theorem hasUnwrapF (v : Value) (xT : TypeId) (w : World) : (Instr.typeAssert (.iface 108 v) xT 197 true).run Tryd.prog w = .ok (.tuple #[.iface 108 v, .bool true]) w := run_typeAssert_hasB Tryd.underlying197 (by kernel_rfl) v xT w
theorem methodUnwrap (n : Nat) (v : Value) (w : World) : (Go.method (n + 1) 108 v "Unwrap").run Tryd.prog w = .ok (157, v) w := by kernel_rfl
theorem is_same (a : Addr) (w : World) :
  Calls Tryd.prog 89 #[.iface 210 (.pointer (some a)), .iface 210 (.pointer (some a))] w fun e w' => e = .returned (.bool true) ∧ w = w' := by
 obtain ⟨i, hi, hcmp⟩ := Option.map_eq_some_iff.1 isComp;obtain ⟨j, hj, hjs⟩ := Option.map_eq_some_iff.1 isSize;have h8 := call_typeOfE;have h32 := call_compE;have mR := isMethodComparable;have heq := run_eql_iface_ptr_same (P := Tryd.prog) w a Tryd.underlying24 Tryd.underlying210 hi hcmp hj;go_enter Tryd.func89, Tryd.ntmps89
 go_wp2
 refine wp_loop_rounds 1 ?_;rw [rounds_succ];go_wp2
 go_ret;exact ⟨rfl, rfl⟩
theorem is_other (a b : Addr) (ca cb : Array Value) (ta tb : TypeId) (w : World) (hne : a ≠ b) (ha : w.heap[a.block]? = some (.cells ca ta (0, 0))) (hb : w.heap[b.block]? = some (.cells cb tb (0, 0))) :
  Calls Tryd.prog 89 #[.iface 210 (.pointer (some a)), .iface 210 (.pointer (some b))] w fun e w' => e = .returned (.bool false) ∧ w = w' := by
 obtain ⟨i, hi, hcmp⟩ := Option.map_eq_some_iff.1 isComp;obtain ⟨j, hj, hjs⟩ := Option.map_eq_some_iff.1 isSize;have h8 := call_typeOfE;have h32 := call_compE;have mR := isMethodComparable;have nE := noIsE;have uE := noUnwrapE;have vE := noUnwrapsE;have heq := run_eql_iface_ptr_other (P := Tryd.prog) w Tryd.underlying24 Tryd.underlying210 hi hcmp hj (by rw [hjs]; decide) hne ha hb;go_enter Tryd.func89, Tryd.ntmps89
 go_wp2
 refine wp_loop_rounds 1 ?_;rw [rounds_succ];go_wp2
 go_ret;exact ⟨rfl, rfl⟩
theorem is_fault_same (F : Nat) (b : Addr) (w : World) (h1 : w.cell? ⟨F, 1, none⟩ = some (.iface 210 (.pointer (some b)))) :
  Calls Tryd.prog 89 #[.iface 108 (.pointer (some ⟨F, 0, none⟩)), .iface 210 (.pointer (some b))] w fun e w' => e = .returned (.bool true) ∧ w = w' := by
 obtain ⟨i, hi, hcmp⟩ := Option.map_eq_some_iff.1 isComp;obtain ⟨j, hj, hjs⟩ := Option.map_eq_some_iff.1 isSize;have h8 := call_typeOfE;have h32 := call_compE;have mR := isMethodComparable;have nE := noIsE;have uE := noUnwrapE;have vE := noUnwrapsE;have nW := noIsF;have uW := hasUnwrapF;have mU := methodUnwrap;have heq := run_eql_iface_ptr_same (P := Tryd.prog) w b Tryd.underlying24 Tryd.underlying210 hi hcmp hj;have hty := run_eql_iface_types (P := Tryd.prog) 108 210 (.pointer (some ⟨F, 0, none⟩)) (.pointer (some b)) Tryd.underlying24 (by decide) w;go_enter Tryd.func89, Tryd.ntmps89
 go_wp2
 refine wp_loop_rounds 2 ?_;rw [rounds_succ];go_wp2
 rw [rounds_succ];go_wp2
 go_ret;exact ⟨rfl, rfl⟩
theorem is_fault_other (F : Nat) (b a : Addr) (ca cb : Array Value) (ta tb : TypeId) (w : World) (h1 : w.cell? ⟨F, 1, none⟩ = some (.iface 210 (.pointer (some a)))) (hne : a ≠ b) (ha : w.heap[a.block]? = some (.cells ca ta (0, 0))) (hb : w.heap[b.block]? = some (.cells cb tb (0, 0))) :
  Calls Tryd.prog 89 #[.iface 108 (.pointer (some ⟨F, 0, none⟩)), .iface 210 (.pointer (some b))] w fun e w' => e = .returned (.bool false) ∧ w = w' := by
 obtain ⟨i, hi, hcmp⟩ := Option.map_eq_some_iff.1 isComp;obtain ⟨j, hj, hjs⟩ := Option.map_eq_some_iff.1 isSize;have h8 := call_typeOfE;have h32 := call_compE;have mR := isMethodComparable;have nE := noIsE;have uE := noUnwrapE;have vE := noUnwrapsE;have nW := noIsF;have uW := hasUnwrapF;have mU := methodUnwrap;have heq := run_eql_iface_ptr_other (P := Tryd.prog) w Tryd.underlying24 Tryd.underlying210 hi hcmp hj (by rw [hjs]; decide) hne ha hb;have hty := run_eql_iface_types (P := Tryd.prog) 108 210 (.pointer (some ⟨F, 0, none⟩)) (.pointer (some b)) Tryd.underlying24 (by decide) w;go_enter Tryd.func89, Tryd.ntmps89
 go_wp2
 refine wp_loop_rounds 2 ?_;rw [rounds_succ];go_wp2
 rw [rounds_succ];go_wp2
 go_ret;exact ⟨rfl, rfl⟩
end Go.Proofs.YtnhbjgmfbcedaaaDoor
namespace Go.Proofs.YtnhbjgmfbcedaaaDoor
open Go.RowKit Go.Extern.Stop Go.Stop Go.Extern
theorem valueOfPP (t : Addr) (w : World) : (ReflectliteValue.unpack (.iface 110 (.pointer (some t)))).run Tryd.prog w
  = .ok (.agg #[hdl 110, .pointer (some ⟨w.heap.size, 0, none⟩), .int .u64 150]) (w.alloc (.cells #[.pointer (some t)] 110)) := by kernel_rfl
theorem typePP (a : Addr) (w : World) : (ReflectliteValue.methodAny (ReflectliteValue.valueError "reflectlite.Value.Type" 0) (fun t _ _ _ => ReflectliteType.toType t) #[.agg #[hdl 110, .pointer (some a), .int .u64 150]]).run Tryd.prog w
  = .ok (.iface 190 (.agg #[hdl 110])) w := by kernel_rfl
theorem methodKind (n : Nat) (h : Value) (w : World) : (Go.method (n + 1) 190 (.agg #[h]) "Kind").run Tryd.prog w = .ok (153, h) w := by kernel_rfl
theorem methodElem (n : Nat) (h : Value) (w : World) : (Go.method (n + 1) 190 (.agg #[h]) "Elem").run Tryd.prog w = .ok (164, .agg #[h]) w := by kernel_rfl
theorem methodImplements (n : Nat) (h : Value) (w : World) : (Go.method (n + 1) 190 (.agg #[h]) "Implements").run Tryd.prog w = .ok (165, .agg #[h]) w := by kernel_rfl
theorem methodAssignableTo (n : Nat) (h : Value) (w : World) : (Go.method (n + 1) 190 (.agg #[h]) "AssignableTo").run Tryd.prog w = .ok (162, .agg #[h]) w := by kernel_rfl
theorem kindPP (w : World) : ((ReflectliteType.abiMethod fun t => do pure (.int .u8 (← Rtype.kind t))) #[hdl 110]).run Tryd.prog w = .ok (.int .u8 22) w := by kernel_rfl
theorem kindP (w : World) : ((ReflectliteType.abiMethod fun t => do pure (.int .u8 (← Rtype.kind t))) #[hdl 108]).run Tryd.prog w = .ok (.int .u8 22) w := by kernel_rfl
theorem elemPP (w : World) : (ReflectliteType.method ReflectliteType.elem #[.agg #[hdl 110]]).run Tryd.prog w = .ok (.iface 190 (.agg #[hdl 108])) w := by kernel_rfl
theorem implP (w : World) : (ReflectliteType.relation "Implements" ReflectliteType.implements_ #[.agg #[hdl 108], .iface 190 (.agg #[hdl 24])]).run Tryd.prog w = .ok (.bool true) w := by kernel_rfl
theorem typeOfP (v : Value) (w : World) : (ReflectliteType.typeOf #[.iface 108 v]).run Tryd.prog w = .ok (.iface 190 (.agg #[hdl 108])) w := by kernel_rfl
theorem assignP (w : World) : (ReflectliteType.relation "AssignableTo" ReflectliteType.assignableTo #[.agg #[hdl 108], .iface 190 (.agg #[hdl 108])]).run Tryd.prog w = .ok (.bool true) w := by kernel_rfl
theorem assignE (w : World) : (ReflectliteType.relation "AssignableTo" ReflectliteType.assignableTo #[.agg #[hdl 210], .iface 190 (.agg #[hdl 108])]).run Tryd.prog w = .ok (.bool false) w := by kernel_rfl
theorem valueOfP (e : Addr) (w : World) : (ReflectliteValue.unpack (.iface 108 (.pointer (some e)))).run Tryd.prog w
  = .ok (.agg #[hdl 108, .pointer (some ⟨w.heap.size, 0, none⟩), .int .u64 150]) (w.alloc (.cells #[.pointer (some e)] 108)) := by kernel_rfl
theorem rlm (z : Sem Value) (f : TypeId → Addr → Nat → Nat → Sem Value) (v : Value) :
  ReflectliteValue.method z f #[v] = (do match ← ReflectliteValue.parts v with | none => z | some (t, a, fl) => f t a fl (fl % 32)) := rfl
theorem partsPP (a : Addr) (w : World) : (ReflectliteValue.parts (.agg #[hdl 110, .pointer (some a), .int .u64 150])).run Tryd.prog w = .ok (some (110, a, 150)) w := by kernel_rfl
theorem isNilPP (a p : Addr) (W : World) (ha : W.cell? a = some (.pointer (some p))) :
  (ReflectliteValue.method (ReflectliteValue.valueError "reflectlite.Value.IsNil" 0) ReflectliteValue.isNil #[.agg #[hdl 110, .pointer (some a), .int .u64 150]]).run Tryd.prog W = .ok (.bool false) W := by
 rw [rlm];simp only [Sem.run_bind, partsPP, Result.andThen];simp [ReflectliteValue.isNil, loadVar, isAgg, underlying, Tryd.underlying110, ha, Result.andThen]
theorem elemOfPP (w : World) : (Rtype.elem? 110).run Tryd.prog w = .ok (some 108) w := by kernel_rfl
theorem mkP (p : Addr) (w : World) : (ReflectliteValue.mk 108 p ReflectliteValue.flagAddr).run Tryd.prog w = .ok (.agg #[hdl 108, .pointer (some p), .int .u64 406]) w := by kernel_rfl
theorem elemVPP (a p : Addr) (W : World) (ha : W.cell? a = some (.pointer (some p))) :
  (ReflectliteValue.method (ReflectliteValue.valueError "reflectlite.Value.Elem" 0) ReflectliteValue.elem #[.agg #[hdl 110, .pointer (some a), .int .u64 150]]).run Tryd.prog W
   = .ok (.agg #[hdl 108, .pointer (some p), .int .u64 406]) W := by
 rw [rlm];simp only [Sem.run_bind, partsPP, Result.andThen];simp [ReflectliteValue.elem, loadVar, isAgg, underlying, Tryd.underlying110, ha, Result.andThen, elemOfPP, mkP]
theorem rls (v x : Value) : ReflectliteValue.set #[v, x] = (do
  let (some (dst, a, fl), some (src, b, _)) := (← ReflectliteValue.parts v, ← ReflectliteValue.parts x)
   | unsupported (.noEntry "extern/(internal/reflectlite.Value).Set.zeroValue")
  if fl / ReflectliteValue.flagAddr % 2 == 0 then unsupported (.noEntry "extern/(internal/reflectlite.Value).Set.unaddressable")
  let val ← loadVar src b;if ← Rtype.directlyAssignable dst src then storeVar dst a val
  else if ← Rtype.implements dst src then
   if (← Rtype.kind src) == 20 then
    match val with
    | .nilIface => unsupported (.noEntry "extern/reflectlite: a nil value of one interface type handed on as a value of another")
    | _ => storeVar dst a val
   else storeVar dst a (.iface src val)
  else panicString ("reflectlite.Set: value of type " ++ (← Rtype.spelt src) ++ " is not assignable to type " ++ (← Rtype.spelt dst))
  pure (.tuple #[])) := rfl
theorem partsPa (a : Addr) (w : World) : (ReflectliteValue.parts (.agg #[hdl 108, .pointer (some a), .int .u64 406])).run Tryd.prog w = .ok (some (108, a, 406)) w := by kernel_rfl
theorem partsP (a : Addr) (w : World) : (ReflectliteValue.parts (.agg #[hdl 108, .pointer (some a), .int .u64 150])).run Tryd.prog w = .ok (some (108, a, 150)) w := by kernel_rfl
theorem directP (w : World) : (Rtype.directlyAssignable 108 108).run Tryd.prog w = .ok true w := by kernel_rfl
theorem setP (ta b e : Addr) (old : Value) (W : World) (hb : W.cell? b = some (.pointer (some e))) (ht : W.cell? ta = some old) (hf : W.frozen? ta = false) :
  (ReflectliteValue.set #[.agg #[hdl 108, .pointer (some ta), .int .u64 406], .agg #[hdl 108, .pointer (some b), .int .u64 150]]).run Tryd.prog W
   = .ok (.tuple #[]) (W.setCell ta (.pointer (some e))) := by
 rw [rls];simp only [Sem.run_bind, partsPa, partsP, Result.andThen];simp [ReflectliteValue.flagAddr, loadVar, isAgg, underlying, Tryd.underlying108, hb, Result.andThen, directP, storeVar, Value.cells, storeCells, Addr.add];rw [run_store Tryd.prog W ta _ _ (by rfl)];simp [ht, hf]
theorem noAsE (v : Value) (xT : TypeId) (w : World) : (Instr.typeAssert (.iface 210 v) xT 194 true).run Tryd.prog w = .ok (.tuple #[.nilIface, .bool false]) w := run_typeAssert_lacksB Tryd.underlying194 (by kernel_rfl) (by kernel_rfl) v xT w
theorem call_valueOf (x : Value) (v : Value) (w w' : World) (h : (ReflectliteValue.unpack x).run Tryd.prog w = .ok v w') : (callFunc 112 #[x]).run Tryd.prog w = .ok (.value v) w' := by
 rw [@run_callFunc_extern Tryd.prog 112 _ (fun args => ReflectliteValue.unpack (args.getD 0 (.tuple #[]))) Tryd.func112 (by kernel_rfl) (by kernel_rfl) (by kernel_rfl) (by kernel_rfl)];show ((ReflectliteValue.unpack x).run Tryd.prog w).andThen _ = _;rw [h]; rfl
theorem call_type (x : Value) (v : Value) (w w' : World) (h : (ReflectliteValue.methodAny (ReflectliteValue.valueError "reflectlite.Value.Type" 0) (fun t _ _ _ => ReflectliteType.toType t) #[x]).run Tryd.prog w = .ok v w') : (callFunc 113 #[x]).run Tryd.prog w = .ok (.value v) w' := by
 rw [@run_callFunc_extern Tryd.prog 113 _ (ReflectliteValue.methodAny (ReflectliteValue.valueError "reflectlite.Value.Type" 0) (fun t _ _ _ => ReflectliteType.toType t)) Tryd.func113 (by kernel_rfl) (by kernel_rfl) (by kernel_rfl) (by kernel_rfl), h]; rfl
theorem call_isNil (x : Value) (v : Value) (w w' : World) (h : (ReflectliteValue.method (ReflectliteValue.valueError "reflectlite.Value.IsNil" 0) ReflectliteValue.isNil #[x]).run Tryd.prog w = .ok v w') : (callFunc 114 #[x]).run Tryd.prog w = .ok (.value v) w' := by
 rw [@run_callFunc_extern Tryd.prog 114 _ (ReflectliteValue.method (ReflectliteValue.valueError "reflectlite.Value.IsNil" 0) ReflectliteValue.isNil) Tryd.func114 (by kernel_rfl) (by kernel_rfl) (by kernel_rfl) (by kernel_rfl), h]; rfl
theorem call_velem (x : Value) (v : Value) (w w' : World) (h : (ReflectliteValue.method (ReflectliteValue.valueError "reflectlite.Value.Elem" 0) ReflectliteValue.elem #[x]).run Tryd.prog w = .ok v w') : (callFunc 129 #[x]).run Tryd.prog w = .ok (.value v) w' := by
 rw [@run_callFunc_extern Tryd.prog 129 _ (ReflectliteValue.method (ReflectliteValue.valueError "reflectlite.Value.Elem" 0) ReflectliteValue.elem) Tryd.func129 (by kernel_rfl) (by kernel_rfl) (by kernel_rfl) (by kernel_rfl), h]; rfl
theorem call_set (x y : Value) (v : Value) (w w' : World) (h : (ReflectliteValue.set #[x, y]).run Tryd.prog w = .ok v w') : (callFunc 130 #[x, y]).run Tryd.prog w = .ok (.value v) w' := by
 rw [@run_callFunc_extern Tryd.prog 130 _ ReflectliteValue.set Tryd.func130 (by kernel_rfl) (by kernel_rfl) (by kernel_rfl) (by kernel_rfl), h]; rfl
theorem call_kind (x : Value) (v : Value) (w w' : World) (h : ((ReflectliteType.abiMethod fun t => do pure (.int .u8 (← Rtype.kind t))) #[x]).run Tryd.prog w = .ok v w') : (callFunc 153 #[x]).run Tryd.prog w = .ok (.value v) w' := by
 rw [@run_callFunc_extern Tryd.prog 153 _ (ReflectliteType.abiMethod fun t => do pure (.int .u8 (← Rtype.kind t))) Tryd.func153 (by kernel_rfl) (by kernel_rfl) (by kernel_rfl) (by kernel_rfl), h]; rfl
theorem call_elem (x : Value) (v : Value) (w w' : World) (h : (ReflectliteType.method ReflectliteType.elem #[x]).run Tryd.prog w = .ok v w') : (callFunc 164 #[x]).run Tryd.prog w = .ok (.value v) w' := by
 rw [@run_callFunc_extern Tryd.prog 164 _ (ReflectliteType.method ReflectliteType.elem) Tryd.func164 (by kernel_rfl) (by kernel_rfl) (by kernel_rfl) (by kernel_rfl), h]; rfl
theorem call_impl (x y : Value) (v : Value) (w w' : World) (h : (ReflectliteType.relation "Implements" ReflectliteType.implements_ #[x, y]).run Tryd.prog w = .ok v w') : (callFunc 165 #[x, y]).run Tryd.prog w = .ok (.value v) w' := by
 rw [@run_callFunc_extern Tryd.prog 165 _ (ReflectliteType.relation "Implements" ReflectliteType.implements_) Tryd.func165 (by kernel_rfl) (by kernel_rfl) (by kernel_rfl) (by kernel_rfl), h]; rfl
theorem call_assign (x y : Value) (v : Value) (w w' : World) (h : (ReflectliteType.relation "AssignableTo" ReflectliteType.assignableTo #[x, y]).run Tryd.prog w = .ok v w') : (callFunc 162 #[x, y]).run Tryd.prog w = .ok (.value v) w' := by
 rw [@run_callFunc_extern Tryd.prog 162 _ (ReflectliteType.relation "AssignableTo" ReflectliteType.assignableTo) Tryd.func162 (by kernel_rfl) (by kernel_rfl) (by kernel_rfl) (by kernel_rfl), h]; rfl
theorem call_typeOf (x : Value) (v : Value) (w w' : World) (h : (ReflectliteType.typeOf #[x]).run Tryd.prog w = .ok v w') : (callFunc 116 #[x]).run Tryd.prog w = .ok (.value v) w' := by
 rw [@run_callFunc_extern Tryd.prog 116 _ ReflectliteType.typeOf Tryd.func116 (by kernel_rfl) (by kernel_rfl) (by kernel_rfl) (by kernel_rfl), h]; rfl
/-- the variable of package errors that holds the type error -/
def ErrType (w : World) : Prop := w.cell? ⟨14, 0, none⟩ = some (.iface 190 (.agg #[hdl 24]))
set_option maxHeartbeats 4000000 in
theorem as_hit (e t : Addr) (old : Value) (w : World) (hg : ErrType w) (ht0 : w.cell? t = some old) (hf0 : w.frozen? t = false) :
  Calls Tryd.prog 88 #[.iface 108 (.pointer (some e)), .iface 110 (.pointer (some t))] w fun ev w' => ev = .returned (.bool true) ∧ Keeps (fun k => k = t.block) w w' ∧ w'.cell? t = some (.pointer (some e)) ∧ w'.frozen? t = false := by
 unfold ErrType at hg;have hlt : 14 < w.heap.size := World.block_lt_of_cell? w _ hg;have htl : t.block < w.heap.size := World.block_lt_of_cell? w _ ht0;have f6 := fun (t : Addr) w => call_valueOf _ _ _ _ (valueOfPP t w);have f7 := fun (a : Addr) w => call_type _ _ _ _ (typePP a w);have k27 := fun w => call_kind _ _ _ _ (kindPP w);have k25 := fun w => call_kind _ _ _ _ (kindP w);have e27 := fun w => call_elem _ _ _ _ (elemPP w);have i25 := fun w => call_impl _ _ _ _ _ (implP w);have tO := fun v w => call_typeOf _ _ _ _ (typeOfP v w);have a25 := fun w => call_assign _ _ _ _ _ (assignP w);have v25 := fun e w => call_valueOf _ _ _ _ (valueOfP e w);have mK := methodKind;have mE := methodElem;have mI := methodImplements;have mA := methodAssignableTo;have n8 := call_isNil _ _ _ _ (isNilPP ⟨w.heap.size, 0, none⟩ t ((w.alloc (.cells #[.pointer (some t)] 110)).alloc (.cells #[hdl 110, .pointer (some ⟨w.heap.size, 0, none⟩), .int .u64 150] 163)) (by simp));have hg2 : ((w.alloc (.cells #[.pointer (some t)] 110)).alloc (.cells #[hdl 110, .pointer (some ⟨w.heap.size, 0, none⟩), .int .u64 150] 163)).cell? ⟨14, 0, none⟩ = some (.iface 190 (.agg #[hdl 24])) := by
  rw [World.cell?_alloc_lt _ _ ⟨14, 0, none⟩ (by simp; omega), World.cell?_alloc_lt _ _ ⟨14, 0, none⟩ hlt]; exact hg
 have el := call_velem _ _ _ _ (elemVPP ⟨w.heap.size, 0, none⟩ t (((w.alloc (.cells #[.pointer (some t)] 110)).alloc (.cells #[hdl 110, .pointer (some ⟨w.heap.size, 0, none⟩), .int .u64 150] 163)).alloc (.cells #[hdl 110, .pointer (some ⟨w.heap.size, 0, none⟩), .int .u64 150] 163)) (by rw [World.cell?_alloc_lt _ _ ⟨w.heap.size, 0, none⟩ (by simp; omega)]; simp));have c1 : ((((w.alloc (.cells #[.pointer (some t)] 110)).alloc (.cells #[hdl 110, .pointer (some ⟨w.heap.size, 0, none⟩), .int .u64 150] 163)).alloc (.cells #[hdl 110, .pointer (some ⟨w.heap.size, 0, none⟩), .int .u64 150] 163)).alloc (.cells #[.pointer (some e)] 108)).cell? t = some old := by rw [World.cell?_alloc_lt _ _ t (by simp; omega), World.cell?_alloc_lt _ _ t (by simp; omega), World.cell?_alloc_lt _ _ t (by simp; omega), World.cell?_alloc_lt _ _ t htl]; exact ht0
 have c2 : ((((w.alloc (.cells #[.pointer (some t)] 110)).alloc (.cells #[hdl 110, .pointer (some ⟨w.heap.size, 0, none⟩), .int .u64 150] 163)).alloc (.cells #[hdl 110, .pointer (some ⟨w.heap.size, 0, none⟩), .int .u64 150] 163)).alloc (.cells #[.pointer (some e)] 108)).frozen? t = false := by rw [World.frozen?_alloc_old _ _ t (by simp; omega), World.frozen?_alloc_old _ _ t (by simp; omega), World.frozen?_alloc_old _ _ t (by simp; omega), World.frozen?_alloc_old _ _ t (Nat.ne_of_lt htl)]; exact hf0
 have st := call_set _ _ _ _ _ (setP t ⟨w.heap.size + 1 + 1 + 1, 0, none⟩ e old ((((w.alloc (.cells #[.pointer (some t)] 110)).alloc (.cells #[hdl 110, .pointer (some ⟨w.heap.size, 0, none⟩), .int .u64 150] 163)).alloc (.cells #[hdl 110, .pointer (some ⟨w.heap.size, 0, none⟩), .int .u64 150] 163)).alloc (.cells #[.pointer (some e)] 108))
  (by rw [World.cell?_alloc_at _ _ _ _ (by simp)]; rfl) c1 c2)
 have fin : Keeps (fun k => k = t.block) w (((((w.alloc (.cells #[.pointer (some t)] 110)).alloc (.cells #[hdl 110, .pointer (some ⟨w.heap.size, 0, none⟩), .int .u64 150] 163)).alloc (.cells #[hdl 110, .pointer (some ⟨w.heap.size, 0, none⟩), .int .u64 150] 163)).alloc (.cells #[.pointer (some e)] 108)).setCell t (.pointer (some e))) :=
  (((((Keeps.refl (fun k => k = t.block) w).alloc _).alloc _).alloc _).alloc _).setCell (.inl rfl) _
 have C1 : (((((w.alloc (.cells #[.pointer (some t)] 110)).alloc (.cells #[hdl 110, .pointer (some ⟨w.heap.size, 0, none⟩), .int .u64 150] 163)).alloc (.cells #[hdl 110, .pointer (some ⟨w.heap.size, 0, none⟩), .int .u64 150] 163)).alloc (.cells #[.pointer (some e)] 108)).setCell t (.pointer (some e))).cell? t = some (.pointer (some e)) := World.cell?_setCell_same _ _ _ c1;have C2 : (((((w.alloc (.cells #[.pointer (some t)] 110)).alloc (.cells #[hdl 110, .pointer (some ⟨w.heap.size, 0, none⟩), .int .u64 150] 163)).alloc (.cells #[hdl 110, .pointer (some ⟨w.heap.size, 0, none⟩), .int .u64 150] 163)).alloc (.cells #[.pointer (some e)] 108)).setCell t (.pointer (some e))).frozen? t = false := by rw [World.frozen?_setCell]; exact c2
 have HF := Lib.hid fin
 have H1 := Lib.hid C1;have H2 := Lib.hid C2;clear fin C1 C2 c1 c2;go_enter Tryd.func88, Tryd.ntmps88
 go_wp2
 refine wp_loop_rounds 1 ?_;rw [rounds_succ];go_wp2
 go_ret;exact ⟨rfl, HF.out, H1.out, H2.out⟩
set_option maxHeartbeats 4000000 in
theorem as_miss (e t : Addr) (w : World) (hg : ErrType w) :
  Calls Tryd.prog 88 #[.iface 210 (.pointer (some e)), .iface 110 (.pointer (some t))] w fun ev w' => ev = .returned (.bool false) ∧ Ext w w' := by
 unfold ErrType at hg;have hlt : 14 < w.heap.size := World.block_lt_of_cell? w _ hg;have f6 := fun (t : Addr) w => call_valueOf _ _ _ _ (valueOfPP t w);have f7 := fun (a : Addr) w => call_type _ _ _ _ (typePP a w);have k27 := fun w => call_kind _ _ _ _ (kindPP w);have k25 := fun w => call_kind _ _ _ _ (kindP w);have e27 := fun w => call_elem _ _ _ _ (elemPP w);have i25 := fun w => call_impl _ _ _ _ _ (implP w);have tO := call_typeOfE;have a25 := fun w => call_assign _ _ _ _ _ (assignE w);have mK := methodKind;have mE := methodElem;have mI := methodImplements;have mA := methodAssignableTo;have nA := noAsE;have uE := noUnwrapE;have vE := noUnwrapsE;have n8 := call_isNil _ _ _ _ (isNilPP ⟨w.heap.size, 0, none⟩ t ((w.alloc (.cells #[.pointer (some t)] 110)).alloc (.cells #[hdl 110, .pointer (some ⟨w.heap.size, 0, none⟩), .int .u64 150] 163)) (by simp));have hg2 : ((w.alloc (.cells #[.pointer (some t)] 110)).alloc (.cells #[hdl 110, .pointer (some ⟨w.heap.size, 0, none⟩), .int .u64 150] 163)).cell? ⟨14, 0, none⟩ = some (.iface 190 (.agg #[hdl 24])) := by
  rw [World.cell?_alloc_lt _ _ ⟨14, 0, none⟩ (by simp; omega), World.cell?_alloc_lt _ _ ⟨14, 0, none⟩ hlt]; exact hg
 have fin : Ext w (((w.alloc (.cells #[.pointer (some t)] 110)).alloc (.cells #[hdl 110, .pointer (some ⟨w.heap.size, 0, none⟩), .int .u64 150] 163)).alloc (.cells #[hdl 110, .pointer (some ⟨w.heap.size, 0, none⟩), .int .u64 150] 163)) :=
  (((Ext.refl w).alloc _).alloc _).alloc _
 have HF := Lib.hid fin
 clear fin
 go_enter Tryd.func88, Tryd.ntmps88
 go_wp2
 refine wp_loop_rounds 1 ?_;rw [rounds_succ];go_wp2
 go_ret;exact ⟨rfl, HF.out⟩
end Go.Proofs.YtnhbjgmfbcedaaaDoor
namespace Go.Proofs.YtnhbjgmfbcedaaaDoor
open Go.RowKit
/-- the variables of the errors, in the order of their numbers -/
def gk : Nat → Nat
 | 0 => 1
 | 1 => 0
 | 2 => 3
 | 3 => 2
 | 4 => 4
 | 5 => 5
 | 6 => 6
 | 7 => 7
 | _ => 8
def sentV (a : Addr) : Value := .iface 210 (.pointer (some a))
/-- the package's errors as they lie in memory -/
structure Errs (w : World) (E : Nat → Addr) : Prop where
 et : ErrType w
 var : ∀ k, k < 9 → w.cell? ⟨gk k, 0, none⟩ = some (sentV (E k))
 row : ∀ k, k < 9 → ∃ c t, w.heap[(E k).block]? = some (.cells c t (0, 0))
 ne : ∀ j k, j < 9 → k < 9 → j ≠ k → E j ≠ E k
theorem Errs.ext {w w' : World} {E : Nat → Addr} (h : Errs w E) (hE : Ext w w') : Errs w' E := by
 refine ⟨?_, fun k hk => ?_, fun k hk => ?_, h.ne⟩
 ·exact (hE.cell (p := ⟨14, 0, none⟩) (World.block_lt_of_cell? w _ h.et)).trans h.et
 ·exact (hE.cell (p := ⟨gk k, 0, none⟩) (World.block_lt_of_cell? w _ (h.var k hk))).trans (h.var k hk)
 ·obtain ⟨c, t, hc⟩ := h.row k hk;exact ⟨c, t, (hE.block (E k).block (lt_of_block hc)).trans hc⟩
/-- an error value: its number, and its place -/
inductive ErrV (w : World) (E : Nat → Addr) : Value → Int → Int → Prop
 | nil : ErrV w E .nilIface 0 (-1)
 | sent (k : Nat) (hk : k < 9) : ErrV w E (sentV (E k)) ((k : Int) + 1) (-1)
 | fault (k F : Nat) (a : Int) (hk : k < 9) (h : w.heap[F]? = some (.cells #[.int .i64 a, sentV (E k)] 112 (0, 0))) (h1 : -9223372036854775808 ≤ a) (h2 : a ≤ 9223372036854775807) : ErrV w E (.iface 108 (.pointer (some ⟨F, 0, none⟩))) ((k : Int) + 1) a
theorem ErrV.ext {w w' : World} {E : Nat → Addr} {v : Value} {c a : Int} (h : ErrV w E v c a) (hE : Ext w w') : ErrV w' E v c a := by
 cases h with
 | nil => exact .nil
 | sent k hk => exact .sent k hk
 | fault k F a hk h h1 h2 => exact .fault k F a hk ((hE.block F (lt_of_block h)).trans h) h1 h2
theorem code_nil (w : World) : Calls Tryd.prog 51 #[.nilIface] w fun e w' => e = .returned (.tuple #[.int .i64 0, .int .i64 (-1)]) ∧ Ext w w' := by
 go_enter Tryd.func51, Tryd.ntmps51
 go_wp2
 go_ret2;exact ⟨rfl, Ext.refl _⟩
set_option maxHeartbeats 4000000 in
theorem code_sent (w : World) (E : Nat → Addr) (hE : Errs w E) (k : Nat) (hk : k < 9) : Calls Tryd.prog 51 #[sentV (E k)] w fun e w' => e = .returned (.tuple #[.int .i64 ((k : Int) + 1), .int .i64 (-1)]) ∧ Ext w w' := by
 have HE := Lib.hid hE;clear hE;unfold sentV;go_enter Tryd.func51, Tryd.ntmps51
 go_wp2_with fail;refine (as_miss _ _ _ (HE.out.ext ((Ext.refl w).alloc _)).et).mono ?_;rintro e w2 ⟨rfl, h2⟩;have HX : Hid (Ext w w2) := Lib.hid (((Ext.refl w).alloc _).trans h2);clear h2;have HE2 := Lib.hid (HE.out.ext HX.out);have c0 := HE2.out.var 0 (by decide);have c1 := HE2.out.var 1 (by decide);have c2 := HE2.out.var 2 (by decide);have c3 := HE2.out.var 3 (by decide);have c4 := HE2.out.var 4 (by decide);have c5 := HE2.out.var 5 (by decide);have c6 := HE2.out.var 6 (by decide);have c7 := HE2.out.var 7 (by decide);have c8 := HE2.out.var 8 (by decide);simp only [gk, sentV] at c0 c1 c2 c3 c4 c5 c6 c7 c8;go_wp2_with fail;have cells : ∀ j, j < 9 → (w2.alloc (.cells #[.iface 210 (.pointer (some (E 0))), .iface 210 (.pointer (some (E 1))), .iface 210 (.pointer (some (E 2))), .iface 210 (.pointer (some (E 3))), .iface 210 (.pointer (some (E 4))), .iface 210 (.pointer (some (E 5))), .iface 210 (.pointer (some (E 6))), .iface 210 (.pointer (some (E 7))), .iface 210 (.pointer (some (E 8)))] 24)).cell? ⟨w2.heap.size, j, none⟩ = some (.iface 210 (.pointer (some (E j)))) := by
  intro j hj;rw [World.cell?_alloc_at _ _ _ _ rfl];match j, hj with
  | 0, _ => rfl
  | 1, _ => rfl
  | 2, _ => rfl
  | 3, _ => rfl
  | 4, _ => rfl
  | 5, _ => rfl
  | 6, _ => rfl
  | 7, _ => rfl
  | 8, _ => rfl
 have HC := Lib.hid cells;have HX3 : Hid (Ext w (w2.alloc (.cells #[.iface 210 (.pointer (some (E 0))), .iface 210 (.pointer (some (E 1))), .iface 210 (.pointer (some (E 2))), .iface 210 (.pointer (some (E 3))), .iface 210 (.pointer (some (E 4))), .iface 210 (.pointer (some (E 5))), .iface 210 (.pointer (some (E 6))), .iface 210 (.pointer (some (E 7))), .iface 210 (.pointer (some (E 8)))] 24))) := Lib.hid (HX.out.alloc _);have HE3 := Lib.hid (HE.out.ext HX3.out);clear cells c0 c1 c2 c3 c4 c5 c6 c7 c8;generalize hw3 : (w2.alloc (.cells #[.iface 210 (.pointer (some (E 0))), .iface 210 (.pointer (some (E 1))), .iface 210 (.pointer (some (E 2))), .iface 210 (.pointer (some (E 3))), .iface 210 (.pointer (some (E 4))), .iface 210 (.pointer (some (E 5))), .iface 210 (.pointer (some (E 6))), .iface 210 (.pointer (some (E 7))), .iface 210 (.pointer (some (E 8)))] 24)) = w3 at *;clear hw3;go_loop [3, 27] (fun p c => ∃ i : Nat, i ≤ k ∧ p = .int .i64 (-1) ∧ c = .int .i64 i) (fun _ c => k - (intOf c).toNat)
 case atStart => exact ⟨0, by omega, rfl, rfl⟩
 case round =>
  obtain ⟨i, hi, rfl, rfl⟩ := hrel;have hc := HC.out i (by omega);obtain ⟨ca, ta, ha⟩ := HE3.out.row k hk;obtain ⟨cb, tb, hb⟩ := HE3.out.row i (by omega);have HA := Lib.hid ha;have HB := Lib.hid hb;clear ha hb;by_cases hik : i = k
  ·subst hik;go_wp2_with fail;refine (is_same _ _).mono ?_;rintro e w4 ⟨rfl, rfl⟩;go_wp2_with fail;go_ret2;exact ⟨rfl, HX3.out⟩
  ·have hne := HE3.out.ne k i hk (by omega) (fun e => hik e.symm);have HN := Lib.hid hne;clear hne;go_wp2_with fail;refine (is_other _ _ ca cb ta tb _ HN.out HA.out HB.out).mono ?_;rintro e w4 ⟨rfl, rfl⟩;go_wp2_with fail;go_round
   case rel => exact ⟨i + 1, by omega, rfl, by go_num⟩
   case measure => simp [intOf]; omega
set_option maxHeartbeats 4000000 in
theorem code_fault (w : World) (E : Nat → Addr) (hE : Errs w E) (k F : Nat) (a : Int) (hk : k < 9) (h : w.heap[F]? = some (.cells #[.int .i64 a, sentV (E k)] 112 (0, 0))) : Calls Tryd.prog 51 #[.iface 108 (.pointer (some ⟨F, 0, none⟩))] w fun e w' => e = .returned (.tuple #[.int .i64 ((k : Int) + 1), .int .i64 a]) ∧ Ext w w' := by
 have HF := Lib.hid h;clear h;have HE := Lib.hid hE;clear hE;go_enter Tryd.func51, Tryd.ntmps51
 go_wp2_with fail;refine (as_hit ⟨F, 0, none⟩ ⟨w.heap.size, 0, none⟩ (.pointer none) _ (HE.out.ext ((Ext.refl w).alloc _)).et (by simp) (by simp)).mono ?_;rintro e w2 ⟨rfl, h2, ct, zt⟩;have HX : Hid (Ext w w2) := Lib.hid (by
  have q := ((Ext.refl w).alloc (.cells #[.pointer none] 108)).keeps (S := fun k => k = w.heap.size) |>.trans h2 (fun _ _ q => q)
  exact q.below (Nat.le_refl _) (fun k hk e => by omega))
 clear h2;have HF2 : Hid (w2.heap[F]? = some (.cells #[.int .i64 a, sentV (E k)] 112 (0, 0))) := Lib.hid ((HX.out.block F (lt_of_block HF.out)).trans HF.out);have hF0 : w2.cell? ⟨F, 0, none⟩ = some (.int .i64 a) := by simp [World.cell?, HF2.out]
 have HE2 := Lib.hid (HE.out.ext HX.out);have c0 := HE2.out.var 0 (by decide);have c1 := HE2.out.var 1 (by decide);have c2 := HE2.out.var 2 (by decide);have c3 := HE2.out.var 3 (by decide);have c4 := HE2.out.var 4 (by decide);have c5 := HE2.out.var 5 (by decide);have c6 := HE2.out.var 6 (by decide);have c7 := HE2.out.var 7 (by decide);have c8 := HE2.out.var 8 (by decide);simp only [gk, sentV] at c0 c1 c2 c3 c4 c5 c6 c7 c8;go_wp2_with fail;have cells : ∀ j, j < 9 → (w2.alloc (.cells #[.iface 210 (.pointer (some (E 0))), .iface 210 (.pointer (some (E 1))), .iface 210 (.pointer (some (E 2))), .iface 210 (.pointer (some (E 3))), .iface 210 (.pointer (some (E 4))), .iface 210 (.pointer (some (E 5))), .iface 210 (.pointer (some (E 6))), .iface 210 (.pointer (some (E 7))), .iface 210 (.pointer (some (E 8)))] 24)).cell? ⟨w2.heap.size, j, none⟩ = some (.iface 210 (.pointer (some (E j)))) := by
  intro j hj;rw [World.cell?_alloc_at _ _ _ _ rfl];match j, hj with
  | 0, _ => rfl
  | 1, _ => rfl
  | 2, _ => rfl
  | 3, _ => rfl
  | 4, _ => rfl
  | 5, _ => rfl
  | 6, _ => rfl
  | 7, _ => rfl
  | 8, _ => rfl
 have HC := Lib.hid cells;have HF3 : Hid ((w2.alloc (.cells #[.iface 210 (.pointer (some (E 0))), .iface 210 (.pointer (some (E 1))), .iface 210 (.pointer (some (E 2))), .iface 210 (.pointer (some (E 3))), .iface 210 (.pointer (some (E 4))), .iface 210 (.pointer (some (E 5))), .iface 210 (.pointer (some (E 6))), .iface 210 (.pointer (some (E 7))), .iface 210 (.pointer (some (E 8)))] 24)).cell? ⟨F, 1, none⟩ = some (sentV (E k))) := Lib.hid (by rw [World.cell?_alloc_past _ _ _ (lt_of_block HF2.out)]; simp [World.cell?, HF2.out]);have HX3 : Hid (Ext w (w2.alloc (.cells #[.iface 210 (.pointer (some (E 0))), .iface 210 (.pointer (some (E 1))), .iface 210 (.pointer (some (E 2))), .iface 210 (.pointer (some (E 3))), .iface 210 (.pointer (some (E 4))), .iface 210 (.pointer (some (E 5))), .iface 210 (.pointer (some (E 6))), .iface 210 (.pointer (some (E 7))), .iface 210 (.pointer (some (E 8)))] 24))) := Lib.hid (HX.out.alloc _);have HE3 := Lib.hid (HE.out.ext HX3.out);clear cells hF0 ct zt c0 c1 c2 c3 c4 c5 c6 c7 c8;generalize hw3 : (w2.alloc (.cells #[.iface 210 (.pointer (some (E 0))), .iface 210 (.pointer (some (E 1))), .iface 210 (.pointer (some (E 2))), .iface 210 (.pointer (some (E 3))), .iface 210 (.pointer (some (E 4))), .iface 210 (.pointer (some (E 5))), .iface 210 (.pointer (some (E 6))), .iface 210 (.pointer (some (E 7))), .iface 210 (.pointer (some (E 8)))] 24)) = w3 at *
 clear hw3;go_loop [3, 27] (fun p c => ∃ i : Nat, i ≤ k ∧ p = .int .i64 a ∧ c = .int .i64 i) (fun _ c => k - (intOf c).toNat)
 case atStart => exact ⟨0, by omega, rfl, rfl⟩
 case round =>
  obtain ⟨i, hi, rfl, rfl⟩ := hrel;have hc := HC.out i (by omega);obtain ⟨ca, ta, ha⟩ := HE3.out.row k hk;obtain ⟨cb, tb, hb⟩ := HE3.out.row i (by omega);have HA := Lib.hid ha;have HB := Lib.hid hb;clear ha hb;by_cases hik : i = k
  ·subst hik;go_wp2_with fail;refine (is_fault_same F _ _ HF3.out).mono ?_;rintro e w4 ⟨rfl, rfl⟩;go_wp2_with fail;go_ret2;exact ⟨rfl, HX3.out⟩
  ·have hne := HE3.out.ne k i hk (by omega) (fun e => hik e.symm);have HN := Lib.hid hne;clear hne;go_wp2_with fail;refine (is_fault_other F _ _ ca cb ta tb _ HF3.out HN.out HA.out HB.out).mono ?_;rintro e w4 ⟨rfl, rfl⟩;go_wp2_with fail;go_round
   case rel => exact ⟨i + 1, by omega, rfl, by go_num⟩
   case measure => simp [intOf]; omega
theorem code_any (w : World) (E : Nat → Addr) (hE : Errs w E) (v : Value) (c a : Int) (h : ErrV w E v c a) : Calls Tryd.prog 51 #[v] w fun e w' => e = .returned (.tuple #[.int .i64 c, .int .i64 a]) ∧ Ext w w' := by
 cases h with
 | nil => exact code_nil w
 | sent k hk => exact code_sent w E hE k hk
 | fault k F a hk h h1 h2 => exact code_fault w E hE k F a hk h
end Go.Proofs.YtnhbjgmfbcedaaaDoor
namespace Go.Proofs.YtnhbjgmfbcedaaaDoor
open Go.RowKit
theorem kraft_snoc (f : Nat → Int) (i : Nat) (k : Nat) (hk : f i = k) : ∀ n, n ≤ 15 → kraft f (i + 1) n = kraft f i n + (if 1 ≤ k ∧ k ≤ n then 2 ^ (15 - k) else 0) := by
 intro n;induction n with
 | zero => intro _; simp [kraft]; omega
 | succ n ih =>
  intro h;have e := ih (by omega);simp only [kraft];rw [e];by_cases hkn : k = n + 1
  ·subst hkn;rw [many_at f (n + 1) i hk, if_neg (by omega), if_pos (by omega), Nat.add_mul, Nat.one_mul, show 15 - (n + 1) = 14 - n by omega]; omega
  ·rw [many_not f (n + 1) i (by rw [hk]; omega)];by_cases h1 : 1 ≤ k ∧ k ≤ n
   ·rw [if_pos h1, if_pos (by omega)]; omega
   ·rw [if_neg h1, if_neg (by omega)]; omega
noncomputable def vcode (f : Nat → Int) (len : Nat) : Int :=
 open Classical in if inBounds f len then if complete f len then 0 else 3 else 2
theorem kraft_len (f : Nat → Int) (i : Nat) (h : i ≤ 300) : kraft f i 15 ≤ 73728000 := kraft_bound f i 15 h (by decide)
set_option maxHeartbeats 4000000 in
theorem validCode_any (x : Option Addr) (len cap : Nat) (f : Nat → Int) (w : World) (hx : Ints w x len f) (hl : len ≤ maxLen) :
  Calls Tryd.prog 111 #[.slice x len cap] w fun e w' => e = .returned (.int .i64 (vcode f len)) ∧ w = w' := by
 unfold maxLen at hl;have HX := Lib.hid hx;clear hx;by_cases h300 : 300 < len
 ·have hv : vcode f len = 2 := by unfold vcode; rw [if_neg (by intro h; have := h.1; omega)]
  rw [hv];go_enter Tryd.func111, Tryd.ntmps111
  go_wp2_with fail;go_ret;exact ⟨rfl, rfl⟩
 ·go_enter Tryd.func111, Tryd.ntmps111
  go_wp2_with fail;go_loop [3, 4, 5, 6] (fun u v o c => ∃ i : Nat, i ≤ len ∧ c = .int .i64 i ∧ u = .int .i64 (kraft f i 15 : Int) ∧ v = .int .i64 ((i - many f 0 i : Nat) : Int) ∧ o = .int .i64 (many f 1 i : Int) ∧ Hid (∀ j, j < i → 0 ≤ f j ∧ f j ≤ 15)) (fun _ _ _ c => len - (intOf c).toNat)
  case atStart => exact ⟨0, by omega, rfl, rfl, rfl, rfl, Lib.hid fun j hj => by omega⟩
  case round =>
   obtain ⟨i, hi, rfl, rfl, rfl, rfl, HF⟩ := hrel;by_cases hlt : i < len
   ·obtain ⟨a, rfl⟩ : ∃ a, x = some a := by
     cases x with
     | none => have := HX.out.1 rfl; omega
     | some a => exact ⟨a, rfl⟩
    obtain ⟨hc, h1, h2⟩ := HX.out.2 a rfl i hlt;by_cases hbad : f i < 0 ∨ 15 < f i
    ·have HV : Hid (vcode f len = 2) := Lib.hid (by unfold vcode; rw [if_neg (by intro h; have := h.2 i hlt; omega)]);rcases hbad with q | q;all_goals
      go_wp2_with fail;go_ret;exact ⟨by rw [HV.out]; rfl, rfl⟩
    ·obtain ⟨k, hk⟩ : ∃ k : Nat, f i = k := ⟨(f i).toNat, by omega⟩;have hk15 : k ≤ 15 := by omega
     have HFN : Hid (∀ j, j < i + 1 → 0 ≤ f j ∧ f j ≤ 15) := Lib.hid (fun j hj => by
      rcases Nat.lt_succ_iff_lt_or_eq.1 hj with q | rfl
      ·exact HF.out j q
      ·omega)
     have HKS := Lib.hid (kraft_snoc f i k hk 15 (by omega));have hkl := kraft_len f i (by omega);have hm0 := many_le f 0 i;have hm1 := many_le f 1 i;rw [hk] at hc h1 h2;have HK := Lib.hid hk;clear hk hbad;by_cases h0 : k = 0
     ·subst h0;have HM0 := Lib.hid (many_at f 0 i HK.out);have HM1 := Lib.hid (many_not f 1 i (by rw [HK.out]; decide));go_wp2_with fail;go_round
      case rel => exact ⟨i + 1, by omega, by go_num, by rw [HKS.out]; rfl, by rw [HM0.out]; exact val_int (by omega), by rw [HM1.out], HFN⟩
      case measure => simp [intOf]; omega
     ·have HM0 := Lib.hid (many_not f 0 i (by rw [HK.out]; omega));obtain ⟨d, hd⟩ : ∃ d, 15 - k = d := ⟨_, rfl⟩;have hd2 : (15 : Int) - (k : Int) = (d : Int) := by omega
      have hd15 : d ≤ 14 := by omega
      have hp2 : 2 ^ d ≤ 16384 := Nat.pow_le_pow_right (n := 2) (by decide) hd15;have HKS2 : Hid (kraft f (i + 1) 15 = kraft f i 15 + 2 ^ d) := Lib.hid (by rw [HKS.out, if_pos (by omega), hd]);have HD := Lib.hid hd;have hq1 : (2 : Int) ^ d ≤ 16384 := by rw [show (2 : Int) ^ d = ((2 ^ d : Nat) : Int) by simp]; omega
      have hq2 : (0 : Int) ≤ (2 : Int) ^ d := by rw [show (2 : Int) ^ d = ((2 ^ d : Nat) : Int) by simp]; exact Int.natCast_nonneg _
      have t0 : ((k : Int) == 0) = false := beq_eq_false_iff_ne.2 (by omega);clear hd;by_cases hk1 : k = 1
      ·have t1 : ((k : Int) == 1) = true := beq_iff_eq.2 (by omega);have HM1 := Lib.hid (many_at f 1 i (by rw [HK.out, hk1]));clear hk1;go_wp2_with fail;go_round
       case rel => exact ⟨i + 1, by omega, by go_num, by rw [HKS2.out]; exact val_int (by simp), by rw [HM0.out]; exact val_int (by omega), by rw [HM1.out]; go_num, HFN⟩
       case measure => simp [intOf]; omega
      ·have t1 : ((k : Int) == 1) = false := beq_eq_false_iff_ne.2 (by omega);have HM1 := Lib.hid (many_not f 1 i (by rw [HK.out]; omega));go_wp2_with fail;go_round
       case rel => exact ⟨i + 1, by omega, by go_num, by rw [HKS2.out]; exact val_int (by simp), by rw [HM0.out]; exact val_int (by omega), by rw [HM1.out], HFN⟩
       case measure => simp [intOf]; omega
   ·obtain rfl : i = len := by omega
    have hin : inBounds f i := ⟨by omega, HF.out⟩;have hm0 := many_le f 0 i;have hC : complete f i ↔ (i - many f 0 i = 0 ∨ (i - many f 0 i = 1 ∧ many f 1 i = 1) ∨ kraft f i 15 = 32768) := by
     unfold complete;constructor
     ·rintro (h | ⟨h, h'⟩ | h)
      ·left; omega
      ·right; left; exact ⟨by omega, h'⟩
      ·right; right; exact h
     ·rintro (h | ⟨h, h'⟩ | h)
      ·left; omega
      ·right; left; exact ⟨by omega, h'⟩
      ·right; right; exact h
    have hkl := kraft_len f i (by omega);have hv1 : complete f i → vcode f i = 0 := fun h => by unfold vcode; rw [if_pos hin, if_pos h]
    have hv2 : ¬ complete f i → vcode f i = 3 := fun h => by unfold vcode; rw [if_pos hin, if_neg h]
    rw [hC] at hv1 hv2;have HV1 := Lib.hid hv1;have HV2 := Lib.hid hv2;clear hv1 hv2 hC hin
    have ho := many_le f 1 i;generalize i - many f 0 i = s at *;generalize many f 1 i = o at *;generalize kraft f i 15 = K at *;by_cases h0 : s = 0
    ·have HV := Lib.hid (HV1.out (.inl h0));have t0 : ((s : Int) == 0) = true := beq_iff_eq.2 (by omega);clear h0;go_wp2_with fail;go_ret;exact ⟨by rw [HV.out]; rfl, rfl⟩
    ·have t0 : ((s : Int) == 0) = false := beq_eq_false_iff_ne.2 (by omega);by_cases h1 : s = 1 ∧ o = 1
     ·have HV := Lib.hid (HV1.out (.inr (.inl h1)));have t1 : ((s : Int) == 1) = true := beq_iff_eq.2 (by omega);have t2 : ((o : Int) == 1) = true := beq_iff_eq.2 (by omega);clear h0 h1;go_wp2_with fail;go_ret;exact ⟨by rw [HV.out]; rfl, rfl⟩
     ·by_cases hK : K = 32768
      ·have HV := Lib.hid (HV1.out (.inr (.inr hK)));have t3 : ((K : Int) == 32768) = true := beq_iff_eq.2 (by omega);by_cases hs1 : s = 1
       ·have t1 : ((s : Int) == 1) = true := beq_iff_eq.2 (by omega);have t2 : ((o : Int) == 1) = false := beq_eq_false_iff_ne.2 (by omega);clear h0 h1 hK hs1;go_wp2_with fail;go_ret;exact ⟨by rw [HV.out]; rfl, rfl⟩
       ·have t1 : ((s : Int) == 1) = false := beq_eq_false_iff_ne.2 (by omega);clear h0 h1 hK hs1;go_wp2_with fail;go_ret;exact ⟨by rw [HV.out]; rfl, rfl⟩
      ·have HV := Lib.hid (HV2.out (fun q => by rcases q with q | q | q; exact h0 q; exact h1 q; exact hK q));have t3 : ((K : Int) == 32768) = false := beq_eq_false_iff_ne.2 (by omega);by_cases hs1 : s = 1
       ·have t1 : ((s : Int) == 1) = true := beq_iff_eq.2 (by omega);have t2 : ((o : Int) == 1) = false := beq_eq_false_iff_ne.2 (by omega);clear h0 h1 hK hs1;go_wp2_with fail;go_ret;exact ⟨by rw [HV.out]; rfl, rfl⟩
       ·have t1 : ((s : Int) == 1) = false := beq_eq_false_iff_ne.2 (by omega);clear h0 h1 hK hs1;go_wp2_with fail;go_ret;exact ⟨by rw [HV.out]; rfl, rfl⟩
end Go.Proofs.YtnhbjgmfbcedaaaDoor
namespace Go.Proofs.YtnhbjgmfbcedaaaDoor
open Go.RowKit
def symV (l : List Nat) : List Value := l.map fun i : Nat => Value.int .i64 (i : Int)
/-- a tree as it lies in memory: of each length how many words, and the symbols -/
structure TAt (w : World) (T : Nat) (v : Value) (f : Nat → Int) (len : Nat) (l : List Nat) : Prop where
  many : ∀ j, j < 16 → w.cell? ⟨T, j, none⟩ = some (.int .i64 (many f j len : Int))
  cell : w.cell? ⟨T, 16, none⟩ = some v
  free : w.frozen? ⟨T, 16, none⟩ = false
  row : w.ownsRow 0 3 1 v l.length (symV l)
  apart : v.ownBlock ≠ some T
theorem upTo_bd (f : Nat → Int) (len : Nat) : ∀ n, upTo f len n ≤ n * len := by
  intro n;induction n with
  | zero => exact Nat.zero_le _
  | succ n ih => have := many_le f (n + 1) len; simp only [upTo, Nat.succ_mul]; omega
end Go.Proofs.YtnhbjgmfbcedaaaDoor
namespace Crc
def T (c : Nat) : Nat := (c / 2) ^^^ (if c % 2 = 1 then 3988292384 else 0)
def Tn : Nat → Nat → Nat
  | 0, c => c
  | n + 1, c => Tn n (T c)
theorem split8 (c : Nat) : c = (256 * (c / 256)) ^^^ (c % 256) := by
  have h := Nat.two_pow_add_eq_or_of_lt (i := 8) (b := c % 256) (Nat.mod_lt _ (by decide)) (c / 256);apply Nat.eq_of_testBit_eq; intro i;rw [Nat.testBit_xor];have e1 : (256 * (c / 256)).testBit i = (decide (8 ≤ i) && c.testBit i) := by
    rw [show (256 : Nat) = 2 ^ 8 from rfl, Nat.testBit_two_pow_mul, Nat.testBit_div_two_pow];by_cases hi : 8 ≤ i
    · simp [hi]
    · simp [hi]
  have e2 : (c % 256).testBit i = (decide (i < 8) && c.testBit i) := by
    rw [show (256 : Nat) = 2 ^ 8 from rfl, Nat.testBit_mod_two_pow]
  rw [e1, e2];by_cases hi : 8 ≤ i
  · simp [hi, show ¬ i < 8 by omega]
  · simp [hi, show i < 8 by omega]
/-- one byte -/
def byte (c b : Nat) : Nat := Tn 8 (c ^^^ b)
def run (c : Nat) (l : List UInt8) : Nat := l.foldl (fun c b => byte c b.toNat) c
def flip (c : Nat) : Nat := c ^^^ 4294967295
def more (c : Nat) (l : List UInt8) : Nat := flip (run (flip c) l)
end Crc
namespace Crc
/-- the number whose digits to base 256 are the bytes, the lowest first -/
def num : List UInt8 → Nat
  | [] => 0
  | b :: l => b.toNat + 256 * num l
theorem num_cons (b : UInt8) (l : List UInt8) : num (b :: l) = b.toNat ^^^ (256 * num l) := by
  have h := split8 (num (b :: l));have hb : b.toNat < 256 := b.toNat_lt;have e1 : num (b :: l) / 256 = num l := by show (b.toNat + 256 * num l) / 256 = _; omega
  have e2 : num (b :: l) % 256 = b.toNat := by show (b.toNat + 256 * num l) % 256 = _; omega
  rw [e1, e2, Nat.xor_comm] at h;exact h
theorem num_lt (l : List UInt8) : num l < 2 ^ (8 * l.length) := by
  induction l with
  | nil => simp [num]
  | cons b l ih =>
    have hb : b.toNat < 256 := b.toNat_lt;rw [List.length_cons, show 8 * (l.length + 1) = 8 * l.length + 8 by omega, Nat.pow_add];show b.toNat + 256 * num l < _;omega
theorem num_inj : ∀ (l m : List UInt8), l.length = m.length → num l = num m → l = m
  | [], [], _, _ => rfl
  | [], _ :: _, h, _ => by simp at h
  | _ :: _, [], h, _ => by simp at h
  | a :: l, b :: m, h, e => by
    have ha : a.toNat < 256 := a.toNat_lt;have hb : b.toNat < 256 := b.toNat_lt;have e' : a.toNat + 256 * num l = b.toNat + 256 * num m := e;have h1 : a.toNat = b.toNat := by omega
    have h2 : num l = num m := by omega
    rw [UInt8.toNat_inj.1 h1, num_inj l m (by simpa using h) h2]
theorem num_set (l : List UInt8) : ∀ (j : Nat) (c : UInt8), (hj : j < l.length) → num (l.set j c) = num l ^^^ ((l[j].toNat ^^^ c.toNat) * 256 ^ j) := by
  induction l with
  | nil => intro j c hj; simp at hj
  | cons b l ih =>
    intro j c hj;cases j with
    | zero =>
      simp only [List.set_cons_zero, List.getElem_cons_zero, Nat.pow_zero, Nat.mul_one];rw [num_cons, num_cons, show b.toNat ^^^ 256 * num l ^^^ (b.toNat ^^^ c.toNat) = (b.toNat ^^^ b.toNat) ^^^ (c.toNat ^^^ 256 * num l) by ac_rfl, Nat.xor_self, Nat.zero_xor]
    | succ j =>
      simp only [List.set_cons_succ, List.getElem_cons_succ];rw [num_cons, num_cons, ih j c (by simpa using hj), Nat.xor_assoc];congr 1
      rw [show (256 : Nat) = 2 ^ 8 from rfl, Nat.mul_comm, Nat.mul_comm (2 ^ 8) (num l), ← Nat.shiftLeft_eq, ← Nat.shiftLeft_eq, Nat.shiftLeft_xor_distrib, Nat.shiftLeft_eq, Nat.shiftLeft_eq];congr 1
      rw [Nat.mul_assoc, ← Nat.pow_succ]
end Crc
