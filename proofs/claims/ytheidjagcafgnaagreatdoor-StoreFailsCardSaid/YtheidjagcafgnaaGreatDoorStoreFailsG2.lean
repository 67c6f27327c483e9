/-
  errors.As at a target of type **api.Fault: of nil, of a sentinel, of an api.Fault. The library's own text is walked.
  plain.Code: the number of an error, and its place.
  A strings.Builder that a call has made itself: what its memory says; WriteString, Len, String.
  Rows of cells of whole numbers of one kind: arrays and slices that a call made. No function of the program is named.
  Rows of cells of whatever values. No function of the program is named.
  math/bits.Mul at 1.
  Functions of Go's library that a disk calls: math/bits.Mul, Builder.Grow, strings.Repeat, slices.Clone, slices.Repeat.
  A builder that is read and written on; strings.Repeat of one byte 0.
-/
import Derived.Test.YtheidjagcafgnaaGreatDoorStoreFailsG1
import Derived.StillTailTactics
import Derived.Outline
import Derived.Lib.Builder
import Derived.Lib.AppendStr
import Derived.Lib.UnsafeStr
import Derived.Shelf.RegionOpenPlain
import Derived.Lib.OthersKept
import Derived.Deep.WholeRow
import Derived.Deep.OwnRows
import Derived.Lib.Mul64
import Derived.Laws.Bits64b
import Derived.Lib.MakeNoZero
import Derived.Lib.SliceRun
import Derived.Laws.CopyOwn
import Derived.Deep.LoopGhost
import Derived.Deep.RegionLaw
import Derived.Lib.FrozenHead
import Derived.Lib.Strings
set_option linter.unusedSimpArgs false
set_option linter.unusedVariables false
set_option maxRecDepth 100000
namespace Go.Proofs.YtheidjagcafgnaaGreatDoor
open Go.RowKit Go.Extern.Stop Go.Stop Go.Extern
theorem valueOfPP (t : Addr) (w : World) : (ReflectliteValue.unpack (.iface 111 (.pointer (some t)))).run Tryz.prog w
  = .ok (.agg #[hdl 111, .pointer (some ⟨w.heap.size, 0, none⟩), .int .u64 150]) (w.alloc (.cells #[.pointer (some t)] 111)) := by kernel_rfl
theorem typePP (a : Addr) (w : World) : (ReflectliteValue.methodAny (ReflectliteValue.valueError "reflectlite.Value.Type" 0) (fun t _ _ _ => ReflectliteType.toType t) #[.agg #[hdl 111, .pointer (some a), .int .u64 150]]).run Tryz.prog w
  = .ok (.iface 153 (.agg #[hdl 111])) w := by kernel_rfl
theorem methodKind (n : Nat) (h : Value) (w : World) : (Go.method (n + 1) 153 (.agg #[h]) "Kind").run Tryz.prog w = .ok (123, h) w := by kernel_rfl
theorem methodElem (n : Nat) (h : Value) (w : World) : (Go.method (n + 1) 153 (.agg #[h]) "Elem").run Tryz.prog w = .ok (135, .agg #[h]) w := by kernel_rfl
theorem methodImplements (n : Nat) (h : Value) (w : World) : (Go.method (n + 1) 153 (.agg #[h]) "Implements").run Tryz.prog w = .ok (136, .agg #[h]) w := by kernel_rfl
theorem methodAssignableTo (n : Nat) (h : Value) (w : World) : (Go.method (n + 1) 153 (.agg #[h]) "AssignableTo").run Tryz.prog w = .ok (133, .agg #[h]) w := by kernel_rfl
theorem kindPP (w : World) : ((ReflectliteType.abiMethod fun t => do pure (.int .u8 (← Rtype.kind t))) #[hdl 111]).run Tryz.prog w = .ok (.int .u8 22) w := by kernel_rfl
theorem kindP (w : World) : ((ReflectliteType.abiMethod fun t => do pure (.int .u8 (← Rtype.kind t))) #[hdl 109]).run Tryz.prog w = .ok (.int .u8 22) w := by kernel_rfl
theorem elemPP (w : World) : (ReflectliteType.method ReflectliteType.elem #[.agg #[hdl 111]]).run Tryz.prog w = .ok (.iface 153 (.agg #[hdl 109])) w := by kernel_rfl
theorem implP (w : World) : (ReflectliteType.relation "Implements" ReflectliteType.implements_ #[.agg #[hdl 109], .iface 153 (.agg #[hdl 25])]).run Tryz.prog w = .ok (.bool true) w := by kernel_rfl
theorem typeOfP (v : Value) (w : World) : (ReflectliteType.typeOf #[.iface 109 v]).run Tryz.prog w = .ok (.iface 153 (.agg #[hdl 109])) w := by kernel_rfl
theorem assignP (w : World) : (ReflectliteType.relation "AssignableTo" ReflectliteType.assignableTo #[.agg #[hdl 109], .iface 153 (.agg #[hdl 109])]).run Tryz.prog w = .ok (.bool true) w := by kernel_rfl
theorem assignE (w : World) : (ReflectliteType.relation "AssignableTo" ReflectliteType.assignableTo #[.agg #[hdl 188], .iface 153 (.agg #[hdl 109])]).run Tryz.prog w = .ok (.bool false) w := by kernel_rfl
theorem valueOfP (e : Addr) (w : World) : (ReflectliteValue.unpack (.iface 109 (.pointer (some e)))).run Tryz.prog w
  = .ok (.agg #[hdl 109, .pointer (some ⟨w.heap.size, 0, none⟩), .int .u64 150]) (w.alloc (.cells #[.pointer (some e)] 109)) := by kernel_rfl
theorem rlm (z : Sem Value) (f : TypeId → Addr → Nat → Nat → Sem Value) (v : Value) :
  ReflectliteValue.method z f #[v] = (do match ← ReflectliteValue.parts v with | none => z | some (t, a, fl) => f t a fl (fl % 32)) := rfl
theorem partsPP (a : Addr) (w : World) : (ReflectliteValue.parts (.agg #[hdl 111, .pointer (some a), .int .u64 150])).run Tryz.prog w = .ok (some (111, a, 150)) w := by kernel_rfl
theorem isNilPP (a p : Addr) (W : World) (ha : W.cell? a = some (.pointer (some p))) :
  (ReflectliteValue.method (ReflectliteValue.valueError "reflectlite.Value.IsNil" 0) ReflectliteValue.isNil #[.agg #[hdl 111, .pointer (some a), .int .u64 150]]).run Tryz.prog W = .ok (.bool false) W := by
 rw [rlm];simp only [Sem.run_bind, partsPP, Result.andThen];simp [ReflectliteValue.isNil, loadVar, isAgg, underlying, Tryz.underlying111, ha, Result.andThen]
theorem elemOfPP (w : World) : (Rtype.elem? 111).run Tryz.prog w = .ok (some 109) w := by kernel_rfl
theorem mkP (p : Addr) (w : World) : (ReflectliteValue.mk 109 p ReflectliteValue.flagAddr).run Tryz.prog w = .ok (.agg #[hdl 109, .pointer (some p), .int .u64 406]) w := by kernel_rfl
theorem elemVPP (a p : Addr) (W : World) (ha : W.cell? a = some (.pointer (some p))) :
  (ReflectliteValue.method (ReflectliteValue.valueError "reflectlite.Value.Elem" 0) ReflectliteValue.elem #[.agg #[hdl 111, .pointer (some a), .int .u64 150]]).run Tryz.prog W
   = .ok (.agg #[hdl 109, .pointer (some p), .int .u64 406]) W := by
 rw [rlm];simp only [Sem.run_bind, partsPP, Result.andThen];simp [ReflectliteValue.elem, loadVar, isAgg, underlying, Tryz.underlying111, ha, Result.andThen, elemOfPP, mkP]
theorem rls (v x : Value) : ReflectliteValue.set #[v, x] = (do
  let (some (dst, a, fl), some (src, b, _)) := (← ReflectliteValue.parts v, ← ReflectliteValue.parts x)
   | unsupported (.noEntry "extern/(internal/reflectlite.Value).Set.zeroValue")
  if fl / ReflectliteValue.flagAddr % 2 == 0 then unsupported (.noEntry "extern/(internal/reflectlite.Value).Set.unaddressable")
  let val ← loadVar src b;if ← Rtype.directlyAssignable dst src then storeVar dst a val
  else if ← Rtype.implements dst src then
   if (← Rtype.kind src) == 20 then
    match val with
    | .nilIface => unsupported (.noEntry "extern/reflectlite: a nil value of one interface type handed on as a value of another")
    | _ => storeVar dst a val
   else storeVar dst a (.iface src val)
  else panicString ("reflectlite.Set: value of type " ++ (← Rtype.spelt src) ++ " is not assignable to type " ++ (← Rtype.spelt dst))
  pure (.tuple #[])) := rfl
theorem partsPa (a : Addr) (w : World) : (ReflectliteValue.parts (.agg #[hdl 109, .pointer (some a), .int .u64 406])).run Tryz.prog w = .ok (some (109, a, 406)) w := by kernel_rfl
theorem partsP (a : Addr) (w : World) : (ReflectliteValue.parts (.agg #[hdl 109, .pointer (some a), .int .u64 150])).run Tryz.prog w = .ok (some (109, a, 150)) w := by kernel_rfl
theorem directP (w : World) : (Rtype.directlyAssignable 109 109).run Tryz.prog w = .ok true w := by kernel_rfl
theorem setP (ta b e : Addr) (old : Value) (W : World) (hb : W.cell? b = some (.pointer (some e))) (ht : W.cell? ta = some old) (hf : W.frozen? ta = false) :
  (ReflectliteValue.set #[.agg #[hdl 109, .pointer (some ta), .int .u64 406], .agg #[hdl 109, .pointer (some b), .int .u64 150]]).run Tryz.prog W
   = .ok (.tuple #[]) (W.setCell ta (.pointer (some e))) := by
 rw [rls];simp only [Sem.run_bind, partsPa, partsP, Result.andThen];simp [ReflectliteValue.flagAddr, loadVar, isAgg, underlying, Tryz.underlying109, hb, Result.andThen, directP, storeVar, Value.cells, storeCells, Addr.add];rw [run_store Tryz.prog W ta _ _ (by rfl)];simp [ht, hf]
theorem noAsE (v : Value) (xT : TypeId) (w : World) : (Instr.typeAssert (.iface 188 v) xT 157 true).run Tryz.prog w = .ok (.tuple #[.nilIface, .bool false]) w := run_typeAssert_lacksB Tryz.underlying157 (by kernel_rfl) (by kernel_rfl) v xT w
theorem call_valueOf (x : Value) (v : Value) (w w' : World) (h : (ReflectliteValue.unpack x).run Tryz.prog w = .ok v w') : (callFunc 74 #[x]).run Tryz.prog w = .ok (.value v) w' := by
 rw [@run_callFunc_extern Tryz.prog 74 _ (fun args => ReflectliteValue.unpack (args.getD 0 (.tuple #[]))) Tryz.func74 (by kernel_rfl) (by kernel_rfl) (by kernel_rfl) (by kernel_rfl)];show ((ReflectliteValue.unpack x).run Tryz.prog w).andThen _ = _;rw [h]; rfl
theorem call_type (x : Value) (v : Value) (w w' : World) (h : (ReflectliteValue.methodAny (ReflectliteValue.valueError "reflectlite.Value.Type" 0) (fun t _ _ _ => ReflectliteType.toType t) #[x]).run Tryz.prog w = .ok v w') : (callFunc 75 #[x]).run Tryz.prog w = .ok (.value v) w' := by
 rw [@run_callFunc_extern Tryz.prog 75 _ (ReflectliteValue.methodAny (ReflectliteValue.valueError "reflectlite.Value.Type" 0) (fun t _ _ _ => ReflectliteType.toType t)) Tryz.func75 (by kernel_rfl) (by kernel_rfl) (by kernel_rfl) (by kernel_rfl), h]; rfl
theorem call_isNil (x : Value) (v : Value) (w w' : World) (h : (ReflectliteValue.method (ReflectliteValue.valueError "reflectlite.Value.IsNil" 0) ReflectliteValue.isNil #[x]).run Tryz.prog w = .ok v w') : (callFunc 76 #[x]).run Tryz.prog w = .ok (.value v) w' := by
 rw [@run_callFunc_extern Tryz.prog 76 _ (ReflectliteValue.method (ReflectliteValue.valueError "reflectlite.Value.IsNil" 0) ReflectliteValue.isNil) Tryz.func76 (by kernel_rfl) (by kernel_rfl) (by kernel_rfl) (by kernel_rfl), h]; rfl
theorem call_velem (x : Value) (v : Value) (w w' : World) (h : (ReflectliteValue.method (ReflectliteValue.valueError "reflectlite.Value.Elem" 0) ReflectliteValue.elem #[x]).run Tryz.prog w = .ok v w') : (callFunc 86 #[x]).run Tryz.prog w = .ok (.value v) w' := by
 rw [@run_callFunc_extern Tryz.prog 86 _ (ReflectliteValue.method (ReflectliteValue.valueError "reflectlite.Value.Elem" 0) ReflectliteValue.elem) Tryz.func86 (by kernel_rfl) (by kernel_rfl) (by kernel_rfl) (by kernel_rfl), h]; rfl
theorem call_set (x y : Value) (v : Value) (w w' : World) (h : (ReflectliteValue.set #[x, y]).run Tryz.prog w = .ok v w') : (callFunc 87 #[x, y]).run Tryz.prog w = .ok (.value v) w' := by
 rw [@run_callFunc_extern Tryz.prog 87 _ ReflectliteValue.set Tryz.func87 (by kernel_rfl) (by kernel_rfl) (by kernel_rfl) (by kernel_rfl), h]; rfl
theorem call_kind (x : Value) (v : Value) (w w' : World) (h : ((ReflectliteType.abiMethod fun t => do pure (.int .u8 (← Rtype.kind t))) #[x]).run Tryz.prog w = .ok v w') : (callFunc 123 #[x]).run Tryz.prog w = .ok (.value v) w' := by
 rw [@run_callFunc_extern Tryz.prog 123 _ (ReflectliteType.abiMethod fun t => do pure (.int .u8 (← Rtype.kind t))) Tryz.func123 (by kernel_rfl) (by kernel_rfl) (by kernel_rfl) (by kernel_rfl), h]; rfl
theorem call_elem (x : Value) (v : Value) (w w' : World) (h : (ReflectliteType.method ReflectliteType.elem #[x]).run Tryz.prog w = .ok v w') : (callFunc 135 #[x]).run Tryz.prog w = .ok (.value v) w' := by
 rw [@run_callFunc_extern Tryz.prog 135 _ (ReflectliteType.method ReflectliteType.elem) Tryz.func135 (by kernel_rfl) (by kernel_rfl) (by kernel_rfl) (by kernel_rfl), h]; rfl
theorem call_impl (x y : Value) (v : Value) (w w' : World) (h : (ReflectliteType.relation "Implements" ReflectliteType.implements_ #[x, y]).run Tryz.prog w = .ok v w') : (callFunc 136 #[x, y]).run Tryz.prog w = .ok (.value v) w' := by
 rw [@run_callFunc_extern Tryz.prog 136 _ (ReflectliteType.relation "Implements" ReflectliteType.implements_) Tryz.func136 (by kernel_rfl) (by kernel_rfl) (by kernel_rfl) (by kernel_rfl), h]; rfl
theorem call_assign (x y : Value) (v : Value) (w w' : World) (h : (ReflectliteType.relation "AssignableTo" ReflectliteType.assignableTo #[x, y]).run Tryz.prog w = .ok v w') : (callFunc 133 #[x, y]).run Tryz.prog w = .ok (.value v) w' := by
 rw [@run_callFunc_extern Tryz.prog 133 _ (ReflectliteType.relation "AssignableTo" ReflectliteType.assignableTo) Tryz.func133 (by kernel_rfl) (by kernel_rfl) (by kernel_rfl) (by kernel_rfl), h]; rfl
theorem call_typeOf (x : Value) (v : Value) (w w' : World) (h : (ReflectliteType.typeOf #[x]).run Tryz.prog w = .ok v w') : (callFunc 78 #[x]).run Tryz.prog w = .ok (.value v) w' := by
 rw [@run_callFunc_extern Tryz.prog 78 _ ReflectliteType.typeOf Tryz.func78 (by kernel_rfl) (by kernel_rfl) (by kernel_rfl) (by kernel_rfl), h]; rfl
/-- the variable of package errors that holds the type error -/
def ErrType (w : World) : Prop := w.cell? ⟨9, 0, none⟩ = some (.iface 153 (.agg #[hdl 25]))
set_option maxHeartbeats 4000000 in
theorem as_hit (e t : Addr) (old : Value) (w : World) (hg : ErrType w) (ht0 : w.cell? t = some old) (hf0 : w.frozen? t = false) :
  Calls Tryz.prog 58 #[.iface 109 (.pointer (some e)), .iface 111 (.pointer (some t))] w fun ev w' => ev = .returned (.bool true) ∧ Keeps (fun k => k = t.block) w w' ∧ w'.cell? t = some (.pointer (some e)) ∧ w'.frozen? t = false := by
 unfold ErrType at hg;have hlt : 9 < w.heap.size := World.block_lt_of_cell? w _ hg;have htl : t.block < w.heap.size := World.block_lt_of_cell? w _ ht0;have f6 := fun (t : Addr) w => call_valueOf _ _ _ _ (valueOfPP t w);have f7 := fun (a : Addr) w => call_type _ _ _ _ (typePP a w);have k27 := fun w => call_kind _ _ _ _ (kindPP w);have k25 := fun w => call_kind _ _ _ _ (kindP w);have e27 := fun w => call_elem _ _ _ _ (elemPP w);have i25 := fun w => call_impl _ _ _ _ _ (implP w);have tO := fun v w => call_typeOf _ _ _ _ (typeOfP v w);have a25 := fun w => call_assign _ _ _ _ _ (assignP w);have v25 := fun e w => call_valueOf _ _ _ _ (valueOfP e w);have mK := methodKind;have mE := methodElem;have mI := methodImplements;have mA := methodAssignableTo;have n8 := call_isNil _ _ _ _ (isNilPP ⟨w.heap.size, 0, none⟩ t ((w.alloc (.cells #[.pointer (some t)] 111)).alloc (.cells #[hdl 111, .pointer (some ⟨w.heap.size, 0, none⟩), .int .u64 150] 136)) (by simp));have hg2 : ((w.alloc (.cells #[.pointer (some t)] 111)).alloc (.cells #[hdl 111, .pointer (some ⟨w.heap.size, 0, none⟩), .int .u64 150] 136)).cell? ⟨9, 0, none⟩ = some (.iface 153 (.agg #[hdl 25])) := by
  rw [World.cell?_alloc_lt _ _ ⟨9, 0, none⟩ (by simp; omega), World.cell?_alloc_lt _ _ ⟨9, 0, none⟩ hlt]; exact hg
 have el := call_velem _ _ _ _ (elemVPP ⟨w.heap.size, 0, none⟩ t (((w.alloc (.cells #[.pointer (some t)] 111)).alloc (.cells #[hdl 111, .pointer (some ⟨w.heap.size, 0, none⟩), .int .u64 150] 136)).alloc (.cells #[hdl 111, .pointer (some ⟨w.heap.size, 0, none⟩), .int .u64 150] 136)) (by rw [World.cell?_alloc_lt _ _ ⟨w.heap.size, 0, none⟩ (by simp; omega)]; simp));have c1 : ((((w.alloc (.cells #[.pointer (some t)] 111)).alloc (.cells #[hdl 111, .pointer (some ⟨w.heap.size, 0, none⟩), .int .u64 150] 136)).alloc (.cells #[hdl 111, .pointer (some ⟨w.heap.size, 0, none⟩), .int .u64 150] 136)).alloc (.cells #[.pointer (some e)] 109)).cell? t = some old := by rw [World.cell?_alloc_lt _ _ t (by simp; omega), World.cell?_alloc_lt _ _ t (by simp; omega), World.cell?_alloc_lt _ _ t (by simp; omega), World.cell?_alloc_lt _ _ t htl]; exact ht0
 have c2 : ((((w.alloc (.cells #[.pointer (some t)] 111)).alloc (.cells #[hdl 111, .pointer (some ⟨w.heap.size, 0, none⟩), .int .u64 150] 136)).alloc (.cells #[hdl 111, .pointer (some ⟨w.heap.size, 0, none⟩), .int .u64 150] 136)).alloc (.cells #[.pointer (some e)] 109)).frozen? t = false := by rw [World.frozen?_alloc_old _ _ t (by simp; omega), World.frozen?_alloc_old _ _ t (by simp; omega), World.frozen?_alloc_old _ _ t (by simp; omega), World.frozen?_alloc_old _ _ t (Nat.ne_of_lt htl)]; exact hf0
 have st := call_set _ _ _ _ _ (setP t ⟨w.heap.size + 1 + 1 + 1, 0, none⟩ e old ((((w.alloc (.cells #[.pointer (some t)] 111)).alloc (.cells #[hdl 111, .pointer (some ⟨w.heap.size, 0, none⟩), .int .u64 150] 136)).alloc (.cells #[hdl 111, .pointer (some ⟨w.heap.size, 0, none⟩), .int .u64 150] 136)).alloc (.cells #[.pointer (some e)] 109))
  (by rw [World.cell?_alloc_at _ _ _ _ (by simp)]; rfl) c1 c2)
 have fin : Keeps (fun k => k = t.block) w (((((w.alloc (.cells #[.pointer (some t)] 111)).alloc (.cells #[hdl 111, .pointer (some ⟨w.heap.size, 0, none⟩), .int .u64 150] 136)).alloc (.cells #[hdl 111, .pointer (some ⟨w.heap.size, 0, none⟩), .int .u64 150] 136)).alloc (.cells #[.pointer (some e)] 109)).setCell t (.pointer (some e))) :=
  (((((Keeps.refl (fun k => k = t.block) w).alloc _).alloc _).alloc _).alloc _).setCell (.inl rfl) _
 have C1 : (((((w.alloc (.cells #[.pointer (some t)] 111)).alloc (.cells #[hdl 111, .pointer (some ⟨w.heap.size, 0, none⟩), .int .u64 150] 136)).alloc (.cells #[hdl 111, .pointer (some ⟨w.heap.size, 0, none⟩), .int .u64 150] 136)).alloc (.cells #[.pointer (some e)] 109)).setCell t (.pointer (some e))).cell? t = some (.pointer (some e)) := World.cell?_setCell_same _ _ _ c1;have C2 : (((((w.alloc (.cells #[.pointer (some t)] 111)).alloc (.cells #[hdl 111, .pointer (some ⟨w.heap.size, 0, none⟩), .int .u64 150] 136)).alloc (.cells #[hdl 111, .pointer (some ⟨w.heap.size, 0, none⟩), .int .u64 150] 136)).alloc (.cells #[.pointer (some e)] 109)).setCell t (.pointer (some e))).frozen? t = false := by rw [World.frozen?_setCell]; exact c2
 have HF := Lib.hid fin
 have H1 := Lib.hid C1;have H2 := Lib.hid C2;clear fin C1 C2 c1 c2;go_enter Tryz.func58, Tryz.ntmps58
 go_wp2
 refine wp_loop_rounds 1 ?_;rw [rounds_succ];go_wp2
 go_ret;exact ⟨rfl, HF.out, H1.out, H2.out⟩
set_option maxHeartbeats 4000000 in
theorem as_miss (e t : Addr) (w : World) (hg : ErrType w) :
  Calls Tryz.prog 58 #[.iface 188 (.pointer (some e)), .iface 111 (.pointer (some t))] w fun ev w' => ev = .returned (.bool false) ∧ Ext w w' := by
 unfold ErrType at hg;have hlt : 9 < w.heap.size := World.block_lt_of_cell? w _ hg;have f6 := fun (t : Addr) w => call_valueOf _ _ _ _ (valueOfPP t w);have f7 := fun (a : Addr) w => call_type _ _ _ _ (typePP a w);have k27 := fun w => call_kind _ _ _ _ (kindPP w);have k25 := fun w => call_kind _ _ _ _ (kindP w);have e27 := fun w => call_elem _ _ _ _ (elemPP w);have i25 := fun w => call_impl _ _ _ _ _ (implP w);have tO := call_typeOfE;have a25 := fun w => call_assign _ _ _ _ _ (assignE w);have mK := methodKind;have mE := methodElem;have mI := methodImplements;have mA := methodAssignableTo;have nA := noAsE;have uE := noUnwrapE;have vE := noUnwrapsE;have n8 := call_isNil _ _ _ _ (isNilPP ⟨w.heap.size, 0, none⟩ t ((w.alloc (.cells #[.pointer (some t)] 111)).alloc (.cells #[hdl 111, .pointer (some ⟨w.heap.size, 0, none⟩), .int .u64 150] 136)) (by simp));have hg2 : ((w.alloc (.cells #[.pointer (some t)] 111)).alloc (.cells #[hdl 111, .pointer (some ⟨w.heap.size, 0, none⟩), .int .u64 150] 136)).cell? ⟨9, 0, none⟩ = some (.iface 153 (.agg #[hdl 25])) := by
  rw [World.cell?_alloc_lt _ _ ⟨9, 0, none⟩ (by simp; omega), World.cell?_alloc_lt _ _ ⟨9, 0, none⟩ hlt]; exact hg
 have fin : Ext w (((w.alloc (.cells #[.pointer (some t)] 111)).alloc (.cells #[hdl 111, .pointer (some ⟨w.heap.size, 0, none⟩), .int .u64 150] 136)).alloc (.cells #[hdl 111, .pointer (some ⟨w.heap.size, 0, none⟩), .int .u64 150] 136)) :=
  (((Ext.refl w).alloc _).alloc _).alloc _
 have HF := Lib.hid fin
 clear fin
 go_enter Tryz.func58, Tryz.ntmps58
 go_wp2
 refine wp_loop_rounds 1 ?_;rw [rounds_succ];go_wp2
 go_ret;exact ⟨rfl, HF.out⟩
end Go.Proofs.YtheidjagcafgnaaGreatDoor
namespace Go.Proofs.YtheidjagcafgnaaGreatDoor
open Go.RowKit
/-- the variables of the errors, in the order of their numbers -/
def gk : Nat → Nat
 | 0 => 4
 | 1 => 0
 | 2 => 6
 | 3 => 7
 | 4 => 3
 | 5 => 5
 | 6 => 8
 | 7 => 1
 | _ => 2
def sentV (a : Addr) : Value := .iface 188 (.pointer (some a))
/-- the package's errors as they lie in memory -/
structure Errs (w : World) (E : Nat → Addr) : Prop where
 et : ErrType w
 var : ∀ k, k < 9 → w.cell? ⟨gk k, 0, none⟩ = some (sentV (E k))
 row : ∀ k, k < 9 → ∃ c t, w.heap[(E k).block]? = some (.cells c t (0, 0))
 ne : ∀ j k, j < 9 → k < 9 → j ≠ k → E j ≠ E k
theorem Errs.ext {w w' : World} {E : Nat → Addr} (h : Errs w E) (hE : Ext w w') : Errs w' E := by
 refine ⟨?_, fun k hk => ?_, fun k hk => ?_, h.ne⟩
 ·exact (hE.cell (p := ⟨9, 0, none⟩) (World.block_lt_of_cell? w _ h.et)).trans h.et
 ·exact (hE.cell (p := ⟨gk k, 0, none⟩) (World.block_lt_of_cell? w _ (h.var k hk))).trans (h.var k hk)
 ·obtain ⟨c, t, hc⟩ := h.row k hk;exact ⟨c, t, (hE.block (E k).block (lt_of_block hc)).trans hc⟩
/-- an error value: its number, and its place -/
inductive ErrV (w : World) (E : Nat → Addr) : Value → Int → Int → Prop
 | nil : ErrV w E .nilIface 0 (-1)
 | sent (k : Nat) (hk : k < 9) : ErrV w E (sentV (E k)) ((k : Int) + 1) (-1)
 | fault (k F : Nat) (a : Int) (hk : k < 9) (h : w.heap[F]? = some (.cells #[.int .i64 a, sentV (E k)] 113 (0, 0))) (h1 : -9223372036854775808 ≤ a) (h2 : a ≤ 9223372036854775807) : ErrV w E (.iface 109 (.pointer (some ⟨F, 0, none⟩))) ((k : Int) + 1) a
theorem ErrV.ext {w w' : World} {E : Nat → Addr} {v : Value} {c a : Int} (h : ErrV w E v c a) (hE : Ext w w') : ErrV w' E v c a := by
 cases h with
 | nil => exact .nil
 | sent k hk => exact .sent k hk
 | fault k F a hk h h1 h2 => exact .fault k F a hk ((hE.block F (lt_of_block h)).trans h) h1 h2
theorem code_nil (w : World) : Calls Tryz.prog 35 #[.nilIface] w fun e w' => e = .returned (.tuple #[.int .i64 0, .int .i64 (-1)]) ∧ Ext w w' := by
 go_enter Tryz.func35, Tryz.ntmps35
 go_wp2
 go_ret2;exact ⟨rfl, Ext.refl _⟩
set_option maxHeartbeats 4000000 in
theorem code_sent (w : World) (E : Nat → Addr) (hE : Errs w E) (k : Nat) (hk : k < 9) : Calls Tryz.prog 35 #[sentV (E k)] w fun e w' => e = .returned (.tuple #[.int .i64 ((k : Int) + 1), .int .i64 (-1)]) ∧ Ext w w' := by
 have HE := Lib.hid hE;clear hE;unfold sentV;go_enter Tryz.func35, Tryz.ntmps35
 go_wp2_with fail;refine (as_miss _ _ _ (HE.out.ext ((Ext.refl w).alloc _)).et).mono ?_;rintro e w2 ⟨rfl, h2⟩;have HX : Hid (Ext w w2) := Lib.hid (((Ext.refl w).alloc _).trans h2);clear h2;have HE2 := Lib.hid (HE.out.ext HX.out);have c0 := HE2.out.var 0 (by decide);have c1 := HE2.out.var 1 (by decide);have c2 := HE2.out.var 2 (by decide);have c3 := HE2.out.var 3 (by decide);have c4 := HE2.out.var 4 (by decide);have c5 := HE2.out.var 5 (by decide);have c6 := HE2.out.var 6 (by decide);have c7 := HE2.out.var 7 (by decide);have c8 := HE2.out.var 8 (by decide);simp only [gk, sentV] at c0 c1 c2 c3 c4 c5 c6 c7 c8;go_wp2_with fail;have cells : ∀ j, j < 9 → (w2.alloc (.cells #[.iface 188 (.pointer (some (E 0))), .iface 188 (.pointer (some (E 1))), .iface 188 (.pointer (some (E 2))), .iface 188 (.pointer (some (E 3))), .iface 188 (.pointer (some (E 4))), .iface 188 (.pointer (some (E 5))), .iface 188 (.pointer (some (E 6))), .iface 188 (.pointer (some (E 7))), .iface 188 (.pointer (some (E 8)))] 25)).cell? ⟨w2.heap.size, j, none⟩ = some (.iface 188 (.pointer (some (E j)))) := by
  intro j hj;rw [World.cell?_alloc_at _ _ _ _ rfl];match j, hj with
  | 0, _ => rfl
  | 1, _ => rfl
  | 2, _ => rfl
  | 3, _ => rfl
  | 4, _ => rfl
  | 5, _ => rfl
  | 6, _ => rfl
  | 7, _ => rfl
  | 8, _ => rfl
 have HC := Lib.hid cells;have HX3 : Hid (Ext w (w2.alloc (.cells #[.iface 188 (.pointer (some (E 0))), .iface 188 (.pointer (some (E 1))), .iface 188 (.pointer (some (E 2))), .iface 188 (.pointer (some (E 3))), .iface 188 (.pointer (some (E 4))), .iface 188 (.pointer (some (E 5))), .iface 188 (.pointer (some (E 6))), .iface 188 (.pointer (some (E 7))), .iface 188 (.pointer (some (E 8)))] 25))) := Lib.hid (HX.out.alloc _);have HE3 := Lib.hid (HE.out.ext HX3.out);clear cells c0 c1 c2 c3 c4 c5 c6 c7 c8;generalize hw3 : (w2.alloc (.cells #[.iface 188 (.pointer (some (E 0))), .iface 188 (.pointer (some (E 1))), .iface 188 (.pointer (some (E 2))), .iface 188 (.pointer (some (E 3))), .iface 188 (.pointer (some (E 4))), .iface 188 (.pointer (some (E 5))), .iface 188 (.pointer (some (E 6))), .iface 188 (.pointer (some (E 7))), .iface 188 (.pointer (some (E 8)))] 25)) = w3 at *;clear hw3;go_loop [3, 27] (fun p c => ∃ i : Nat, i ≤ k ∧ p = .int .i64 (-1) ∧ c = .int .i64 i) (fun _ c => k - (intOf c).toNat)
 case atStart => exact ⟨0, by omega, rfl, rfl⟩
 case round =>
  obtain ⟨i, hi, rfl, rfl⟩ := hrel;have hc := HC.out i (by omega);obtain ⟨ca, ta, ha⟩ := HE3.out.row k hk;obtain ⟨cb, tb, hb⟩ := HE3.out.row i (by omega);have HA := Lib.hid ha;have HB := Lib.hid hb;clear ha hb;by_cases hik : i = k
  ·subst hik;go_wp2_with fail;refine (is_same _ _).mono ?_;rintro e w4 ⟨rfl, rfl⟩;go_wp2_with fail;go_ret2;exact ⟨rfl, HX3.out⟩
  ·have hne := HE3.out.ne k i hk (by omega) (fun e => hik e.symm);have HN := Lib.hid hne;clear hne;go_wp2_with fail;refine (is_other _ _ ca cb ta tb _ HN.out HA.out HB.out).mono ?_;rintro e w4 ⟨rfl, rfl⟩;go_wp2_with fail;go_round
   case rel => exact ⟨i + 1, by omega, rfl, by go_num⟩
   case measure => simp [intOf]; omega
set_option maxHeartbeats 4000000 in
theorem code_fault (w : World) (E : Nat → Addr) (hE : Errs w E) (k F : Nat) (a : Int) (hk : k < 9) (h : w.heap[F]? = some (.cells #[.int .i64 a, sentV (E k)] 113 (0, 0))) : Calls Tryz.prog 35 #[.iface 109 (.pointer (some ⟨F, 0, none⟩))] w fun e w' => e = .returned (.tuple #[.int .i64 ((k : Int) + 1), .int .i64 a]) ∧ Ext w w' := by
 have HF := Lib.hid h;clear h;have HE := Lib.hid hE;clear hE;go_enter Tryz.func35, Tryz.ntmps35
 go_wp2_with fail;refine (as_hit ⟨F, 0, none⟩ ⟨w.heap.size, 0, none⟩ (.pointer none) _ (HE.out.ext ((Ext.refl w).alloc _)).et (by simp) (by simp)).mono ?_;rintro e w2 ⟨rfl, h2, ct, zt⟩;have HX : Hid (Ext w w2) := Lib.hid (by
  have q := ((Ext.refl w).alloc (.cells #[.pointer none] 109)).keeps (S := fun k => k = w.heap.size) |>.trans h2 (fun _ _ q => q)
  exact q.below (Nat.le_refl _) (fun k hk e => by omega))
 clear h2;have HF2 : Hid (w2.heap[F]? = some (.cells #[.int .i64 a, sentV (E k)] 113 (0, 0))) := Lib.hid ((HX.out.block F (lt_of_block HF.out)).trans HF.out);have hF0 : w2.cell? ⟨F, 0, none⟩ = some (.int .i64 a) := by simp [World.cell?, HF2.out]
 have HE2 := Lib.hid (HE.out.ext HX.out);have c0 := HE2.out.var 0 (by decide);have c1 := HE2.out.var 1 (by decide);have c2 := HE2.out.var 2 (by decide);have c3 := HE2.out.var 3 (by decide);have c4 := HE2.out.var 4 (by decide);have c5 := HE2.out.var 5 (by decide);have c6 := HE2.out.var 6 (by decide);have c7 := HE2.out.var 7 (by decide);have c8 := HE2.out.var 8 (by decide);simp only [gk, sentV] at c0 c1 c2 c3 c4 c5 c6 c7 c8;go_wp2_with fail;have cells : ∀ j, j < 9 → (w2.alloc (.cells #[.iface 188 (.pointer (some (E 0))), .iface 188 (.pointer (some (E 1))), .iface 188 (.pointer (some (E 2))), .iface 188 (.pointer (some (E 3))), .iface 188 (.pointer (some (E 4))), .iface 188 (.pointer (some (E 5))), .iface 188 (.pointer (some (E 6))), .iface 188 (.pointer (some (E 7))), .iface 188 (.pointer (some (E 8)))] 25)).cell? ⟨w2.heap.size, j, none⟩ = some (.iface 188 (.pointer (some (E j)))) := by
  intro j hj;rw [World.cell?_alloc_at _ _ _ _ rfl];match j, hj with
  | 0, _ => rfl
  | 1, _ => rfl
  | 2, _ => rfl
  | 3, _ => rfl
  | 4, _ => rfl
  | 5, _ => rfl
  | 6, _ => rfl
  | 7, _ => rfl
  | 8, _ => rfl
 have HC := Lib.hid cells;have HF3 : Hid ((w2.alloc (.cells #[.iface 188 (.pointer (some (E 0))), .iface 188 (.pointer (some (E 1))), .iface 188 (.pointer (some (E 2))), .iface 188 (.pointer (some (E 3))), .iface 188 (.pointer (some (E 4))), .iface 188 (.pointer (some (E 5))), .iface 188 (.pointer (some (E 6))), .iface 188 (.pointer (some (E 7))), .iface 188 (.pointer (some (E 8)))] 25)).cell? ⟨F, 1, none⟩ = some (sentV (E k))) := Lib.hid (by rw [World.cell?_alloc_past _ _ _ (lt_of_block HF2.out)]; simp [World.cell?, HF2.out]);have HX3 : Hid (Ext w (w2.alloc (.cells #[.iface 188 (.pointer (some (E 0))), .iface 188 (.pointer (some (E 1))), .iface 188 (.pointer (some (E 2))), .iface 188 (.pointer (some (E 3))), .iface 188 (.pointer (some (E 4))), .iface 188 (.pointer (some (E 5))), .iface 188 (.pointer (some (E 6))), .iface 188 (.pointer (some (E 7))), .iface 188 (.pointer (some (E 8)))] 25))) := Lib.hid (HX.out.alloc _);have HE3 := Lib.hid (HE.out.ext HX3.out);clear cells hF0 ct zt c0 c1 c2 c3 c4 c5 c6 c7 c8;generalize hw3 : (w2.alloc (.cells #[.iface 188 (.pointer (some (E 0))), .iface 188 (.pointer (some (E 1))), .iface 188 (.pointer (some (E 2))), .iface 188 (.pointer (some (E 3))), .iface 188 (.pointer (some (E 4))), .iface 188 (.pointer (some (E 5))), .iface 188 (.pointer (some (E 6))), .iface 188 (.pointer (some (E 7))), .iface 188 (.pointer (some (E 8)))] 25)) = w3 at *
 clear hw3;go_loop [3, 27] (fun p c => ∃ i : Nat, i ≤ k ∧ p = .int .i64 a ∧ c = .int .i64 i) (fun _ c => k - (intOf c).toNat)
 case atStart => exact ⟨0, by omega, rfl, rfl⟩
 case round =>
  obtain ⟨i, hi, rfl, rfl⟩ := hrel;have hc := HC.out i (by omega);obtain ⟨ca, ta, ha⟩ := HE3.out.row k hk;obtain ⟨cb, tb, hb⟩ := HE3.out.row i (by omega);have HA := Lib.hid ha;have HB := Lib.hid hb;clear ha hb;by_cases hik : i = k
  ·subst hik;go_wp2_with fail;refine (is_fault_same F _ _ HF3.out).mono ?_;rintro e w4 ⟨rfl, rfl⟩;go_wp2_with fail;go_ret2;exact ⟨rfl, HX3.out⟩
  ·have hne := HE3.out.ne k i hk (by omega) (fun e => hik e.symm);have HN := Lib.hid hne;clear hne;go_wp2_with fail;refine (is_fault_other F _ _ ca cb ta tb _ HF3.out HN.out HA.out HB.out).mono ?_;rintro e w4 ⟨rfl, rfl⟩;go_wp2_with fail;go_round
   case rel => exact ⟨i + 1, by omega, rfl, by go_num⟩
   case measure => simp [intOf]; omega
theorem code_any (w : World) (E : Nat → Addr) (hE : Errs w E) (v : Value) (c a : Int) (h : ErrV w E v c a) : Calls Tryz.prog 35 #[v] w fun e w' => e = .returned (.tuple #[.int .i64 c, .int .i64 a]) ∧ Ext w w' := by
 cases h with
 | nil => exact code_nil w
 | sent k hk => exact code_sent w E hE k hk
 | fault k F a hk h h1 h2 => exact code_fault w E hE k F a hk h
end Go.Proofs.YtheidjagcafgnaaGreatDoor
namespace Go.Proofs.YtheidjagcafgnaaGreatDoor
open Go.RowKit
structure Bld (B b : Nat) (l : List UInt8) (w : World) : Prop where
 le : B ≤ b
 lt : b < w.heap.size
 at_ : ∃ p v, (p = .pointer none ∨ p = .pointer (some ⟨b, 0, none⟩)) ∧ w.heap[b]? = some (.cells #[p, v] 103 (0, 0)) ∧ w.ownsRow B 5 1 v l.length (Lib.byteCells l) ∧ v.ownBlock ≠ some b
theorem Bld.ext {B b : Nat} {l : List UInt8} {w w' : World} (h : Bld B b l w) (hE : Ext w w') : Bld B b l w' := by
 obtain ⟨h1, h2, p, v, hp, hb, ho, hn⟩ := h;exact ⟨h1, by have := hE.size; omega, p, v, hp, (hE.block b h2).trans hb, ownsRow_kept ho (S := fun _ => False) hE.keeps (fun _ _ q => q), hn⟩
theorem Bld.fresh (w : World) : Bld w.heap.size w.heap.size [] (w.alloc (.cells #[.pointer none, .slice none 0 0] 103)) :=
 ⟨Nat.le_refl _, by simp, _, _, .inl rfl, heap_alloc_new w _, World.ownsRow_nil _ _ _ _, by simp [Value.ownBlock]⟩
theorem bldSize : (Tryz.prog.info? 103).map (·.size) = some 2 := by kernel_rfl
theorem bldLies : liesAt Tryz.prog Tryz.prog.depth 103 (2 / Tryz.prog.cellsOf 103) 0 103 1 = true := by kernel_rfl
theorem u8info : (Tryz.prog.info? 5).map (fun i => (i.zero, i.size, i.bytes)) = some (some (.int .u8 0), 1, 1) := by kernel_rfl
theorem bld_copy_used (b : Nat) (w : World) (h0 : w.cell? ⟨b, 0, none⟩ = some (.pointer (some ⟨b, 0, none⟩))) :
  Calls Tryz.prog 71 #[.pointer (some ⟨b, 0, none⟩)] w fun e w' => e = .returned (.tuple #[]) ∧ w' = w := by
 obtain ⟨j, hj, _⟩ := Option.map_eq_some_iff.1 bldSize;go_enter Tryz.func71, Tryz.ntmps71
 go_wp2
 rw [Lib.run_neq_ptr_same w _ Tryz.underlying101 hj];go_wp2
 go_end0;exact ⟨rfl, rfl⟩
theorem bld_copy_fresh (b : Nat) (w : World) (h0 : w.cell? ⟨b, 0, none⟩ = some (.pointer none)) (hsh : w.shape? b = some (103, 2)) (hfz : w.frozen? ⟨b, 0, none⟩ = false) :
  Calls Tryz.prog 71 #[.pointer (some ⟨b, 0, none⟩)] w fun e w' => e = .returned (.tuple #[]) ∧ w' = w.setCell ⟨b, 0, none⟩ (.pointer (some ⟨b, 0, none⟩)) := by
 obtain ⟨j, hj, hjs⟩ := Option.map_eq_some_iff.1 bldSize;go_enter Tryz.func71, Tryz.ntmps71
 go_wp2
 rw [Lib.run_to_unsafe w ⟨b, 0, none⟩ Tryz.underlying101 Tryz.underlying133 hj (by rw [hjs]; decide) hsh (Nat.zero_lt_succ 1)];simp only [Result.andThen];rw [Oper.upon_value];go_wp2
 rw [run_callFunc_extern Tryz.func84 (by kernel_rfl) (by kernel_rfl) (by kernel_rfl) (e := Extern.AbiNoEscape.same) (by kernel_rfl)];rw [Lib.run_noEscape];simp only [Result.andThen];rw [Oper.upon_value];go_wp2
 rw [Lib.run_from_unsafe w ⟨b, 0, none⟩ Tryz.underlying133 Tryz.underlying101 hj hsh bldLies];simp only [Result.andThen];rw [Oper.upon_value];go_wp2
 go_end0;exact ⟨rfl, rfl⟩
/-- used: the first cell holds the builder's own address -/
def BldU (B b : Nat) (l : List UInt8) (w : World) : Prop := B ≤ b ∧ b < w.heap.size ∧ ∃ v, w.heap[b]? = some (.cells #[.pointer (some ⟨b, 0, none⟩), v] 103 (0, 0)) ∧ w.ownsRow B 5 1 v l.length (Lib.byteCells l) ∧ v.ownBlock ≠ some b
theorem bld_copy (B b : Nat) (l : List UInt8) (w : World) (h : Bld B b l w) :
  Calls Tryz.prog 71 #[.pointer (some ⟨b, 0, none⟩)] w fun e w' => e = .returned (.tuple #[]) ∧ BldU B b l w' ∧ Below B w w' ∧ Lib.OthersKept 5 (some b) w w' := by
 obtain ⟨h1, h2, p, v, hp, hb, ho, hn⟩ := h;rcases hp with rfl | rfl
 ·refine (bld_copy_fresh b w (by rw [Lib.cell_of_heap hb]; rfl) (by simp [World.shape?, hb]) (Lib.frozen_of_heap hb 0)).mono ?_;rintro e w' ⟨rfl, rfl⟩;have hA : Lib.BuilderAt 103 5 B b (.pointer none) (Lib.byteCells l) w := ⟨h1, v, hb, by rw [Lib.byteCells_length]; exact ho, hn⟩;obtain ⟨_, v', q1, q2, q3⟩ := hA.used (.pointer (some ⟨b, 0, none⟩));rw [Lib.byteCells_length] at q2;exact ⟨rfl, ⟨h1, lt_of_block q1, v', q1, q2, q3⟩, (Below.refl B w).setCell (p := ⟨b, 0, none⟩) h1 _, (Lib.OthersKept.refl _ _ w).setCell ⟨b, 0, none⟩ rfl _⟩
 ·refine (bld_copy_used b w (by rw [Lib.cell_of_heap hb]; rfl)).mono ?_;rintro e w' ⟨rfl, rfl⟩;exact ⟨rfl, ⟨h1, h2, v, hb, ho, hn⟩, Below.refl B _, Lib.OthersKept.refl _ _ _⟩
theorem strCells_bytes (s : ByteArray) : Lib.strCells s = Lib.byteCells s.data.toList := rfl
theorem bld_write (B b : Nat) (l : List UInt8) (s : ByteArray) (w : World) (h : Bld B b l w) (hlen : l.length + s.size ≤ 140737488355328) (hBw : B ≤ w.heap.size) :
  Calls Tryz.prog 51 #[.pointer (some ⟨b, 0, none⟩), .string s] w fun e w' => e = .returned (.tuple #[.int .i64 s.size, .nilIface]) ∧ Bld B b (l ++ s.data.toList) w' ∧ Below B w w' ∧ Lib.OthersKept 5 (some b) w w' := by
 obtain ⟨i0, hi, hz0, hz1, hz2⟩ := info_parts u8info;go_enter Tryz.func51, Tryz.ntmps51
 go_wp2_with fail;refine (bld_copy B b l w h).mono ?_;rintro e w1 ⟨rfl, ⟨hB, hlt, v, hbk, hown, hne⟩, hb1, hk1⟩;have c1 : w1.cell? ⟨b, 1, none⟩ = some v := by rw [Lib.cell_of_heap hbk]; rfl
 go_wp2_with (at_builtin; refine Lib.wpList_append_own_string _ rfl _ _ 34 9 rfl B 5 i0 Tryz.underlying34 Tryz.underlying9 hi hz0 hz1 hz2 _ _ _ rfl hown s rfl ?c3 ?c4 ?c5 ?_)
 case c3 => unfold maxLen; omega
 case c4 => omega
 case c5 => have := hb1.size; omega
 intro v' w2 hown' hgrow _;have hb2 : w2.heap[b]? = some (.cells #[.pointer (some ⟨b, 0, none⟩), v] 103 (0, 0)) := by
  rw [hgrow.block b hlt (fun e => hne e.symm)];exact hbk
 have d1 : w2.cell? ⟨b, 1, none⟩ = some v := by rw [Lib.cell_of_heap hb2]; rfl
 have f1 : w2.frozen? ⟨b, 1, none⟩ = false := Lib.frozen_of_heap hb2 1;obtain ⟨ao, n', cap, rfl⟩ : ∃ ao n' cap, v' = .slice ao n' cap := by
  rcases hown'.2 with ⟨hv, _⟩ | ⟨g, cap, cur, hv, _⟩
  ·exact ⟨_, _, _, hv⟩
  ·exact ⟨_, _, _, hv⟩
 go_wp2_with fail;go_ret2;have hA : Lib.BuilderAt 103 5 B b (.pointer (some ⟨b, 0, none⟩)) (Lib.byteCells l ++ Lib.strCells s) (w2.setCell ⟨b, 1, none⟩ (.slice ao n' cap)) :=
  Lib.BuilderAt.put (T := 103) (e := 5) hB hb2 (bs' := Lib.byteCells l ++ Lib.strCells s) (by simpa [Lib.strCells_length, Lib.byteCells_length] using hown') (by decide)
 obtain ⟨_, v2, q1, q2, q3⟩ := hA;refine ⟨rfl, ⟨hB, lt_of_block q1, _, v2, .inr rfl, q1, ?_, q3⟩, ?_, (hk1.grown hgrow (Lib.ownsRowF_kind (World.ownsRowF_of hown))).setCell ⟨b, 1, none⟩ rfl _⟩
 ·have e1 : Lib.byteCells l ++ Lib.strCells s = Lib.byteCells (l ++ s.data.toList) := by rw [strCells_bytes]; simp [Lib.byteCells]
  rw [e1] at q2;rwa [Lib.byteCells_length] at q2
 ·exact (hb1.grown hgrow (by have := hb1.size; omega) (fun k hk => (hown.lt k hk).1)).setCell (p := ⟨b, 1, none⟩) hB _
set_option maxHeartbeats 1000000 in
theorem bld_string (B b : Nat) (l : List UInt8) (w : World) (h : Bld B b l w) (h0 : l ≠ []) :
  Calls Tryz.prog 53 #[.pointer (some ⟨b, 0, none⟩)] w fun e w' => e = .returned (.string ⟨l.toArray⟩) ∧ Below B w w' := by
 obtain ⟨hB, h2, p, v, hp, hbk, hown, hne⟩ := h;have hl0 : l.length ≠ 0 := by simpa using h0
 obtain ⟨g, cap, cur, rfl, hbg, hg, hnc, hcm, hcs, htake⟩ : ∃ g cap cur, v = .slice (some ⟨g, 0, none⟩) l.length cap ∧ B ≤ g ∧ w.heap[g]? = some (.cells cur 5 (0, 0)) ∧ l.length ≤ cap ∧ cap ≤ maxLen ∧ cur.size = cap * 1 ∧ cur.toList.take (l.length * 1) = Lib.byteCells l := by
  rcases hown.2 with ⟨_, hz⟩ | ⟨g, cap, cur, hv, r⟩
  ·exact absurd hz hl0
  ·exact ⟨g, cap, cur, hv, r⟩
 have c1 : w.drew.cell? ⟨b, 1, none⟩ = some (.slice (some ⟨g, 0, none⟩) l.length cap) := by
  have this : w.drew.heap[b]? = some (.cells #[p, .slice (some ⟨g, 0, none⟩) l.length cap] 103 (0, 0)) := hbk;rw [Lib.cell_of_heap this]; rfl
 have hSD : (Builtin.unsafeSliceData_ #[34] 131 #[.slice (some ⟨g, 0, none⟩) l.length cap]).run Tryz.prog w.drew = .ok (.pointer (some ⟨g, 0, none⟩)) w.drew :=
  Lib.run_unsafeSliceData_row _ _ _ _ _ _ (by omega)
 have hUS : (Builtin.unsafeString_ #[131, 3] 9 #[.pointer (some ⟨g, 0, none⟩), .int .i64 l.length]).run Tryz.prog w.drew = .ok (.string ⟨l.toArray⟩) (w.drew.freeze ⟨g, 0, none⟩ l.length) := by
  refine Lib.run_unsafeString_row w.drew 131 3 9 5 Tryz.underlying131 (by kernel_rfl) g cur.size (by have hg' : w.drew.heap[g]? = some (.cells cur 5 (0, 0)) := hg; simp [World.shape?, hg']) l h0 (by omega) (by unfold maxLen at hcm; omega) ?_;intro j x hx;have := hown.cells (g := g) rfl j (.int .u8 x.toNat) (by simp [Lib.byteCells, hx]);exact this
 have mixed : Tryz.prog.follows .mixedOrders = true := by kernel_rfl
 go_enter Tryz.func53, Tryz.ntmps53
 go_wp2
 go_region_o
 all_goals (go_wp2; go_ret; exact ⟨rfl, Lib.below_freeze (Below.drew (Below.refl B w)) (p := ⟨g, 0, none⟩) hbg _⟩)
end Go.Proofs.YtheidjagcafgnaaGreatDoor
namespace Go.Proofs.YtheidjagcafgnaaGreatDoor
open Go.RowKit
/-- a row of cells of one kind, none frozen -/
def Cs (w : World) (B n : Nat) (k : IntKind) (g : Nat → Int) : Prop := ∀ i, i < n → w.cell? ⟨B, i, none⟩ = some (.int k (g i)) ∧ w.frozen? ⟨B, i, none⟩ = false
theorem Cs.congr {w : World} {B n : Nat} {k : IntKind} {g g' : Nat → Int} (h : Cs w B n k g) (hg : ∀ i, i < n → g' i = g i) : Cs w B n k g' := by
  intro i hi; rw [hg i hi]; exact h i hi
theorem Cs.put {w : World} {B n : Nat} {k : IntKind} {g : Nat → Int} (h : Cs w B n k g) (j : Nat) (x : Int) (g' : Nat → Int) (hj : j < n) (hg : ∀ i, i < n → g' i = if i = j then x else g i) : Cs (w.setCell ⟨B, j, none⟩ (.int k x)) B n k g' := by
  intro i hi;obtain ⟨h1, h2⟩ := h i hi;rw [hg i hi, World.frozen?_setCell];refine ⟨?_, h2⟩;by_cases e : i = j
  · subst e; rw [if_pos rfl]; exact World.cell?_setCell_same _ _ _ h1
  · rw [if_neg e]; exact (World.cell?_setCell_other _ _ _ _ (by intro q; injection q with _ q2; exact e q2.symm)).trans h1
theorem Cs.other {w : World} {B n : Nat} {k : IntKind} {g : Nat → Int} (h : Cs w B n k g) (p : Addr) (v : Value) (hp : p.block ≠ B) : Cs (w.setCell p v) B n k g := by
  intro i hi;obtain ⟨h1, h2⟩ := h i hi;rw [World.frozen?_setCell];exact ⟨(World.cell?_setCell_other _ _ _ _ (by intro q; rw [q] at hp; exact hp rfl)).trans h1, h2⟩
theorem Cs.drew {w : World} {B n : Nat} {k : IntKind} {g : Nat → Int} (h : Cs w B n k g) : Cs w.drew B n k g := h
theorem Cs.alloc {w : World} {B n : Nat} {k : IntKind} {g : Nat → Int} (h : Cs w B n k g) (hB : B < w.heap.size) (o : Obj) : Cs (w.alloc o) B n k g := by
  intro i hi;rw [World.cell?_alloc_past _ _ _ hB, World.frozen?_alloc_past _ _ _ hB]; exact h i hi
end Go.Proofs.YtheidjagcafgnaaGreatDoor
namespace Go.Proofs.YtheidjagcafgnaaGreatDoor
open Go.RowKit
/-- a row of cells, none frozen -/
def Cv (w : World) (B n : Nat) (g : Nat → Value) : Prop := ∀ i, i < n → w.cell? ⟨B, i, none⟩ = some (g i) ∧ w.frozen? ⟨B, i, none⟩ = false
theorem Cv.congr {w : World} {B n : Nat} {g g' : Nat → Value} (h : Cv w B n g) (hg : ∀ i, i < n → g' i = g i) : Cv w B n g' := by
  intro i hi; rw [hg i hi]; exact h i hi
theorem Cv.put {w : World} {B n : Nat} {g : Nat → Value} (h : Cv w B n g) (j : Nat) (x : Value) (g' : Nat → Value) (hj : j < n) (hg : ∀ i, i < n → g' i = if i = j then x else g i) : Cv (w.setCell ⟨B, j, none⟩ x) B n g' := by
  intro i hi;obtain ⟨h1, h2⟩ := h i hi;rw [hg i hi, World.frozen?_setCell];refine ⟨?_, h2⟩;by_cases e : i = j
  · subst e; rw [if_pos rfl]; exact World.cell?_setCell_same _ _ _ h1
  · rw [if_neg e]; exact (World.cell?_setCell_other _ _ _ _ (by intro q; injection q with _ q2; exact e q2.symm)).trans h1
theorem Cv.keeps {w w' : World} {B n : Nat} {g : Nat → Value} {S : Nat → Prop} (h : Cv w B n g) (hk : Keeps S w w') (hB : ¬ S B) : Cv w' B n g := by
  intro i hi;obtain ⟨h1, h2⟩ := h i hi;have hlt : B < w.heap.size := World.block_lt_of_cell? w _ h1;exact ⟨(hk.cell (p := ⟨B, i, none⟩) hlt hB).trans h1, (hk.frozen (p := ⟨B, i, none⟩) hlt hB).trans h2⟩
theorem Cv.ext {w w' : World} {B n : Nat} {g : Nat → Value} (h : Cv w B n g) (hE : Ext w w') : Cv w' B n g := h.keeps (S := fun _ => False) hE.keeps id
theorem Cv.drew {w : World} {B n : Nat} {g : Nat → Value} (h : Cv w B n g) : Cv w.drew B n g := h
theorem Cv.drewN {w : World} {B n : Nat} {g : Nat → Value} (h : Cv w B n g) (m : Nat) : Cv (w.drewN m) B n g := h
theorem Cv.made (w : World) (n : Nat) (z : Value) (t : TypeId) : Cv (w.alloc (.cells (madeCells #[z] n) t)) w.heap.size n (fun _ => z) := by
  intro i hi;rw [World.cell?_alloc_at _ _ _ _ rfl, World.frozen?_alloc_at _ _ _ _ rfl];refine ⟨?_, rfl⟩;have hs : i < (madeCells #[z] n).size := by rw [size_madeCells]; simpa using hi
  rw [Array.getElem?_eq_getElem hs];simp [madeCells, Nat.mod_one]
end Go.Proofs.YtheidjagcafgnaaGreatDoor
namespace Go.Proofs.YtheidjagcafgnaaGreatDoor
open Go.RowKit
theorem mulMask (a : Nat) (ha : a < 18446744073709551616) : bits .and .u64 (a : Int) 4294967295 = ((a % 4294967296 : Nat) : Int) := by
  have h := bits_and_u64_nat a 4294967295 ha (by omega);rw [show a &&& 4294967295 = a % 4294967296 from Nat.and_two_pow_sub_one_eq_mod a 32] at h;exact h
theorem mul64_one (c : Nat) (hc : c ≤ 10000) (w : World) : Calls Tryz.prog 69 #[.int .u64 1, .int .u64 (c : Int)] w fun e w' => e = .returned (.tuple #[.int .u64 0, .int .u64 (c : Int)]) ∧ w' = w := by
  have m1 : bits .and .u64 1 4294967295 = 1 := by decide
  have m0 : bits .and .u64 0 4294967295 = 0 := by decide
  have mc : bits .and .u64 (c : Int) 4294967295 = (c : Int) := by rw [mulMask c (by omega)]; congr 1; omega
  have dc : (c : Int) / 4294967296 = 0 := by omega
  have wc_ : IntKind.u64.wrap (c : Int) = (c : Int) := by rw [IntKind.wrap_u64]; omega
  have w0_ : IntKind.u64.wrap 0 = 0 := by decide
  go_enter Tryz.func69, Tryz.ntmps69
  go_wp2
  go_ret2;exact ⟨rfl, rfl⟩
theorem mul_one (c : Nat) (hc : c ≤ 10000) (w : World) : Calls Tryz.prog 48 #[.int .u64 1, .int .u64 (c : Int)] w fun e w' => e = .returned (.tuple #[.int .u64 0, .int .u64 (c : Int)]) ∧ w' = w := by
  go_enter Tryz.func48, Tryz.ntmps48
  go_wp2_with fail;refine (mul64_one c hc w).mono ?_;rintro e w2 ⟨rfl, rfl⟩;go_wp2_with fail;go_ret2;exact ⟨rfl, rfl⟩
end Go.Proofs.YtheidjagcafgnaaGreatDoor
namespace Go.Proofs.YtheidjagcafgnaaGreatDoor
open Go.RowKit
theorem byteSz : (Tryz.prog.info? 5).map (·.size) = some 1 := by kernel_rfl
set_option maxHeartbeats 2000000 in
theorem bld_grow_in (B b n : Nat) (w : World) (hB : B ≤ b) (hbk : w.heap[b]? = some (.cells #[.pointer (some ⟨b, 0, none⟩), .slice none 0 0] 103 (0, 0))) (hBw : B ≤ w.heap.size) (hn : n ≤ 10000) :
  Calls Tryz.prog 72 #[.pointer (some ⟨b, 0, none⟩), .int .i64 n] w fun e w' => e = .returned (.tuple #[]) ∧ (Lib.BuilderAt 103 5 B b (.pointer (some ⟨b, 0, none⟩)) [] w' ∧ Below B w w') := by
 obtain ⟨cs, hrun, hle, hmax⟩ := Lib.run_makeNoZero (P := Tryz.prog) w.drew #[3] 34 5 Tryz.underlying34 n (by omega);have hw : IntKind.i64.wrap (IntKind.i64.wrap 0 + (n : Int)) = n := by
  rw [IntKind.wrap_i64, IntKind.wrap_i64];omega
 have hcall : (callFunc 85 #[.int .i64 (IntKind.i64.wrap (IntKind.i64.wrap 0 + (n : Int)))]).run Tryz.prog w.drew = .ok (.value (.slice (some ⟨w.drew.heap.size, 0, none⟩) n cs.size)) (w.drew.drew.drew.alloc (.cells cs 5)) := by
  rw [hw, run_callFunc_extern Tryz.func85 (by kernel_rfl) (by kernel_rfl) (by kernel_rfl) (e := Extern.BytealgMakeNoZero.makeNoZero #[3] #[34]) (by kernel_rfl), hrun];rfl
 have c1 : w.drew.cell? ⟨b, 1, none⟩ = some (.slice none 0 0) := by
  have : w.drew.heap[b]? = _ := hbk;rw [Lib.cell_of_heap this]; rfl
 have hlt : b < w.heap.size := lt_of_block hbk;have c2 : (w.alloc (.cells cs 5)).cell? ⟨b, 1, none⟩ = some (.slice none 0 0) := by
  have : (w.alloc (.cells cs 5)).heap[b]? = _ := (Lib.alloc_old w _ b hlt).trans hbk;rw [Lib.cell_of_heap this]; rfl
 have f2 : (w.alloc (.cells cs 5)).frozen? ⟨b, 1, none⟩ = false := Lib.frozen_of_heap ((Lib.alloc_old w _ b hlt).trans hbk) 1;have hcopy : ∀ W : World, (Builtin.copy_ #[34, 34] 3 #[.slice (some ⟨w.heap.size, 0, none⟩) 0 cs.size, .slice none 0 0]).run Tryz.prog W = .ok (goInt 0) W :=
  fun W => run_copy_none W 34 34 3 5 _ _ 0 cs.size 0 0 Tryz.underlying34 byteSz rfl
 clear hw hlt;have mixed : Tryz.prog.follows .mixedOrders = true := by kernel_rfl
 have u0 := run_underlying Tryz.underlying34;go_enter Tryz.func72, Tryz.ntmps72
 go_wp2
 have hfin := Lib.grown_fresh (T := 103) (e := 5) (cs := cs) hB hbk hBw (hmax (by unfold maxLen; omega)) (by decide);go_region_o
 all_goals (go_wp2; go_end0; exact ⟨rfl, hfin⟩)
set_option maxHeartbeats 2000000 in
theorem bld_grow (B b n : Nat) (w : World) (hB : B ≤ b) (hbk : w.heap[b]? = some (.cells #[.pointer none, .slice none 0 0] 103 (0, 0))) (hBw : B ≤ w.heap.size) (hn : n ≤ 10000) :
  Calls Tryz.prog 50 #[.pointer (some ⟨b, 0, none⟩), .int .i64 n] w fun e w' => e = .returned (.tuple #[]) ∧ (Lib.BuilderAt 103 5 B b (.pointer (some ⟨b, 0, none⟩)) [] w' ∧ Below B w w') := by
 have hbk1 : (w.setCell ⟨b, 0, none⟩ (.pointer (some ⟨b, 0, none⟩))).heap[b]? = some (.cells #[.pointer (some ⟨b, 0, none⟩), .slice none 0 0] 103 (0, 0)) := by
  simp [World.setCell, Array.getElem?_modify, hbk]
 have c1 : (w.setCell ⟨b, 0, none⟩ (.pointer (some ⟨b, 0, none⟩))).cell? ⟨b, 1, none⟩ = some (.slice none 0 0) := by rw [Lib.cell_of_heap hbk1]; rfl
 have hb1 : Below B w (w.setCell ⟨b, 0, none⟩ (.pointer (some ⟨b, 0, none⟩))) := (Below.refl B w).setCell (p := ⟨b, 0, none⟩) hB _;have hU : Lib.BuilderAt 103 5 B b (.pointer (some ⟨b, 0, none⟩)) [] (w.setCell ⟨b, 0, none⟩ (.pointer (some ⟨b, 0, none⟩))) := ⟨hB, .slice none 0 0, hbk1, World.ownsRow_nil _ _ _ _, by simp [Value.ownBlock]⟩;have c1' : (w.setCell ⟨b, 0, none⟩ (.pointer (some ⟨b, 0, none⟩))).drew.cell? ⟨b, 1, none⟩ = some (.slice none 0 0) := c1;have mixed : Tryz.prog.follows .mixedOrders = true := by kernel_rfl
 go_enter Tryz.func50, Tryz.ntmps50
 go_wp2_with fail;refine (bld_copy_fresh b w (by rw [Lib.cell_of_heap hbk]; rfl) (by simp [World.shape?, hbk]) (Lib.frozen_of_heap hbk 0)).mono ?_;rintro e w' ⟨rfl, rfl⟩;go_wp2_with fail;go_region_o
 all_goals (try go_wp2_with fail)
 all_goals first
  | (refine (bld_grow_in B b n (w.setCell ⟨b, 0, none⟩ (.pointer (some ⟨b, 0, none⟩))).drew hB hbk1 (by simpa [World.setCell, World.drew, -World.drew_eq] using hBw) hn).mono ?_; rintro e w' ⟨rfl, h1, h2⟩; go_wp2_with fail; go_end0; exact ⟨rfl, h1, hb1.drew.trans h2⟩)
  | (go_end0; exact ⟨rfl, hU.drew, hb1.drew⟩)
end Go.Proofs.YtheidjagcafgnaaGreatDoor
namespace Go.Proofs.YtheidjagcafgnaaGreatDoor
open Go.RowKit
abbrev BF (B b : Nat) (l : List UInt8) (w : World) : Prop := Lib.BuilderAtF 103 5 B b (.pointer (some ⟨b, 0, none⟩)) (Lib.byteCells l) w
theorem bf_len (B b : Nat) (l : List UInt8) (w : World) (h : BF B b l w) :
  Calls Tryz.prog 52 #[.pointer (some ⟨b, 0, none⟩)] w fun e w' => e = .returned (.int .i64 l.length) ∧ w' = w := by
 obtain ⟨hB, v, hbk, hown, hne⟩ := h;rw [Lib.byteCells_length] at hown;obtain ⟨ao, cap, rfl⟩ : ∃ ao cap, v = .slice ao l.length cap := by
  rcases hown.2 with ⟨hv, h0⟩ | ⟨g, cap, cur, fz, hv, _⟩
  ·exact ⟨none, 0, by rw [hv, h0]⟩
  ·exact ⟨_, _, hv⟩
 have c1 : w.cell? ⟨b, 1, none⟩ = some (.slice ao l.length cap) := by rw [Lib.cell_of_heap hbk]; rfl
 go_enter Tryz.func52, Tryz.ntmps52
 go_wp2
 go_ret;exact ⟨rfl, rfl⟩
set_option maxHeartbeats 2000000 in
theorem bf_write (B b : Nat) (l : List UInt8) (s : ByteArray) (w : World) (h : BF B b l w) (hlen : l.length + s.size ≤ 100000) (hBw : B ≤ w.heap.size) :
  Calls Tryz.prog 51 #[.pointer (some ⟨b, 0, none⟩), .string s] w fun e w' => e = .returned (.tuple #[.int .i64 s.size, .nilIface]) ∧ BF B b (l ++ s.data.toList) w' ∧ Below B w w' := by
 obtain ⟨i0, hi, hz0, hz1, hz2⟩ := info_parts u8info;have hc0 := h.cell0;obtain ⟨hB, v, hbk, hown, hne⟩ := h;rw [Lib.byteCells_length] at hown;have c1 : w.cell? ⟨b, 1, none⟩ = some v := by rw [Lib.cell_of_heap hbk]; rfl
 go_enter Tryz.func51, Tryz.ntmps51
 go_wp2_with fail;refine (bld_copy_used b w hc0).mono ?_;rintro e w1 ⟨rfl, rfl⟩;go_wp2_with (at_builtin; refine Lib.wpList_append_own_stringF _ rfl _ _ 34 9 rfl B 5 i0 Tryz.underlying34 Tryz.underlying9 hi hz0 hz1 hz2 _ _ _ rfl hown s rfl ?c3 ?c4 ?c5 ?_)
 case c3 => unfold maxLen; omega
 case c4 => omega
 case c5 => exact hBw
 intro v' w2 hown' hgrow _;have hlt : b < w1.heap.size := lt_of_block hbk;have hb2 : w2.heap[b]? = some (.cells #[.pointer (some ⟨b, 0, none⟩), v] 103 (0, 0)) := by
  rw [hgrow.block b hlt (fun e => hne e.symm)];exact hbk
 have d1 : w2.cell? ⟨b, 1, none⟩ = some v := by rw [Lib.cell_of_heap hb2]; rfl
 have f1 : w2.frozen? ⟨b, 1, none⟩ = false := Lib.frozen_of_heap hb2 1;obtain ⟨ao, n', cap, rfl⟩ : ∃ ao n' cap, v' = .slice ao n' cap := by
  rcases hown'.2 with ⟨hv, _⟩ | ⟨g, cap, cur, fz, hv, _⟩
  ·exact ⟨_, _, _, hv⟩
  ·exact ⟨_, _, _, hv⟩
 go_wp2_with fail;go_ret2;refine ⟨rfl, ?_, ?_⟩
 ·have q := Lib.BuilderAtF.put (T := 103) (e := 5) hB hb2 (bs' := Lib.byteCells l ++ Lib.strCells s) (by simpa [Lib.strCells_length, Lib.byteCells_length] using hown') (by decide);have e1 : Lib.byteCells l ++ Lib.strCells s = Lib.byteCells (l ++ s.data.toList) := by rw [strCells_bytes]; simp [Lib.byteCells]
  rw [e1] at q;exact q
 ·exact ((Below.refl B w1).grown hgrow hBw (fun k hk => (hown.lt k hk).1)).setCell (p := ⟨b, 1, none⟩) hB _
set_option maxHeartbeats 1000000 in
theorem bf_string (B b : Nat) (l : List UInt8) (w : World) (h : BF B b l w) (h0 : l ≠ []) :
  Calls Tryz.prog 53 #[.pointer (some ⟨b, 0, none⟩)] w fun e w' => e = .returned (.string ⟨l.toArray⟩) ∧ BF B b l w' ∧ Below B w w' := by
 have hA : Lib.BuilderAtF 103 5 B b (.pointer (some ⟨b, 0, none⟩)) (Lib.byteCells l) w.drew := h.drew;obtain ⟨hB, v, hbk, hown, hne⟩ := h;have hl0 : l.length ≠ 0 := by simpa using h0
 rw [Lib.byteCells_length] at hown;obtain ⟨g, cap, cur, fz, rfl, hbg, hg, hfz, hnc, hcm, hcs, htake⟩ : ∃ g cap cur fz, v = .slice (some ⟨g, 0, none⟩) l.length cap ∧ B ≤ g ∧ w.heap[g]? = some (.cells cur 5 fz) ∧ fz.2 ≤ l.length * 1 ∧ l.length ≤ cap ∧ cap ≤ maxLen ∧ cur.size = cap * 1 ∧ cur.toList.take (l.length * 1) = Lib.byteCells l := by
  rcases hown.2 with ⟨_, hz⟩ | ⟨g, cap, cur, fz, hv, r⟩
  ·exact absurd hz hl0
  ·exact ⟨g, cap, cur, fz, hv, r⟩
 have c1 : w.drew.cell? ⟨b, 1, none⟩ = some (.slice (some ⟨g, 0, none⟩) l.length cap) := by
  have this : w.drew.heap[b]? = some (.cells #[.pointer (some ⟨b, 0, none⟩), .slice (some ⟨g, 0, none⟩) l.length cap] 103 (0, 0)) := hbk;rw [Lib.cell_of_heap this]; rfl
 have hSD : (Builtin.unsafeSliceData_ #[34] 131 #[.slice (some ⟨g, 0, none⟩) l.length cap]).run Tryz.prog w.drew = .ok (.pointer (some ⟨g, 0, none⟩)) w.drew :=
  Lib.run_unsafeSliceData_row _ _ _ _ _ _ (by omega)
 have hUS : (Builtin.unsafeString_ #[131, 3] 9 #[.pointer (some ⟨g, 0, none⟩), .int .i64 l.length]).run Tryz.prog w.drew = .ok (.string ⟨l.toArray⟩) (w.drew.freeze ⟨g, 0, none⟩ l.length) := by
  refine Lib.run_unsafeString_row w.drew 131 3 9 5 Tryz.underlying131 (by kernel_rfl) g cur.size (by have hg' : w.drew.heap[g]? = some (.cells cur 5 fz) := hg; simp [World.shape?, hg']) l h0 (by omega) (by unfold maxLen at hcm; omega) ?_;intro j x hx;have := hown.cells (g := g) rfl j (.int .u8 x.toNat) (by simp [Lib.byteCells, hx]);exact this
 have hkeep : BF B b l (w.drew.freeze ⟨g, 0, none⟩ l.length) := by
  have hF := hA.froze (g := g) (cap := cap) (by rw [Lib.byteCells_length]; exact c1);rwa [Lib.byteCells_length] at hF
 clear hA;have mixed : Tryz.prog.follows .mixedOrders = true := by kernel_rfl
 go_enter Tryz.func53, Tryz.ntmps53
 go_wp2
 go_region_o
 all_goals (go_wp2; go_ret; exact ⟨rfl, hkeep, Lib.below_freeze (Below.drew (Below.refl B w)) (p := ⟨g, 0, none⟩) hbg _⟩)
def zB (c : Nat) : ByteArray := ⟨(List.replicate c 0).toArray⟩
theorem zB_size (c : Nat) : (zB c).size = c := by simp [zB, ByteArray.size]
theorem run_min3 {P : Program} {w : World} (ts : Array TypeId) (t : TypeId) (x y z : Int) :
  (Builtin.min_ ts t #[.int .i64 x, .int .i64 y, .int .i64 z]).run P w = .ok (.int .i64 (if z < (if y < x then y else x) then z else (if y < x then y else x))) w := by
 simp [Builtin.min_, Builtin.min2]
theorem zB_cut (q k : Nat) (h : k ≤ q) : (zB q).extract 0 k = zB k := by
 rw [Lib.extract_eq];unfold zB;simp [List.take_replicate, Nat.min_eq_left h]
theorem rep_0 (w : World) : Calls Tryz.prog 28 #[.string (zB 1), .int .i64 0] w fun e w' => e = .returned (.string (zB 0)) ∧ Ext w w' := by
 go_enter Tryz.func28, Tryz.ntmps28
 go_wp2_with fail;go_ret;exact ⟨rfl, Ext.refl _⟩
theorem rep_1 (w : World) : Calls Tryz.prog 28 #[.string (zB 1), .int .i64 1] w fun e w' => e = .returned (.string (zB 1)) ∧ Ext w w' := by
 go_enter Tryz.func28, Tryz.ntmps28
 go_wp2_with fail;go_ret;exact ⟨rfl, Ext.refl _⟩
set_option linter.unusedSimpArgs false in
set_option maxHeartbeats 4000000 in
theorem rep_2 (c : Nat) (hc2 : 2 ≤ c) (hc : c ≤ 64) (w : World) : Calls Tryz.prog 28 #[.string (zB 1), .int .i64 (c : Int)] w fun e w' => e = .returned (.string (zB c)) ∧ Ext w w' := by
 have hsz : (zB 1).size = 1 := zB_size 1;have n0 : ((c : Int) == 0) = false := beq_eq_false_iff_ne.2 (by omega);have n1 : ((c : Int) == 1) = false := beq_eq_false_iff_ne.2 (by omega);have n2 : ¬ (c : Int) < 0 := by omega
 have wu : IntKind.u64.wrap (c : Int) = (c : Int) := by rw [IntKind.wrap_u64]; omega
 have wi : IntKind.i64.wrap (c : Int) = (c : Int) := by rw [IntKind.wrap_i64]; omega
 have hz : ∀ h : 0 < (zB 1).size, (zB 1)[0] = 0 := fun _ => rfl;have n3 : ¬ (9223372036854775807 : Int) < (c : Int) := by omega
 have n4 : ¬ (8192 : Int) < (c : Int) := by omega
 go_enter Tryz.func28, Tryz.ntmps28
 go_wp2_with fail;refine (mul_one c (by omega) w).mono ?_;rintro e w2 ⟨rfl, rfl⟩;go_wp2_with fail;clear n0 n1 n2 wu hz n3 n4;refine (bld_grow w2.heap.size w2.heap.size c (w2.alloc (.cells #[.pointer none, .slice none 0 0] 103)) (Nat.le_refl _) (heap_alloc_new w2 _) (by simp) (by omega)).mono ?_;rintro e w3 ⟨rfl, h3, b3⟩;have H3 := Lib.hid (show BF w2.heap.size w2.heap.size [] w3 from Lib.BuilderAtF.of h3);have X3 := Lib.hid (Below.trans ((Below.refl _ w2).alloc (Nat.le_refl _) _) b3);clear h3 b3;go_wp2_with fail;refine (bf_write w2.heap.size w2.heap.size [] (zB 1) w3 H3.out (by rw [hsz]; simp) (by have := X3.out.size; omega)).mono ?_;rintro e w4 ⟨rfl, h4, b4⟩;have H4 := Lib.hid (show BF w2.heap.size w2.heap.size (List.replicate 1 0) w4 from h4);have X4 := Lib.hid (Below.trans X3.out b4);clear h4 b4 H3 X3 wi;go_wp2_with fail;go_loopg [] (c - 1) (fun k wr => ∃ q : Nat, 1 ≤ q ∧ q + k = c ∧ Hid (BF w2.heap.size w2.heap.size (List.replicate q 0) wr) ∧ Hid (Below w2.heap.size w2 wr))
 case atStart => exact ⟨1, Nat.le_refl _, by omega, H4, X4⟩
 case round =>
  clear H4 X4;obtain ⟨q, hq1, hqk, HB, HX⟩ := hrel;have hl : (List.replicate q (0 : UInt8)).length = q := List.length_replicate;have cl := bf_len w2.heap.size w2.heap.size (List.replicate q 0) wr HB.out;rw [hl] at cl;have CL := Lib.hid cl;clear cl hl;by_cases hlt : q < c
  ·have hmin : (if (c : Int) < (if (q : Int) < (c : Int) - (q : Int) then (q : Int) else (c : Int) - (q : Int)) then (c : Int) else (if (q : Int) < (c : Int) - (q : Int) then (q : Int) else (c : Int) - (q : Int))) = ((min q (c - q) : Nat) : Int) := by split <;> split <;> omega
   have hm := fun (w : World) (ts : Array TypeId) (t : TypeId) => run_min3 (P := Tryz.prog) (w := w) ts t ((c : Int) - (q : Int)) (q : Int) (c : Int);rw [hmin] at hm;obtain ⟨k, hk⟩ : ∃ k, min q (c - q) = k := ⟨_, rfl⟩;rw [hk] at hm;have hk1 : k ≤ q := by omega
   have hk2 : 1 ≤ k ∧ q + k ≤ c := by omega
   have hk3 : (zB q).size = q := zB_size q;have wcq : ∀ z, z = (c : Int) - (q : Int) → IntKind.i64.wrap z = z := by rintro _ rfl; rw [IntKind.wrap_i64]; omega
   clear hmin hk;go_wp2_with fail;refine CL.out.mono ?_;rintro e w9 ⟨rfl, rfl⟩;go_wp2_with fail;refine CL.out.mono ?_;rintro e w9 ⟨rfl, rfl⟩;go_wp2_with fail;refine CL.out.mono ?_;rintro e w9 ⟨rfl, rfl⟩;go_wp2_with fail;refine (bf_string w2.heap.size w2.heap.size (List.replicate q 0) w9 HB.out (by intro e; have := congrArg List.length e; simp at this; omega)).mono ?_;rintro e w5 ⟨rfl, h5, b5⟩;have H5 := Lib.hid h5;have X5 := Lib.hid (HX.out.trans b5);have HQ := Lib.hid (show (⟨(List.replicate q (0 : UInt8)).toArray⟩ : ByteArray) = zB q from rfl);clear h5 b5 HB HX CL hm;rw [HQ.out];have kI : ((k : Nat) : Int).toNat = k := by omega
   have hcut := zB_cut q k hk1;have HK := Lib.hid (And.intro hk1 hk2);go_wp2_with fail;refine (bf_write w2.heap.size w2.heap.size (List.replicate q 0) (zB k) w5 H5.out (by rw [zB_size, List.length_replicate]; omega) (by have := X5.out.size; omega)).mono ?_;rintro e w6 ⟨rfl, h6, b6⟩;have H6 := Lib.hid (show BF w2.heap.size w2.heap.size (List.replicate (q + k) 0) w6 from by rw [← List.replicate_append_replicate]; exact h6);have X6 := Lib.hid (X5.out.trans b6);clear h6 b6 H5 X5 hcut kI;go_wp2_with fail;go_roundg (c - (q + k))
   case measure => omega
   case rel => exact ⟨q + k, by omega, by omega, H6, X6⟩
  ·obtain rfl : q = c := by omega
   go_wp2_with fail;refine CL.out.mono ?_;rintro e w9 ⟨rfl, rfl⟩;go_wp2_with fail;refine (bf_string w2.heap.size w2.heap.size (List.replicate q 0) w9 HB.out (by intro e; have := congrArg List.length e; simp at this; omega)).mono ?_;rintro e w5 ⟨rfl, h5, b5⟩;go_wp2_with fail;go_ret;exact ⟨rfl, HX.out.trans b5⟩
theorem rep_any (c : Nat) (hc : c ≤ 64) (w : World) : Calls Tryz.prog 28 #[.string (zB 1), .int .i64 (c : Int)] w fun e w' => e = .returned (.string (zB c)) ∧ Ext w w' := by
 match c, hc with
 | 0, _ => exact rep_0 w
 | 1, _ => exact rep_1 w
 | c + 2, hc => exact rep_2 (c + 2) (by omega) hc w
end Go.Proofs.YtheidjagcafgnaaGreatDoor
