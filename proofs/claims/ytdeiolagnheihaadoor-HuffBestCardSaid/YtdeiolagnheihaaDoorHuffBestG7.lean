/-
  errors.As at a target of type **api.Fault: of nil, of a sentinel, of an api.Fault. The library's own text is walked.
  plain.Code: the number of an error, and its place.
  Cost of a code.
  An argument that is a slice of whole numbers, opened.
  The laws' ints: a row of its own.
  The law's closed fact about codes: two.
  coded: an error's number, without a place.
  The document's word on lengths.
-/
import Derived.Test.YtdeiolagnheihaaDoorHuffBestG1
import Derived.Test.YtdeiolagnheihaaDoorHuffBestG6
import Derived.Test.YtdeiolagnheihaaDoorHuffBestG2
import Derived.StillTailTactics
import Derived.Outline
import Derived.IntWalk
import Derived.Laws.AppendOwnNone
set_option linter.unusedSimpArgs false
set_option linter.unusedVariables false
set_option maxRecDepth 100000
namespace Go.Proofs.YtdeiolagnheihaaDoor
open Go.RowKit Go.Extern.Stop Go.Stop Go.Extern
theorem valueOfPP (t : Addr) (w : World) : (ReflectliteValue.unpack (.iface 127 (.pointer (some t)))).run Tryd.prog w
  = .ok (.agg #[hdl 127, .pointer (some ⟨w.heap.size, 0, none⟩), .int .u64 150]) (w.alloc (.cells #[.pointer (some t)] 127)) := by kernel_rfl
theorem typePP (a : Addr) (w : World) : (ReflectliteValue.methodAny (ReflectliteValue.valueError "reflectlite.Value.Type" 0) (fun t _ _ _ => ReflectliteType.toType t) #[.agg #[hdl 127, .pointer (some a), .int .u64 150]]).run Tryd.prog w
  = .ok (.iface 166 (.agg #[hdl 127])) w := by kernel_rfl
theorem methodKind (n : Nat) (h : Value) (w : World) : (Go.method (n + 1) 166 (.agg #[h]) "Kind").run Tryd.prog w = .ok (110, h) w := by kernel_rfl
theorem methodElem (n : Nat) (h : Value) (w : World) : (Go.method (n + 1) 166 (.agg #[h]) "Elem").run Tryd.prog w = .ok (123, .agg #[h]) w := by kernel_rfl
theorem methodImplements (n : Nat) (h : Value) (w : World) : (Go.method (n + 1) 166 (.agg #[h]) "Implements").run Tryd.prog w = .ok (124, .agg #[h]) w := by kernel_rfl
theorem methodAssignableTo (n : Nat) (h : Value) (w : World) : (Go.method (n + 1) 166 (.agg #[h]) "AssignableTo").run Tryd.prog w = .ok (121, .agg #[h]) w := by kernel_rfl
theorem kindPP (w : World) : ((ReflectliteType.abiMethod fun t => do pure (.int .u8 (← Rtype.kind t))) #[hdl 127]).run Tryd.prog w = .ok (.int .u8 22) w := by kernel_rfl
theorem kindP (w : World) : ((ReflectliteType.abiMethod fun t => do pure (.int .u8 (← Rtype.kind t))) #[hdl 68]).run Tryd.prog w = .ok (.int .u8 22) w := by kernel_rfl
theorem elemPP (w : World) : (ReflectliteType.method ReflectliteType.elem #[.agg #[hdl 127]]).run Tryd.prog w = .ok (.iface 166 (.agg #[hdl 68])) w := by kernel_rfl
theorem implP (w : World) : (ReflectliteType.relation "Implements" ReflectliteType.implements_ #[.agg #[hdl 68], .iface 166 (.agg #[hdl 25])]).run Tryd.prog w = .ok (.bool true) w := by kernel_rfl
theorem typeOfP (v : Value) (w : World) : (ReflectliteType.typeOf #[.iface 68 v]).run Tryd.prog w = .ok (.iface 166 (.agg #[hdl 68])) w := by kernel_rfl
theorem assignP (w : World) : (ReflectliteType.relation "AssignableTo" ReflectliteType.assignableTo #[.agg #[hdl 68], .iface 166 (.agg #[hdl 68])]).run Tryd.prog w = .ok (.bool true) w := by kernel_rfl
theorem assignE (w : World) : (ReflectliteType.relation "AssignableTo" ReflectliteType.assignableTo #[.agg #[hdl 180], .iface 166 (.agg #[hdl 68])]).run Tryd.prog w = .ok (.bool false) w := by kernel_rfl
theorem valueOfP (e : Addr) (w : World) : (ReflectliteValue.unpack (.iface 68 (.pointer (some e)))).run Tryd.prog w
  = .ok (.agg #[hdl 68, .pointer (some ⟨w.heap.size, 0, none⟩), .int .u64 150]) (w.alloc (.cells #[.pointer (some e)] 68)) := by kernel_rfl
theorem rlm (z : Sem Value) (f : TypeId → Addr → Nat → Nat → Sem Value) (v : Value) :
  ReflectliteValue.method z f #[v] = (do match ← ReflectliteValue.parts v with | none => z | some (t, a, fl) => f t a fl (fl % 32)) := rfl
theorem partsPP (a : Addr) (w : World) : (ReflectliteValue.parts (.agg #[hdl 127, .pointer (some a), .int .u64 150])).run Tryd.prog w = .ok (some (127, a, 150)) w := by kernel_rfl
theorem isNilPP (a p : Addr) (W : World) (ha : W.cell? a = some (.pointer (some p))) :
  (ReflectliteValue.method (ReflectliteValue.valueError "reflectlite.Value.IsNil" 0) ReflectliteValue.isNil #[.agg #[hdl 127, .pointer (some a), .int .u64 150]]).run Tryd.prog W = .ok (.bool false) W := by
 rw [rlm];simp only [Sem.run_bind, partsPP, Result.andThen];simp [ReflectliteValue.isNil, loadVar, isAgg, underlying, Tryd.underlying127, ha, Result.andThen]
theorem elemOfPP (w : World) : (Rtype.elem? 127).run Tryd.prog w = .ok (some 68) w := by kernel_rfl
theorem mkP (p : Addr) (w : World) : (ReflectliteValue.mk 68 p ReflectliteValue.flagAddr).run Tryd.prog w = .ok (.agg #[hdl 68, .pointer (some p), .int .u64 406]) w := by kernel_rfl
theorem elemVPP (a p : Addr) (W : World) (ha : W.cell? a = some (.pointer (some p))) :
  (ReflectliteValue.method (ReflectliteValue.valueError "reflectlite.Value.Elem" 0) ReflectliteValue.elem #[.agg #[hdl 127, .pointer (some a), .int .u64 150]]).run Tryd.prog W
   = .ok (.agg #[hdl 68, .pointer (some p), .int .u64 406]) W := by
 rw [rlm];simp only [Sem.run_bind, partsPP, Result.andThen];simp [ReflectliteValue.elem, loadVar, isAgg, underlying, Tryd.underlying127, ha, Result.andThen, elemOfPP, mkP]
theorem rls (v x : Value) : ReflectliteValue.set #[v, x] = (do
  let (some (dst, a, fl), some (src, b, _)) := (← ReflectliteValue.parts v, ← ReflectliteValue.parts x)
   | unsupported (.noEntry "extern/(internal/reflectlite.Value).Set.zeroValue")
  if fl / ReflectliteValue.flagAddr % 2 == 0 then unsupported (.noEntry "extern/(internal/reflectlite.Value).Set.unaddressable")
  let val ← loadVar src b;if ← Rtype.directlyAssignable dst src then storeVar dst a val
  else if ← Rtype.implements dst src then
   if (← Rtype.kind src) == 20 then
    match val with
    | .nilIface => unsupported (.noEntry "extern/reflectlite: a nil value of one interface type handed on as a value of another")
    | _ => storeVar dst a val
   else storeVar dst a (.iface src val)
  else panicString ("reflectlite.Set: value of type " ++ (← Rtype.spelt src) ++ " is not assignable to type " ++ (← Rtype.spelt dst))
  pure (.tuple #[])) := rfl
theorem partsPa (a : Addr) (w : World) : (ReflectliteValue.parts (.agg #[hdl 68, .pointer (some a), .int .u64 406])).run Tryd.prog w = .ok (some (68, a, 406)) w := by kernel_rfl
theorem partsP (a : Addr) (w : World) : (ReflectliteValue.parts (.agg #[hdl 68, .pointer (some a), .int .u64 150])).run Tryd.prog w = .ok (some (68, a, 150)) w := by kernel_rfl
theorem directP (w : World) : (Rtype.directlyAssignable 68 68).run Tryd.prog w = .ok true w := by kernel_rfl
theorem setP (ta b e : Addr) (old : Value) (W : World) (hb : W.cell? b = some (.pointer (some e))) (ht : W.cell? ta = some old) (hf : W.frozen? ta = false) :
  (ReflectliteValue.set #[.agg #[hdl 68, .pointer (some ta), .int .u64 406], .agg #[hdl 68, .pointer (some b), .int .u64 150]]).run Tryd.prog W
   = .ok (.tuple #[]) (W.setCell ta (.pointer (some e))) := by
 rw [rls];simp only [Sem.run_bind, partsPa, partsP, Result.andThen];simp [ReflectliteValue.flagAddr, loadVar, isAgg, underlying, Tryd.underlying68, hb, Result.andThen, directP, storeVar, Value.cells, storeCells, Addr.add];rw [run_store Tryd.prog W ta _ _ (by rfl)];simp [ht, hf]
theorem noAsE (v : Value) (xT : TypeId) (w : World) : (Instr.typeAssert (.iface 180 v) xT 170 true).run Tryd.prog w = .ok (.tuple #[.nilIface, .bool false]) w := run_typeAssert_lacksB Tryd.underlying170 (by kernel_rfl) (by kernel_rfl) v xT w
theorem call_valueOf (x : Value) (v : Value) (w w' : World) (h : (ReflectliteValue.unpack x).run Tryd.prog w = .ok v w') : (callFunc 82 #[x]).run Tryd.prog w = .ok (.value v) w' := by
 rw [@run_callFunc_extern Tryd.prog 82 _ (fun args => ReflectliteValue.unpack (args.getD 0 (.tuple #[]))) Tryd.func82 (by kernel_rfl) (by kernel_rfl) (by kernel_rfl) (by kernel_rfl)];show ((ReflectliteValue.unpack x).run Tryd.prog w).andThen _ = _;rw [h]; rfl
theorem call_type (x : Value) (v : Value) (w w' : World) (h : (ReflectliteValue.methodAny (ReflectliteValue.valueError "reflectlite.Value.Type" 0) (fun t _ _ _ => ReflectliteType.toType t) #[x]).run Tryd.prog w = .ok v w') : (callFunc 83 #[x]).run Tryd.prog w = .ok (.value v) w' := by
 rw [@run_callFunc_extern Tryd.prog 83 _ (ReflectliteValue.methodAny (ReflectliteValue.valueError "reflectlite.Value.Type" 0) (fun t _ _ _ => ReflectliteType.toType t)) Tryd.func83 (by kernel_rfl) (by kernel_rfl) (by kernel_rfl) (by kernel_rfl), h]; rfl
theorem call_isNil (x : Value) (v : Value) (w w' : World) (h : (ReflectliteValue.method (ReflectliteValue.valueError "reflectlite.Value.IsNil" 0) ReflectliteValue.isNil #[x]).run Tryd.prog w = .ok v w') : (callFunc 84 #[x]).run Tryd.prog w = .ok (.value v) w' := by
 rw [@run_callFunc_extern Tryd.prog 84 _ (ReflectliteValue.method (ReflectliteValue.valueError "reflectlite.Value.IsNil" 0) ReflectliteValue.isNil) Tryd.func84 (by kernel_rfl) (by kernel_rfl) (by kernel_rfl) (by kernel_rfl), h]; rfl
theorem call_velem (x : Value) (v : Value) (w w' : World) (h : (ReflectliteValue.method (ReflectliteValue.valueError "reflectlite.Value.Elem" 0) ReflectliteValue.elem #[x]).run Tryd.prog w = .ok v w') : (callFunc 92 #[x]).run Tryd.prog w = .ok (.value v) w' := by
 rw [@run_callFunc_extern Tryd.prog 92 _ (ReflectliteValue.method (ReflectliteValue.valueError "reflectlite.Value.Elem" 0) ReflectliteValue.elem) Tryd.func92 (by kernel_rfl) (by kernel_rfl) (by kernel_rfl) (by kernel_rfl), h]; rfl
theorem call_set (x y : Value) (v : Value) (w w' : World) (h : (ReflectliteValue.set #[x, y]).run Tryd.prog w = .ok v w') : (callFunc 93 #[x, y]).run Tryd.prog w = .ok (.value v) w' := by
 rw [@run_callFunc_extern Tryd.prog 93 _ ReflectliteValue.set Tryd.func93 (by kernel_rfl) (by kernel_rfl) (by kernel_rfl) (by kernel_rfl), h]; rfl
theorem call_kind (x : Value) (v : Value) (w w' : World) (h : ((ReflectliteType.abiMethod fun t => do pure (.int .u8 (← Rtype.kind t))) #[x]).run Tryd.prog w = .ok v w') : (callFunc 110 #[x]).run Tryd.prog w = .ok (.value v) w' := by
 rw [@run_callFunc_extern Tryd.prog 110 _ (ReflectliteType.abiMethod fun t => do pure (.int .u8 (← Rtype.kind t))) Tryd.func110 (by kernel_rfl) (by kernel_rfl) (by kernel_rfl) (by kernel_rfl), h]; rfl
theorem call_elem (x : Value) (v : Value) (w w' : World) (h : (ReflectliteType.method ReflectliteType.elem #[x]).run Tryd.prog w = .ok v w') : (callFunc 123 #[x]).run Tryd.prog w = .ok (.value v) w' := by
 rw [@run_callFunc_extern Tryd.prog 123 _ (ReflectliteType.method ReflectliteType.elem) Tryd.func123 (by kernel_rfl) (by kernel_rfl) (by kernel_rfl) (by kernel_rfl), h]; rfl
theorem call_impl (x y : Value) (v : Value) (w w' : World) (h : (ReflectliteType.relation "Implements" ReflectliteType.implements_ #[x, y]).run Tryd.prog w = .ok v w') : (callFunc 124 #[x, y]).run Tryd.prog w = .ok (.value v) w' := by
 rw [@run_callFunc_extern Tryd.prog 124 _ (ReflectliteType.relation "Implements" ReflectliteType.implements_) Tryd.func124 (by kernel_rfl) (by kernel_rfl) (by kernel_rfl) (by kernel_rfl), h]; rfl
theorem call_assign (x y : Value) (v : Value) (w w' : World) (h : (ReflectliteType.relation "AssignableTo" ReflectliteType.assignableTo #[x, y]).run Tryd.prog w = .ok v w') : (callFunc 121 #[x, y]).run Tryd.prog w = .ok (.value v) w' := by
 rw [@run_callFunc_extern Tryd.prog 121 _ (ReflectliteType.relation "AssignableTo" ReflectliteType.assignableTo) Tryd.func121 (by kernel_rfl) (by kernel_rfl) (by kernel_rfl) (by kernel_rfl), h]; rfl
theorem call_typeOf (x : Value) (v : Value) (w w' : World) (h : (ReflectliteType.typeOf #[x]).run Tryd.prog w = .ok v w') : (callFunc 86 #[x]).run Tryd.prog w = .ok (.value v) w' := by
 rw [@run_callFunc_extern Tryd.prog 86 _ ReflectliteType.typeOf Tryd.func86 (by kernel_rfl) (by kernel_rfl) (by kernel_rfl) (by kernel_rfl), h]; rfl
/-- the variable of package errors that holds the type error -/
def ErrType (w : World) : Prop := w.cell? ⟨9, 0, none⟩ = some (.iface 166 (.agg #[hdl 25]))
set_option maxHeartbeats 4000000 in
theorem as_hit (e t : Addr) (old : Value) (w : World) (hg : ErrType w) (ht0 : w.cell? t = some old) (hf0 : w.frozen? t = false) :
  Calls Tryd.prog 71 #[.iface 68 (.pointer (some e)), .iface 127 (.pointer (some t))] w fun ev w' => ev = .returned (.bool true) ∧ Keeps (fun k => k = t.block) w w' ∧ w'.cell? t = some (.pointer (some e)) ∧ w'.frozen? t = false := by
 unfold ErrType at hg;have hlt : 9 < w.heap.size := World.block_lt_of_cell? w _ hg;have htl : t.block < w.heap.size := World.block_lt_of_cell? w _ ht0;have f6 := fun (t : Addr) w => call_valueOf _ _ _ _ (valueOfPP t w);have f7 := fun (a : Addr) w => call_type _ _ _ _ (typePP a w);have k27 := fun w => call_kind _ _ _ _ (kindPP w);have k25 := fun w => call_kind _ _ _ _ (kindP w);have e27 := fun w => call_elem _ _ _ _ (elemPP w);have i25 := fun w => call_impl _ _ _ _ _ (implP w);have tO := fun v w => call_typeOf _ _ _ _ (typeOfP v w);have a25 := fun w => call_assign _ _ _ _ _ (assignP w);have v25 := fun e w => call_valueOf _ _ _ _ (valueOfP e w);have mK := methodKind;have mE := methodElem;have mI := methodImplements;have mA := methodAssignableTo;have n8 := call_isNil _ _ _ _ (isNilPP ⟨w.heap.size, 0, none⟩ t ((w.alloc (.cells #[.pointer (some t)] 127)).alloc (.cells #[hdl 127, .pointer (some ⟨w.heap.size, 0, none⟩), .int .u64 150] 151)) (by simp));have hg2 : ((w.alloc (.cells #[.pointer (some t)] 127)).alloc (.cells #[hdl 127, .pointer (some ⟨w.heap.size, 0, none⟩), .int .u64 150] 151)).cell? ⟨9, 0, none⟩ = some (.iface 166 (.agg #[hdl 25])) := by
  rw [World.cell?_alloc_lt _ _ ⟨9, 0, none⟩ (by simp; omega), World.cell?_alloc_lt _ _ ⟨9, 0, none⟩ hlt]; exact hg
 have el := call_velem _ _ _ _ (elemVPP ⟨w.heap.size, 0, none⟩ t (((w.alloc (.cells #[.pointer (some t)] 127)).alloc (.cells #[hdl 127, .pointer (some ⟨w.heap.size, 0, none⟩), .int .u64 150] 151)).alloc (.cells #[hdl 127, .pointer (some ⟨w.heap.size, 0, none⟩), .int .u64 150] 151)) (by rw [World.cell?_alloc_lt _ _ ⟨w.heap.size, 0, none⟩ (by simp; omega)]; simp));have c1 : ((((w.alloc (.cells #[.pointer (some t)] 127)).alloc (.cells #[hdl 127, .pointer (some ⟨w.heap.size, 0, none⟩), .int .u64 150] 151)).alloc (.cells #[hdl 127, .pointer (some ⟨w.heap.size, 0, none⟩), .int .u64 150] 151)).alloc (.cells #[.pointer (some e)] 68)).cell? t = some old := by rw [World.cell?_alloc_lt _ _ t (by simp; omega), World.cell?_alloc_lt _ _ t (by simp; omega), World.cell?_alloc_lt _ _ t (by simp; omega), World.cell?_alloc_lt _ _ t htl]; exact ht0
 have c2 : ((((w.alloc (.cells #[.pointer (some t)] 127)).alloc (.cells #[hdl 127, .pointer (some ⟨w.heap.size, 0, none⟩), .int .u64 150] 151)).alloc (.cells #[hdl 127, .pointer (some ⟨w.heap.size, 0, none⟩), .int .u64 150] 151)).alloc (.cells #[.pointer (some e)] 68)).frozen? t = false := by rw [World.frozen?_alloc_old _ _ t (by simp; omega), World.frozen?_alloc_old _ _ t (by simp; omega), World.frozen?_alloc_old _ _ t (by simp; omega), World.frozen?_alloc_old _ _ t (Nat.ne_of_lt htl)]; exact hf0
 have st := call_set _ _ _ _ _ (setP t ⟨w.heap.size + 1 + 1 + 1, 0, none⟩ e old ((((w.alloc (.cells #[.pointer (some t)] 127)).alloc (.cells #[hdl 127, .pointer (some ⟨w.heap.size, 0, none⟩), .int .u64 150] 151)).alloc (.cells #[hdl 127, .pointer (some ⟨w.heap.size, 0, none⟩), .int .u64 150] 151)).alloc (.cells #[.pointer (some e)] 68))
  (by rw [World.cell?_alloc_at _ _ _ _ (by simp)]; rfl) c1 c2)
 have fin : Keeps (fun k => k = t.block) w (((((w.alloc (.cells #[.pointer (some t)] 127)).alloc (.cells #[hdl 127, .pointer (some ⟨w.heap.size, 0, none⟩), .int .u64 150] 151)).alloc (.cells #[hdl 127, .pointer (some ⟨w.heap.size, 0, none⟩), .int .u64 150] 151)).alloc (.cells #[.pointer (some e)] 68)).setCell t (.pointer (some e))) :=
  (((((Keeps.refl (fun k => k = t.block) w).alloc _).alloc _).alloc _).alloc _).setCell (.inl rfl) _
 have C1 : (((((w.alloc (.cells #[.pointer (some t)] 127)).alloc (.cells #[hdl 127, .pointer (some ⟨w.heap.size, 0, none⟩), .int .u64 150] 151)).alloc (.cells #[hdl 127, .pointer (some ⟨w.heap.size, 0, none⟩), .int .u64 150] 151)).alloc (.cells #[.pointer (some e)] 68)).setCell t (.pointer (some e))).cell? t = some (.pointer (some e)) := World.cell?_setCell_same _ _ _ c1;have C2 : (((((w.alloc (.cells #[.pointer (some t)] 127)).alloc (.cells #[hdl 127, .pointer (some ⟨w.heap.size, 0, none⟩), .int .u64 150] 151)).alloc (.cells #[hdl 127, .pointer (some ⟨w.heap.size, 0, none⟩), .int .u64 150] 151)).alloc (.cells #[.pointer (some e)] 68)).setCell t (.pointer (some e))).frozen? t = false := by rw [World.frozen?_setCell]; exact c2
 have HF := Lib.hid fin
 have H1 := Lib.hid C1;have H2 := Lib.hid C2;clear fin C1 C2 c1 c2;go_enter Tryd.func71, Tryd.ntmps71
 go_wp2
 refine wp_loop_rounds 1 ?_;rw [rounds_succ];go_wp2
 go_ret;exact ⟨rfl, HF.out, H1.out, H2.out⟩
set_option maxHeartbeats 4000000 in
theorem as_miss (e t : Addr) (w : World) (hg : ErrType w) :
  Calls Tryd.prog 71 #[.iface 180 (.pointer (some e)), .iface 127 (.pointer (some t))] w fun ev w' => ev = .returned (.bool false) ∧ Ext w w' := by
 unfold ErrType at hg;have hlt : 9 < w.heap.size := World.block_lt_of_cell? w _ hg;have f6 := fun (t : Addr) w => call_valueOf _ _ _ _ (valueOfPP t w);have f7 := fun (a : Addr) w => call_type _ _ _ _ (typePP a w);have k27 := fun w => call_kind _ _ _ _ (kindPP w);have k25 := fun w => call_kind _ _ _ _ (kindP w);have e27 := fun w => call_elem _ _ _ _ (elemPP w);have i25 := fun w => call_impl _ _ _ _ _ (implP w);have tO := call_typeOfE;have a25 := fun w => call_assign _ _ _ _ _ (assignE w);have mK := methodKind;have mE := methodElem;have mI := methodImplements;have mA := methodAssignableTo;have nA := noAsE;have uE := noUnwrapE;have vE := noUnwrapsE;have n8 := call_isNil _ _ _ _ (isNilPP ⟨w.heap.size, 0, none⟩ t ((w.alloc (.cells #[.pointer (some t)] 127)).alloc (.cells #[hdl 127, .pointer (some ⟨w.heap.size, 0, none⟩), .int .u64 150] 151)) (by simp));have hg2 : ((w.alloc (.cells #[.pointer (some t)] 127)).alloc (.cells #[hdl 127, .pointer (some ⟨w.heap.size, 0, none⟩), .int .u64 150] 151)).cell? ⟨9, 0, none⟩ = some (.iface 166 (.agg #[hdl 25])) := by
  rw [World.cell?_alloc_lt _ _ ⟨9, 0, none⟩ (by simp; omega), World.cell?_alloc_lt _ _ ⟨9, 0, none⟩ hlt]; exact hg
 have fin : Ext w (((w.alloc (.cells #[.pointer (some t)] 127)).alloc (.cells #[hdl 127, .pointer (some ⟨w.heap.size, 0, none⟩), .int .u64 150] 151)).alloc (.cells #[hdl 127, .pointer (some ⟨w.heap.size, 0, none⟩), .int .u64 150] 151)) :=
  (((Ext.refl w).alloc _).alloc _).alloc _
 have HF := Lib.hid fin
 clear fin
 go_enter Tryd.func71, Tryd.ntmps71
 go_wp2
 refine wp_loop_rounds 1 ?_;rw [rounds_succ];go_wp2
 go_ret;exact ⟨rfl, HF.out⟩
end Go.Proofs.YtdeiolagnheihaaDoor
namespace Go.Proofs.YtdeiolagnheihaaDoor
open Go.RowKit
/-- the variables of the errors, in the order of their numbers -/
def gk : Nat → Nat
 | 0 => 2
 | 1 => 0
 | 2 => 1
 | 3 => 3
 | 4 => 4
 | 5 => 5
 | 6 => 6
 | 7 => 7
 | _ => 8
def sentV (a : Addr) : Value := .iface 180 (.pointer (some a))
/-- the package's errors as they lie in memory -/
structure Errs (w : World) (E : Nat → Addr) : Prop where
 et : ErrType w
 var : ∀ k, k < 9 → w.cell? ⟨gk k, 0, none⟩ = some (sentV (E k))
 row : ∀ k, k < 9 → ∃ c t, w.heap[(E k).block]? = some (.cells c t (0, 0))
 ne : ∀ j k, j < 9 → k < 9 → j ≠ k → E j ≠ E k
theorem Errs.ext {w w' : World} {E : Nat → Addr} (h : Errs w E) (hE : Ext w w') : Errs w' E := by
 refine ⟨?_, fun k hk => ?_, fun k hk => ?_, h.ne⟩
 ·exact (hE.cell (p := ⟨9, 0, none⟩) (World.block_lt_of_cell? w _ h.et)).trans h.et
 ·exact (hE.cell (p := ⟨gk k, 0, none⟩) (World.block_lt_of_cell? w _ (h.var k hk))).trans (h.var k hk)
 ·obtain ⟨c, t, hc⟩ := h.row k hk;exact ⟨c, t, (hE.block (E k).block (lt_of_block hc)).trans hc⟩
/-- an error value: its number, and its place -/
inductive ErrV (w : World) (E : Nat → Addr) : Value → Int → Int → Prop
 | nil : ErrV w E .nilIface 0 (-1)
 | sent (k : Nat) (hk : k < 9) : ErrV w E (sentV (E k)) ((k : Int) + 1) (-1)
 | fault (k F : Nat) (a : Int) (hk : k < 9) (h : w.heap[F]? = some (.cells #[.int .i64 a, sentV (E k)] 70 (0, 0))) (h1 : -9223372036854775808 ≤ a) (h2 : a ≤ 9223372036854775807) : ErrV w E (.iface 68 (.pointer (some ⟨F, 0, none⟩))) ((k : Int) + 1) a
theorem ErrV.ext {w w' : World} {E : Nat → Addr} {v : Value} {c a : Int} (h : ErrV w E v c a) (hE : Ext w w') : ErrV w' E v c a := by
 cases h with
 | nil => exact .nil
 | sent k hk => exact .sent k hk
 | fault k F a hk h h1 h2 => exact .fault k F a hk ((hE.block F (lt_of_block h)).trans h) h1 h2
theorem code_nil (w : World) : Calls Tryd.prog 49 #[.nilIface] w fun e w' => e = .returned (.tuple #[.int .i64 0, .int .i64 (-1)]) ∧ Ext w w' := by
 go_enter Tryd.func49, Tryd.ntmps49
 go_wp2
 go_ret2;exact ⟨rfl, Ext.refl _⟩
set_option maxHeartbeats 4000000 in
theorem code_sent (w : World) (E : Nat → Addr) (hE : Errs w E) (k : Nat) (hk : k < 9) : Calls Tryd.prog 49 #[sentV (E k)] w fun e w' => e = .returned (.tuple #[.int .i64 ((k : Int) + 1), .int .i64 (-1)]) ∧ Ext w w' := by
 have HE := Lib.hid hE;clear hE;unfold sentV;go_enter Tryd.func49, Tryd.ntmps49
 go_wp2_with fail;refine (as_miss _ _ _ (HE.out.ext ((Ext.refl w).alloc _)).et).mono ?_;rintro e w2 ⟨rfl, h2⟩;have HX : Hid (Ext w w2) := Lib.hid (((Ext.refl w).alloc _).trans h2);clear h2;have HE2 := Lib.hid (HE.out.ext HX.out);have c0 := HE2.out.var 0 (by decide);have c1 := HE2.out.var 1 (by decide);have c2 := HE2.out.var 2 (by decide);have c3 := HE2.out.var 3 (by decide);have c4 := HE2.out.var 4 (by decide);have c5 := HE2.out.var 5 (by decide);have c6 := HE2.out.var 6 (by decide);have c7 := HE2.out.var 7 (by decide);have c8 := HE2.out.var 8 (by decide);simp only [gk, sentV] at c0 c1 c2 c3 c4 c5 c6 c7 c8;go_wp2_with fail;have cells : ∀ j, j < 9 → (w2.alloc (.cells #[.iface 180 (.pointer (some (E 0))), .iface 180 (.pointer (some (E 1))), .iface 180 (.pointer (some (E 2))), .iface 180 (.pointer (some (E 3))), .iface 180 (.pointer (some (E 4))), .iface 180 (.pointer (some (E 5))), .iface 180 (.pointer (some (E 6))), .iface 180 (.pointer (some (E 7))), .iface 180 (.pointer (some (E 8)))] 25)).cell? ⟨w2.heap.size, j, none⟩ = some (.iface 180 (.pointer (some (E j)))) := by
  intro j hj;rw [World.cell?_alloc_at _ _ _ _ rfl];match j, hj with
  | 0, _ => rfl
  | 1, _ => rfl
  | 2, _ => rfl
  | 3, _ => rfl
  | 4, _ => rfl
  | 5, _ => rfl
  | 6, _ => rfl
  | 7, _ => rfl
  | 8, _ => rfl
 have HC := Lib.hid cells;have HX3 : Hid (Ext w (w2.alloc (.cells #[.iface 180 (.pointer (some (E 0))), .iface 180 (.pointer (some (E 1))), .iface 180 (.pointer (some (E 2))), .iface 180 (.pointer (some (E 3))), .iface 180 (.pointer (some (E 4))), .iface 180 (.pointer (some (E 5))), .iface 180 (.pointer (some (E 6))), .iface 180 (.pointer (some (E 7))), .iface 180 (.pointer (some (E 8)))] 25))) := Lib.hid (HX.out.alloc _);have HE3 := Lib.hid (HE.out.ext HX3.out);clear cells c0 c1 c2 c3 c4 c5 c6 c7 c8;generalize hw3 : (w2.alloc (.cells #[.iface 180 (.pointer (some (E 0))), .iface 180 (.pointer (some (E 1))), .iface 180 (.pointer (some (E 2))), .iface 180 (.pointer (some (E 3))), .iface 180 (.pointer (some (E 4))), .iface 180 (.pointer (some (E 5))), .iface 180 (.pointer (some (E 6))), .iface 180 (.pointer (some (E 7))), .iface 180 (.pointer (some (E 8)))] 25)) = w3 at *;clear hw3;go_loop [3, 27] (fun p c => ∃ i : Nat, i ≤ k ∧ p = .int .i64 (-1) ∧ c = .int .i64 i) (fun _ c => k - (intOf c).toNat)
 case atStart => exact ⟨0, by omega, rfl, rfl⟩
 case round =>
  obtain ⟨i, hi, rfl, rfl⟩ := hrel;have hc := HC.out i (by omega);obtain ⟨ca, ta, ha⟩ := HE3.out.row k hk;obtain ⟨cb, tb, hb⟩ := HE3.out.row i (by omega);have HA := Lib.hid ha;have HB := Lib.hid hb;clear ha hb;by_cases hik : i = k
  ·subst hik;go_wp2_with fail;refine (is_same _ _).mono ?_;rintro e w4 ⟨rfl, rfl⟩;go_wp2_with fail;go_ret2;exact ⟨rfl, HX3.out⟩
  ·have hne := HE3.out.ne k i hk (by omega) (fun e => hik e.symm);have HN := Lib.hid hne;clear hne;go_wp2_with fail;refine (is_other _ _ ca cb ta tb _ HN.out HA.out HB.out).mono ?_;rintro e w4 ⟨rfl, rfl⟩;go_wp2_with fail;go_round
   case rel => exact ⟨i + 1, by omega, rfl, by go_num⟩
   case measure => simp [intOf]; omega
set_option maxHeartbeats 4000000 in
theorem code_fault (w : World) (E : Nat → Addr) (hE : Errs w E) (k F : Nat) (a : Int) (hk : k < 9) (h : w.heap[F]? = some (.cells #[.int .i64 a, sentV (E k)] 70 (0, 0))) : Calls Tryd.prog 49 #[.iface 68 (.pointer (some ⟨F, 0, none⟩))] w fun e w' => e = .returned (.tuple #[.int .i64 ((k : Int) + 1), .int .i64 a]) ∧ Ext w w' := by
 have HF := Lib.hid h;clear h;have HE := Lib.hid hE;clear hE;go_enter Tryd.func49, Tryd.ntmps49
 go_wp2_with fail;refine (as_hit ⟨F, 0, none⟩ ⟨w.heap.size, 0, none⟩ (.pointer none) _ (HE.out.ext ((Ext.refl w).alloc _)).et (by simp) (by simp)).mono ?_;rintro e w2 ⟨rfl, h2, ct, zt⟩;have HX : Hid (Ext w w2) := Lib.hid (by
  have q := ((Ext.refl w).alloc (.cells #[.pointer none] 68)).keeps (S := fun k => k = w.heap.size) |>.trans h2 (fun _ _ q => q)
  exact q.below (Nat.le_refl _) (fun k hk e => by omega))
 clear h2;have HF2 : Hid (w2.heap[F]? = some (.cells #[.int .i64 a, sentV (E k)] 70 (0, 0))) := Lib.hid ((HX.out.block F (lt_of_block HF.out)).trans HF.out);have hF0 : w2.cell? ⟨F, 0, none⟩ = some (.int .i64 a) := by simp [World.cell?, HF2.out]
 have HE2 := Lib.hid (HE.out.ext HX.out);have c0 := HE2.out.var 0 (by decide);have c1 := HE2.out.var 1 (by decide);have c2 := HE2.out.var 2 (by decide);have c3 := HE2.out.var 3 (by decide);have c4 := HE2.out.var 4 (by decide);have c5 := HE2.out.var 5 (by decide);have c6 := HE2.out.var 6 (by decide);have c7 := HE2.out.var 7 (by decide);have c8 := HE2.out.var 8 (by decide);simp only [gk, sentV] at c0 c1 c2 c3 c4 c5 c6 c7 c8;go_wp2_with fail;have cells : ∀ j, j < 9 → (w2.alloc (.cells #[.iface 180 (.pointer (some (E 0))), .iface 180 (.pointer (some (E 1))), .iface 180 (.pointer (some (E 2))), .iface 180 (.pointer (some (E 3))), .iface 180 (.pointer (some (E 4))), .iface 180 (.pointer (some (E 5))), .iface 180 (.pointer (some (E 6))), .iface 180 (.pointer (some (E 7))), .iface 180 (.pointer (some (E 8)))] 25)).cell? ⟨w2.heap.size, j, none⟩ = some (.iface 180 (.pointer (some (E j)))) := by
  intro j hj;rw [World.cell?_alloc_at _ _ _ _ rfl];match j, hj with
  | 0, _ => rfl
  | 1, _ => rfl
  | 2, _ => rfl
  | 3, _ => rfl
  | 4, _ => rfl
  | 5, _ => rfl
  | 6, _ => rfl
  | 7, _ => rfl
  | 8, _ => rfl
 have HC := Lib.hid cells;have HF3 : Hid ((w2.alloc (.cells #[.iface 180 (.pointer (some (E 0))), .iface 180 (.pointer (some (E 1))), .iface 180 (.pointer (some (E 2))), .iface 180 (.pointer (some (E 3))), .iface 180 (.pointer (some (E 4))), .iface 180 (.pointer (some (E 5))), .iface 180 (.pointer (some (E 6))), .iface 180 (.pointer (some (E 7))), .iface 180 (.pointer (some (E 8)))] 25)).cell? ⟨F, 1, none⟩ = some (sentV (E k))) := Lib.hid (by rw [World.cell?_alloc_past _ _ _ (lt_of_block HF2.out)]; simp [World.cell?, HF2.out]);have HX3 : Hid (Ext w (w2.alloc (.cells #[.iface 180 (.pointer (some (E 0))), .iface 180 (.pointer (some (E 1))), .iface 180 (.pointer (some (E 2))), .iface 180 (.pointer (some (E 3))), .iface 180 (.pointer (some (E 4))), .iface 180 (.pointer (some (E 5))), .iface 180 (.pointer (some (E 6))), .iface 180 (.pointer (some (E 7))), .iface 180 (.pointer (some (E 8)))] 25))) := Lib.hid (HX.out.alloc _);have HE3 := Lib.hid (HE.out.ext HX3.out);clear cells hF0 ct zt c0 c1 c2 c3 c4 c5 c6 c7 c8;generalize hw3 : (w2.alloc (.cells #[.iface 180 (.pointer (some (E 0))), .iface 180 (.pointer (some (E 1))), .iface 180 (.pointer (some (E 2))), .iface 180 (.pointer (some (E 3))), .iface 180 (.pointer (some (E 4))), .iface 180 (.pointer (some (E 5))), .iface 180 (.pointer (some (E 6))), .iface 180 (.pointer (some (E 7))), .iface 180 (.pointer (some (E 8)))] 25)) = w3 at *
 clear hw3;go_loop [3, 27] (fun p c => ∃ i : Nat, i ≤ k ∧ p = .int .i64 a ∧ c = .int .i64 i) (fun _ c => k - (intOf c).toNat)
 case atStart => exact ⟨0, by omega, rfl, rfl⟩
 case round =>
  obtain ⟨i, hi, rfl, rfl⟩ := hrel;have hc := HC.out i (by omega);obtain ⟨ca, ta, ha⟩ := HE3.out.row k hk;obtain ⟨cb, tb, hb⟩ := HE3.out.row i (by omega);have HA := Lib.hid ha;have HB := Lib.hid hb;clear ha hb;by_cases hik : i = k
  ·subst hik;go_wp2_with fail;refine (is_fault_same F _ _ HF3.out).mono ?_;rintro e w4 ⟨rfl, rfl⟩;go_wp2_with fail;go_ret2;exact ⟨rfl, HX3.out⟩
  ·have hne := HE3.out.ne k i hk (by omega) (fun e => hik e.symm);have HN := Lib.hid hne;clear hne;go_wp2_with fail;refine (is_fault_other F _ _ ca cb ta tb _ HF3.out HN.out HA.out HB.out).mono ?_;rintro e w4 ⟨rfl, rfl⟩;go_wp2_with fail;go_round
   case rel => exact ⟨i + 1, by omega, rfl, by go_num⟩
   case measure => simp [intOf]; omega
theorem code_any (w : World) (E : Nat → Addr) (hE : Errs w E) (v : Value) (c a : Int) (h : ErrV w E v c a) : Calls Tryd.prog 49 #[v] w fun e w' => e = .returned (.tuple #[.int .i64 c, .int .i64 a]) ∧ Ext w w' := by
 cases h with
 | nil => exact code_nil w
 | sent k hk => exact code_sent w E hE k hk
 | fault k F a hk h h1 h2 => exact code_fault w E hE k F a hk h
end Go.Proofs.YtdeiolagnheihaaDoor
namespace Go.Proofs.YtdeiolagnheihaaDoor
open Go.RowKit
theorem costF_calls (x : Int) (w : World) (_hx1 : -9223372036854775808 ≤ x) (_hx2 : x ≤ 9223372036854775807) :
  Calls Tryd.prog 67 #[.int .i64 x] w fun e w' => e = .returned (.bool (decide (x < 0))) ∧ w = w' := by
 go_enter Tryd.func67, Tryd.ntmps67
 go_wp2_with fail;go_ret;exact ⟨rfl, rfl⟩
theorem indexC_calls (x : Option Addr) (len cap : Nat) (f : Nat → Int) (w : World) (hx : Ints w x len f) (hl : len ≤ maxLen) :
  Calls Tryd.prog 75 #[.slice x len cap, .func (.func 67) #[] #[]] w fun e w' => (∃ i : Int, e = .returned (.int .i64 i) ∧ ((i = -1 ∧ ∀ j, j < len → 0 ≤ f j) ∨ (0 ≤ i ∧ ∃ j, j < len ∧ f j < 0))) ∧ w = w' := by
 unfold maxLen at hl;have HX := Lib.hid hx;clear hx;go_enter Tryd.func75, Tryd.ntmps75
 go_wp2
 go_loop [5, 8] (fun _ c => ∃ i : Nat, i ≤ len ∧ c = .int .i64 i ∧ Hid (∀ j, j < i → 0 ≤ f j)) (fun _ c => len - (intOf c).toNat)
 case atStart => exact ⟨0, by omega, rfl, Lib.hid fun j hj => by omega⟩
 case round =>
  obtain ⟨i, hi, rfl, HF⟩ := hrel;by_cases hlt : i < len
  ·obtain ⟨a, rfl⟩ : ∃ a, x = some a := by
    cases x with
    | none => have := HX.out.1 rfl; omega
    | some a => exact ⟨a, rfl⟩
   obtain ⟨hc, h1, h2⟩ := HX.out.2 a rfl i hlt;go_wp2_with fail;refine (costF_calls _ _ h1 h2).mono ?_;rintro e w1 ⟨rfl, rfl⟩;by_cases hbad : f i < 0
   ·go_wp2_with fail;go_ret;exact ⟨⟨i, rfl, .inr ⟨by omega, i, hlt, hbad⟩⟩, rfl⟩
   ·go_wp2_with fail;go_round
    case rel =>
     refine ⟨i + 1, by omega, by go_num, Lib.hid fun j hj => ?_⟩;rcases Nat.lt_succ_iff_lt_or_eq.1 hj with q | rfl
     ·exact HF.out j q
     ·omega
    case measure => simp [intOf]; omega
  ·obtain rfl : i = len := by omega
   go_wp2
   go_ret;exact ⟨⟨-1, rfl, .inl ⟨rfl, HF.out⟩⟩, rfl⟩
theorem containsC_calls (x : Option Addr) (len cap : Nat) (f : Nat → Int) (w : World) (hx : Ints w x len f) (hl : len ≤ maxLen) :
  Calls Tryd.prog 60 #[.slice x len cap, .func (.func 67) #[] #[]] w fun e w' => (∃ b : Bool, e = .returned (.bool b) ∧ ((b = false ∧ ∀ j, j < len → 0 ≤ f j) ∨ (b = true ∧ ∃ j, j < len ∧ f j < 0))) ∧ w = w' := by
 go_enter Tryd.func60, Tryd.ntmps60
 go_wp2_with fail;refine (indexC_calls x len cap f w hx hl).mono ?_;rintro e w1 ⟨⟨i, rfl, h⟩, rfl⟩;rcases h with ⟨rfl, h⟩ | ⟨hi, h⟩
 ·have H := Lib.hid h;clear h;go_wp2_with fail;go_ret;exact ⟨⟨false, rfl, .inl ⟨rfl, H.out⟩⟩, rfl⟩
 ·have H := Lib.hid h;clear h;go_wp2_with fail;go_ret;exact ⟨⟨true, rfl, .inr ⟨rfl, H.out⟩⟩, rfl⟩
/-- what lengths cost -/
def costS (f g : Nat → Int) : Nat → Int
 | 0 => 0
 | i + 1 => costS f g i + f i * g i
theorem costS_bd (f g : Nat → Int) (n : Nat) (hf : ∀ j, j < n → 0 ≤ f j ∧ f j ≤ 1048576) (hg : ∀ j, j < n → 0 ≤ g j ∧ g j ≤ 1048576) : ∀ i, i ≤ n → 0 ≤ costS f g i ∧ costS f g i ≤ 1099511627776 * i := by
 intro i;induction i with
 | zero => intro _; exact ⟨Int.le_refl _, Int.le_refl _⟩
 | succ i ih =>
  intro h;have h1 := ih (by omega);have a := hf i (by omega);have b := hg i (by omega);have q1 : 0 ≤ f i * g i := Int.mul_nonneg a.1 b.1;have q2 : f i * g i ≤ 1048576 * 1048576 := Int.mul_le_mul a.2 b.2 b.1 (by decide);simp only [costS];push_cast
  omega
theorem cost_good (x y : Option Addr) (n cap cap' : Nat) (f g : Nat → Int) (w : World) (hx : Ints w x n f) (hy : Ints w y n g) (hn : n ≤ 300)
  (hf : ∀ j, j < n → 0 ≤ f j ∧ f j ≤ 1048576) (hg : ∀ j, j < n → 0 ≤ g j ∧ g j ≤ 1048576) :
  Calls Tryd.prog 37 #[.slice x n cap, .slice y n cap'] w fun e w' => e = .returned (.tuple #[.int .i64 (costS f g n), .nilIface]) ∧ Ext w w' := by
 have HX := Lib.hid hx;have HY := Lib.hid hy;have HB := Lib.hid (costS_bd f g n hf hg);have HF := Lib.hid hf;have HG := Lib.hid hg;have t1 : ((n : Int) != (n : Int)) = false := by simp
 clear hx hy hf hg;go_enter Tryd.func37, Tryd.ntmps37
 go_wp2_with fail;refine (containsC_calls x n cap f _ HX.out (by unfold maxLen; omega)).mono ?_;rintro e w1 ⟨⟨b, rfl, hb⟩, rfl⟩;obtain rfl : b = false := by
  rcases hb with ⟨q, _⟩ | ⟨_, j, hj, q⟩
  ·exact q
  ·have := HF.out j hj; omega
 clear hb;go_wp2_with fail;refine (containsC_calls y n cap' g _ HY.out (by unfold maxLen; omega)).mono ?_;rintro e w1 ⟨⟨b, rfl, hb⟩, rfl⟩;obtain rfl : b = false := by
  rcases hb with ⟨q, _⟩ | ⟨_, j, hj, q⟩
  ·exact q
  ·have := HG.out j hj; omega
 clear hb;go_wp2_with fail;go_loopw [7, 28] (fun u c wr => ∃ (i m : Nat), i ≤ n ∧ c = .int .i64 i ∧ u = .int .i64 (costS f g i) ∧ wr = w.drewN m) (fun _ c _ => n - (intOf c).toNat)
 case atStart => exact ⟨0, 0, by omega, rfl, rfl, rfl⟩
 case round =>
  obtain ⟨i, m, hi, rfl, rfl, rfl⟩ := hrel;by_cases hlt : i < n
  ·obtain ⟨a, rfl⟩ : ∃ a, x = some a := by
    cases x with
    | none => have := HX.out.1 rfl; omega
    | some a => exact ⟨a, rfl⟩
   obtain ⟨b, rfl⟩ : ∃ a, y = some a := by
    cases y with
    | none => have := HY.out.1 rfl; omega
    | some a => exact ⟨a, rfl⟩
   obtain ⟨ca, a1, a2⟩ := HX.out.2 a rfl i hlt;obtain ⟨cb, b1, b2⟩ := HY.out.2 b rfl i hlt;have hb0 := HB.out i (by omega);have hb1 := HB.out (i + 1) (by omega);have hs : costS f g (i + 1) = costS f g i + f i * g i := rfl;have hm : 0 ≤ f i * g i ∧ f i * g i ≤ 1048576 * 1048576 := by
    obtain ⟨q1, q2⟩ := HF.out i hlt;obtain ⟨q3, q4⟩ := HG.out i hlt;exact ⟨Int.mul_nonneg q1 q3, Int.mul_le_mul q2 q4 q3 (by decide)⟩
   have HS := Lib.hid hs;clear hs hb1;go_wp2_with fail;go_roundw
   case rel => exact ⟨i + 1, _, by omega, by go_num, by rw [HS.out], rfl⟩
   case measure => simp [intOf]; omega
  ·obtain rfl : i = n := by omega
   go_wp2_with fail;go_ret2;exact ⟨rfl, Ext.drewN (Ext.refl _) _⟩
end Go.Proofs.YtdeiolagnheihaaDoor
namespace Go.Proofs.YtdeiolagnheihaaDoor
open Go.RowKit Go.ChangeShapes Go.WideShapes
theorem open_intRow {H : Type} {enc : TypeId × Value → H} {w : World} {base : Nat} {spare : Nat → Bool} {held : Bool} {v : Value} {d : DataW H} {pl : List MemPlace}
    (h : DataW.Trod enc Tryd.prog w base spare held 59 v d pl) (hv : ∃ x len cap, v = .slice x len cap) :
    ∃ (x : Option Addr) (len cap : Nat) (f : Nat → Int), v = .slice x len cap ∧ len ≤ maxLen ∧ (x = none → cap = 0) ∧ Ints w x len f := by
  obtain ⟨x, len, cap, rfl⟩ := hv;obtain ⟨fuel, hf⟩ := h;rcases Go.Deep.open_slice1 Tryd.underlying59 (show Tryd.prog.cellsOf 3 = 1 by kernel_rfl) hf with ⟨h0, _⟩ | ⟨a, len', cap', m, n, V, D, Pl, hc, _, hl, hm, hmm, _, hx⟩
  · simp [Value.cells] at h0;obtain ⟨rfl, rfl, rfl⟩ := h0;exact ⟨none, 0, 0, fun _ => 0, rfl, Nat.zero_le _, fun _ => rfl, fun _ => rfl, fun a h => by cases h⟩
  · simp [Value.cells] at hc;obtain ⟨rfl, rfl, rfl⟩ := hc;have key : ∀ i, i < len → ∃ y : Int, w.cell? (a.add i) = some (.int .i64 y) ∧ -9223372036854775808 ≤ y ∧ y ≤ 9223372036854775807 := by
      intro i hi;have him : i < m := by rw [hmm]; split <;> omega
      obtain ⟨c0, t0⟩ := hx i him;obtain ⟨y, e0, _, w0⟩ := DataW.trod_int Tryd.underlying3 t0;have b0 := bounds_i64 w0;simp only [List.cons.injEq, and_true] at e0;rw [e0] at c0;exact ⟨y, c0, b0.1, b0.2⟩
    obtain ⟨f, hf'⟩ := Go.Deep.choose_lt key;refine ⟨some a, len, cap, f, rfl, by omega, (fun h => by cases h), (fun h => by cases h), fun a' h i hi => ?_⟩;injection h with h; subst h;exact hf' i hi
end Go.Proofs.YtdeiolagnheihaaDoor
namespace Go.Proofs.YtdeiolagnheihaaDoor
open Go.RowKit Go.ChangeShapes Go.WideShapes
theorem ints_calls (x : Option Addr) (len cap : Nat) (f : Nat → Int) (w : World) (hx : Ints w x len f) (hl : len ≤ 1099511627776) (hx0 : x = none → cap = 0) :
    Calls Tryd.prog 35 #[.slice x len cap] w fun e w' => (∃ v, e = .returned v ∧ IntsV w' v len f) ∧ Ext w w' := by
  obtain ⟨i0, hi, hz0, hz1, hz2⟩ := info_parts i64info;cases x with
  | none =>
    obtain rfl := hx.1 rfl;obtain rfl := hx0 rfl;go_enter Tryd.func35, Tryd.ntmps35
    go_wp2_with (at_builtin; refine wpList_append_own_none rfl _ _ 59 rfl 0 3 i0 1 Tryd.underlying59 hi (.slice none 0 0) 0 [] rfl (World.ownsRow_nil _ _ _ _) rfl ?_);go_ret;exact ⟨⟨_, rfl, none, 0, rfl, hx⟩, Below.refl _ _⟩
  | some a =>
    have HX := Lib.hid hx;have hcell : ∀ j u, (intsV len f)[j]? = some u → w.cell? (a.add j) = some u := by
      intro j u hj;have hj' : j < len := by have := (List.getElem?_eq_some_iff.1 hj).1; simpa [intsV] using this
      rw [intsV_get len f j hj'] at hj;rw [(hx.2 a rfl j hj').1, hj]
    have HC := Lib.hid hcell;clear hx hcell;go_enter Tryd.func35, Tryd.ntmps35
    go_wp2_with (at_builtin; refine wpList_append_own _ rfl _ _ 59 rfl w.heap.size 3 i0 (.int .i64 0) 1 8 Tryd.underlying59 hi hz0 hz1 hz2 rfl (by decide) (.slice none 0 0) 0 [] rfl (World.ownsRow_nil _ _ _ _) a len cap (intsV len f) rfl ?c0 HC.out ?c2 ?c3 ?c4 ?c5 ?_)
    case c0 => simp [intsV]
    case c2 => intro u hu; simp [intsV] at hu; obtain ⟨i, _, rfl⟩ := hu; rfl
    case c3 => unfold maxLen; omega
    case c4 => omega
    case c5 => simp
    intro v' w' hown hgrow _;obtain ⟨y, c, rfl, hy⟩ := Ints.of_own hown (fun i hi => (HX.out.2 a rfl i hi).2);have hE : Ext w w' := (Keeps.grown hgrow).below (Nat.le_refl _) (fun k _ q => by cases q);have HY := Lib.hid hy;have HE := Lib.hid hE;clear hown hgrow hy hE;go_wp2_with fail;go_ret;exact ⟨⟨_, rfl, y, c, rfl, HY.out⟩, HE.out⟩
end Go.Proofs.YtdeiolagnheihaaDoor
namespace Go.Proofs.YtdeiolagnheihaaDoor
open Go.RowKit Go.ChangeShapes Go.WideShapes
structure Sents (w : World) : Prop where
  bound : ∃ E, w.cell? ⟨0, 0, none⟩ = some (.iface 180 (.pointer (some E)))
  shape : ∃ E, w.cell? ⟨1, 0, none⟩ = some (.iface 180 (.pointer (some E)))
theorem Sents.ext {w w' : World} (h : Sents w) (hE : Ext w w') : Sents w' := by
  obtain ⟨⟨a, ha⟩, ⟨b, hb⟩⟩ := h;exact ⟨⟨a, (hE.cell (p := ⟨0, 0, none⟩) (World.block_lt_of_cell? w _ ha)).trans ha⟩, ⟨b, (hE.cell (p := ⟨1, 0, none⟩) (World.block_lt_of_cell? w _ hb)).trans hb⟩⟩
theorem two_any (w : World) (hS : Sents w) : Calls Tryd.prog 32 #[] w fun e w' => e = .returned (.bool true) ∧ Ext w w' := by
  have hx : Ints (w.alloc (.cells #[.int .i64 1, .int .i64 1] 3)) (some ⟨w.heap.size, 0, none⟩) 2 (fun _ => 1) := by
    refine ⟨(fun h => by cases h), fun a ha i hi => ?_⟩;injection ha with ha; subst ha;rw [add_plain, World.cell?_alloc_at _ _ _ _ rfl];match i, hi with
    | 0, _ => exact ⟨rfl, by decide, by decide⟩
    | 1, _ => exact ⟨rfl, by decide, by decide⟩
  have hS2 := hS.ext ((Ext.refl w).alloc (.cells #[.int .i64 1, .int .i64 1] 3));obtain ⟨⟨E1, h1⟩, ⟨E2, h2⟩⟩ := hS2;have HE : Hid (Ext w (w.alloc (.cells #[.int .i64 1, .int .i64 1] 3))) := Lib.hid ((Ext.refl w).alloc _);have HX := Lib.hid hx;have H1 := Lib.hid h1;have H2 := Lib.hid h2;clear hx h1 h2 hS;go_enter Tryd.func32, Tryd.ntmps32
  go_wp2_with fail;refine (codes_good _ 2 2 (fun _ => 1) _ HX.out (by decide) ⟨by decide, fun j _ => ⟨(by decide : (0 : Int) ≤ 1), (by decide : (1 : Int) ≤ 15)⟩⟩ (.inr (.inr (by decide +kernel))) _ _ H1.out H2.out).mono ?_;rintro e w2 ⟨hE, B, hB, rfl, hC⟩;have c0 : w2.cell? ⟨B, 0, none⟩ = some (.int .u32 0) := (hC 0 (by decide)).1;have c1 : w2.cell? ⟨B, 1, none⟩ = some (.int .u32 1) := (hC 1 (by decide)).1;clear hC;have HE2 := Lib.hid (HE.out.trans hE);clear hE;go_wp2_with fail;go_ret;exact ⟨rfl, HE2.out⟩
end Go.Proofs.YtdeiolagnheihaaDoor
namespace Go.Proofs.YtdeiolagnheihaaDoor
open Go.RowKit
theorem coded_any (w : World) (E : Nat → Addr) (hE : Errs w E) (v : Value) (c a n : Int) (h : ErrV w E v c a) : Calls Tryd.prog 22 #[v, .int .i64 n] w fun e w' => e = .returned (.bool (decide (c = n ∧ a = -1))) ∧ Ext w w' := by
  by_cases hc : c = n
  · subst hc;go_enter Tryd.func22, Tryd.ntmps22
    go_wp2_with fail;refine (code_any _ E hE _ _ _ h).mono ?_;rintro e w2 ⟨rfl, h2⟩;go_wp2_with fail;go_ret;exact ⟨ret_bool (by rw [Bool.eq_iff_iff]; simp), h2⟩
  · have t1 : (c == n) = false := beq_eq_false_iff_ne.2 hc;go_enter Tryd.func22, Tryd.ntmps22
    go_wp2_with fail;refine (code_any _ E hE _ _ _ h).mono ?_;rintro e w2 ⟨rfl, h2⟩;go_wp2_with fail;go_ret;exact ⟨ret_bool (by rw [Bool.eq_iff_iff]; simp [hc]), h2⟩
end Go.Proofs.YtdeiolagnheihaaDoor
namespace Go.Proofs.YtdeiolagnheihaaDoor
open Go.RowKit
theorem kraft_snoc (f : Nat → Int) (i : Nat) (k : Nat) (hk : f i = k) : ∀ n, n ≤ 15 → kraft f (i + 1) n = kraft f i n + (if 1 ≤ k ∧ k ≤ n then 2 ^ (15 - k) else 0) := by
 intro n;induction n with
 | zero => intro _; simp [kraft]; omega
 | succ n ih =>
  intro h;have e := ih (by omega);simp only [kraft];rw [e];by_cases hkn : k = n + 1
  ·subst hkn;rw [many_at f (n + 1) i hk, if_neg (by omega), if_pos (by omega), Nat.add_mul, Nat.one_mul, show 15 - (n + 1) = 14 - n by omega]; omega
  ·rw [many_not f (n + 1) i (by rw [hk]; omega)];by_cases h1 : 1 ≤ k ∧ k ≤ n
   ·rw [if_pos h1, if_pos (by omega)]; omega
   ·rw [if_neg h1, if_neg (by omega)]; omega
noncomputable def vcode (f : Nat → Int) (len : Nat) : Int :=
 open Classical in if inBounds f len then if complete f len then 0 else 3 else 2
theorem kraft_len (f : Nat → Int) (i : Nat) (h : i ≤ 300) : kraft f i 15 ≤ 73728000 := kraft_bound f i 15 h (by decide)
set_option maxHeartbeats 4000000 in
theorem validCode_any (x : Option Addr) (len cap : Nat) (f : Nat → Int) (w : World) (hx : Ints w x len f) (hl : len ≤ maxLen) :
  Calls Tryd.prog 36 #[.slice x len cap] w fun e w' => e = .returned (.int .i64 (vcode f len)) ∧ w = w' := by
 unfold maxLen at hl;have HX := Lib.hid hx;clear hx;by_cases h300 : 300 < len
 ·have hv : vcode f len = 2 := by unfold vcode; rw [if_neg (by intro h; have := h.1; omega)]
  rw [hv];go_enter Tryd.func36, Tryd.ntmps36
  go_wp2_with fail;go_ret;exact ⟨rfl, rfl⟩
 ·go_enter Tryd.func36, Tryd.ntmps36
  go_wp2_with fail;go_loop [3, 4, 5, 6] (fun u v o c => ∃ i : Nat, i ≤ len ∧ c = .int .i64 i ∧ u = .int .i64 (kraft f i 15 : Int) ∧ v = .int .i64 ((i - many f 0 i : Nat) : Int) ∧ o = .int .i64 (many f 1 i : Int) ∧ Hid (∀ j, j < i → 0 ≤ f j ∧ f j ≤ 15)) (fun _ _ _ c => len - (intOf c).toNat)
  case atStart => exact ⟨0, by omega, rfl, rfl, rfl, rfl, Lib.hid fun j hj => by omega⟩
  case round =>
   obtain ⟨i, hi, rfl, rfl, rfl, rfl, HF⟩ := hrel;by_cases hlt : i < len
   ·obtain ⟨a, rfl⟩ : ∃ a, x = some a := by
     cases x with
     | none => have := HX.out.1 rfl; omega
     | some a => exact ⟨a, rfl⟩
    obtain ⟨hc, h1, h2⟩ := HX.out.2 a rfl i hlt;by_cases hbad : f i < 0 ∨ 15 < f i
    ·have HV : Hid (vcode f len = 2) := Lib.hid (by unfold vcode; rw [if_neg (by intro h; have := h.2 i hlt; omega)]);rcases hbad with q | q;all_goals
      go_wp2_with fail;go_ret;exact ⟨by rw [HV.out]; rfl, rfl⟩
    ·obtain ⟨k, hk⟩ : ∃ k : Nat, f i = k := ⟨(f i).toNat, by omega⟩;have hk15 : k ≤ 15 := by omega
     have HFN : Hid (∀ j, j < i + 1 → 0 ≤ f j ∧ f j ≤ 15) := Lib.hid (fun j hj => by
      rcases Nat.lt_succ_iff_lt_or_eq.1 hj with q | rfl
      ·exact HF.out j q
      ·omega)
     have HKS := Lib.hid (kraft_snoc f i k hk 15 (by omega));have hkl := kraft_len f i (by omega);have hm0 := many_le f 0 i;have hm1 := many_le f 1 i;rw [hk] at hc h1 h2;have HK := Lib.hid hk;clear hk hbad;by_cases h0 : k = 0
     ·subst h0;have HM0 := Lib.hid (many_at f 0 i HK.out);have HM1 := Lib.hid (many_not f 1 i (by rw [HK.out]; decide));go_wp2_with fail;go_round
      case rel => exact ⟨i + 1, by omega, by go_num, by rw [HKS.out]; rfl, by rw [HM0.out]; exact val_int (by omega), by rw [HM1.out], HFN⟩
      case measure => simp [intOf]; omega
     ·have HM0 := Lib.hid (many_not f 0 i (by rw [HK.out]; omega));obtain ⟨d, hd⟩ : ∃ d, 15 - k = d := ⟨_, rfl⟩;have hd2 : (15 : Int) - (k : Int) = (d : Int) := by omega
      have hd15 : d ≤ 14 := by omega
      have hp2 : 2 ^ d ≤ 16384 := Nat.pow_le_pow_right (n := 2) (by decide) hd15;have HKS2 : Hid (kraft f (i + 1) 15 = kraft f i 15 + 2 ^ d) := Lib.hid (by rw [HKS.out, if_pos (by omega), hd]);have HD := Lib.hid hd;have hq1 : (2 : Int) ^ d ≤ 16384 := by rw [show (2 : Int) ^ d = ((2 ^ d : Nat) : Int) by simp]; omega
      have hq2 : (0 : Int) ≤ (2 : Int) ^ d := by rw [show (2 : Int) ^ d = ((2 ^ d : Nat) : Int) by simp]; exact Int.natCast_nonneg _
      have t0 : ((k : Int) == 0) = false := beq_eq_false_iff_ne.2 (by omega);clear hd;by_cases hk1 : k = 1
      ·have t1 : ((k : Int) == 1) = true := beq_iff_eq.2 (by omega);have HM1 := Lib.hid (many_at f 1 i (by rw [HK.out, hk1]));clear hk1;go_wp2_with fail;go_round
       case rel => exact ⟨i + 1, by omega, by go_num, by rw [HKS2.out]; exact val_int (by simp), by rw [HM0.out]; exact val_int (by omega), by rw [HM1.out]; go_num, HFN⟩
       case measure => simp [intOf]; omega
      ·have t1 : ((k : Int) == 1) = false := beq_eq_false_iff_ne.2 (by omega);have HM1 := Lib.hid (many_not f 1 i (by rw [HK.out]; omega));go_wp2_with fail;go_round
       case rel => exact ⟨i + 1, by omega, by go_num, by rw [HKS2.out]; exact val_int (by simp), by rw [HM0.out]; exact val_int (by omega), by rw [HM1.out], HFN⟩
       case measure => simp [intOf]; omega
   ·obtain rfl : i = len := by omega
    have hin : inBounds f i := ⟨by omega, HF.out⟩;have hm0 := many_le f 0 i;have hC : complete f i ↔ (i - many f 0 i = 0 ∨ (i - many f 0 i = 1 ∧ many f 1 i = 1) ∨ kraft f i 15 = 32768) := by
     unfold complete;constructor
     ·rintro (h | ⟨h, h'⟩ | h)
      ·left; omega
      ·right; left; exact ⟨by omega, h'⟩
      ·right; right; exact h
     ·rintro (h | ⟨h, h'⟩ | h)
      ·left; omega
      ·right; left; exact ⟨by omega, h'⟩
      ·right; right; exact h
    have hkl := kraft_len f i (by omega);have hv1 : complete f i → vcode f i = 0 := fun h => by unfold vcode; rw [if_pos hin, if_pos h]
    have hv2 : ¬ complete f i → vcode f i = 3 := fun h => by unfold vcode; rw [if_pos hin, if_neg h]
    rw [hC] at hv1 hv2;have HV1 := Lib.hid hv1;have HV2 := Lib.hid hv2;clear hv1 hv2 hC hin
    have ho := many_le f 1 i;generalize i - many f 0 i = s at *;generalize many f 1 i = o at *;generalize kraft f i 15 = K at *;by_cases h0 : s = 0
    ·have HV := Lib.hid (HV1.out (.inl h0));have t0 : ((s : Int) == 0) = true := beq_iff_eq.2 (by omega);clear h0;go_wp2_with fail;go_ret;exact ⟨by rw [HV.out]; rfl, rfl⟩
    ·have t0 : ((s : Int) == 0) = false := beq_eq_false_iff_ne.2 (by omega);by_cases h1 : s = 1 ∧ o = 1
     ·have HV := Lib.hid (HV1.out (.inr (.inl h1)));have t1 : ((s : Int) == 1) = true := beq_iff_eq.2 (by omega);have t2 : ((o : Int) == 1) = true := beq_iff_eq.2 (by omega);clear h0 h1;go_wp2_with fail;go_ret;exact ⟨by rw [HV.out]; rfl, rfl⟩
     ·by_cases hK : K = 32768
      ·have HV := Lib.hid (HV1.out (.inr (.inr hK)));have t3 : ((K : Int) == 32768) = true := beq_iff_eq.2 (by omega);by_cases hs1 : s = 1
       ·have t1 : ((s : Int) == 1) = true := beq_iff_eq.2 (by omega);have t2 : ((o : Int) == 1) = false := beq_eq_false_iff_ne.2 (by omega);clear h0 h1 hK hs1;go_wp2_with fail;go_ret;exact ⟨by rw [HV.out]; rfl, rfl⟩
       ·have t1 : ((s : Int) == 1) = false := beq_eq_false_iff_ne.2 (by omega);clear h0 h1 hK hs1;go_wp2_with fail;go_ret;exact ⟨by rw [HV.out]; rfl, rfl⟩
      ·have HV := Lib.hid (HV2.out (fun q => by rcases q with q | q | q; exact h0 q; exact h1 q; exact hK q));have t3 : ((K : Int) == 32768) = false := beq_eq_false_iff_ne.2 (by omega);by_cases hs1 : s = 1
       ·have t1 : ((s : Int) == 1) = true := beq_iff_eq.2 (by omega);have t2 : ((o : Int) == 1) = false := beq_eq_false_iff_ne.2 (by omega);clear h0 h1 hK hs1;go_wp2_with fail;go_ret;exact ⟨by rw [HV.out]; rfl, rfl⟩
       ·have t1 : ((s : Int) == 1) = false := beq_eq_false_iff_ne.2 (by omega);clear h0 h1 hK hs1;go_wp2_with fail;go_ret;exact ⟨by rw [HV.out]; rfl, rfl⟩
end Go.Proofs.YtdeiolagnheihaaDoor
