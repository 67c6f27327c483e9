/- errors.As at a target of type **api.Fault: of nil, of a sentinel, of an api.Fault. The library's own text is walked. -/
import Derived.Test.YtdeiolagnheihaaDoorIs
namespace Go.Proofs.YtdeiolagnheihaaDoor
open Go.RowKit Go.Extern.Stop Go.Stop Go.Extern
set_option maxRecDepth 100000
theorem as_nil (t : Value) (w : World) :
    Calls Tryd.prog 71 #[.nilIface, t] w fun e w' => e = .returned (.bool false) ∧ w = w' := by
  go_enter Tryd.func71, Tryd.ntmps71
  go_wp2
  go_ret
  exact ⟨rfl, rfl⟩
theorem valueOfPP (t : Addr) (w : World) : (ReflectliteValue.unpack (.iface 127 (.pointer (some t)))).run Tryd.prog w
    = .ok (.agg #[hdl 127, .pointer (some ⟨w.heap.size, 0, none⟩), .int .u64 150]) (w.alloc (.cells #[.pointer (some t)] 127)) := by kernel_rfl
theorem typePP (a : Addr) (w : World) : (ReflectliteValue.methodAny (ReflectliteValue.valueError "reflectlite.Value.Type" 0) (fun t _ _ _ => ReflectliteType.toType t) #[.agg #[hdl 127, .pointer (some a), .int .u64 150]]).run Tryd.prog w
    = .ok (.iface 166 (.agg #[hdl 127])) w := by kernel_rfl
theorem methodKind (n : Nat) (h : Value) (w : World) : (Go.method (n + 1) 166 (.agg #[h]) "Kind").run Tryd.prog w = .ok (110, h) w := by kernel_rfl
theorem methodElem (n : Nat) (h : Value) (w : World) : (Go.method (n + 1) 166 (.agg #[h]) "Elem").run Tryd.prog w = .ok (123, .agg #[h]) w := by kernel_rfl
theorem methodImplements (n : Nat) (h : Value) (w : World) : (Go.method (n + 1) 166 (.agg #[h]) "Implements").run Tryd.prog w = .ok (124, .agg #[h]) w := by kernel_rfl
theorem methodAssignableTo (n : Nat) (h : Value) (w : World) : (Go.method (n + 1) 166 (.agg #[h]) "AssignableTo").run Tryd.prog w = .ok (121, .agg #[h]) w := by kernel_rfl
theorem kindPP (w : World) : ((ReflectliteType.abiMethod fun t => do pure (.int .u8 (← Rtype.kind t))) #[hdl 127]).run Tryd.prog w = .ok (.int .u8 22) w := by kernel_rfl
theorem kindP (w : World) : ((ReflectliteType.abiMethod fun t => do pure (.int .u8 (← Rtype.kind t))) #[hdl 68]).run Tryd.prog w = .ok (.int .u8 22) w := by kernel_rfl
theorem elemPP (w : World) : (ReflectliteType.method ReflectliteType.elem #[.agg #[hdl 127]]).run Tryd.prog w = .ok (.iface 166 (.agg #[hdl 68])) w := by kernel_rfl
theorem implP (w : World) : (ReflectliteType.relation "Implements" ReflectliteType.implements_ #[.agg #[hdl 68], .iface 166 (.agg #[hdl 25])]).run Tryd.prog w = .ok (.bool true) w := by kernel_rfl
theorem typeOfP (v : Value) (w : World) : (ReflectliteType.typeOf #[.iface 68 v]).run Tryd.prog w = .ok (.iface 166 (.agg #[hdl 68])) w := by kernel_rfl
theorem assignP (w : World) : (ReflectliteType.relation "AssignableTo" ReflectliteType.assignableTo #[.agg #[hdl 68], .iface 166 (.agg #[hdl 68])]).run Tryd.prog w = .ok (.bool true) w := by kernel_rfl
theorem assignE (w : World) : (ReflectliteType.relation "AssignableTo" ReflectliteType.assignableTo #[.agg #[hdl 180], .iface 166 (.agg #[hdl 68])]).run Tryd.prog w = .ok (.bool false) w := by kernel_rfl
theorem valueOfP (e : Addr) (w : World) : (ReflectliteValue.unpack (.iface 68 (.pointer (some e)))).run Tryd.prog w
    = .ok (.agg #[hdl 68, .pointer (some ⟨w.heap.size, 0, none⟩), .int .u64 150]) (w.alloc (.cells #[.pointer (some e)] 68)) := by kernel_rfl
theorem rlm (z : Sem Value) (f : TypeId → Addr → Nat → Nat → Sem Value) (v : Value) :
    ReflectliteValue.method z f #[v] = (do match ← ReflectliteValue.parts v with | none => z | some (t, a, fl) => f t a fl (fl % 32)) := rfl
theorem partsPP (a : Addr) (w : World) : (ReflectliteValue.parts (.agg #[hdl 127, .pointer (some a), .int .u64 150])).run Tryd.prog w = .ok (some (127, a, 150)) w := by kernel_rfl
theorem isNilPP (a p : Addr) (W : World) (ha : W.cell? a = some (.pointer (some p))) :
    (ReflectliteValue.method (ReflectliteValue.valueError "reflectlite.Value.IsNil" 0) ReflectliteValue.isNil #[.agg #[hdl 127, .pointer (some a), .int .u64 150]]).run Tryd.prog W = .ok (.bool false) W := by
  rw [rlm]
  simp only [Sem.run_bind, partsPP, Result.andThen]
  simp [ReflectliteValue.isNil, loadVar, isAgg, underlying, Tryd.underlying127, ha, Result.andThen]
theorem elemOfPP (w : World) : (Rtype.elem? 127).run Tryd.prog w = .ok (some 68) w := by kernel_rfl
theorem mkP (p : Addr) (w : World) : (ReflectliteValue.mk 68 p ReflectliteValue.flagAddr).run Tryd.prog w = .ok (.agg #[hdl 68, .pointer (some p), .int .u64 406]) w := by kernel_rfl
theorem elemVPP (a p : Addr) (W : World) (ha : W.cell? a = some (.pointer (some p))) :
    (ReflectliteValue.method (ReflectliteValue.valueError "reflectlite.Value.Elem" 0) ReflectliteValue.elem #[.agg #[hdl 127, .pointer (some a), .int .u64 150]]).run Tryd.prog W
      = .ok (.agg #[hdl 68, .pointer (some p), .int .u64 406]) W := by
  rw [rlm]
  simp only [Sem.run_bind, partsPP, Result.andThen]
  simp [ReflectliteValue.elem, loadVar, isAgg, underlying, Tryd.underlying127, ha, Result.andThen, elemOfPP, mkP]
theorem rls (v x : Value) : ReflectliteValue.set #[v, x] = (do
    let (some (dst, a, fl), some (src, b, _)) := (← ReflectliteValue.parts v, ← ReflectliteValue.parts x)
      | unsupported (.noEntry "extern/(internal/reflectlite.Value).Set.zeroValue")
    if fl / ReflectliteValue.flagAddr % 2 == 0 then unsupported (.noEntry "extern/(internal/reflectlite.Value).Set.unaddressable")
    let val ← loadVar src b
    if ← Rtype.directlyAssignable dst src then storeVar dst a val
    else if ← Rtype.implements dst src then
      if (← Rtype.kind src) == 20 then
        match val with
        | .nilIface => unsupported (.noEntry "extern/reflectlite: a nil value of one interface type handed on as a value of another")
        | _ => storeVar dst a val
      else storeVar dst a (.iface src val)
    else panicString ("reflectlite.Set: value of type " ++ (← Rtype.spelt src) ++ " is not assignable to type " ++ (← Rtype.spelt dst))
    pure (.tuple #[])) := rfl
theorem partsPa (a : Addr) (w : World) : (ReflectliteValue.parts (.agg #[hdl 68, .pointer (some a), .int .u64 406])).run Tryd.prog w = .ok (some (68, a, 406)) w := by kernel_rfl
theorem partsP (a : Addr) (w : World) : (ReflectliteValue.parts (.agg #[hdl 68, .pointer (some a), .int .u64 150])).run Tryd.prog w = .ok (some (68, a, 150)) w := by kernel_rfl
theorem directP (w : World) : (Rtype.directlyAssignable 68 68).run Tryd.prog w = .ok true w := by kernel_rfl
theorem setP (ta b e : Addr) (old : Value) (W : World) (hb : W.cell? b = some (.pointer (some e))) (ht : W.cell? ta = some old) (hf : W.frozen? ta = false) :
    (ReflectliteValue.set #[.agg #[hdl 68, .pointer (some ta), .int .u64 406], .agg #[hdl 68, .pointer (some b), .int .u64 150]]).run Tryd.prog W
      = .ok (.tuple #[]) (W.setCell ta (.pointer (some e))) := by
  rw [rls]
  simp only [Sem.run_bind, partsPa, partsP, Result.andThen]
  simp [ReflectliteValue.flagAddr, loadVar, isAgg, underlying, Tryd.underlying68, hb, Result.andThen, directP, storeVar, Value.cells, storeCells, Addr.add]
  rw [run_store Tryd.prog W ta _ _ (by rfl)]
  simp [ht, hf]
theorem noAsE (v : Value) (xT : TypeId) (w : World) : (Instr.typeAssert (.iface 180 v) xT 170 true).run Tryd.prog w = .ok (.tuple #[.nilIface, .bool false]) w := run_typeAssert_lacksB Tryd.underlying170 (by kernel_rfl) (by kernel_rfl) v xT w
theorem call_valueOf (x : Value) (v : Value) (w w' : World) (h : (ReflectliteValue.unpack x).run Tryd.prog w = .ok v w') : (callFunc 82 #[x]).run Tryd.prog w = .ok (.value v) w' := by
  rw [@run_callFunc_extern Tryd.prog 82 _ (fun args => ReflectliteValue.unpack (args.getD 0 (.tuple #[]))) Tryd.func82 (by kernel_rfl) (by kernel_rfl) (by kernel_rfl) (by kernel_rfl)]
  show ((ReflectliteValue.unpack x).run Tryd.prog w).andThen _ = _
  rw [h]; rfl
theorem call_type (x : Value) (v : Value) (w w' : World) (h : (ReflectliteValue.methodAny (ReflectliteValue.valueError "reflectlite.Value.Type" 0) (fun t _ _ _ => ReflectliteType.toType t) #[x]).run Tryd.prog w = .ok v w') : (callFunc 83 #[x]).run Tryd.prog w = .ok (.value v) w' := by
  rw [@run_callFunc_extern Tryd.prog 83 _ (ReflectliteValue.methodAny (ReflectliteValue.valueError "reflectlite.Value.Type" 0) (fun t _ _ _ => ReflectliteType.toType t)) Tryd.func83 (by kernel_rfl) (by kernel_rfl) (by kernel_rfl) (by kernel_rfl), h]; rfl
theorem call_isNil (x : Value) (v : Value) (w w' : World) (h : (ReflectliteValue.method (ReflectliteValue.valueError "reflectlite.Value.IsNil" 0) ReflectliteValue.isNil #[x]).run Tryd.prog w = .ok v w') : (callFunc 84 #[x]).run Tryd.prog w = .ok (.value v) w' := by
  rw [@run_callFunc_extern Tryd.prog 84 _ (ReflectliteValue.method (ReflectliteValue.valueError "reflectlite.Value.IsNil" 0) ReflectliteValue.isNil) Tryd.func84 (by kernel_rfl) (by kernel_rfl) (by kernel_rfl) (by kernel_rfl), h]; rfl
theorem call_velem (x : Value) (v : Value) (w w' : World) (h : (ReflectliteValue.method (ReflectliteValue.valueError "reflectlite.Value.Elem" 0) ReflectliteValue.elem #[x]).run Tryd.prog w = .ok v w') : (callFunc 92 #[x]).run Tryd.prog w = .ok (.value v) w' := by
  rw [@run_callFunc_extern Tryd.prog 92 _ (ReflectliteValue.method (ReflectliteValue.valueError "reflectlite.Value.Elem" 0) ReflectliteValue.elem) Tryd.func92 (by kernel_rfl) (by kernel_rfl) (by kernel_rfl) (by kernel_rfl), h]; rfl
theorem call_set (x y : Value) (v : Value) (w w' : World) (h : (ReflectliteValue.set #[x, y]).run Tryd.prog w = .ok v w') : (callFunc 93 #[x, y]).run Tryd.prog w = .ok (.value v) w' := by
  rw [@run_callFunc_extern Tryd.prog 93 _ ReflectliteValue.set Tryd.func93 (by kernel_rfl) (by kernel_rfl) (by kernel_rfl) (by kernel_rfl), h]; rfl
theorem call_kind (x : Value) (v : Value) (w w' : World) (h : ((ReflectliteType.abiMethod fun t => do pure (.int .u8 (← Rtype.kind t))) #[x]).run Tryd.prog w = .ok v w') : (callFunc 110 #[x]).run Tryd.prog w = .ok (.value v) w' := by
  rw [@run_callFunc_extern Tryd.prog 110 _ (ReflectliteType.abiMethod fun t => do pure (.int .u8 (← Rtype.kind t))) Tryd.func110 (by kernel_rfl) (by kernel_rfl) (by kernel_rfl) (by kernel_rfl), h]; rfl
theorem call_elem (x : Value) (v : Value) (w w' : World) (h : (ReflectliteType.method ReflectliteType.elem #[x]).run Tryd.prog w = .ok v w') : (callFunc 123 #[x]).run Tryd.prog w = .ok (.value v) w' := by
  rw [@run_callFunc_extern Tryd.prog 123 _ (ReflectliteType.method ReflectliteType.elem) Tryd.func123 (by kernel_rfl) (by kernel_rfl) (by kernel_rfl) (by kernel_rfl), h]; rfl
theorem call_impl (x y : Value) (v : Value) (w w' : World) (h : (ReflectliteType.relation "Implements" ReflectliteType.implements_ #[x, y]).run Tryd.prog w = .ok v w') : (callFunc 124 #[x, y]).run Tryd.prog w = .ok (.value v) w' := by
  rw [@run_callFunc_extern Tryd.prog 124 _ (ReflectliteType.relation "Implements" ReflectliteType.implements_) Tryd.func124 (by kernel_rfl) (by kernel_rfl) (by kernel_rfl) (by kernel_rfl), h]; rfl
theorem call_assign (x y : Value) (v : Value) (w w' : World) (h : (ReflectliteType.relation "AssignableTo" ReflectliteType.assignableTo #[x, y]).run Tryd.prog w = .ok v w') : (callFunc 121 #[x, y]).run Tryd.prog w = .ok (.value v) w' := by
  rw [@run_callFunc_extern Tryd.prog 121 _ (ReflectliteType.relation "AssignableTo" ReflectliteType.assignableTo) Tryd.func121 (by kernel_rfl) (by kernel_rfl) (by kernel_rfl) (by kernel_rfl), h]; rfl
theorem call_typeOf (x : Value) (v : Value) (w w' : World) (h : (ReflectliteType.typeOf #[x]).run Tryd.prog w = .ok v w') : (callFunc 86 #[x]).run Tryd.prog w = .ok (.value v) w' := by
  rw [@run_callFunc_extern Tryd.prog 86 _ ReflectliteType.typeOf Tryd.func86 (by kernel_rfl) (by kernel_rfl) (by kernel_rfl) (by kernel_rfl), h]; rfl
/-- the variable of package errors that holds the type error -/
def ErrType (w : World) : Prop := w.cell? ⟨9, 0, none⟩ = some (.iface 166 (.agg #[hdl 25]))
set_option maxHeartbeats 4000000 in
theorem as_hit (e t : Addr) (old : Value) (w : World) (hg : ErrType w) (ht0 : w.cell? t = some old) (hf0 : w.frozen? t = false) :
    Calls Tryd.prog 71 #[.iface 68 (.pointer (some e)), .iface 127 (.pointer (some t))] w fun ev w' => ev = .returned (.bool true) ∧ Keeps (fun k => k = t.block) w w' ∧ w'.cell? t = some (.pointer (some e)) ∧ w'.frozen? t = false := by
  unfold ErrType at hg
  have hlt : 9 < w.heap.size := World.block_lt_of_cell? w _ hg
  have htl : t.block < w.heap.size := World.block_lt_of_cell? w _ ht0
  have f6 := fun (t : Addr) w => call_valueOf _ _ _ _ (valueOfPP t w)
  have f7 := fun (a : Addr) w => call_type _ _ _ _ (typePP a w)
  have k27 := fun w => call_kind _ _ _ _ (kindPP w)
  have k25 := fun w => call_kind _ _ _ _ (kindP w)
  have e27 := fun w => call_elem _ _ _ _ (elemPP w)
  have i25 := fun w => call_impl _ _ _ _ _ (implP w)
  have tO := fun v w => call_typeOf _ _ _ _ (typeOfP v w)
  have a25 := fun w => call_assign _ _ _ _ _ (assignP w)
  have v25 := fun e w => call_valueOf _ _ _ _ (valueOfP e w)
  have mK := methodKind
  have mE := methodElem
  have mI := methodImplements
  have mA := methodAssignableTo
  have n8 := call_isNil _ _ _ _ (isNilPP ⟨w.heap.size, 0, none⟩ t ((w.alloc (.cells #[.pointer (some t)] 127)).alloc (.cells #[hdl 127, .pointer (some ⟨w.heap.size, 0, none⟩), .int .u64 150] 151)) (by simp))
  have hg2 : ((w.alloc (.cells #[.pointer (some t)] 127)).alloc (.cells #[hdl 127, .pointer (some ⟨w.heap.size, 0, none⟩), .int .u64 150] 151)).cell? ⟨9, 0, none⟩ = some (.iface 166 (.agg #[hdl 25])) := by
    rw [World.cell?_alloc_lt _ _ ⟨9, 0, none⟩ (by simp; omega), World.cell?_alloc_lt _ _ ⟨9, 0, none⟩ hlt]; exact hg
  have el := call_velem _ _ _ _ (elemVPP ⟨w.heap.size, 0, none⟩ t (((w.alloc (.cells #[.pointer (some t)] 127)).alloc (.cells #[hdl 127, .pointer (some ⟨w.heap.size, 0, none⟩), .int .u64 150] 151)).alloc (.cells #[hdl 127, .pointer (some ⟨w.heap.size, 0, none⟩), .int .u64 150] 151)) (by rw [World.cell?_alloc_lt _ _ ⟨w.heap.size, 0, none⟩ (by simp; omega)]; simp))
  have c1 : ((((w.alloc (.cells #[.pointer (some t)] 127)).alloc (.cells #[hdl 127, .pointer (some ⟨w.heap.size, 0, none⟩), .int .u64 150] 151)).alloc (.cells #[hdl 127, .pointer (some ⟨w.heap.size, 0, none⟩), .int .u64 150] 151)).alloc (.cells #[.pointer (some e)] 68)).cell? t = some old := by rw [World.cell?_alloc_lt _ _ t (by simp; omega), World.cell?_alloc_lt _ _ t (by simp; omega), World.cell?_alloc_lt _ _ t (by simp; omega), World.cell?_alloc_lt _ _ t htl]; exact ht0
  have c2 : ((((w.alloc (.cells #[.pointer (some t)] 127)).alloc (.cells #[hdl 127, .pointer (some ⟨w.heap.size, 0, none⟩), .int .u64 150] 151)).alloc (.cells #[hdl 127, .pointer (some ⟨w.heap.size, 0, none⟩), .int .u64 150] 151)).alloc (.cells #[.pointer (some e)] 68)).frozen? t = false := by rw [World.frozen?_alloc_old _ _ t (by simp; omega), World.frozen?_alloc_old _ _ t (by simp; omega), World.frozen?_alloc_old _ _ t (by simp; omega), World.frozen?_alloc_old _ _ t (Nat.ne_of_lt htl)]; exact hf0
  have st := call_set _ _ _ _ _ (setP t ⟨w.heap.size + 1 + 1 + 1, 0, none⟩ e old ((((w.alloc (.cells #[.pointer (some t)] 127)).alloc (.cells #[hdl 127, .pointer (some ⟨w.heap.size, 0, none⟩), .int .u64 150] 151)).alloc (.cells #[hdl 127, .pointer (some ⟨w.heap.size, 0, none⟩), .int .u64 150] 151)).alloc (.cells #[.pointer (some e)] 68))
    (by rw [World.cell?_alloc_at _ _ _ _ (by simp)]; rfl) c1 c2)
  have fin : Keeps (fun k => k = t.block) w (((((w.alloc (.cells #[.pointer (some t)] 127)).alloc (.cells #[hdl 127, .pointer (some ⟨w.heap.size, 0, none⟩), .int .u64 150] 151)).alloc (.cells #[hdl 127, .pointer (some ⟨w.heap.size, 0, none⟩), .int .u64 150] 151)).alloc (.cells #[.pointer (some e)] 68)).setCell t (.pointer (some e))) :=
    (((((Keeps.refl (fun k => k = t.block) w).alloc _).alloc _).alloc _).alloc _).setCell (.inl rfl) _
  have C1 : (((((w.alloc (.cells #[.pointer (some t)] 127)).alloc (.cells #[hdl 127, .pointer (some ⟨w.heap.size, 0, none⟩), .int .u64 150] 151)).alloc (.cells #[hdl 127, .pointer (some ⟨w.heap.size, 0, none⟩), .int .u64 150] 151)).alloc (.cells #[.pointer (some e)] 68)).setCell t (.pointer (some e))).cell? t = some (.pointer (some e)) := World.cell?_setCell_same _ _ _ c1
  have C2 : (((((w.alloc (.cells #[.pointer (some t)] 127)).alloc (.cells #[hdl 127, .pointer (some ⟨w.heap.size, 0, none⟩), .int .u64 150] 151)).alloc (.cells #[hdl 127, .pointer (some ⟨w.heap.size, 0, none⟩), .int .u64 150] 151)).alloc (.cells #[.pointer (some e)] 68)).setCell t (.pointer (some e))).frozen? t = false := by rw [World.frozen?_setCell]; exact c2
  have HF := Lib.hid fin
  have H1 := Lib.hid C1
  have H2 := Lib.hid C2
  clear fin C1 C2 c1 c2
  go_enter Tryd.func71, Tryd.ntmps71
  go_wp2
  refine wp_loop_rounds 1 ?_
  rw [rounds_succ]
  go_wp2
  go_ret
  exact ⟨rfl, HF.out, H1.out, H2.out⟩
set_option maxHeartbeats 4000000 in
theorem as_miss (e t : Addr) (w : World) (hg : ErrType w) :
    Calls Tryd.prog 71 #[.iface 180 (.pointer (some e)), .iface 127 (.pointer (some t))] w fun ev w' => ev = .returned (.bool false) ∧ Ext w w' := by
  unfold ErrType at hg
  have hlt : 9 < w.heap.size := World.block_lt_of_cell? w _ hg
  have f6 := fun (t : Addr) w => call_valueOf _ _ _ _ (valueOfPP t w)
  have f7 := fun (a : Addr) w => call_type _ _ _ _ (typePP a w)
  have k27 := fun w => call_kind _ _ _ _ (kindPP w)
  have k25 := fun w => call_kind _ _ _ _ (kindP w)
  have e27 := fun w => call_elem _ _ _ _ (elemPP w)
  have i25 := fun w => call_impl _ _ _ _ _ (implP w)
  have tO := call_typeOfE
  have a25 := fun w => call_assign _ _ _ _ _ (assignE w)
  have mK := methodKind
  have mE := methodElem
  have mI := methodImplements
  have mA := methodAssignableTo
  have nA := noAsE
  have uE := noUnwrapE
  have vE := noUnwrapsE
  have n8 := call_isNil _ _ _ _ (isNilPP ⟨w.heap.size, 0, none⟩ t ((w.alloc (.cells #[.pointer (some t)] 127)).alloc (.cells #[hdl 127, .pointer (some ⟨w.heap.size, 0, none⟩), .int .u64 150] 151)) (by simp))
  have hg2 : ((w.alloc (.cells #[.pointer (some t)] 127)).alloc (.cells #[hdl 127, .pointer (some ⟨w.heap.size, 0, none⟩), .int .u64 150] 151)).cell? ⟨9, 0, none⟩ = some (.iface 166 (.agg #[hdl 25])) := by
    rw [World.cell?_alloc_lt _ _ ⟨9, 0, none⟩ (by simp; omega), World.cell?_alloc_lt _ _ ⟨9, 0, none⟩ hlt]; exact hg
  have fin : Ext w (((w.alloc (.cells #[.pointer (some t)] 127)).alloc (.cells #[hdl 127, .pointer (some ⟨w.heap.size, 0, none⟩), .int .u64 150] 151)).alloc (.cells #[hdl 127, .pointer (some ⟨w.heap.size, 0, none⟩), .int .u64 150] 151)) :=
    (((Ext.refl w).alloc _).alloc _).alloc _
  have HF := Lib.hid fin
  clear fin
  go_enter Tryd.func71, Tryd.ntmps71
  go_wp2
  refine wp_loop_rounds 1 ?_
  rw [rounds_succ]
  go_wp2
  go_ret
  exact ⟨rfl, HF.out⟩
end Go.Proofs.YtdeiolagnheihaaDoor
