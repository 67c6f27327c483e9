/-
  errors.As at a target of type **api.Fault: of nil, of a sentinel, of an api.Fault. The library's own text is walked.
-/
import Derived.Test.YthlibiocadimhaaGreatDoorPngReadsG2
set_option linter.all false
set_option maxRecDepth 100000
namespace Go.Proofs.YthlibiocadimhaaGreatDoor
open Go.RowKit Go.Extern.Stop Go.Stop Go.Extern
theorem zgt (t:Addr) (w:World):(ReflectliteValue.unpack (.iface 118 (.pointer (some t)))).run Tryz.prog w
  =.ok (.agg #[hdl 118,.pointer (some ⟨w.heap.size,0,none⟩),.int .u64 150]) (w.alloc (.cells #[.pointer (some t)] 118)):=by kernel_rfl
theorem zlN (a : Addr) (w : World) : (ReflectliteValue.methodAny (ReflectliteValue.valueError "reflectlite.Value.Type" 0) (λ t _ _ _ => ReflectliteType.toType t) #[.agg #[hdl 118, .pointer (some a), .int .u64 150]]).run Tryz.prog w
  =.ok (.iface 204 (.agg #[hdl 118])) w:=by kernel_rfl
theorem zfH (n : Nat) (h : Value) (w : World) : (Go.method (n + 1) 204 (.agg #[h]) "Kind").run Tryz.prog w = .ok (199, h) w := by kernel_rfl
theorem zft (n : Nat) (h : Value) (w : World) : (Go.method (n + 1) 204 (.agg #[h]) "Elem").run Tryz.prog w = .ok (211, .agg #[h]) w := by kernel_rfl
theorem zcO (n : Nat) (h : Value) (w : World) : (Go.method (n + 1) 204 (.agg #[h]) "Implements").run Tryz.prog w = .ok (212, .agg #[h]) w := by kernel_rfl
theorem zcr (n : Nat) (h : Value) (w : World) : (Go.method (n + 1) 204 (.agg #[h]) "AssignableTo").run Tryz.prog w = .ok (209, .agg #[h]) w := by kernel_rfl
theorem zlR (w:World):((ReflectliteType.abiMethod λ t=>do pure (.int .u8 (<- Rtype.kind t))) #[hdl 118]).run Tryz.prog w=.ok (.int .u8 22) w:=by kernel_rfl
theorem kindP (w:World):((ReflectliteType.abiMethod λ t=>do pure (.int .u8 (<- Rtype.kind t))) #[hdl 107]).run Tryz.prog w=.ok (.int .u8 22) w:=by kernel_rfl
theorem zmI (w:World):(ReflectliteType.method ReflectliteType.elem #[.agg #[hdl 118]]).run Tryz.prog w=.ok (.iface 204 (.agg #[hdl 107])) w:=by kernel_rfl
theorem implP (w : World) : (ReflectliteType.relation "Implements" ReflectliteType.implements_ #[.agg #[hdl 107], .iface 204 (.agg #[hdl 28])]).run Tryz.prog w = .ok (.bool true) w := by kernel_rfl
theorem zpn (v:Value) (w:World):(ReflectliteType.typeOf #[.iface 107 v]).run Tryz.prog w=.ok (.iface 204 (.agg #[hdl 107])) w:=by kernel_rfl
theorem zpQ (w : World) : (ReflectliteType.relation "AssignableTo" ReflectliteType.assignableTo #[.agg #[hdl 107], .iface 204 (.agg #[hdl 107])]).run Tryz.prog w = .ok (.bool true) w := by kernel_rfl
theorem zp5 (w : World) : (ReflectliteType.relation "AssignableTo" ReflectliteType.assignableTo #[.agg #[hdl 275], .iface 204 (.agg #[hdl 107])]).run Tryz.prog w = .ok (.bool false) w := by kernel_rfl
theorem zns (e:Addr) (w:World):(ReflectliteValue.unpack (.iface 107 (.pointer (some e)))).run Tryz.prog w
  =.ok (.agg #[hdl 107,.pointer (some ⟨w.heap.size,0,none⟩),.int .u64 150]) (w.alloc (.cells #[.pointer (some e)] 107)):=by kernel_rfl
theorem rlm (z:Sem Value) (f:TypeId->Addr->Nat->Nat->Sem Value) (v:Value):
  ReflectliteValue.method z f #[v]=(do match <- ReflectliteValue.parts v with | none=>z | some (t,a,fl)=>f t a fl (fl%32)):=rfl
theorem zjw (a:Addr) (w:World):(ReflectliteValue.parts (.agg #[hdl 118,.pointer (some a),.int .u64 150])).run Tryz.prog w=.ok (some (118,a,150)) w:=by kernel_rfl
theorem zjW (a p:Addr) (W:World) (ha:W.cell? a=some (.pointer (some p))):
  (ReflectliteValue.method (ReflectliteValue.valueError "reflectlite.Value.IsNil" 0) ReflectliteValue.isNil #[.agg #[hdl 118, .pointer (some a), .int .u64 150]]).run Tryz.prog W = .ok (.bool false) W := by
 rw[rlm];simp only[qbu,zjw,Result.andThen];simp[ReflectliteValue.isNil,loadVar,isAgg,underlying,Tryz.underlying118,ha,Result.andThen]
theorem znS (w:World):(Rtype.elem? 118).run Tryz.prog w=.ok (some 107) w:=by kernel_rfl
theorem mkP (p:Addr) (w:World):(ReflectliteValue.mk 107 p ReflectliteValue.flagAddr).run Tryz.prog w=.ok (.agg #[hdl 107,.pointer (some p),.int .u64 406]) w:=by kernel_rfl
theorem zpM (a p:Addr) (W:World) (ha:W.cell? a=some (.pointer (some p))):
  (ReflectliteValue.method (ReflectliteValue.valueError "reflectlite.Value.Elem" 0) ReflectliteValue.elem #[.agg #[hdl 118, .pointer (some a), .int .u64 150]]).run Tryz.prog W
   =.ok (.agg #[hdl 107,.pointer (some p),.int .u64 406]) W:=by
 rw[rlm];simp only[qbu,zjw,Result.andThen];simp[ReflectliteValue.elem,loadVar,isAgg,underlying,Tryz.underlying118,ha,Result.andThen,znS,mkP]
theorem rls (v x:Value):ReflectliteValue.set #[v,x]=(do
  let (some (dst,a,fl),some (src,b,_)):=(<- ReflectliteValue.parts v,<- ReflectliteValue.parts x)
   | unsupported (.noEntry "extern/(internal/reflectlite.Value).Set.zeroValue")
  if fl / ReflectliteValue.flagAddr % 2 == 0 then unsupported (.noEntry "extern/(internal/reflectlite.Value).Set.unaddressable")
  let val <- loadVar src b;if <- Rtype.directlyAssignable dst src then storeVar dst a val
  else if <- Rtype.implements dst src then
   if (<- Rtype.kind src) ==20 then
    match val with
    | .nilIface => unsupported (.noEntry "extern/reflectlite: a nil value of one interface type handed on as a value of another")
    | _=>storeVar dst a val
   else storeVar dst a (.iface src val)
  else panicString ("reflectlite.Set: value of type " ++ (<- Rtype.spelt src) ++ " is not assignable to type " ++ (<- Rtype.spelt dst))
  pure (.tuple #[])):=rfl
theorem zoQ (a:Addr) (w:World):(ReflectliteValue.parts (.agg #[hdl 107,.pointer (some a),.int .u64 406])).run Tryz.prog w=.ok (some (107,a,406)) w:=by kernel_rfl
theorem zqV (a:Addr) (w:World):(ReflectliteValue.parts (.agg #[hdl 107,.pointer (some a),.int .u64 150])).run Tryz.prog w=.ok (some (107,a,150)) w:=by kernel_rfl
theorem zpC (w:World):(Rtype.directlyAssignable 107 107).run Tryz.prog w=.ok true w:=by kernel_rfl
theorem setP (ta b e:Addr) (old:Value) (W:World) (hb:W.cell? b=some (.pointer (some e))) (ht:W.cell? ta=some old) (hf:W.frozen? ta=false):
  (ReflectliteValue.set #[.agg #[hdl 107,.pointer (some ta),.int .u64 406],.agg #[hdl 107,.pointer (some b),.int .u64 150]]).run Tryz.prog W
   =.ok (.tuple #[]) (W.setCell ta (.pointer (some e))):=by
 rw[rls];simp only[qbu,zoQ,zqV,Result.andThen];simp[ReflectliteValue.flagAddr,loadVar,isAgg,underlying,Tryz.underlying107,hb,Result.andThen,zpC,storeVar,Value.cells,storeCells,Addr.add];rw[run_store Tryz.prog W ta _ _ (by rfl)];simp[ht,hf]
theorem noAsE (v:Value) (xT:TypeId) (w:World):(Instr.typeAssert (.iface 275 v) xT 208 true).run Tryz.prog w=.ok (.tuple #[.nilIface,.bool false]) w:=run_typeAssert_lacksB Tryz.underlying208 (by kernel_rfl) (by kernel_rfl) v xT w
theorem zcQ (x:Value) (v:Value) (w w':World) (h:(ReflectliteValue.unpack x).run Tryz.prog w=.ok v w'):(callFunc 98 #[x]).run Tryz.prog w=.ok (.value v) w':=by
 rw[@qbo Tryz.prog 98 _ (λ args=>ReflectliteValue.unpack (args.getD 0 (.tuple #[]))) Tryz.func98 (by kernel_rfl) (by kernel_rfl) (by kernel_rfl) (by kernel_rfl)];show ((ReflectliteValue.unpack x).run Tryz.prog w).andThen _=_;rw[h];rfl
theorem zgG (x : Value) (v : Value) (w w' : World) (h : (ReflectliteValue.methodAny (ReflectliteValue.valueError "reflectlite.Value.Type" 0) (λ t _ _ _ => ReflectliteType.toType t) #[x]).run Tryz.prog w = .ok v w') : (callFunc 99 #[x]).run Tryz.prog w = .ok (.value v) w' := by
 rw [@qbo Tryz.prog 99 _ (ReflectliteValue.methodAny (ReflectliteValue.valueError "reflectlite.Value.Type" 0) (λ t _ _ _ => ReflectliteType.toType t)) Tryz.func99 (by kernel_rfl) (by kernel_rfl) (by kernel_rfl) (by kernel_rfl), h]; rfl
theorem zfA (x : Value) (v : Value) (w w' : World) (h : (ReflectliteValue.method (ReflectliteValue.valueError "reflectlite.Value.IsNil" 0) ReflectliteValue.isNil #[x]).run Tryz.prog w = .ok v w') : (callFunc 100 #[x]).run Tryz.prog w = .ok (.value v) w' := by
 rw [@qbo Tryz.prog 100 _ (ReflectliteValue.method (ReflectliteValue.valueError "reflectlite.Value.IsNil" 0) ReflectliteValue.isNil) Tryz.func100 (by kernel_rfl) (by kernel_rfl) (by kernel_rfl) (by kernel_rfl), h]; rfl
theorem zkQ (x : Value) (v : Value) (w w' : World) (h : (ReflectliteValue.method (ReflectliteValue.valueError "reflectlite.Value.Elem" 0) ReflectliteValue.elem #[x]).run Tryz.prog w = .ok v w') : (callFunc 138 #[x]).run Tryz.prog w = .ok (.value v) w' := by
 rw [@qbo Tryz.prog 138 _ (ReflectliteValue.method (ReflectliteValue.valueError "reflectlite.Value.Elem" 0) ReflectliteValue.elem) Tryz.func138 (by kernel_rfl) (by kernel_rfl) (by kernel_rfl) (by kernel_rfl), h]; rfl
theorem znE (x y:Value) (v:Value) (w w':World) (h:(ReflectliteValue.set #[x,y]).run Tryz.prog w=.ok v w'):(callFunc 139 #[x,y]).run Tryz.prog w=.ok (.value v) w':=by
 rw[@qbo Tryz.prog 139 _ ReflectliteValue.set Tryz.func139 (by kernel_rfl) (by kernel_rfl) (by kernel_rfl) (by kernel_rfl),h];rfl
theorem zc5 (x:Value) (v:Value) (w w':World) (h:((ReflectliteType.abiMethod λ t=>do pure (.int .u8 (<- Rtype.kind t))) #[x]).run Tryz.prog w=.ok v w'):(callFunc 199 #[x]).run Tryz.prog w=.ok (.value v) w':=by
 rw[@qbo Tryz.prog 199 _ (ReflectliteType.abiMethod λ t=>do pure (.int .u8 (<- Rtype.kind t))) Tryz.func199 (by kernel_rfl) (by kernel_rfl) (by kernel_rfl) (by kernel_rfl),h];rfl
theorem zgD (x:Value) (v:Value) (w w':World) (h:(ReflectliteType.method ReflectliteType.elem #[x]).run Tryz.prog w=.ok v w'):(callFunc 211 #[x]).run Tryz.prog w=.ok (.value v) w':=by
 rw[@qbo Tryz.prog 211 _ (ReflectliteType.method ReflectliteType.elem) Tryz.func211 (by kernel_rfl) (by kernel_rfl) (by kernel_rfl) (by kernel_rfl),h];rfl
theorem zgJ (x y : Value) (v : Value) (w w' : World) (h : (ReflectliteType.relation "Implements" ReflectliteType.implements_ #[x, y]).run Tryz.prog w = .ok v w') : (callFunc 212 #[x, y]).run Tryz.prog w = .ok (.value v) w' := by
 rw [@qbo Tryz.prog 212 _ (ReflectliteType.relation "Implements" ReflectliteType.implements_) Tryz.func212 (by kernel_rfl) (by kernel_rfl) (by kernel_rfl) (by kernel_rfl), h]; rfl
theorem zey (x y : Value) (v : Value) (w w' : World) (h : (ReflectliteType.relation "AssignableTo" ReflectliteType.assignableTo #[x, y]).run Tryz.prog w = .ok v w') : (callFunc 209 #[x, y]).run Tryz.prog w = .ok (.value v) w' := by
 rw [@qbo Tryz.prog 209 _ (ReflectliteType.relation "AssignableTo" ReflectliteType.assignableTo) Tryz.func209 (by kernel_rfl) (by kernel_rfl) (by kernel_rfl) (by kernel_rfl), h]; rfl
theorem zi3 (x:Value) (v:Value) (w w':World) (h:(ReflectliteType.typeOf #[x]).run Tryz.prog w=.ok v w'):(callFunc 102 #[x]).run Tryz.prog w=.ok (.value v) w':=by
 rw[@qbo Tryz.prog 102 _ ReflectliteType.typeOf Tryz.func102 (by kernel_rfl) (by kernel_rfl) (by kernel_rfl) (by kernel_rfl),h];rfl
def zcd (w:World):Prop:=w.cell? ⟨9,0,none⟩=some (.iface 204 (.agg #[hdl 28]))
set_option maxHeartbeats 4000000 in
theorem zqX (e t:Addr) (old:Value) (w:World) (hg:zcd w) (ht0:w.cell? t=some old) (hf0:w.frozen? t=false):
  Calls Tryz.prog 67 #[.iface 107 (.pointer (some e)),.iface 118 (.pointer (some t))] w λ ev w'=>ev=.returned (.bool true)/\Keeps (λ k=>k=t.block) w w'/\w'.cell? t=some (.pointer (some e))/\w'.frozen? t=false:=by
 unfold zcd at hg;have hlt: 9 < w.heap.size:=qab w _ hg;have htl:t.block<w.heap.size:=qab w _ ht0;have f6:=λ (t:Addr) w=>zcQ _ _ _ _ (zgt t w);have f7:=λ (a:Addr) w=>zgG _ _ _ _ (zlN a w);have k27:=λ w=>zc5 _ _ _ _ (zlR w);have k25:=λ w=>zc5 _ _ _ _ (kindP w);have e27:=λ w=>zgD _ _ _ _ (zmI w);have i25:=λ w=>zgJ _ _ _ _ _ (implP w);have tO:=λ v w=>zi3 _ _ _ _ (zpn v w);have a25:=λ w=>zey _ _ _ _ _ (zpQ w);have v25:=λ e w=>zcQ _ _ _ _ (zns e w);have mK:=zfH;have mE:=zft;have mI:=zcO;have mA:=zcr;have n8:=zfA _ _ _ _ (zjW ⟨w.heap.size,0,none⟩ t ((w.alloc (.cells #[.pointer (some t)] 118)).alloc (.cells #[hdl 118,.pointer (some ⟨w.heap.size,0,none⟩),.int .u64 150] 150)) (by simp));have hg2:((w.alloc (.cells #[.pointer (some t)] 118)).alloc (.cells #[hdl 118,.pointer (some ⟨w.heap.size,0,none⟩),.int .u64 150] 150)).cell? ⟨9,0,none⟩=some (.iface 204 (.agg #[hdl 28])):=by
  rw[qb3 _ _ ⟨9,0,none⟩ (by simp;omega),qb3 _ _ ⟨9,0,none⟩ hlt];exact hg
 have el:=zkQ _ _ _ _ (zpM ⟨w.heap.size,0,none⟩ t (((w.alloc (.cells #[.pointer (some t)] 118)).alloc (.cells #[hdl 118,.pointer (some ⟨w.heap.size,0,none⟩),.int .u64 150] 150)).alloc (.cells #[hdl 118,.pointer (some ⟨w.heap.size,0,none⟩),.int .u64 150] 150)) (by rw[qb3 _ _ ⟨w.heap.size,0,none⟩ (by simp;omega)];simp));have c1:((((w.alloc (.cells #[.pointer (some t)] 118)).alloc (.cells #[hdl 118,.pointer (some ⟨w.heap.size,0,none⟩),.int .u64 150] 150)).alloc (.cells #[hdl 118,.pointer (some ⟨w.heap.size,0,none⟩),.int .u64 150] 150)).alloc (.cells #[.pointer (some e)] 107)).cell? t=some old:=by rw[qb3 _ _ t (by simp;omega),qb3 _ _ t (by simp;omega),qb3 _ _ t (by simp;omega),qb3 _ _ t htl];exact ht0
 have c2:((((w.alloc (.cells #[.pointer (some t)] 118)).alloc (.cells #[hdl 118,.pointer (some ⟨w.heap.size,0,none⟩),.int .u64 150] 150)).alloc (.cells #[hdl 118,.pointer (some ⟨w.heap.size,0,none⟩),.int .u64 150] 150)).alloc (.cells #[.pointer (some e)] 107)).frozen? t=false:=by rw[World.frozen?_alloc_old _ _ t (by simp;omega),World.frozen?_alloc_old _ _ t (by simp;omega),World.frozen?_alloc_old _ _ t (by simp;omega),World.frozen?_alloc_old _ _ t (Nat.ne_of_lt htl)];exact hf0
 have st:=znE _ _ _ _ _ (setP t ⟨w.heap.size+1+1+1,0,none⟩ e old ((((w.alloc (.cells #[.pointer (some t)] 118)).alloc (.cells #[hdl 118,.pointer (some ⟨w.heap.size,0,none⟩),.int .u64 150] 150)).alloc (.cells #[hdl 118,.pointer (some ⟨w.heap.size,0,none⟩),.int .u64 150] 150)).alloc (.cells #[.pointer (some e)] 107))
  (by rw[qaV _ _ _ _ (by simp)];rfl) c1 c2)
 have fin:Keeps (λ k=>k=t.block) w (((((w.alloc (.cells #[.pointer (some t)] 118)).alloc (.cells #[hdl 118,.pointer (some ⟨w.heap.size,0,none⟩),.int .u64 150] 150)).alloc (.cells #[hdl 118,.pointer (some ⟨w.heap.size,0,none⟩),.int .u64 150] 150)).alloc (.cells #[.pointer (some e)] 107)).setCell t (.pointer (some e))):=
  (((((Keeps.refl (λ k=>k=t.block) w).alloc _).alloc _).alloc _).alloc _).setCell (.inl rfl) _
 have C1:(((((w.alloc (.cells #[.pointer (some t)] 118)).alloc (.cells #[hdl 118,.pointer (some ⟨w.heap.size,0,none⟩),.int .u64 150] 150)).alloc (.cells #[hdl 118,.pointer (some ⟨w.heap.size,0,none⟩),.int .u64 150] 150)).alloc (.cells #[.pointer (some e)] 107)).setCell t (.pointer (some e))).cell? t=some (.pointer (some e)):=qa0 _ _ _ c1;have C2:(((((w.alloc (.cells #[.pointer (some t)] 118)).alloc (.cells #[hdl 118,.pointer (some ⟨w.heap.size,0,none⟩),.int .u64 150] 150)).alloc (.cells #[hdl 118,.pointer (some ⟨w.heap.size,0,none⟩),.int .u64 150] 150)).alloc (.cells #[.pointer (some e)] 107)).setCell t (.pointer (some e))).frozen? t=false:=by rw[qap];exact c2
 have HF:=Hd fin
 have H1:=Hd C1;have H2:=Hd C2;clear fin C1 C2 c1 c2;go_enter Tryz.func67,Tryz.ntmps67
 go_wp2
 refine wp_loop_rounds 1 ?_;rw[rounds_succ];go_wp2
 go_ret;exact⟨rfl,HF.out,H1.out,H2.out⟩
set_option maxHeartbeats 4000000 in
theorem zpO (e t:Addr) (w:World) (hg:zcd w):
  Calls Tryz.prog 67 #[.iface 275 (.pointer (some e)),.iface 118 (.pointer (some t))] w λ ev w'=>ev=.returned (.bool false)/\Ext w w':=by
 unfold zcd at hg;have hlt: 9 < w.heap.size:=qab w _ hg;have f6:=λ (t:Addr) w=>zcQ _ _ _ _ (zgt t w);have f7:=λ (a:Addr) w=>zgG _ _ _ _ (zlN a w);have k27:=λ w=>zc5 _ _ _ _ (zlR w);have k25:=λ w=>zc5 _ _ _ _ (kindP w);have e27:=λ w=>zgD _ _ _ _ (zmI w);have i25:=λ w=>zgJ _ _ _ _ _ (implP w);have tO:=zbE;have a25:=λ w=>zey _ _ _ _ _ (zp5 w);have mK:=zfH;have mE:=zft;have mI:=zcO;have mA:=zcr;have nA:=noAsE;have uE:=zcY;have vE:=zcC;have n8:=zfA _ _ _ _ (zjW ⟨w.heap.size,0,none⟩ t ((w.alloc (.cells #[.pointer (some t)] 118)).alloc (.cells #[hdl 118,.pointer (some ⟨w.heap.size,0,none⟩),.int .u64 150] 150)) (by simp));have hg2:((w.alloc (.cells #[.pointer (some t)] 118)).alloc (.cells #[hdl 118,.pointer (some ⟨w.heap.size,0,none⟩),.int .u64 150] 150)).cell? ⟨9,0,none⟩=some (.iface 204 (.agg #[hdl 28])):=by
  rw[qb3 _ _ ⟨9,0,none⟩ (by simp;omega),qb3 _ _ ⟨9,0,none⟩ hlt];exact hg
 have fin:Ext w (((w.alloc (.cells #[.pointer (some t)] 118)).alloc (.cells #[hdl 118,.pointer (some ⟨w.heap.size,0,none⟩),.int .u64 150] 150)).alloc (.cells #[hdl 118,.pointer (some ⟨w.heap.size,0,none⟩),.int .u64 150] 150)):=
  (((Ext.refl w).alloc _).alloc _).alloc _
 have HF:=Hd fin
 clear fin
 go_enter Tryz.func67,Tryz.ntmps67
 go_wp2
 refine wp_loop_rounds 1 ?_;rw[rounds_succ];go_wp2
 go_ret;exact⟨rfl,HF.out⟩
end Go.Proofs.YthlibiocadimhaaGreatDoor
