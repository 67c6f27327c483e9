/-
  errors.Is at a sentinel: of a sentinel, of an api.Fault that bears one. The library's own text is walked.
-/
import Derived.Test.YthlibiocadimhaaGreatDoorPngReadsG1
set_option linter.all false
set_option maxRecDepth 100000
namespace Go.Proofs.YthlibiocadimhaaGreatDoor
open Go.RowKit Go.Extern.Stop Go.Stop Go.Extern
theorem Ybc0 {p:Prop} (h:p:=by
 go_enter Tryz.func68,Tryz.ntmps68
 go_wp2
 refine wp_loop_rounds 1 ?_;rw[rounds_succ];go_wp2
 go_ret;exact⟨rfl,rfl⟩):p:=h
theorem Ybc1 {p:Prop} (h:p:=by
 have hty:=run_eql_iface_types (P:=Tryz.prog) 107 275 (.pointer (some ⟨F,0,none⟩)) (.pointer (some b)) Tryz.underlying28 (by decide) w;go_enter Tryz.func68,Tryz.ntmps68
 go_wp2
 refine wp_loop_rounds 2 ?_;rw[rounds_succ];go_wp2
 rw[rounds_succ];go_wp2
 go_ret;exact⟨rfl,rfl⟩):p:=h
@[irreducible] noncomputable def GN:Nat:=Tryz.prog.globals.size
noncomputable abbrev hdl (t:Nat):Value:=.pointer (some ⟨GN,t,none⟩)
theorem zqa (v:Value) (w:World):(Extern.ReflectliteType.typeOf #[.iface 275 v]).run Tryz.prog w=.ok (.iface 204 (.agg #[hdl 275])) w:=by kernel_rfl
theorem compE (w : World) : ((Extern.ReflectliteType.method λ t => do Extern.Rtype.noPackHeld "Comparable" t; pure (.bool (<- typeInfo t).comparable)) #[.agg #[hdl 275]]).run Tryz.prog w = .ok (.bool true) w := by kernel_rfl
theorem zbE (v:Value) (w:World):(callFunc 102 #[.iface 275 v]).run Tryz.prog w=.ok (.value (.iface 204 (.agg #[hdl 275]))) w:=by
 rw[@qbo Tryz.prog 102 _ Extern.ReflectliteType.typeOf Tryz.func102 (by kernel_rfl) (by kernel_rfl) (by kernel_rfl) (by kernel_rfl),zqa];rfl
theorem zcG (w:World):(callFunc 210 #[.agg #[hdl 275]]).run Tryz.prog w=.ok (.value (.bool true)) w:=by
 rw [@qbo Tryz.prog 210 _ (Extern.ReflectliteType.method λ t => do Extern.Rtype.noPackHeld "Comparable" t; pure (.bool (<- typeInfo t).comparable)) Tryz.func210 (by kernel_rfl) (by kernel_rfl) (by kernel_rfl) (by kernel_rfl), compE]; rfl
theorem zbl (n : Nat) (v : Value) (w : World) : (Go.method (n + 1) 204 v "Comparable").run Tryz.prog w = .ok (210, v) w := by kernel_rfl
theorem zfJ:(Tryz.prog.info? 275).map (·.comparable)=some true:=by kernel_rfl
theorem zfT:(Tryz.prog.info? 293).map (·.size)=some 1:=by kernel_rfl
theorem noIsE (v:Value) (xT:TypeId) (w:World):(Instr.typeAssert (.iface 275 v) xT 215 true).run Tryz.prog w=.ok (.tuple #[.nilIface,.bool false]) w:=run_typeAssert_lacksB Tryz.underlying215 (by kernel_rfl) (by kernel_rfl) v xT w
theorem zcY (v:Value) (xT:TypeId) (w:World):(Instr.typeAssert (.iface 275 v) xT 211 true).run Tryz.prog w=.ok (.tuple #[.nilIface,.bool false]) w:=run_typeAssert_lacksB Tryz.underlying211 (by kernel_rfl) (by kernel_rfl) v xT w
theorem zcC (v:Value) (xT:TypeId) (w:World):(Instr.typeAssert (.iface 275 v) xT 213 true).run Tryz.prog w=.ok (.tuple #[.nilIface,.bool false]) w:=run_typeAssert_lacksB Tryz.underlying213 (by kernel_rfl) (by kernel_rfl) v xT w
theorem noIsF (v:Value) (xT:TypeId) (w:World):(Instr.typeAssert (.iface 107 v) xT 215 true).run Tryz.prog w=.ok (.tuple #[.nilIface,.bool false]) w:=run_typeAssert_lacksB Tryz.underlying215 (by kernel_rfl) (by kernel_rfl) v xT w
theorem zfl (v:Value) (xT:TypeId) (w:World):(Instr.typeAssert (.iface 107 v) xT 211 true).run Tryz.prog w=.ok (.tuple #[.iface 107 v,.bool true]) w:=run_typeAssert_hasB Tryz.underlying211 (by kernel_rfl) v xT w
theorem zei (n : Nat) (v : Value) (w : World) : (Go.method (n + 1) 107 v "Unwrap").run Tryz.prog w = .ok (204, v) w := by kernel_rfl
theorem zp9 (a:Addr) (w:World):
  Calls Tryz.prog 68 #[.iface 275 (.pointer (some a)),.iface 275 (.pointer (some a))] w λ e w'=>e=.returned (.bool true)/\w=w':=by
 obtain⟨i,hi,hcmp⟩:=qbq.1 zfJ;obtain⟨j,hj,hjs⟩:=qbq.1 zfT;have h8:=zbE;have h32:=zcG;have mR:=zbl;have heq:=run_eql_iface_ptr_same (P:=Tryz.prog) w a Tryz.underlying28 Tryz.underlying275 hi hcmp hj;exact Ybc0
theorem zn9 (a b:Addr) (ca cb:Array Value) (ta tb:TypeId) (w:World) (hne:a≠b) (ha:w.heap[a.block]? =some (.cells ca ta (0,0))) (hb:w.heap[b.block]? =some (.cells cb tb (0,0))):
  Calls Tryz.prog 68 #[.iface 275 (.pointer (some a)),.iface 275 (.pointer (some b))] w λ e w'=>e=.returned (.bool false)/\w=w':=by
 obtain⟨i,hi,hcmp⟩:=qbq.1 zfJ;obtain⟨j,hj,hjs⟩:=qbq.1 zfT;have h8:=zbE;have h32:=zcG;have mR:=zbl;have nE:=noIsE;have uE:=zcY;have vE:=zcC;have heq:=run_eql_iface_ptr_other (P:=Tryz.prog) w Tryz.underlying28 Tryz.underlying275 hi hcmp hj (by rw[hjs];decide) hne ha hb;exact Ybc0
theorem zg5 (F:Nat) (b:Addr) (w:World) (h1:w.cell? ⟨F,1,none⟩=some (.iface 275 (.pointer (some b)))):
  Calls Tryz.prog 68 #[.iface 107 (.pointer (some ⟨F,0,none⟩)),.iface 275 (.pointer (some b))] w λ e w'=>e=.returned (.bool true)/\w=w':=by
 obtain⟨i,hi,hcmp⟩:=qbq.1 zfJ;obtain⟨j,hj,hjs⟩:=qbq.1 zfT;have h8:=zbE;have h32:=zcG;have mR:=zbl;have nE:=noIsE;have uE:=zcY;have vE:=zcC;have nW:=noIsF;have uW:=zfl;have mU:=zei;have heq:=run_eql_iface_ptr_same (P:=Tryz.prog) w b Tryz.underlying28 Tryz.underlying275 hi hcmp hj;exact Ybc1
theorem zf7 (F:Nat) (b a:Addr) (ca cb:Array Value) (ta tb:TypeId) (w:World) (h1:w.cell? ⟨F,1,none⟩=some (.iface 275 (.pointer (some a)))) (hne:a≠b) (ha:w.heap[a.block]? =some (.cells ca ta (0,0))) (hb:w.heap[b.block]? =some (.cells cb tb (0,0))):
  Calls Tryz.prog 68 #[.iface 107 (.pointer (some ⟨F,0,none⟩)),.iface 275 (.pointer (some b))] w λ e w'=>e=.returned (.bool false)/\w=w':=by
 obtain⟨i,hi,hcmp⟩:=qbq.1 zfJ;obtain⟨j,hj,hjs⟩:=qbq.1 zfT;have h8:=zbE;have h32:=zcG;have mR:=zbl;have nE:=noIsE;have uE:=zcY;have vE:=zcC;have nW:=noIsF;have uW:=zfl;have mU:=zei;have heq:=run_eql_iface_ptr_other (P:=Tryz.prog) w Tryz.underlying28 Tryz.underlying275 hi hcmp hj (by rw[hjs];decide) hne ha hb;exact Ybc1
end Go.Proofs.YthlibiocadimhaaGreatDoor
