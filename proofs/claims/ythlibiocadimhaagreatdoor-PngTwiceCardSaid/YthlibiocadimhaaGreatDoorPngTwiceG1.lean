/-
  Short names.
  Small laws on memory: which blocks a call may have turned. No function of the program is named.
  Blocks that are known whole: variables that a call made. No function of the program is named.
  A map whose keys are ints, in memory.
  Plain law of pixels over pixels: the numbers. No program in sight.
  Pixels as four numbers. No function of the program is named.
  Rows of cells of whole numbers of one kind: arrays and slices that a call made. No function of the program is named.
  Rows of pixels as they lie in memory. No function of the program is named.
  Pictures: small functions.
  A map whose keys are pixels, in memory.
  Pictures as files: the palette, plain, and as it grows in memory. No function of the program is named.
  png.samples, depthOf, right.
  A strings.Builder that a call has made itself: what its memory says; WriteString, Len, String.
  The world of a region that draws its order, under a name. No function of the program is named.
-/
import Derived.Outline
import Derived.OrdersHeld
import Derived.WalkKit
import Derived.Test.YthlibiocadimhaaGreatDoorProg
import Derived.WalkSpells
import Derived.WalkSmall
import Derived.Lib.Hide
import Derived.Deep.QuietTactic
import Derived.BigQuiet
import Derived.RegionTactic
import Derived.WalkLawsBesides
import Derived.Maps.AppendAt
import Derived.Maps.OwnSet
import Derived.DeepKeys4
import Derived.Deep.WholeRow
import Derived.Deep.OwnRows
import Derived.Deep.AppendLies
import Derived.Deep.RegionHeld3
import Derived.Deep.DrawnRows
import Derived.IntWalk
import Derived.Lib.Builder
import Derived.Lib.AppendStr
import Derived.Lib.UnsafeStr
import Derived.Shelf.RegionOpenPlain
import Derived.Lib.OthersKept
set_option linter.unusedSimpArgs false
set_option linter.unusedVariables false
set_option maxRecDepth 100000
namespace Go.Proofs.YthlibiocadimhaaGreatDoor
open Go.RowKit
theorem xa {α:Type}:type_of% (@List.getElem_toArray α):=@List.getElem_toArray α
theorem xb {α:Type}:type_of% (@List.getElem_cons_succ α):=@List.getElem_cons_succ α
theorem xc {α:Type}:type_of% (@List.getElem_cons_zero α):=@List.getElem_cons_zero α
theorem xd {α:Type}:type_of% (@List.setIfInBounds_toArray α):=@List.setIfInBounds_toArray α
theorem xe {α:Type}:type_of% (@List.set_cons_zero α):=@List.set_cons_zero α
theorem xf {α:Type}:type_of% (@List.set_cons_succ α):=@List.set_cons_succ α
theorem xg {α:Type}:type_of% (@List.getElem?_toArray α):=@List.getElem?_toArray α
theorem xh {α:Type}:type_of% (@List.getElem?_cons_succ α):=@List.getElem?_cons_succ α
theorem xi {α:Type}:type_of% (@List.getElem?_cons_zero α):=@List.getElem?_cons_zero α
theorem tkH {P:Program} {ops:Array Oper} {Q:Exit→Act→World→Prop} {md:Region.Mode} {S:World→Prop} {oi:Oper} {v:Value} {fuel:Nat} {listed:Array Bool} {a:Act} {w:World} (i:Nat) (hi:ops[i]? =some oi) (hS:S w) (h:wpAnyH P md ops Q S fuel (listed.setIfInBounds i true) (a.put oi.dst v) w) (hy:∀w,S w→(execOp a.eval oi).run P w=.ok (.value v) w:=by intro w hSw;(try dsimp only at hSw);go_split_ands;go_simp;(try with_reducible rfl)) (hs:Region.noSelect ops=true:=by kernel_rfl) (hf:Region.free md ops listed i=true:=by kernel_rfl) (hr:(Region.ready md ops listed).contains i=true:=by kernel_rfl) (hQ:∀c a w,Q (.panic c) (a.put oi.dst v) w→Q (.panic c) a w:=by exact fun _ _ _ h=>h) (hg:Region.wanted oi (yielded ops a.tmps)=true:=by kernel_rfl):wpAnyH P md ops Q S (fuel+1) listed a w:=
 wpAnyH_take hi hs hf hr hQ (.inl ⟨hg,hy⟩) hS h
theorem xz {α:Type}:type_of% (@List.getElem_toArray α)∧type_of% (@List.getElem_cons_succ α)∧type_of% (@List.getElem_cons_zero α)∧type_of% (@List.setIfInBounds_toArray α)∧type_of% (@List.set_cons_zero α)∧type_of% (@List.set_cons_succ α):=⟨xa,xb,xc,xd,xe,xf⟩
theorem Hd {p:Prop} (h:p):Hid p:=h
theorem skH {P:Program} {ops:Array Oper} {Q:Exit→Act→World→Prop} {md:Region.Mode} {S:World→Prop} {fuel:Nat} {listed:Array Bool} {a:Act} {w:World} {oi:Oper} (i:Nat) (hi:ops[i]? =some oi) (hS:S w) (h:wpAnyH P md ops Q S fuel (listed.setIfInBounds i true) (a.put oi.dst undef) w) (hs:Region.noSelect ops=true:=by kernel_rfl) (hf:Region.free md ops listed i=true:=by kernel_rfl) (hr:(Region.ready md ops listed).contains i=true:=by kernel_rfl) (hQ:∀c a w,Q (.panic c) (a.put oi.dst undef) w→Q (.panic c) a w:=by exact fun _ _ _ h=>h) (hg:Region.wanted oi (yielded ops a.tmps)=false:=by kernel_rfl):wpAnyH P md ops Q S (fuel+1) listed a w:=
 wpAnyH_take hi hs hf hr hQ (.inr ⟨hg,rfl⟩) hS h
theorem rdH {P:Program} {ops:Array Oper} {Q:Exit→Act→World→Prop} {md:Region.Mode} {S:World→Prop} {fuel:Nat} {listed:Array Bool} {a:Act} {w:World} {o:Oper} (i:Nat) (ho:ops[i]? =some o) (h:∀K':Act→World→Prop,Shut (∀a w,S w→(S w→wpAnyH P md ops Q S fuel (listed.setIfInBounds i true) a w)→K' a w)→if Region.wanted o (yielded ops a.tmps)=true then Oper.wp P o a w K' Q else K' (a.put (Oper.dst o) undef) w) (hr:Region.ready md ops listed=[i]:=by kernel_rfl):wpAnyH P md ops Q S (fuel+1) listed a w:=wpAnyH_ready hr (by simp) (AllReadyH.cons ho h AllReadyH.nil)
theorem rdH2 {P:Program} {ops:Array Oper} {Q:Exit→Act→World→Prop} {md:Region.Mode} {S:World→Prop} {fuel:Nat} {listed:Array Bool} {a:Act} {w:World} {o p:Oper} (i j:Nat) (ho:ops[i]? =some o) (hp:ops[j]? =some p) (h:∀K':Act→World→Prop,Shut (∀a w,S w→(S w→wpAnyH P md ops Q S fuel (listed.setIfInBounds i true) a w)→K' a w)→if Region.wanted o (yielded ops a.tmps)=true then Oper.wp P o a w K' Q else K' (a.put (Oper.dst o) undef) w) (h2:∀K':Act→World→Prop,Shut (∀a w,S w→(S w→wpAnyH P md ops Q S fuel (listed.setIfInBounds j true) a w)→K' a w)→if Region.wanted p (yielded ops a.tmps)=true then Oper.wp P p a w K' Q else K' (a.put (Oper.dst p) undef) w) (hr:Region.ready md ops listed=[i,j]:=by kernel_rfl):wpAnyH P md ops Q S (fuel+1) listed a w:=wpAnyH_ready hr (by simp) (AllReadyH.cons ho h (AllReadyH.cons hp h2 AllReadyH.nil))
/-- of the blocks that were there only those in S may have turned -/
structure Keeps (S:Nat→Prop) (w w':World):Prop where
 os:w'.os=w.os
 tape:w'.tape=w.tape
 output:w'.output=w.output
 size:w.heap.size≤w'.heap.size
 block:∀k,k<w.heap.size→¬ S k→w'.heap[k]? =w.heap[k]?
theorem Keeps.refl (S:Nat→Prop) (w:World):Keeps S w w:=⟨rfl,rfl,rfl,Nat.le_refl _,fun _ _ _=>rfl⟩
theorem Keeps.trans {S S':Nat→Prop} {a b c:World} (h:Keeps S a b) (k:Keeps S' b c) (hs:∀i,i<a.heap.size→S' i→S i):Keeps S a c:=
 ⟨k.os.trans h.os,k.tape.trans h.tape,k.output.trans h.output,Nat.le_trans h.size k.size,
  fun i hi hn=>(k.block i (Nat.lt_of_lt_of_le hi h.size) fun q=>hn (hs i hi q)).trans (h.block i hi hn)⟩
theorem Keeps.mono {S S':Nat→Prop} {a b:World} (h:Keeps S a b) (hs:∀i,i<a.heap.size→S i→S' i):Keeps S' a b:=
 ⟨h.os,h.tape,h.output,h.size,fun i hi hn=>h.block i hi fun q=>hn (hs i hi q)⟩
theorem Keeps.grown {a b:World} {row:Option Nat} (h:a.grownBy b row):Keeps (fun k=>row=some k) a b:=
 ⟨h.os,h.tape,h.output,h.size,fun i hi hn=>h.block i hi fun e=>hn e.symm⟩
theorem Keeps.alloc {S:Nat→Prop} {a b:World} (h:Keeps S a b) (o:Obj):Keeps S a (b.alloc o):=
 ⟨h.os,h.tape,h.output,by have:=h.size;simp;omega,fun i hi hn=>(Below.heap_alloc _ _ _ (Nat.lt_of_lt_of_le hi h.size)).trans (h.block i hi hn)⟩
theorem Keeps.drewN {S:Nat→Prop} {a b:World} (h:Keeps S a b) (n:Nat):Keeps S a (b.drewN n):=⟨h.os,h.tape,h.output,h.size,h.block⟩
theorem Keeps.drew {S:Nat→Prop} {a b:World} (h:Keeps S a b):Keeps S a b.drew:=⟨h.os,h.tape,h.output,h.size,h.block⟩
theorem Keeps.setCell {S:Nat→Prop} {a b:World} (h:Keeps S a b) {p:Addr} (hp:S p.block∨a.heap.size≤p.block) (u:Value):Keeps S a (b.setCell p u):=
 ⟨h.os,h.tape,h.output,by simpa using h.size,fun i hi hn=>(Below.heap_setCell _ _ _ _ (fun e=>by subst e;rcases hp with hp | hp;exact hn hp;omega)).trans (h.block i hi hn)⟩
theorem Keeps.below {S:Nat→Prop} {a b:World} (h:Keeps S a b) {B:Nat} (hB:B≤a.heap.size) (hs:∀k,k<B→¬ S k):Below B a b:=
 ⟨h.os,h.tape,h.output,h.size,fun k hk=>h.block k (by omega) (hs k hk)⟩
theorem Keeps.of_below {B:Nat} {a b:World} (h:Below B a b):Keeps (fun k=>B≤k) a b:=
 ⟨h.os,h.tape,h.output,h.size,fun k _ hn=>h.block k (by omega)⟩
theorem Keeps.cell {S:Nat→Prop} {a b:World} (h:Keeps S a b) {p:Addr} (hp:p.block<a.heap.size) (hn:¬ S p.block):b.cell? p=a.cell? p:=
 World.cell?_of_block (w:=a) (h.block p.block hp hn)
theorem Keeps.frozen {S:Nat→Prop} {a b:World} (h:Keeps S a b) {p:Addr} (hp:p.block<a.heap.size) (hn:¬ S p.block):b.frozen? p=a.frozen? p:=
 World.frozen?_of_block (w:=a) (h.block p.block hp hn)
def Ext (w w':World):Prop:=Below w.heap.size w w'
theorem Ext.refl (w:World):Ext w w:=Below.refl _ _
theorem Ext.trans {a b c:World} (h:Ext a b) (k:Ext b c):Ext a c:=Below.trans h (Below.mono k h.size)
theorem Ext.alloc {a b:World} (h:Ext a b) (o:Obj):Ext a (b.alloc o):=Below.alloc h h.size o
theorem Ext.drewN {a b:World} (h:Ext a b) (n:Nat):Ext a (b.drewN n):=below_drewN h n
theorem Ext.keeps {S:Nat→Prop} {a b:World} (h:Ext a b):Keeps S a b:=(Keeps.of_below h).mono fun i hi q=>by have:a.heap.size≤i:=q;omega
theorem ret_int {k:IntKind} {a b:Int} (h:a=b):Ending.returned (.int k a)=.returned (.int k b):=by rw[h]
theorem ret_bool {a b:Bool} (h:a=b):Ending.returned (.bool a)=.returned (.bool b):=by rw[h]
theorem val_int {k:IntKind} {a b:Int} (h:a=b):Value.int k a=Value.int k b:=by rw[h]
theorem ownsRow_kept {S:Nat→Prop} {w w':World} {base:Nat} {e:TypeId} {size:Nat} {v:Value} {n:Nat} {xs:List Value}
  (h:w.ownsRow base e size v n xs) (hk:Keeps S w w') (hn:∀k,v.ownBlock=some k→¬ S k):w'.ownsRow base e size v n xs:=by
 obtain⟨h1,h2⟩:=h;refine⟨h1,?_⟩;rcases h2 with h2 | ⟨g,cap,cur,hv,hg,hh,r⟩
 ·exact Or.inl h2
 ·subst hv;have hlt:g<w.heap.size:=lt_of_block hh;exact Or.inr ⟨g,cap,cur,rfl,hg,by rw[hk.block g hlt (hn g rfl)];exact hh,r⟩
theorem ownsRow_lt {w:World} {base:Nat} {e:TypeId} {size:Nat} {v:Value} {n:Nat} {xs:List Value}
  (h:w.ownsRow base e size v n xs) {k:Nat} (hk:v.ownBlock=some k):k<w.heap.size:=(h.lt k hk).2
/-- a row that holds something begins at the head of a block -/
theorem ownsRow_some {w:World} {base:Nat} {e:TypeId} {size:Nat} {v:Value} {n:Nat} {xs:List Value}
  (h:w.ownsRow base e size v n xs) (hn:0<n):∃g cap,v=.slice (some ⟨g,0,none⟩) n cap∧n≤cap∧g<w.heap.size:=by
 rcases h.2 with⟨_,h0⟩ | ⟨g,cap,cur,hv,_,hh,hc,_⟩
 ·omega
 ·exact⟨g,cap,hv,hc,lt_of_block hh⟩
theorem ownsRow_slice {w:World} {base:Nat} {e:TypeId} {size:Nat} {v:Value} {n:Nat} {xs:List Value}
  (h:w.ownsRow base e size v n xs):(v=.slice none 0 0∧n=0)∨∃g cap,v=.slice (some ⟨g,0,none⟩) n cap:=by
 rcases h.2 with h0 | ⟨g,cap,cur,hv,_⟩
 ·exact .inl h0
 ·exact .inr ⟨g,cap,hv⟩
theorem add_plain (b j:Nat):(⟨b,0,none⟩:Addr).add j=⟨b,j,none⟩:=by unfold Addr.add;split <;> simp_all
/-- the world under a name: what is said of it is all that is known -/
theorem wp_world {P:Program} {c:Code} {Q:Exit→Act→World→Prop} {a:Act} {W:World} (F:World→Prop) (h1:F W) (h2:∀wz,F wz→Code.wp P c Q a wz):Code.wp P c Q a W:=h2 W h1
theorem calls_world {P:Program} {f:Nat} {args:Array Value} {W:World} {Q:Ending→World→Prop} (F:World→Prop) (h1:F W) (h2:∀wz,F wz→Calls P f args wz Q):Calls P f args W Q:=h2 W h1
def Bk (w:World) (b:Nat) (cs:Array Value):Prop:=∃t,w.heap[b]? =some (.cells cs t (0,0))
theorem Bk.lt {w:World} {b:Nat} {cs:Array Value} (h:Bk w b cs):b<w.heap.size:=by obtain⟨t,h⟩:=h;exact lt_of_block h
theorem Bk.at {w:World} {k:Nat} {cs:Array Value} {t:TypeId} (h:w.heap.size=k):Bk (w.alloc (.cells cs t)) k cs:=⟨t,by rw[← h];exact heap_alloc_new w _⟩
theorem Bk.old {w:World} {b:Nat} {cs:Array Value} {o:Obj} (h:Bk w b cs):Bk (w.alloc o) b cs:=by
  have hl:=h.lt;obtain⟨t,h⟩:=h;exact⟨t,(Below.heap_alloc w o b hl).trans h⟩
theorem Bk.keeps {S:Nat→Prop} {w w':World} {b:Nat} {cs:Array Value} (h:Bk w b cs) (hk:Keeps S w w') (hS:¬ S b):Bk w' b cs:=by
  have hl:=h.lt;obtain⟨t,h⟩:=h;exact⟨t,(hk.block b hl hS).trans h⟩
theorem Bk.ext {w w':World} {b:Nat} {cs:Array Value} (h:Bk w b cs) (hE:Ext w w'):Bk w' b cs:=h.keeps (S:=fun _=>False) hE.keeps id
theorem Bk.cell {w:World} {b:Nat} {cs:Array Value} (h:Bk w b cs) (i:Nat):w.cell? ⟨b,i,none⟩=cs[i]?:=by
  obtain⟨t,h⟩:=h;exact cell_of_row w b i cs t (0,0) h
theorem Bk.frozen {w:World} {b:Nat} {cs:Array Value} (h:Bk w b cs) (i:Nat):w.frozen? ⟨b,i,none⟩=false:=by
  obtain⟨t,h⟩:=h;simp[World.frozen?,h]
theorem Bk.set_ {w:World} {b:Nat} {cs:Array Value} (h:Bk w b cs) (i:Nat) (u:Value):Bk (w.setCell ⟨b,i,none⟩ u) b (cs.setIfInBounds i u):=by
  obtain⟨t,h⟩:=h;exact⟨t,by simp[World.setCell,Array.getElem?_modify,h]⟩
theorem Bk.far {w:World} {b:Nat} {cs:Array Value} (h:Bk w b cs) {p:Addr} (hp:b≠p.block) (u:Value):Bk (w.setCell p u) b cs:=by
  obtain⟨t,h⟩:=h;exact⟨t,(Below.heap_setCell w p u b hp).trans h⟩
theorem Bk.drewN {w:World} {b:Nat} {cs:Array Value} (h:Bk w b cs) (n:Nat):Bk (w.drewN n) b cs:=h
theorem Bk.drew {w:World} {b:Nat} {cs:Array Value} (h:Bk w b cs):Bk w.drew b cs:=h
def kI (p:Int):Value:=.int .i64 p
theorem ki_inj {p q:Int} (h:(kI p)=kI q):p=q:=by
 unfold kI at h;injection h
theorem keyi_law:Maps.Keyed Tryz.prog 3 :=Maps.int_keyed Tryz.underlying3
def OkI (p:Int):Prop:= -9223372036854775808≤p∧p≤9223372036854775807
theorem keyi_gen {P:Program} {K:TypeId} (uK:P.underlying K=some (.int .i64)) (p:Int) (h:OkI p):∃l,keyOf P K (kI p)=some l:=by
 have h1:(Lit.int .i64 p).wf=true:=WalkArith.wf_i64 h;refine⟨.int .i64 p,?_⟩;unfold keyOf kI;simp[uK,mapKey,h1]
theorem keyi_of (p:Int) (h:OkI p):∃l,keyOf Tryz.prog 3 (kI p)=some l:=
 keyi_gen Tryz.underlying3 p h
/-- block b is a map that reads as g -/
def MI (w:World) (b:Nat) (g:Int→Option Nat):Prop:=
 ∃es clock,w.heap[b]? =some (.map es clock)∧(∀e∈es.toList,∃p n,e.key=(kI p)∧OkI p∧e.val=.int .i64 ((n:Nat):Int)∧g p=some n)∧(∀p n,OkI p→g p=some n→∃e∈es.toList,e.key=(kI p))∧(∀(i j:Nat) (d e:MapEntry),es[i]? =some d→es[j]? =some e→d.key=e.key→i=j)
theorem MI.lt {w:World} {b:Nat} {g:Int→Option Nat} (h:MI w b g):b<w.heap.size:=by
 obtain⟨es,clock,hb,_⟩:=h;exact lt_of_block hb
theorem MI.keeps {S:Nat→Prop} {w w':World} {b:Nat} {g:Int→Option Nat} (h:MI w b g) (hk:Keeps S w w') (hS:¬ S b):MI w' b g:=by
 have hl:=h.lt;obtain⟨es,clock,hb,r⟩:=h;exact⟨es,clock,(hk.block b hl hS).trans hb,r⟩
theorem MI.ext {w w':World} {b:Nat} {g:Int→Option Nat} (h:MI w b g) (hE:Ext w w'):MI w' b g:=h.keeps (S:=fun _=>False) hE.keeps id
theorem MI.new (w:World) (g:Int→Option Nat) (hg:∀p,g p=none):MI (w.alloc (.map #[] 0)) w.heap.size g:=
 ⟨#[],0,heap_alloc_new w _,(by simp),(fun p n _ h=>by rw[hg] at h;cases h),(fun i j d e h=>by simp at h)⟩
theorem MI.look {w:World} {b:Nat} {p:Int} {g:Int→Option Nat} (h:MI w b g) (hp:OkI p):
  (Instr.lookup 75 (.map (some b)) (kI p) true).run Tryz.prog w=.ok (.tuple #[.int .i64 (((g p).getD 0:Nat):Int),.bool (g p).isSome]) w:=by
 obtain⟨es,clock,hb,h1,h2,h3⟩:=h;obtain⟨l,hl⟩:=keyi_of p hp;have hzv:(zeroValue 3).run Tryz.prog w=.ok (.int .i64 0) w:=by kernel_rfl
 have hes:∀e∈es.toList,∃l,keyOf Tryz.prog 3 e.key=some l:=by
  intro e he;obtain⟨q,n,hk',q1,_⟩:=h1 e he;rw[hk'];exact keyi_of q q1
 have hcheck:=keyi_law.check w es.isEmpty hl;rcases keyi_law.find w hl es.toList hes with⟨hf,hno⟩ | ⟨j,e,hf,hj,he⟩
 ·have hg:g p=none:=by
   cases hq:g p with
   | none=>rfl
   | some n=>obtain⟨e,hm,hk2⟩:=h2 p n hp hq;exact absurd hk2 (hno e hm)
  rw[hg];simp[Instr.lookup,run_underlying Tryz.underlying75,MapKept.run_getObj_map hb,hcheck,hf,hzv,Result.andThen]
 ·obtain⟨q,n,hk',_,hv,hg⟩:=h1 e (List.mem_of_getElem? hj);obtain rfl:=ki_inj (hk'.symm.trans he);rw[hg];simp[Instr.lookup,run_underlying Tryz.underlying75,MapKept.run_getObj_map hb,hcheck,hf,hv,Result.andThen]
def updI (g:Int→Option Nat) (p:Int) (n:Nat):Int→Option Nat:=fun q=>if q=p then some n else g q
theorem MI.store {w:World} {b n:Nat} {p:Int} {g:Int→Option Nat} (h:MI w b g) (hp:OkI p):
  ∃w',(Instr.mapUpdate 75 (.map (some b)) (kI p) (.int .i64 (n:Int))).run Tryz.prog w=.ok () w'∧MI w' b (updI g p n)∧Keeps (fun i=>i=b) w w':=by
 have hlt:=h.lt;obtain⟨es,clock,hb,h1,h2,h3⟩:=h;obtain⟨l,hl⟩:=keyi_of p hp;have hes:∀e∈es.toList,∃l,keyOf Tryz.prog 3 e.key=some l:=by
  intro e he;obtain⟨q,n,hk',q1,_⟩:=h1 e he;rw[hk'];exact keyi_of q q1
 have hcheck:=keyi_law.check w false hl;have hstay:=keyi_law.stays w hl;have hset:∀o:Obj,(w.heap.setIfInBounds b o)[b]? =some o:=by
  intro o;rw[Array.getElem?_setIfInBounds];simp[hlt]
 have hkeep:∀o:Obj,Keeps (fun i=>i=b) w (ChangeMaps.setBlock w b o):=fun o=>⟨rfl,rfl,rfl,by simp[ChangeMaps.setBlock],fun i hi hn=>by
  show (w.heap.setIfInBounds b _)[i]? =_;rw[Array.getElem?_setIfInBounds,if_neg (fun e=>hn e.symm)]⟩
 rcases keyi_law.find w hl es.toList hes with⟨hf,hno⟩ | ⟨j,e0,hf,hj,he0⟩
 ·refine⟨ChangeMaps.setBlock w b (.map (es.push { key:=(kI p),val:=.int .i64 (n:Int),born:=clock }) (clock+1)),?_,⟨_,_,hset _,?_,?_,?_⟩,hkeep _⟩
  ·simp[Instr.mapUpdate,run_underlying Tryz.underlying75,MapKept.run_getObj_map hb,hcheck,hf,MapKept.run_setObj_map _ hb,Result.andThen,ChangeMaps.setBlock]
  ·intro e he;rw[Array.toList_push,List.mem_append,List.mem_singleton] at he;rcases he with he | rfl
   ·obtain⟨q,n',q1,q2,q5,q6⟩:=h1 e he;refine⟨q,n',q1,q2,q5,?_⟩;unfold updI;rw[if_neg]
    ·exact q6
    ·rintro rfl;exact hno e he q1
   ·exact⟨p,n,rfl,hp,rfl,if_pos rfl⟩
  ·intro q n' bq hq;unfold updI at hq;rw[Array.toList_push];by_cases hkc:q=p
   ·obtain rfl:=hkc;exact⟨_,List.mem_append_right _ (List.mem_singleton.2 rfl),rfl⟩
   ·rw[if_neg hkc] at hq;obtain⟨e,hm,hk2⟩:=h2 q n' bq hq;exact⟨e,List.mem_append_left _ hm,hk2⟩
  ·intro i j d e hi hj he;rw[Array.getElem?_push] at hi hj;have no:∀(i:Nat) (d:MapEntry),es[i]? =some d→d.key≠(kI p):=fun i d hi=>hno d (by rw[Array.mem_toList_iff,Array.mem_iff_getElem?];exact⟨i,hi⟩);split at hi <;> split at hj
   ·omega
   ·injection hi with hi;subst hi;exact absurd he.symm (no j e hj)
   ·injection hj with hj;subst hj;exact absurd he (no i d hi)
   ·exact h3 i j d e hi hj he
 ·have hje:es[j]? =some e0:=by rw[← Array.getElem?_toList];exact hj
  refine⟨ChangeMaps.setBlock w b (.map (es.modify j fun e=> { e with key:=(kI p),val:=.int .i64 (n:Int) }) clock),?_,⟨_,_,hset _,?_,?_,?_⟩,hkeep _⟩
  ·have hg0:((es[j]?).map (·.key)).getD (kI p)=(kI p):=by rw[hje];exact he0
   simp[Instr.mapUpdate,run_underlying Tryz.underlying75,MapKept.run_getObj_map hb,hcheck,hf,hje,he0,hstay,MapKept.run_setObj_map _ hb,Result.andThen,ChangeMaps.setBlock]
  ·intro e he;rw[Array.mem_toList_iff,Array.mem_iff_getElem?] at he;obtain⟨i,hi⟩:=he;rw[Array.getElem?_modify] at hi;split at hi
   ·rename_i hji;subst hji;rw[hje] at hi;simp at hi;subst hi;exact⟨p,n,rfl,hp,rfl,if_pos rfl⟩
   ·have hm:e∈es.toList:=by rw[Array.mem_toList_iff,Array.mem_iff_getElem?];exact⟨i,hi⟩
    obtain⟨q,n',q1,q2,q5,q6⟩:=h1 e hm;by_cases hkc:q=p
    ·obtain rfl:=hkc;exact absurd (h3 j i e0 e hje hi (he0.trans q1.symm)) (by assumption)
    ·exact⟨q,n',q1,q2,q5,(if_neg hkc).trans q6⟩
  ·intro q n' bq hq;unfold updI at hq;by_cases hkc:q=p
   ·obtain rfl:=hkc;exact⟨{ e0 with key:=(kI q),val:=.int .i64 (n:Int) },by rw[Array.mem_toList_iff,Array.mem_iff_getElem?];exact⟨j,by rw[Array.getElem?_modify,if_pos rfl,hje];rfl⟩,rfl⟩
   ·rw[if_neg hkc] at hq;obtain⟨e,hm,hk2⟩:=h2 q n' bq hq;refine⟨e,?_,hk2⟩;rw[Array.mem_toList_iff,Array.mem_iff_getElem?] at hm⊢;obtain⟨i,hi⟩:=hm;refine⟨i,?_⟩;rw[Array.getElem?_modify,if_neg]
    ·exact hi
    ·rintro rfl;rw[hje] at hi;injection hi with hi;subst hi;exact hkc (ki_inj (he0.symm.trans hk2)).symm
  ·intro i k d e hi hk he;have same:∀(i:Nat) (d:MapEntry),(es.modify j fun e=> { e with key:=(kI p),val:=.int .i64 (n:Int) })[i]? =some d→∃d',es[i]? =some d'∧d'.key=d.key:=by
    intro i d hi;rw[Array.getElem?_modify] at hi;split at hi
    ·rename_i hji;subst hji;rw[hje] at hi;simp at hi;subst hi;exact⟨e0,hje,he0⟩
    ·exact⟨d,hi,rfl⟩
   obtain⟨d',a1,a2⟩:=same i d hi;obtain⟨e',b1,b2⟩:=same k e hk;exact h3 i k d' e' a1 b1 (a2.trans (he.trans b2.symm))
end Go.Proofs.YthlibiocadimhaaGreatDoor
namespace Pix
/-- 255 times what two colors make, by mode -/
def blend (mode s d:Int):Int:=
  if mode=0 then 255*s else if mode=1 then s*d else if mode=2 then 255*(s+d)-s*d
  else if mode=3 then 255*min s d else if mode=4 then 255*max s d else 255*max (s-d) (d-s)
def num (mode a b s d:Int):Int:=255*(a*(255-b)*s+b*(255-a)*d)+a*b*blend mode s d
def Byte (x:Int):Prop:=0≤x∧x≤255
end Pix
namespace Go.Proofs.YthlibiocadimhaaGreatDoor
open Go.RowKit
abbrev pixv (r g b a:Int):Value:=.agg #[.int .u8 r,.int .u8 g,.int .u8 b,.int .u8 a]
structure P4 where
  r:Int
  g:Int
  b:Int
  a:Int
def P4.val (p:P4):Value:=pixv p.r p.g p.b p.a
structure P4.Ok (p:P4):Prop where
  r:Pix.Byte p.r
  g:Pix.Byte p.g
  b:Pix.Byte p.b
  a:Pix.Byte p.a
def P4.zero:P4:=⟨0,0,0,0⟩
@[irreducible] def cellsI (k:IntKind) (n:Nat) (f:Nat→Int):Array Value:=(List.map (fun i:Nat=>Value.int k (f i)) (List.range n)).toArray
theorem cellsI_get (k:IntKind) (n:Nat) (f:Nat→Int) (i:Nat) (h:i<n):(cellsI k n f)[i]? =some (.int k (f i)):=by
 unfold cellsI;simp[h]
@[go_sem] theorem cellsI_size (k:IntKind) (n:Nat) (f:Nat→Int):(cellsI k n f).size=n:=by unfold cellsI;simp
@[go_sem] theorem cellsI_getElem (k:IntKind) (n:Nat) (f:Nat→Int) (i:Nat) (h:i<(cellsI k n f).size):(cellsI k n f)[i]=.int k (f i):=by
 have e1:=cellsI_get k n f i (by rw[← cellsI_size k n f];exact h);rw[Array.getElem?_eq_getElem h] at e1;exact Option.some.inj e1
theorem cellsI_set (k:IntKind) (n:Nat) (f:Nat→Int) (j:Nat) (x:Int) (g:Nat→Int) (hg:∀i,i<n→g i=if i=j then x else f i):(cellsI k n f).setIfInBounds j (.int k x)=cellsI k n g:=by
 apply Array.ext
 ·simp[cellsI_size]
 ·intro i h1 h2;have h3:i<n:=by simpa [cellsI_size] using h2
  have e2:=cellsI_get k n g i h3;have e1:=cellsI_get k n f i h3;rw[Array.getElem?_eq_getElem h2] at e2;rw[Array.getElem?_eq_getElem (by rw[cellsI_size];exact h3)] at e1;rw[Option.some_inj] at e1 e2;rw[Array.getElem_setIfInBounds (by rw[cellsI_size];exact h3),e2,e1,hg i h3];by_cases hij:j=i
  ·subst hij;simp
  ·rw[if_neg hij,if_neg (fun e=>hij e.symm)]
theorem cellsI_zero (k:IntKind) (n:Nat):Array.replicate n (Value.int k 0)=cellsI k n (fun _=>0):=by
 unfold cellsI;apply Array.ext
 ·simp
 ·intro i h1 h2;simp
theorem cells16_eq (k:IntKind) (F:Nat→Int):cellsI k 16 F=#[.int k (F 0),.int k (F 1),.int k (F 2),.int k (F 3),.int k (F 4),.int k (F 5),.int k (F 6),.int k (F 7),.int k (F 8),.int k (F 9),.int k (F 10),.int k (F 11),.int k (F 12),.int k (F 13),.int k (F 14),.int k (F 15)]:=by unfold cellsI;rfl
theorem cellsI_same (k:IntKind) (n:Nat) (F:Nat→Int) (j:Nat) (v:Value) (hv:v=.int k (F j)):(cellsI k n F).setIfInBounds j v=cellsI k n F:=by
 rw[hv];exact cellsI_set k n F j (F j) F (fun i _=>by by_cases h:i=j <;> simp[h])
/-- a row of cells of one kind, none frozen -/
def Cs (w:World) (B n:Nat) (k:IntKind) (g:Nat→Int):Prop:=∀i,i<n→w.cell? ⟨B,i,none⟩=some (.int k (g i))∧w.frozen? ⟨B,i,none⟩=false
theorem Cs.congr {w:World} {B n:Nat} {k:IntKind} {g g':Nat→Int} (h:Cs w B n k g) (hg:∀i,i<n→g' i=g i):Cs w B n k g':=by
 intro i hi;rw[hg i hi];exact h i hi
theorem Cs.put {w:World} {B n:Nat} {k:IntKind} {g:Nat→Int} (h:Cs w B n k g) (j:Nat) (x:Int) (g':Nat→Int) (hj:j<n) (hg:∀i,i<n→g' i=if i=j then x else g i):Cs (w.setCell ⟨B,j,none⟩ (.int k x)) B n k g':=by
 intro i hi;obtain⟨h1,h2⟩:=h i hi;rw[hg i hi,World.frozen?_setCell];refine⟨?_,h2⟩;by_cases e:i=j
 ·subst e;rw[if_pos rfl];exact World.cell?_setCell_same _ _ _ h1
 ·rw[if_neg e];exact (World.cell?_setCell_other _ _ _ _ (by intro q;injection q with _ q2;exact e q2.symm)).trans h1
theorem Cs.other {w:World} {B n:Nat} {k:IntKind} {g:Nat→Int} (h:Cs w B n k g) (p:Addr) (v:Value) (hp:p.block≠B):Cs (w.setCell p v) B n k g:=by
 intro i hi;obtain⟨h1,h2⟩:=h i hi;rw[World.frozen?_setCell];exact⟨(World.cell?_setCell_other _ _ _ _ (by intro q;rw[q] at hp;exact hp rfl)).trans h1,h2⟩
theorem Cs.drew {w:World} {B n:Nat} {k:IntKind} {g:Nat→Int} (h:Cs w B n k g):Cs w.drew B n k g:=h
theorem Cs.alloc {w:World} {B n:Nat} {k:IntKind} {g:Nat→Int} (h:Cs w B n k g) (hB:B<w.heap.size) (o:Obj):Cs (w.alloc o) B n k g:=by
 intro i hi;rw[World.cell?_alloc_past _ _ _ hB,World.frozen?_alloc_past _ _ _ hB];exact h i hi
theorem Cs.born (w:World) (k:IntKind) (n:Nat) (g:Nat→Int) (t:TypeId):Cs (w.alloc (.cells (cellsI k n g) t)) w.heap.size n k g:=by
 intro i hi;rw[World.cell?_alloc_at _ _ _ _ rfl,World.frozen?_alloc_at _ _ _ _ rfl];exact⟨cellsI_get k n g i hi,rfl⟩
theorem made_eq (k:IntKind) (n:Nat):madeCells #[Value.int k 0] n=cellsI k n (fun _=>0):=by
 apply Array.ext
 ·rw[size_madeCells,cellsI_size]
 ·intro i h1 h2;rw[cellsI_getElem];simp[madeCells,Nat.mod_one]
theorem still_of {P:Program} {f:Nat} {args:Array Value} {w:World} {v:Value} (h:Calls P f args w fun e w'=>e=.returned v∧w=w'):Calls P f args w fun e w'=>e=.returned v∧w'=w:=
 h.mono fun _ _ ⟨a,b⟩=>⟨a,b.symm⟩
/-- a row of pixels, wherever it lies -/
def Pxs (w:World) (x:Option Addr) (n:Nat) (px:Nat→P4):Prop:=
 (x=none→n=0)∧∀a,x=some a→∀i,i<n→
  w.cell? (a.add (i*4))=some (.int .u8 (px i).r)∧w.cell? ⟨(a.add (i*4)).block,(a.add (i*4)).off+1,none⟩=some (.int .u8 (px i).g)∧
  w.cell? ⟨(a.add (i*4)).block,(a.add (i*4)).off+2,none⟩=some (.int .u8 (px i).b)∧w.cell? ⟨(a.add (i*4)).block,(a.add (i*4)).off+3,none⟩=some (.int .u8 (px i).a)∧(px i).Ok
theorem add_block (a:Addr) (k:Nat):(a.add k).block=a.block:=by unfold Addr.add;split <;> rfl
theorem Pxs.keeps {S:Nat→Prop} {w w':World} {x:Option Addr} {n:Nat} {px:Nat→P4} (h:Pxs w x n px) (hk:Keeps S w w') (hS:∀a,x=some a→¬ S a.block):Pxs w' x n px:=by
 refine⟨h.1,fun a ha i hi=>?_⟩;obtain⟨c0,c1,c2,c3,ok⟩:=h.2 a ha i hi;have hs:¬ S (a.add (i*4)).block:=by rw[add_block];exact hS a ha
 have hl:(a.add (i*4)).block<w.heap.size:=World.block_lt_of_cell? w _ c0;exact⟨(hk.cell hl hs).trans c0,(hk.cell (p:=⟨_,_,none⟩) hl hs).trans c1,(hk.cell (p:=⟨_,_,none⟩) hl hs).trans c2,(hk.cell (p:=⟨_,_,none⟩) hl hs).trans c3,ok⟩
theorem Pxs.ext {w w':World} {x:Option Addr} {n:Nat} {px:Nat→P4} (h:Pxs w x n px) (hE:Ext w w'):Pxs w' x n px:=h.keeps (S:=fun _=>False) hE.keeps (fun _ _=>id)
theorem Pxs.congr {w:World} {x:Option Addr} {n:Nat} {px qx:Nat→P4} (h:Pxs w x n px) (hq:∀i,i<n→qx i=px i):Pxs w x n qx:=
 ⟨h.1,fun a ha i hi=>by rw[hq i hi];exact h.2 a ha i hi⟩
theorem Pxs.isSome {w:World} {x:Option Addr} {n:Nat} {px:Nat→P4} (h:Pxs w x n px) {i:Nat} (hi:i<n):∃a,x=some a:=by
 cases x with
 | none=>have:=h.1 rfl;omega
 | some a=>exact⟨a,rfl⟩
/-- the cells of pixels, one behind the other -/
def cellP (px:Nat→P4) (j:Nat):Value:=if j%4=0 then .int .u8 (px (j/4)).r else if j%4=1 then .int .u8 (px (j/4)).g else if j%4=2 then .int .u8 (px (j/4)).b else .int .u8 (px (j/4)).a
def pxV (n:Nat) (px:Nat→P4):List Value:=(List.range (n*4)).map (cellP px)
theorem pxV_length (n:Nat) (px:Nat→P4):(pxV n px).length=n*4:=by simp[pxV]
theorem pxV_get (n:Nat) (px:Nat→P4) (j:Nat) (h:j<n*4):(pxV n px)[j]? =some (cellP px j):=by simp[pxV,h]
theorem cellP_0 (px:Nat→P4) (i:Nat):cellP px (i*4)=.int .u8 (px i).r:=by
 unfold cellP;rw[if_pos (by omega),show i*4/4=i by omega]
theorem cellP_1 (px:Nat→P4) (i:Nat):cellP px (i*4+1)=.int .u8 (px i).g:=by
 unfold cellP;rw[if_neg (by omega),if_pos (by omega),show (i*4+1)/4=i by omega]
theorem cellP_2 (px:Nat→P4) (i:Nat):cellP px (i*4+2)=.int .u8 (px i).b:=by
 unfold cellP;rw[if_neg (by omega),if_neg (by omega),if_pos (by omega),show (i*4+2)/4=i by omega]
theorem cellP_3 (px:Nat→P4) (i:Nat):cellP px (i*4+3)=.int .u8 (px i).a:=by
 unfold cellP;rw[if_neg (by omega),if_neg (by omega),if_neg (by omega),show (i*4+3)/4=i by omega]
theorem cellP_one (px:Nat→P4) (j:Nat):(cellP px j).oneCell'=true:=by
 unfold cellP;split
 ·rfl
 ·split
  ·rfl
  ·split <;> rfl
theorem pxV_ext (n:Nat) (px qx:Nat→P4) (h:∀i,i<n→px i=qx i):pxV n px=pxV n qx:=by
 unfold pxV;apply List.map_congr_left;intro j hj;have hj':j/4<n:=by have:=List.mem_range.1 hj;omega
 unfold cellP;rw[h _ hj']
theorem pxV_succ (n:Nat) (px:Nat→P4):pxV (n+1) px=pxV n px ++ [.int .u8 (px n).r,.int .u8 (px n).g,.int .u8 (px n).b,.int .u8 (px n).a]:=by
 unfold pxV;rw[show (n+1)*4=n*4+1+1+1+1 by omega,List.range_succ,List.range_succ,List.range_succ,List.range_succ];simp only[List.map_append,List.map_cons,List.map_nil,cellP_0,cellP_1,cellP_2,cellP_3,List.append_assoc,List.cons_append,List.nil_append]
theorem pixinfo:(Tryz.prog.info? 53).map (fun i=>(i.zero,i.size,i.bytes))=some (some (pixv 0 0 0 0),4,4):=by kernel_rfl
theorem Pxs.of_own {w:World} {base:Nat} {v:Value} {n:Nat} {px:Nat→P4} (h:w.ownsRow base 53 4 v n (pxV n px)) (hb:∀i,i<n→(px i).Ok):
  ∃x c,v=.slice x n c∧Pxs w x n px∧∀a,x=some a→base≤a.block:=by
 rcases ownsRow_slice h with⟨rfl,h0⟩ | ⟨g,cap,rfl⟩
 ·subst h0;exact⟨none,0,rfl,⟨fun _=>rfl,fun a h=>by cases h⟩,fun a h=>by cases h⟩
 ·refine⟨some ⟨g,0,none⟩,cap,rfl,⟨(fun h=>by cases h),fun a ha i hi=>?_⟩,fun a ha=>?_⟩
  ·injection ha with ha;subst ha;have e:∀k,(⟨g,0,none⟩:Addr).add k=⟨g,k,none⟩:=add_plain g;rw[e];refine⟨?_,?_,?_,?_,hb i hi⟩
   ·rw[h.cellAt _ (by omega),pxV_get _ _ _ (by omega),cellP_0]
   ·show w.cell? ⟨g,i*4+1,none⟩=_;rw[h.cellAt _ (by omega),pxV_get _ _ _ (by omega),cellP_1]
   ·show w.cell? ⟨g,i*4+2,none⟩=_;rw[h.cellAt _ (by omega),pxV_get _ _ _ (by omega),cellP_2]
   ·show w.cell? ⟨g,i*4+3,none⟩=_;rw[h.cellAt _ (by omega),pxV_get _ _ _ (by omega),cellP_3]
  ·injection ha with ha;subst ha;exact (h.lt g rfl).1
/-- a variable that holds a picture -/
structure PicAt (w:World) (b:Nat) (W H:Int) (v:Value):Prop where
 c0:w.cell? ⟨b,0,none⟩=some (.int .i64 W)
 c1:w.cell? ⟨b,1,none⟩=some (.int .i64 H)
 c2:w.cell? ⟨b,2,none⟩=some v
theorem PicAt.ext {w w':World} {b:Nat} {W H:Int} {v:Value} (h:PicAt w b W H v) (hE:Ext w w'):PicAt w' b W H v:=by
 have hl:=World.block_lt_of_cell? w _ h.c0;exact⟨(hE.cell (p:=⟨b,0,none⟩) hl).trans h.c0,(hE.cell (p:=⟨b,1,none⟩) hl).trans h.c1,(hE.cell (p:=⟨b,2,none⟩) hl).trans h.c2⟩
theorem PicAt.new (w:World) (W H:Int) (v:Value) (t:TypeId):PicAt (w.alloc (.cells #[.int .i64 W,.int .i64 H,v] t)) w.heap.size W H v:=by
 refine⟨?_,?_,?_⟩ <;> (rw[World.cell?_alloc_at _ _ _ _ rfl];rfl)
theorem PicAt.set {w:World} {b:Nat} {W H W' H':Int} {v v':Value} (h:PicAt w b W H v):PicAt (((w.setCell ⟨b,0,none⟩ (.int .i64 W')).setCell ⟨b,1,none⟩ (.int .i64 H')).setCell ⟨b,2,none⟩ v') b W' H' v':=by
 have e:∀i j,i≠j→(⟨b,i,none⟩:Addr)≠⟨b,j,none⟩:=fun i j hij q=>by injection q with _ q;exact hij q
 refine⟨?_,?_,?_⟩
 ·rw[World.cell?_setCell_other _ _ _ _ (e 2 0 (by decide)),World.cell?_setCell_other _ _ _ _ (e 1 0 (by decide))];exact World.cell?_setCell_same _ _ _ h.c0
 ·rw[World.cell?_setCell_other _ _ _ _ (e 2 1 (by decide))];exact World.cell?_setCell_same _ _ _ ((World.cell?_setCell_other _ _ _ _ (e 0 1 (by decide))).trans h.c1)
 ·exact World.cell?_setCell_same _ _ _ ((World.cell?_setCell_other _ _ _ _ (e 1 2 (by decide))).trans ((World.cell?_setCell_other _ _ _ _ (e 0 2 (by decide))).trans h.c2))
theorem Ext.set3 {w0 w:World} {b:Nat} (h:Ext w0 w) (hb:w0.heap.size≤b) (x y z:Value):Ext w0 (((w.setCell ⟨b,0,none⟩ x).setCell ⟨b,1,none⟩ y).setCell ⟨b,2,none⟩ z):=((Below.setCell h hb _).setCell hb _).setCell hb _
theorem ownsRow_set3 {w:World} {base:Nat} {e:TypeId} {size:Nat} {v:Value} {n:Nat} {xs:List Value} (h:w.ownsRow base e size v n xs) {b:Nat} (hb:v.ownBlock≠some b) (x y z:Value):(((w.setCell ⟨b,0,none⟩ x).setCell ⟨b,1,none⟩ y).setCell ⟨b,2,none⟩ z).ownsRow base e size v n xs:=
 ownsRow_setCell_other (ownsRow_setCell_other (ownsRow_setCell_other h hb _) hb _) hb _
theorem Bk.pic {w:World} {b:Nat} {W H:Int} {v:Value} (h:Bk w b #[.int .i64 W,.int .i64 H,v]):PicAt w b W H v:=⟨h.cell 0,h.cell 1,h.cell 2⟩
def sideB (n:Int):Bool:=decide (1≤n∧n≤256)
theorem sideB_yes {n:Int} (h:sideB n=true):1≤n∧n≤256:=of_decide_eq_true h
def rightB (W H:Int) (n:Nat):Bool:=sideB W&&sideB H&&decide ((n:Int)=W*H)
theorem rightB_yes {W H:Int} {n:Nat} (h:rightB W H n=true):∃a b:Nat,W=a∧H=b∧1≤a∧a≤256∧1≤b∧b≤256∧n=a*b:=by
  unfold rightB at h;simp only[Bool.and_eq_true,decide_eq_true_eq] at h;obtain⟨⟨h1,h2⟩,h3⟩:=h;have q1:=sideB_yes h1;have q2:=sideB_yes h2;refine⟨W.toNat,H.toNat,by omega,by omega,by omega,by omega,by omega,by omega,?_⟩;have e:((W.toNat*H.toNat:Nat):Int)=W*H:=by rw[Int.natCast_mul,Int.toNat_of_nonneg (by omega),Int.toNat_of_nonneg (by omega)]
  omega
theorem prod_bd {W H:Int} (h1:sideB W=true) (h2:sideB H=true):0≤W*H∧W*H≤65536:=by
  have q1:=sideB_yes h1;have q2:=sideB_yes h2;exact⟨Int.mul_nonneg (by omega) (by omega),Int.le_trans (Int.mul_le_mul q1.2 q2.2 (by omega) (by omega)) (by decide)⟩
theorem small_any (W H:Int) (x:Option Addr) (n cap:Nat) (w:World) (hn:n≤maxLen):
    Calls Tryz.prog 7 #[.agg #[.int .i64 W,.int .i64 H,.slice x n cap]] w fun e w'=>e=.returned (.bool (decide (n≤3000)))∧Ext w w':=by
  unfold maxLen at hn;go_enter Tryz.func7,Tryz.ntmps7
  go_wp2_with fail;go_ret;exact⟨ret_bool (by simp;omega),(Ext.refl _).alloc _⟩
deriving instance DecidableEq for P4
theorem pk_inj {p q:P4} (h:p.val=q.val):p=q:=by
 cases p;cases q
 simpa [P4.val,pixv] using h
theorem keyp_law:Maps.Keyed Tryz.prog 53 :=Maps.Keyed.of_law (deep_law_laid (by kernel_rfl) (m:=5) (by decide) (of_decide_eq_true (by kernel_rfl)) (by kernel_rfl) (by kernel_rfl))
theorem wf_byte {c:Int} (hc:Pix.Byte c):(Lit.int .u8 c).wf=true:=WalkArith.wf_u8 (by have:=hc.1;have:=hc.2;omega)
theorem keyp_gen {P : Program} {K U : TypeId} {f0 f1 f2 f3 : Field} (uK : P.underlying K = some (.struct #[f0, f1, f2, f3])) (t0 : f0.type = U) (t1 : f1.type = U) (t2 : f2.type = U) (t3 : f3.type = U) (o0 : f0.offset = 0) (o1 : f1.offset = 1) (o2 : f2.offset = 2) (o3 : f3.offset = 3) (n0 : (f0.name != "_") = true) (n1 : (f1.name != "_") = true) (n2 : (f2.name != "_") = true) (n3 : (f3.name != "_") = true)
  (uU:P.underlying U=some (.int .u8)) (e1:P.keyType K=true) (e2:P.cellsOf K=4) (e4:P.cellsOf U=1) (hp:0<P.types.size) (p:P4) (h:p.Ok):∃l,keyOf P K p.val=some l:=by
 have h1:=wf_byte h.r;have h2:=wf_byte h.g;have h3:=wf_byte h.b;have h4:=wf_byte h.a;obtain⟨d,hd⟩:∃d,P.types.size=d+1:=⟨P.types.size-1,by omega⟩;refine⟨.string (keyBytes [.int .u8 p.r,.int .u8 p.g,.int .u8 p.b,.int .u8 p.a]),?_⟩;unfold keyOf P4.val;simp[uK,Value.formed,Value.cells,Program.keyLits,hd,h1,h2,h3,h4,e1,e2,e4,uU,t0,t1,t2,t3,o0,o1,o2,o3,n0,n1,n2,n3]
theorem keyp_u: Tryz.prog.keyType 53 =true:=by kernel_rfl
theorem keyp_c: Tryz.prog.cellsOf 53 =4:=by kernel_rfl
theorem keyp_cu: Tryz.prog.cellsOf 5 =1:=by kernel_rfl
theorem keyp_p:0 < Tryz.prog.types.size:=of_decide_eq_true (by kernel_rfl)
theorem keyp_of (p:P4) (h:p.Ok):∃l,keyOf Tryz.prog 53 p.val=some l:=
 keyp_gen Tryz.underlying53 rfl rfl rfl rfl rfl rfl rfl rfl rfl rfl rfl rfl Tryz.underlying5 keyp_u keyp_c keyp_cu keyp_p p h
/-- block b is a map that reads as g -/
def MP (w:World) (b:Nat) (g:P4→Option Nat):Prop:=
 ∃es clock,w.heap[b]? =some (.map es clock)∧(∀e∈es.toList,∃p n,e.key=p.val∧p.Ok∧e.val=.int .i64 ((n:Nat):Int)∧g p=some n)∧(∀p n,p.Ok→g p=some n→∃e∈es.toList,e.key=p.val)∧(∀(i j:Nat) (d e:MapEntry),es[i]? =some d→es[j]? =some e→d.key=e.key→i=j)
theorem MP.lt {w:World} {b:Nat} {g:P4→Option Nat} (h:MP w b g):b<w.heap.size:=by
 obtain⟨es,clock,hb,_⟩:=h;exact lt_of_block hb
theorem MP.keeps {S:Nat→Prop} {w w':World} {b:Nat} {g:P4→Option Nat} (h:MP w b g) (hk:Keeps S w w') (hS:¬ S b):MP w' b g:=by
 have hl:=h.lt;obtain⟨es,clock,hb,r⟩:=h;exact⟨es,clock,(hk.block b hl hS).trans hb,r⟩
theorem MP.ext {w w':World} {b:Nat} {g:P4→Option Nat} (h:MP w b g) (hE:Ext w w'):MP w' b g:=h.keeps (S:=fun _=>False) hE.keeps id
theorem MP.new (w:World) (g:P4→Option Nat) (hg:∀p,g p=none):MP (w.alloc (.map #[] 0)) w.heap.size g:=
 ⟨#[],0,heap_alloc_new w _,(by simp),(fun p n _ h=>by rw[hg] at h;cases h),(fun i j d e h=>by simp at h)⟩
theorem MP.look {w:World} {b:Nat} {p:P4} {g:P4→Option Nat} (h:MP w b g) (hp:p.Ok):
  (Instr.lookup 54 (.map (some b)) (p.val) true).run Tryz.prog w=.ok (.tuple #[.int .i64 (((g p).getD 0:Nat):Int),.bool (g p).isSome]) w:=by
 obtain⟨es,clock,hb,h1,h2,h3⟩:=h;obtain⟨l,hl⟩:=keyp_of p hp;have hzv:(zeroValue 3).run Tryz.prog w=.ok (.int .i64 0) w:=by kernel_rfl
 have hes:∀e∈es.toList,∃l,keyOf Tryz.prog 53 e.key=some l:=by
  intro e he;obtain⟨q,n,hk',q1,_⟩:=h1 e he;rw[hk'];exact keyp_of q q1
 have hcheck:=keyp_law.check w es.isEmpty hl;rcases keyp_law.find w hl es.toList hes with⟨hf,hno⟩ | ⟨j,e,hf,hj,he⟩
 ·have hg:g p=none:=by
   cases hq:g p with
   | none=>rfl
   | some n=>obtain⟨e,hm,hk2⟩:=h2 p n hp hq;exact absurd hk2 (hno e hm)
  rw[hg];simp[Instr.lookup,run_underlying Tryz.underlying54,MapKept.run_getObj_map hb,hcheck,hf,hzv,Result.andThen]
 ·obtain⟨q,n,hk',_,hv,hg⟩:=h1 e (List.mem_of_getElem? hj);obtain rfl:=pk_inj (hk'.symm.trans he);rw[hg];simp[Instr.lookup,run_underlying Tryz.underlying54,MapKept.run_getObj_map hb,hcheck,hf,hv,Result.andThen]
def updP (g:P4→Option Nat) (p:P4) (n:Nat):P4→Option Nat:=fun q=>if q=p then some n else g q
theorem MP.store {w:World} {b n:Nat} {p:P4} {g:P4→Option Nat} (h:MP w b g) (hp:p.Ok):
  ∃w',(Instr.mapUpdate 54 (.map (some b)) (p.val) (.int .i64 (n:Int))).run Tryz.prog w=.ok () w'∧MP w' b (updP g p n)∧Keeps (fun i=>i=b) w w':=by
 have hlt:=h.lt;obtain⟨es,clock,hb,h1,h2,h3⟩:=h;obtain⟨l,hl⟩:=keyp_of p hp;have hes:∀e∈es.toList,∃l,keyOf Tryz.prog 53 e.key=some l:=by
  intro e he;obtain⟨q,n,hk',q1,_⟩:=h1 e he;rw[hk'];exact keyp_of q q1
 have hcheck:=keyp_law.check w false hl;have hstay:=keyp_law.stays w hl;have hset:∀o:Obj,(w.heap.setIfInBounds b o)[b]? =some o:=by
  intro o;rw[Array.getElem?_setIfInBounds];simp[hlt]
 have hkeep:∀o:Obj,Keeps (fun i=>i=b) w (ChangeMaps.setBlock w b o):=fun o=>⟨rfl,rfl,rfl,by simp[ChangeMaps.setBlock],fun i hi hn=>by
  show (w.heap.setIfInBounds b _)[i]? =_;rw[Array.getElem?_setIfInBounds,if_neg (fun e=>hn e.symm)]⟩
 rcases keyp_law.find w hl es.toList hes with⟨hf,hno⟩ | ⟨j,e0,hf,hj,he0⟩
 ·refine⟨ChangeMaps.setBlock w b (.map (es.push { key:=p.val,val:=.int .i64 (n:Int),born:=clock }) (clock+1)),?_,⟨_,_,hset _,?_,?_,?_⟩,hkeep _⟩
  ·simp[Instr.mapUpdate,run_underlying Tryz.underlying54,MapKept.run_getObj_map hb,hcheck,hf,MapKept.run_setObj_map _ hb,Result.andThen,ChangeMaps.setBlock]
  ·intro e he;rw[Array.toList_push,List.mem_append,List.mem_singleton] at he;rcases he with he | rfl
   ·obtain⟨q,n',q1,q2,q5,q6⟩:=h1 e he;refine⟨q,n',q1,q2,q5,?_⟩;unfold updP;rw[if_neg]
    ·exact q6
    ·rintro rfl;exact hno e he q1
   ·exact⟨p,n,rfl,hp,rfl,if_pos rfl⟩
  ·intro q n' bq hq;unfold updP at hq;rw[Array.toList_push];by_cases hkc:q=p
   ·obtain rfl:=hkc;exact⟨_,List.mem_append_right _ (List.mem_singleton.2 rfl),rfl⟩
   ·rw[if_neg hkc] at hq;obtain⟨e,hm,hk2⟩:=h2 q n' bq hq;exact⟨e,List.mem_append_left _ hm,hk2⟩
  ·intro i j d e hi hj he;rw[Array.getElem?_push] at hi hj;have no:∀(i:Nat) (d:MapEntry),es[i]? =some d→d.key≠p.val:=fun i d hi=>hno d (by rw[Array.mem_toList_iff,Array.mem_iff_getElem?];exact⟨i,hi⟩);split at hi <;> split at hj
   ·omega
   ·injection hi with hi;subst hi;exact absurd he.symm (no j e hj)
   ·injection hj with hj;subst hj;exact absurd he (no i d hi)
   ·exact h3 i j d e hi hj he
 ·have hje:es[j]? =some e0:=by rw[← Array.getElem?_toList];exact hj
  refine⟨ChangeMaps.setBlock w b (.map (es.modify j fun e=> { e with key:=p.val,val:=.int .i64 (n:Int) }) clock),?_,⟨_,_,hset _,?_,?_,?_⟩,hkeep _⟩
  ·have hg0:((es[j]?).map (·.key)).getD (p.val)=p.val:=by rw[hje];exact he0
   simp[Instr.mapUpdate,run_underlying Tryz.underlying54,MapKept.run_getObj_map hb,hcheck,hf,hje,he0,hstay,MapKept.run_setObj_map _ hb,Result.andThen,ChangeMaps.setBlock]
  ·intro e he;rw[Array.mem_toList_iff,Array.mem_iff_getElem?] at he;obtain⟨i,hi⟩:=he;rw[Array.getElem?_modify] at hi;split at hi
   ·rename_i hji;subst hji;rw[hje] at hi;simp at hi;subst hi;exact⟨p,n,rfl,hp,rfl,if_pos rfl⟩
   ·have hm:e∈es.toList:=by rw[Array.mem_toList_iff,Array.mem_iff_getElem?];exact⟨i,hi⟩
    obtain⟨q,n',q1,q2,q5,q6⟩:=h1 e hm;by_cases hkc:q=p
    ·obtain rfl:=hkc;exact absurd (h3 j i e0 e hje hi (he0.trans q1.symm)) (by assumption)
    ·exact⟨q,n',q1,q2,q5,(if_neg hkc).trans q6⟩
  ·intro q n' bq hq;unfold updP at hq;by_cases hkc:q=p
   ·obtain rfl:=hkc;exact⟨{ e0 with key:=q.val,val:=.int .i64 (n:Int) },by rw[Array.mem_toList_iff,Array.mem_iff_getElem?];exact⟨j,by rw[Array.getElem?_modify,if_pos rfl,hje];rfl⟩,rfl⟩
   ·rw[if_neg hkc] at hq;obtain⟨e,hm,hk2⟩:=h2 q n' bq hq;refine⟨e,?_,hk2⟩;rw[Array.mem_toList_iff,Array.mem_iff_getElem?] at hm⊢;obtain⟨i,hi⟩:=hm;refine⟨i,?_⟩;rw[Array.getElem?_modify,if_neg]
    ·exact hi
    ·rintro rfl;rw[hje] at hi;injection hi with hi;subst hi;exact hkc (pk_inj (he0.symm.trans hk2)).symm
  ·intro i k d e hi hk he;have same:∀(i:Nat) (d:MapEntry),(es.modify j fun e=> { e with key:=p.val,val:=.int .i64 (n:Int) })[i]? =some d→∃d',es[i]? =some d'∧d'.key=d.key:=by
    intro i d hi;rw[Array.getElem?_modify] at hi;split at hi
    ·rename_i hji;subst hji;rw[hje] at hi;simp at hi;subst hi;exact⟨e0,hje,he0⟩
    ·exact⟨d,hi,rfl⟩
   obtain⟨d',a1,a2⟩:=same i d hi;obtain⟨e',b1,b2⟩:=same k e hk;exact h3 i k d' e' a1 b1 (a2.trans (he.trans b2.symm))
namespace Png
/-- unlike pixels, in the order in which they come first -/
def pals (px:Nat→P4):Nat→List P4
 | 0=> []
 | k+1=>if px k∈pals px k then pals px k else pals px k ++ [px k]
/-- a pixel's number -/
def num (l:List P4) (p:P4):Option Nat:=if p∈l then some (l.idxOf p) else none
def atL (l:List P4) (i:Nat):P4:=l.getD i P4.zero
theorem num_push {l:List P4} {p:P4} (h:p ∉ l):updP (num l) p l.length=num (l ++ [p]):=by
 funext q
 unfold updP num;by_cases hq:q=p
 ·subst hq;rw[if_pos rfl,if_pos (by simp),List.idxOf_append,if_neg h];simp
 ·rw[if_neg hq];by_cases hm:q∈l
  ·rw[if_pos hm,if_pos (by simp[hm]),List.idxOf_append,if_pos hm]
  ·rw[if_neg hm,if_neg (by simp[hm,hq])]
theorem pals_in {px:Nat→P4} {k:Nat} (h:px k∈pals px k):pals px (k+1)=pals px k:=if_pos h
theorem pals_new {px:Nat→P4} {k:Nat} (h:px k ∉ pals px k):pals px (k+1)=pals px k ++ [px k]:=if_neg h
theorem pals_len (px:Nat→P4):∀k,(pals px k).length≤k
 | 0=>Nat.le_refl 0
 | k+1=>by
  have:=pals_len px k;by_cases h:px k∈pals px k
  ·rw[pals_in h];omega
  ·rw[pals_new h,List.length_append,List.length_singleton];omega
theorem pals_mem (px:Nat→P4):∀k p,p∈pals px k↔∃i,i<k∧px i=p
 | 0,p=>by simp[pals]
 | k+1,p=>by
  have ih:=pals_mem px k;by_cases h:px k∈pals px k
  ·rw[pals_in h,ih p];constructor
   ·rintro⟨i,hi,e⟩;exact⟨i,by omega,e⟩
   ·rintro⟨i,hi,e⟩;by_cases hk:i=k
    ·subst hk;subst e;exact (ih _).1 h
    ·exact⟨i,by omega,e⟩
  ·rw[pals_new h,List.mem_append,List.mem_singleton,ih p];constructor
   ·rintro (⟨i,hi,e⟩ | e)
    ·exact⟨i,by omega,e⟩
    ·exact⟨k,by omega,e.symm⟩
   ·rintro⟨i,hi,e⟩;by_cases hk:i=k
    ·subst hk;exact .inr e.symm
    ·exact .inl ⟨i,by omega,e⟩
theorem atL_push (l:List P4) (p:P4):pxV (l ++ [p]).length (atL (l ++ [p]))=pxV l.length (atL l) ++ [.int .u8 p.r,.int .u8 p.g,.int .u8 p.b,.int .u8 p.a]:=by
 rw[List.length_append,List.length_singleton,pxV_succ];have e:atL (l ++ [p]) l.length=p:=by unfold atL;simp
 rw[e,pxV_ext l.length (atL (l ++ [p])) (atL l) (fun i hi=>by unfold atL;simp[List.getD_eq_getElem?_getD,List.getElem?_append_left hi])]
theorem atL_idx {l:List P4} {p:P4} (h:p∈l):atL l (l.idxOf p)=p:=by
 unfold atL;have hl:=List.idxOf_lt_length_of_mem h;rw[List.getD_eq_getElem?_getD,List.getElem?_eq_getElem hl];exact List.getElem_idxOf hl
end Png
/-- the palette's state: the picture's variable, the map of m, the row of l -/
structure PlS (w:World) (W H:Int) (x:Value) (wr:World) (v:Value) (m l:List P4):Prop where
 ext:Ext w wr
 pic:PicAt wr w.heap.size W H x
 map:MP wr (w.heap.size+1) (Png.num m)
 own:wr.ownsRow (w.heap.size+2) 53 4 v l.length (pxV l.length (Png.atL l))
 ok:∀p∈l,p.Ok
 hs:w.heap.size+2≤wr.heap.size
theorem PlS.step {w:World} {W H:Int} {x:Value} {wr wz:World} {v:Value} {m l:List P4} (h:PlS w W H x wr v m l) (hE:Ext wr wz):PlS w W H x wz v m l:=
 ⟨h.ext.trans hE,h.pic.ext hE,h.map.ext hE,ownsRow_kept (S:=fun _=>False) h.own hE.keeps (fun _ _=>id),h.ok,Nat.le_trans h.hs hE.size⟩
theorem PlS.stored {w:World} {W H:Int} {x:Value} {wr wz:World} {v:Value} {m l:List P4} {p:P4} (h:PlS w W H x wr v m l) (hp:p ∉ m) (hm:MP wz (w.heap.size+1) (updP (Png.num m) p m.length)) (hK:Keeps (fun i=>i=w.heap.size+1) wr wz):PlS w W H x wz v (m ++ [p]) l:=by
 have hs:=h.hs;have c0:(⟨w.heap.size,0,none⟩:Addr).block≠w.heap.size+1:=by show w.heap.size≠w.heap.size+1;omega
 refine⟨Below.trans h.ext (hK.below h.ext.size (fun k hk q=>by omega)),?_,by rw[← Png.num_push hp];exact hm,?_,h.ok,Nat.le_trans h.hs hK.size⟩
 ·exact⟨(hK.cell (p:=⟨w.heap.size,0,none⟩) (by show w.heap.size<_;omega) c0).trans h.pic.c0,(hK.cell (p:=⟨w.heap.size,1,none⟩) (by show w.heap.size<_;omega) c0).trans h.pic.c1,(hK.cell (p:=⟨w.heap.size,2,none⟩) (by show w.heap.size<_;omega) c0).trans h.pic.c2⟩
 ·exact ownsRow_kept h.own hK (fun k hk e=>by have:=(h.own.lt k hk).1;omega)
theorem PlS.grown {w:World} {W H:Int} {x:Value} {wr wz:World} {v v':Value} {m l:List P4} {p:P4} {o:Obj} (h:PlS w W H x wr v m l) (hp:p.Ok) (hown:wz.ownsRow (w.heap.size+2) 53 4 v' (l.length+1) (pxV l.length (Png.atL l) ++ [.int .u8 p.r,.int .u8 p.g,.int .u8 p.b,.int .u8 p.a])) (hg:(wr.alloc o).grownBy wz v.ownBlock):PlS w W H x wz v' m (l ++ [p]):=by
 have hs:=h.hs;have hK:Keeps (fun k=>v.ownBlock=some k) wr wz:=(Keeps.alloc (Ext.keeps (S:=fun i=>v.ownBlock=some i) (Ext.refl wr)) o).trans (Keeps.grown hg) (fun _ _ q=>q);have nb:∀k,k<w.heap.size+2→¬ v.ownBlock=some k:=fun k hk e=>by have:=(h.own.lt k e).1;omega
 refine⟨Below.trans h.ext (hK.below h.ext.size (fun k hk q=>by have:=(h.own.lt k q).1;omega)),?_,h.map.keeps hK (nb _ (by omega)),?_,?_,Nat.le_trans h.hs hK.size⟩
 ·exact⟨(hK.cell (p:=⟨w.heap.size,0,none⟩) (by show w.heap.size<_;omega) (nb _ (by show w.heap.size<_;omega))).trans h.pic.c0,(hK.cell (p:=⟨w.heap.size,1,none⟩) (by show w.heap.size<_;omega) (nb _ (by show w.heap.size<_;omega))).trans h.pic.c1,(hK.cell (p:=⟨w.heap.size,2,none⟩) (by show w.heap.size<_;omega) (nb _ (by show w.heap.size<_;omega))).trans h.pic.c2⟩
 ·rw[Png.atL_push,List.length_append,List.length_singleton];exact hown
 ·intro q hq;rcases List.mem_append.1 hq with q1 | q1
  ·exact h.ok q q1
  ·rw[List.mem_singleton.1 q1];exact hp
/-- samples of a pixel -/
def smp (k:Int):Option Nat:=updI (updI (updI (updI (fun _=>none) 0 1) 2 3) 3 1) 6 4 k
theorem samples_any (w:World):Calls Tryz.prog 29 #[] w fun e w'=>∃mb,e=.returned (.map (some mb))∧MI w' mb smp∧Ext w w':=by
 have hmm:=@run_makeMap Tryz.prog;obtain⟨w1,h1,m1,q1⟩:=(MI.new w (fun _=>none) (fun _=>rfl)).store (n:=1) (p:=0) (by unfold OkI;omega);obtain⟨w2,h2,m2,q2⟩:=m1.store (n:=3) (p:=2) (by unfold OkI;omega);obtain⟨w3,h3,m3,q3⟩:=m2.store (n:=1) (p:=3) (by unfold OkI;omega);obtain⟨w4,h4,m4,q4⟩:=m3.store (n:=4) (p:=6) (by unfold OkI;omega);have HM:=Hd m4;have HE:Hid (Ext w w4):=Hd (Below.trans ((Ext.refl w).alloc (.map #[] 0)) ((((q1.trans q2 (fun _ _ e=>e)).trans q3 (fun _ _ e=>e)).trans q4 (fun _ _ e=>e)).below (by simp) (fun k hk e=>by omega)));clear m1 m2 m3 m4 q1 q2 q3 q4;unfold kI at h1 h2 h3 h4;have c1:((1:Nat):Int)=1:=rfl;have c3:((3:Nat):Int)=3:=rfl;have c4:((4:Nat):Int)=4:=rfl;rw[c1] at h1 h3;rw[c3] at h2;rw[c4] at h4;clear c1 c3 c4;go_enter Tryz.func29,Tryz.ntmps29
 go_wp2_with fail;go_ret;exact⟨_,rfl,HM.out,HE.out⟩
/-- the depth that tells n colours apart -/
def depN (n:Nat):Nat:=if n≤2 then 1 else if n≤4 then 2 else if n≤16 then 4 else 8
theorem depthOf_any (n:Nat) (w:World):Calls Tryz.prog 23 #[.int .i64 (n:Int)] w fun e w'=>e=.returned (.int .i64 ((depN n:Nat):Int))∧Ext w w':=by
 go_enter Tryz.func23,Tryz.ntmps23
 go_wp2_with fail;refine wp_world (fun wz=>Ext w wz∧Bk wz w.heap.size #[.int .i64 1,.int .i64 2,.int .i64 4]) ⟨(Ext.refl _).alloc _,Bk.at rfl⟩ ?_;rintro wz ⟨hX,hB⟩;have HX:=Hd hX;have hB:=Hd hB;clear hX;go_loopw [2,7] (fun rv iv wr=>rv=.int .i64 0∧wr=wz∧(iv=.int .i64 0∨(iv=.int .i64 1∧2<n)∨(iv=.int .i64 2∧4<n)∨(iv=.int .i64 3∧16<n))) (fun _ iv _=>3-(intOf iv).toNat)
 case atStart=>exact⟨by first | trivial | rfl,by first | trivial | rfl,.inl rfl⟩
 case round=>
  obtain⟨rfl,rfl,rfl | ⟨rfl,hn⟩ | ⟨rfl,hn⟩ | ⟨rfl,hn⟩⟩:=hrel
  ·have c:=hB.out.cell 0;have tk:decide ((0:Int)<3)=true:=by decide
   by_cases hq:(n:Int)≤2
   ·go_wp2_with fail;go_ret;exact⟨by rw[show depN n=1 by unfold depN;rw[if_pos (by omega)]];rfl,HX.out⟩
   ·go_wp2_with fail;go_roundw
    case rel=>exact⟨by first | trivial | rfl,by first | trivial | rfl,.inr (.inl ⟨rfl,by omega⟩)⟩
    case measure=>simp[intOf]
  ·have c:=hB.out.cell 1;have tk:decide ((1:Int)<3)=true:=by decide
   by_cases hq:(n:Int)≤4
   ·go_wp2_with fail;go_ret;exact⟨by rw[show depN n=2 by unfold depN;rw[if_neg (by omega),if_pos (by omega)]];rfl,HX.out⟩
   ·go_wp2_with fail;go_roundw
    case rel=>exact⟨by first | trivial | rfl,by first | trivial | rfl,.inr (.inr (.inl ⟨rfl,by omega⟩))⟩
    case measure=>simp[intOf]
  ·have c:=hB.out.cell 2;have tk:decide ((2:Int)<3)=true:=by decide
   by_cases hq:(n:Int)≤16
   ·go_wp2_with fail;go_ret;exact⟨by rw[show depN n=4 by unfold depN;rw[if_neg (by omega),if_neg (by omega),if_pos (by omega)]];rfl,HX.out⟩
   ·go_wp2_with fail;go_roundw
    case rel=>exact⟨by first | trivial | rfl,by first | trivial | rfl,.inr (.inr (.inr (⟨rfl,by omega⟩)))⟩
    case measure=>simp[intOf]
  ·go_wp2_with fail;go_ret;exact⟨by rw[show depN n=8 by unfold depN;rw[if_neg (by omega),if_neg (by omega),if_neg (by omega)]];rfl,HX.out⟩
theorem rside_any (n:Int) (w:World):Calls Tryz.prog 51 #[.int .i64 n] w fun e w'=>e=.returned (.bool (sideB n))∧w=w':=by
 by_cases h1:1≤n
 ·by_cases h2:n≤256
  ·go_enter Tryz.func51,Tryz.ntmps51
   go_wp2_with fail;go_ret;exact⟨ret_bool (by unfold sideB;simp;omega),rfl⟩
  ·go_enter Tryz.func51,Tryz.ntmps51
   go_wp2_with fail;go_ret;exact⟨ret_bool (by unfold sideB;simp;omega),rfl⟩
 ·go_enter Tryz.func51,Tryz.ntmps51
  go_wp2_with fail;go_ret;exact⟨ret_bool (by unfold sideB;simp;omega),rfl⟩
theorem pright_any (W H:Int) (x:Option Addr) (n cap:Nat) (w:World):
  Calls Tryz.prog 19 #[.agg #[.int .i64 W,.int .i64 H,.slice x n cap]] w fun e w'=>e=.returned (.bool (rightB W H n))∧Ext w w':=by
 have hX:Ext w (w.alloc (.cells #[.int .i64 W,.int .i64 H,.slice x n cap] 24)):=(Ext.refl _).alloc _;have HX:=Hd hX;clear hX;by_cases h1:sideB W=true
 ·by_cases h2:sideB H=true
  ·obtain⟨p1,p2⟩:=prod_bd h1 h2;have H12:=Hd (show sideB W=true∧sideB H=true from⟨h1,h2⟩);go_enter Tryz.func19,Tryz.ntmps19
   go_wp2_with fail;refine (rside_any W _).mono ?_;rintro e w2 ⟨rfl,rfl⟩;go_wp2_with fail;refine (rside_any H _).mono ?_;rintro e w2 ⟨rfl,rfl⟩;go_wp2_with fail;go_ret;refine⟨ret_bool ?_,HX.out⟩;unfold rightB;rw[H12.out.1,H12.out.2];simp only[Bool.true_and];rw[Bool.eq_iff_iff];simp
  ·have h2':sideB H=false:=by simpa using h2
   clear h2;have H12:=Hd (show sideB W=true∧sideB H=false from⟨h1,h2'⟩);go_enter Tryz.func19,Tryz.ntmps19
   go_wp2_with fail;refine (rside_any W _).mono ?_;rintro e w2 ⟨rfl,rfl⟩;go_wp2_with fail;refine (rside_any H _).mono ?_;rintro e w2 ⟨rfl,rfl⟩;go_wp2_with fail;go_ret;refine⟨ret_bool ?_,HX.out⟩;unfold rightB;rw[H12.out.1,H12.out.2];rfl
 ·have h1':sideB W=false:=by simpa using h1
  clear h1;have H12:=Hd h1';go_enter Tryz.func19,Tryz.ntmps19
  go_wp2_with fail;refine (rside_any W _).mono ?_;rintro e w2 ⟨rfl,rfl⟩;go_wp2_with fail;go_ret;refine⟨ret_bool ?_,HX.out⟩;unfold rightB;rw[H12.out];rfl
structure Bld (B b:Nat) (l:List UInt8) (w:World):Prop where
 le:B≤b
 lt:b<w.heap.size
 at_:∃p v,(p=.pointer none∨p=.pointer (some ⟨b,0,none⟩))∧w.heap[b]? =some (.cells #[p,v] 70 (0,0))∧w.ownsRow B 5 1 v l.length (Lib.byteCells l)∧v.ownBlock≠some b
theorem Bld.ext {B b:Nat} {l:List UInt8} {w w':World} (h:Bld B b l w) (hE:Ext w w'):Bld B b l w':=by
 obtain⟨h1,h2,p,v,hp,hb,ho,hn⟩:=h;exact⟨h1,by have:=hE.size;omega,p,v,hp,(hE.block b h2).trans hb,ownsRow_kept ho (S:=fun _=>False) hE.keeps (fun _ _ q=>q),hn⟩
theorem Bld.fresh (w:World):Bld w.heap.size w.heap.size [] (w.alloc (.cells #[.pointer none,.slice none 0 0] 70)):=
 ⟨Nat.le_refl _,by simp,_,_,.inl rfl,heap_alloc_new w _,World.ownsRow_nil _ _ _ _,by simp[Value.ownBlock]⟩
theorem bldSize:(Tryz.prog.info? 70).map (·.size)=some 2:=by kernel_rfl
theorem bldLies:liesAt Tryz.prog Tryz.prog.depth 70 (2 / Tryz.prog.cellsOf 70) 0 70 1=true:=by kernel_rfl
theorem u8infoB:(Tryz.prog.info? 5).map (fun i=>(i.zero,i.size,i.bytes))=some (some (.int .u8 0),1,1):=by kernel_rfl
theorem bld_copy_used (b:Nat) (w:World) (h0:w.cell? ⟨b,0,none⟩=some (.pointer (some ⟨b,0,none⟩))):
  Calls Tryz.prog 91 #[.pointer (some ⟨b,0,none⟩)] w fun e w'=>e=.returned (.tuple #[])∧w'=w:=by
 obtain⟨j,hj,_⟩:=Option.map_eq_some_iff.1 bldSize;go_enter Tryz.func91,Tryz.ntmps91
 go_wp2
 rw[Lib.run_neq_ptr_same w _ Tryz.underlying68 hj];go_wp2
 go_end0;exact⟨rfl,rfl⟩
theorem bld_copy_fresh (b:Nat) (w:World) (h0:w.cell? ⟨b,0,none⟩=some (.pointer none)) (hsh:w.shape? b=some (70,2)) (hfz:w.frozen? ⟨b,0,none⟩=false):
  Calls Tryz.prog 91 #[.pointer (some ⟨b,0,none⟩)] w fun e w'=>e=.returned (.tuple #[])∧w'=w.setCell ⟨b,0,none⟩ (.pointer (some ⟨b,0,none⟩)):=by
 obtain⟨j,hj,hjs⟩:=Option.map_eq_some_iff.1 bldSize;go_enter Tryz.func91,Tryz.ntmps91
 go_wp2
 rw[Lib.run_to_unsafe w ⟨b,0,none⟩ Tryz.underlying68 Tryz.underlying147 hj (by rw[hjs];decide) hsh (Nat.zero_lt_succ 1)];simp only[Result.andThen];rw[Oper.upon_value];go_wp2
 rw[run_callFunc_extern Tryz.func131 (by kernel_rfl) (by kernel_rfl) (by kernel_rfl) (e:=Extern.AbiNoEscape.same) (by kernel_rfl)];rw[Lib.run_noEscape];simp only[Result.andThen];rw[Oper.upon_value];go_wp2
 rw[Lib.run_from_unsafe w ⟨b,0,none⟩ Tryz.underlying147 Tryz.underlying68 hj hsh bldLies];simp only[Result.andThen];rw[Oper.upon_value];go_wp2
 go_end0;exact⟨rfl,rfl⟩
/-- used: the first cell holds the builder's own address -/
def BldU (B b:Nat) (l:List UInt8) (w:World):Prop:=B≤b∧b<w.heap.size∧∃v,w.heap[b]? =some (.cells #[.pointer (some ⟨b,0,none⟩),v] 70 (0,0))∧w.ownsRow B 5 1 v l.length (Lib.byteCells l)∧v.ownBlock≠some b
theorem bld_copy (B b:Nat) (l:List UInt8) (w:World) (h:Bld B b l w):
  Calls Tryz.prog 91 #[.pointer (some ⟨b,0,none⟩)] w fun e w'=>e=.returned (.tuple #[])∧BldU B b l w'∧Below B w w'∧Lib.OthersKept 5 (some b) w w':=by
 obtain⟨h1,h2,p,v,hp,hb,ho,hn⟩:=h;rcases hp with rfl | rfl
 ·refine (bld_copy_fresh b w (by rw[Lib.cell_of_heap hb];rfl) (by simp[World.shape?,hb]) (Lib.frozen_of_heap hb 0)).mono ?_;rintro e w' ⟨rfl,rfl⟩;have hA:Lib.BuilderAt 70 5 B b (.pointer none) (Lib.byteCells l) w:=⟨h1,v,hb,by rw[Lib.byteCells_length];exact ho,hn⟩;obtain⟨_,v',q1,q2,q3⟩:=hA.used (.pointer (some ⟨b,0,none⟩));rw[Lib.byteCells_length] at q2;exact⟨rfl,⟨h1,lt_of_block q1,v',q1,q2,q3⟩,(Below.refl B w).setCell (p:=⟨b,0,none⟩) h1 _,(Lib.OthersKept.refl _ _ w).setCell ⟨b,0,none⟩ rfl _⟩
 ·refine (bld_copy_used b w (by rw[Lib.cell_of_heap hb];rfl)).mono ?_;rintro e w' ⟨rfl,rfl⟩;exact⟨rfl,⟨h1,h2,v,hb,ho,hn⟩,Below.refl B _,Lib.OthersKept.refl _ _ _⟩
theorem strCells_bytes (s:ByteArray):Lib.strCells s=Lib.byteCells s.data.toList:=rfl
theorem bld_write (B b:Nat) (l:List UInt8) (s:ByteArray) (w:World) (h:Bld B b l w) (hlen:l.length+s.size≤140737488355328) (hBw:B≤w.heap.size):
  Calls Tryz.prog 56 #[.pointer (some ⟨b,0,none⟩),.string s] w fun e w'=>e=.returned (.tuple #[.int .i64 s.size,.nilIface])∧Bld B b (l++s.data.toList) w'∧Below B w w'∧Lib.OthersKept 5 (some b) w w':=by
 obtain⟨i0,hi,hz0,hz1,hz2⟩:=info_parts u8infoB;go_enter Tryz.func56,Tryz.ntmps56
 go_wp2_with fail;refine (bld_copy B b l w h).mono ?_;rintro e w1 ⟨rfl,⟨hB,hlt,v,hbk,hown,hne⟩,hb1,hk1⟩;have c1:w1.cell? ⟨b,1,none⟩=some v:=by rw[Lib.cell_of_heap hbk];rfl
 go_wp2_with (at_builtin;refine Lib.wpList_append_own_string _ rfl _ _ 62 9 rfl B 5 i0 Tryz.underlying62 Tryz.underlying9 hi hz0 hz1 hz2 _ _ _ rfl hown s rfl ?c3 ?c4 ?c5 ?_)
 case c3=>unfold maxLen;omega
 case c4=>omega
 case c5=>have:=hb1.size;omega
 intro v' w2 hown' hgrow _;have hb2:w2.heap[b]? =some (.cells #[.pointer (some ⟨b,0,none⟩),v] 70 (0,0)):=by
  rw[hgrow.block b hlt (fun e=>hne e.symm)];exact hbk
 have d1:w2.cell? ⟨b,1,none⟩=some v:=by rw[Lib.cell_of_heap hb2];rfl
 have f1:w2.frozen? ⟨b,1,none⟩=false:=Lib.frozen_of_heap hb2 1;obtain⟨ao,n',cap,rfl⟩:∃ao n' cap,v'=.slice ao n' cap:=by
  rcases hown'.2 with⟨hv,_⟩ | ⟨g,cap,cur,hv,_⟩
  ·exact⟨_,_,_,hv⟩
  ·exact⟨_,_,_,hv⟩
 go_wp2_with fail;go_ret2;have hA:Lib.BuilderAt 70 5 B b (.pointer (some ⟨b,0,none⟩)) (Lib.byteCells l++Lib.strCells s) (w2.setCell ⟨b,1,none⟩ (.slice ao n' cap)):=
  Lib.BuilderAt.put (T:=70) (e:=5) hB hb2 (bs':=Lib.byteCells l++Lib.strCells s) (by simpa [Lib.strCells_length,Lib.byteCells_length] using hown') (by decide)
 obtain⟨_,v2,q1,q2,q3⟩:=hA;refine⟨rfl,⟨hB,lt_of_block q1,_,v2,.inr rfl,q1,?_,q3⟩,?_,(hk1.grown hgrow (Lib.ownsRowF_kind (World.ownsRowF_of hown))).setCell ⟨b,1,none⟩ rfl _⟩
 ·have e1:Lib.byteCells l++Lib.strCells s=Lib.byteCells (l++s.data.toList):=by rw[strCells_bytes];simp[Lib.byteCells]
  rw[e1] at q2;rwa [Lib.byteCells_length] at q2
 ·exact (hb1.grown hgrow (by have:=hb1.size;omega) (fun k hk=>(hown.lt k hk).1)).setCell (p:=⟨b,1,none⟩) hB _
theorem bld_len (B b:Nat) (l:List UInt8) (w:World) (h:Bld B b l w):
  Calls Tryz.prog 58 #[.pointer (some ⟨b,0,none⟩)] w fun e w'=>e=.returned (.int .i64 l.length)∧w=w':=by
 obtain⟨h1,h2,p,v,hp,hb,ho,hn⟩:=h;obtain⟨ao,cap,rfl⟩:∃ao cap,v=.slice ao l.length cap:=by
  rcases ho.2 with⟨hv,h0⟩ | ⟨g,cap,cur,hv,_⟩
  ·exact⟨none,0,by rw[hv,h0]⟩
  ·exact⟨_,_,hv⟩
 have c1:w.cell? ⟨b,1,none⟩=some (.slice ao l.length cap):=by rw[Lib.cell_of_heap hb];rfl
 go_enter Tryz.func58,Tryz.ntmps58
 go_wp2
 go_ret;exact⟨rfl,rfl⟩
set_option maxHeartbeats 1000000 in
theorem bld_string (B b:Nat) (l:List UInt8) (w:World) (h:Bld B b l w) (h0:l≠[]):
  Calls Tryz.prog 31 #[.pointer (some ⟨b,0,none⟩)] w fun e w'=>e=.returned (.string ⟨l.toArray⟩)∧Below B w w':=by
 obtain⟨hB,h2,p,v,hp,hbk,hown,hne⟩:=h;have hl0:l.length≠0:=by simpa using h0
 obtain⟨g,cap,cur,rfl,hbg,hg,hnc,hcm,hcs,htake⟩:∃g cap cur,v=.slice (some ⟨g,0,none⟩) l.length cap∧B≤g∧w.heap[g]? =some (.cells cur 5 (0,0))∧l.length≤cap∧cap≤maxLen∧cur.size=cap*1∧cur.toList.take (l.length*1)=Lib.byteCells l:=by
  rcases hown.2 with⟨_,hz⟩ | ⟨g,cap,cur,hv,r⟩
  ·exact absurd hz hl0
  ·exact⟨g,cap,cur,hv,r⟩
 have c1:w.drew.cell? ⟨b,1,none⟩=some (.slice (some ⟨g,0,none⟩) l.length cap):=by
  have this:w.drew.heap[b]? =some (.cells #[p,.slice (some ⟨g,0,none⟩) l.length cap] 70 (0,0)):=hbk;rw[Lib.cell_of_heap this];rfl
 have hSD:(Builtin.unsafeSliceData_ #[62] 116 #[.slice (some ⟨g,0,none⟩) l.length cap]).run Tryz.prog w.drew=.ok (.pointer (some ⟨g,0,none⟩)) w.drew:=
  Lib.run_unsafeSliceData_row _ _ _ _ _ _ (by omega)
 have hUS:(Builtin.unsafeString_ #[116,3] 9 #[.pointer (some ⟨g,0,none⟩),.int .i64 l.length]).run Tryz.prog w.drew=.ok (.string ⟨l.toArray⟩) (w.drew.freeze ⟨g,0,none⟩ l.length):=by
  refine Lib.run_unsafeString_row w.drew 116 3 9 5 Tryz.underlying116 (by kernel_rfl) g cur.size (by have hg':w.drew.heap[g]? =some (.cells cur 5 (0,0)):=hg;simp[World.shape?,hg']) l h0 (by omega) (by unfold maxLen at hcm;omega) ?_;intro j x hx;have:=hown.cells (g:=g) rfl j (.int .u8 x.toNat) (by simp[Lib.byteCells,hx]);exact this
 have mixed: Tryz.prog.follows .mixedOrders=true:=by kernel_rfl
 go_enter Tryz.func31,Tryz.ntmps31
 go_wp2
 go_region_o
 all_goals (go_wp2;go_ret;exact⟨rfl,Lib.below_freeze (Below.drew (Below.refl B w)) (p:=⟨g,0,none⟩) hbg _⟩)
theorem anyH_world {P:Program} {md:Region.Mode} {ops:Array Oper} {Q:Exit→Act→World→Prop} {S:World→Prop} {fuel:Nat} {listed:Array Bool} {a:Act} {W:World} (F:World→Prop) (h1:F W) (h2:∀wz,F wz→wpAnyH P md ops Q S fuel listed a wz):wpAnyH P md ops Q S fuel listed a W:=h2 W h1
end Go.Proofs.YthlibiocadimhaaGreatDoor
