/-
  Lengths of a code by packages: packs in memory against their plain ones; what the lengths are as a code's.
  huff.Lengths: what lies in memory while its packages are merged.
  huff.Lengths: a best code's lengths.
  math/bits.Mul at 1.
-/
import Derived.Test.YthlibiocadimhaaGreatDoorPngTwiceG1
import Derived.Test.YthlibiocadimhaaGreatDoorPngTwiceG9
import Derived.Test.YthlibiocadimhaaGreatDoorPngTwiceG10
import Derived.Test.YthlibiocadimhaaGreatDoorPngTwiceG2
import Derived.Test.YthlibiocadimhaaGreatDoorPngTwiceG8
import Derived.Deep.DeepCutAuto
import Derived.Deep.CutBlock
import Derived.RegionTactic
import Derived.Lib.Mul64
import Derived.Laws.Bits64b
set_option linter.unusedSimpArgs false
set_option linter.unusedVariables false
set_option maxRecDepth 100000
namespace Go.Proofs.YthlibiocadimhaaGreatDoor
open Go.RowKit
def Pk.pc (p:Pk):Pkg.Pc:=⟨p.c,p.s⟩
def pcs (l:List Pk):List Pkg.Pc:=l.map Pk.pc
theorem pcs_length (l:List Pk):(pcs l).length=l.length:=by simp[pcs]
theorem pcs_srt (l:List Pk):pcs (Srt.srt Pk.key l)=Srt.srt Pkg.ky (pcs l):=(Srt.srt_map (k:=Pk.key) Pk.pc (fun _=>rfl) l).symm
theorem pcs_append (l m:List Pk):pcs (l++m)=pcs l++pcs m:=by simp[pcs]
/-- a pack's symbols as they lie in memory -/
def SyAt (w:World) (p:Pk):Prop:=0<p.s.length∧∃g cs,p.a=some ⟨g,0,none⟩∧p.n=p.s.length∧w.heap[g]? =some (.cells cs 3 (0,0))∧∀j,j<p.s.length→cs[j]? =some (.int .i64 ((p.s.getD j 0:Nat):Int))
theorem SyAt.keeps {S:Nat→Prop} {w w':World} {p:Pk} (h:SyAt w p) (hk:Keeps S w w') (hS:∀g,p.a=some ⟨g,0,none⟩→¬ S g):SyAt w' p:=by
 obtain⟨h0,g,cs,h1,h2,h3,h4⟩:=h;exact⟨h0,g,cs,h1,h2,(hk.block g (lt_of_block h3) (hS g h1)).trans h3,h4⟩
theorem SyAt.ext {w w':World} {p:Pk} (h:SyAt w p) (hE:Ext w w'):SyAt w' p:=h.keeps (S:=fun _=>False) hE.keeps (fun _ _=>id)
theorem SyAt.one {B:Nat} {w w':World} {p:Pk} {l:List Pk} (h:SyAt w p) (hP:PR w B l) (hO:One B w w'):SyAt w' p:=by
 refine h.keeps hO (fun g hg e=>?_);obtain⟨_,g',cs,h1,_,h3,_⟩:=h;obtain⟨r,hr⟩:=hP;rw[hg] at h1;have e1:g=g':=by injection h1 with h1;injection h1
 have e2:g=B:=e;rw[← e1,e2,hr] at h3;injection h3 with h3;injection h3 with _ h3;exact absurd h3 (by decide)
theorem SyAt.ir {w:World} {p:Pk} (h:SyAt w p):Ir w (.slice p.a p.n p.k) (p.s.map (fun i:Nat=>(i:Int))):=by
 obtain⟨h0,g,cs,h1,h2,h3,h4⟩:=h;refine⟨by simpa using h0,g,p.k,by rw[h1,h2];simp,fun j hj=>?_⟩;have hj2:j<p.s.length:=by simpa using hj
 rw[cell_of_row w g j cs _ _ h3,h4 j hj2];simp[i64V,hj2]
theorem SyAt.cell {w:World} {p:Pk} (h:SyAt w p) {j:Nat} (hj:j<p.s.length):∃g,p.a=some ⟨g,0,none⟩∧w.cell? ⟨g,j,none⟩=some (.int .i64 ((p.s.getD j 0:Nat):Int)):=by
 obtain⟨h0,g,cs,h1,h2,h3,h4⟩:=h;exact⟨g,h1,by rw[cell_of_row w g j cs _ _ h3,h4 j hj]⟩
theorem prs_get:∀(l:List Pkg.Pc) (k:Nat) (a b:Pkg.Pc),l[2*k]? =some a→l[2*k+1]? =some b→(Pkg.prs l)[k]? =some ⟨a.c+b.c,a.s++b.s⟩
 | [],k,a,b,h,_=>by simp at h
 | [x],k,a,b,_,h=>by
  rw[List.getElem?_eq_none (by simp)] at h;cases h
 | x ::y ::l,0,a,b,ha,hb=>by
  simp at ha hb;subst ha hb;rfl
 | x ::y ::l,k+1,a,b,ha,hb=>by
  rw[show 2*(k+1)=2*k+1+1 by omega] at ha hb;exact prs_get l k a b ha hb
/-- the numbers of a row of counts -/
def cntN (f:Nat→Int) (i:Nat):Nat:=(f i).toNat
/-- the lengths as a row -/
def lenF (f:Nat→Int) (len most:Nat):Nat→Int:=fun i=>((Pkg.lens (cntN f) len most i:Nat):Int)
theorem Pkg.sumTo_mul (F:Nat→Nat) (c:Nat):∀n,Pkg.sumTo (fun j=>F j*c) n=Pkg.sumTo F n*c
 | 0=>by simp[Pkg.sumTo]
 | n+1=>by simp only[Pkg.sumTo,Pkg.sumTo_mul F c n,Nat.add_mul]
theorem Pkg.sum_ones:∀l:List Nat,(l.map fun _=>1).sum=l.length
 | []=>rfl
 | a ::l=>by rw[List.map_cons,List.sum_cons,Pkg.sum_ones l,List.length_cons];omega
theorem many_sum (f:Nat→Int) (n:Nat):∀len,many f n len=Pkg.sumTo (fun j=>if f j=n then 1 else 0) len
 | 0=>rfl
 | len+1=>by simp only[many,Pkg.sumTo,many_sum f n len]
theorem kraft_sums (f:Nat→Int) (len:Nat) (h0:∀j,j<len→0≤f j):∀n,n≤15→kraft f len n=Pkg.sumTo (fun j=>if 1≤f j∧f j≤n then 2^(15-(f j).toNat) else 0) len
 | 0,_=>by
  show 0=_;rw[Pkg.sumTo_congr (g:=fun _=>0) (fun j hj=>by rw[if_neg];rintro⟨h1,h2⟩;omega),Pkg.sumTo_const];simp
 | n+1,hn=>by
  have ih:=kraft_sums f len h0 n (by omega);simp only[kraft];rw[ih,many_sum];have e:Pkg.sumTo (fun j=>if f j=((n+1:Nat):Int) then 1 else 0) len*2^(14-n)=Pkg.sumTo (fun j=>if f j=((n+1:Nat):Int) then 2^(14-n) else 0) len:=by
   clear ih hn h0;induction len with
   | zero=>simp[Pkg.sumTo]
   | succ len ih=>
    simp only[Pkg.sumTo,Nat.add_mul,ih];congr 1
    split <;> simp
  rw[e,← Pkg.sumTo_add];apply Pkg.sumTo_congr;intro j hj;have:=h0 j hj;by_cases c1:f j=((n+1:Nat):Int)
  ·rw[if_neg (by omega),if_pos c1,if_pos (by omega),c1,show 15-(((n+1:Nat):Int)).toNat=14-n by omega,Nat.zero_add]
  ·rw[if_neg c1];by_cases c2:1≤f j∧f j≤n
   ·rw[if_pos c2,if_pos (by omega)];omega
   ·rw[if_neg c2,if_neg (by omega)]
/-- the lengths are those of a right code -/
theorem lens_good (f:Nat→Int) (len most:Nat) (h0:∀j,j<len→0≤f j) (hl:len≤300) (hm1:1≤most) (hm2:most≤15) (hn:(Pkg.used (cntN f) len).length≤2^most):
  (∀j,j<len→0≤lenF f len most j∧lenF f len most j≤most∧(0<lenF f len most j↔0<f j))∧inBounds (lenF f len most) len∧complete (lenF f len most) len:=by
 have key:∀j,j<len→0≤lenF f len most j∧lenF f len most j≤most∧(0<lenF f len most j↔0<f j):=by
  intro j hj;have hmem:j∈Pkg.used (cntN f) len↔0<f j:=by
   rw[Pkg.mem_used];unfold cntN;have:=h0 j hj;constructor
   ·rintro⟨_,q⟩;omega
   ·intro q;exact⟨hj,by omega⟩
  unfold lenF;by_cases h2:(Pkg.used (cntN f) len).length<2
  ·unfold Pkg.lens;rw[if_pos h2];by_cases hm:j∈Pkg.used (cntN f) len
   ·rw[if_pos hm];have:=hmem.1 hm;simp;omega
   ·rw[if_neg hm];have:¬ 0<f j:=fun q=>hm (hmem.2 q);simp;omega
  ·obtain⟨a1,a2,_,_⟩:=Pkg.lens_many (cnt:=cntN f) (len:=len) (most:=most) (by omega) hm1 hn;by_cases hm:j∈Pkg.used (cntN f) len
   ·have:=a1 j hm;have:=hmem.1 hm;omega
   ·have:=a2 j hm;have:¬ 0<f j:=fun q=>hm (hmem.2 q);omega
 have hb:inBounds (lenF f len most) len:=⟨hl,fun j hj=>by have:=key j hj;omega⟩;refine⟨key,hb,?_⟩;have hmem:∀j,j<len→(j∈Pkg.used (cntN f) len↔0<lenF f len most j):=by
  intro j hj;rw[(key j hj).2.2,Pkg.mem_used];unfold cntN;have:=h0 j hj;constructor
  ·rintro⟨_,q⟩;omega
  ·intro q;exact⟨hj,by omega⟩
 by_cases h2:(Pkg.used (cntN f) len).length<2
 ·-- none, or one
  have hsum:∀g:Nat→Nat,Pkg.sumTo (fun i=>if 0<cntN f i then g i else 0) len=((Pkg.used (cntN f) len).map g).sum:=fun g=>(Pkg.sum_used g (cntN f) len).symm;have hpos:∀j,j<len→(0<cntN f j↔0<lenF f len most j):=fun j hj=>by
   rw[← hmem j hj,Pkg.mem_used];exact⟨fun q=>⟨hj,q⟩,fun q=>q.2⟩
  have hone:∀j,j<len→0<lenF f len most j→lenF f len most j=1:=by
   intro j hj hp;unfold lenF Pkg.lens;rw[if_pos h2,if_pos ((hmem j hj).2 hp)];rfl
  have e1:many (lenF f len most) 1 len=(Pkg.used (cntN f) len).length:=by
   rw[many_sum,Pkg.sumTo_congr (g:=fun i=>if 0<cntN f i then 1 else 0),hsum (fun _=>1)]
   ·exact Pkg.sum_ones _
   ·intro j hj;have q:=hpos j hj;by_cases c:0<cntN f j
    ·have q1:lenF f len most j=((1:Nat):Int):=hone j hj (q.1 c);rw[if_pos c,if_pos q1]
    ·rw[if_neg c,if_neg];intro e;exact c (q.2 (by rw[e];decide))
  have e0:many (lenF f len most) 0 len+(Pkg.used (cntN f) len).length=len:=by
   rw[← e1,many_sum,many_sum,← Pkg.sumTo_add,Pkg.sumTo_congr (g:=fun _=>1),Pkg.sumTo_const]
   ·omega
   ·intro j hj;have q:=key j hj;by_cases c:0<lenF f len most j
    ·have:=hone j hj c;rw[if_neg (by omega),if_pos (by omega)]
    ·rw[if_pos (by omega),if_neg (by omega)]
  rcases Nat.eq_zero_or_pos (Pkg.used (cntN f) len).length with c | c
  ·exact .inl (by omega)
  ·exact .inr (.inl ⟨by omega,by omega⟩)
 ·refine .inr (.inr ?_);obtain⟨a1,a2,a3,_⟩:=Pkg.lens_many (cnt:=cntN f) (len:=len) (most:=most) (by omega) hm1 hn;rw[kraft_sums _ _ (fun j hj=>(key j hj).1) 15 (Nat.le_refl _)];have e:Pkg.sumTo (fun j=>if 1≤lenF f len most j∧lenF f len most j≤((15:Nat):Int) then 2^(15-(lenF f len most j).toNat) else 0) len=Pkg.sumTo (fun s=>if 0<cntN f s then 2^(most-Pkg.lens (cntN f) len most s) else 0) len*2^(15-most):=by
   have hj:∀j,j<len→(if 1≤lenF f len most j∧lenF f len most j≤((15:Nat):Int) then 2^(15-(lenF f len most j).toNat) else 0)=(if 0<cntN f j then 2^(most-Pkg.lens (cntN f) len most j) else 0)*2^(15-most):=by
    intro j hj;have q:=key j hj;have m:=hmem j hj;rw[Pkg.mem_used] at m;by_cases c:0<cntN f j
    ·have q2:=m.1 ⟨hj,c⟩;rw[if_pos c,if_pos (by omega),← Nat.pow_add];congr 1
     unfold lenF at q q2⊢;simp only[Int.toNat_natCast];omega
    ·have q2:¬ 0<lenF f len most j:=fun h=>c (m.2 h).2;rw[if_neg c,if_neg (by omega),Nat.zero_mul]
   rw[Pkg.sumTo_congr hj,Pkg.sumTo_mul]
  rw[e,a3,← Nat.pow_add,show most+(15-most)=15 by omega]
theorem Cs.keeps {S:Nat→Prop} {w w':World} {B n:Nat} {k:IntKind} {g:Nat→Int} (h:Cs w B n k g) (hk:Keeps S w w') (hS:¬ S B):Cs w' B n k g:=fun i hi=>by
 have hb:=World.block_lt_of_cell? w _ (h i hi).1;exact⟨(hk.cell (p:=⟨B,i,none⟩) hb hS).trans (h i hi).1,(hk.frozen (p:=⟨B,i,none⟩) hb hS).trans (h i hi).2⟩
/-- a row of packs that may be read: where its symbols lie, and how great it is -/
def Sy (w:World) (go len d:Nat) (R:List Pk):Prop:=∀p∈R,(SyAt w p∧p.a≠some ⟨go,0,none⟩)∧p.c≤1048576*2^d∧p.s.length≤2^d∧∀s∈p.s,s<len
theorem Sy.up {w:World} {go len d:Nat} {R:List Pk} (h:Sy w go len d R):Sy w go len (d+1) R:=fun p hp=>by
 obtain⟨h1,h2,h3,h4⟩:=h p hp;have e:2^(d+1)=2*2^d:=by rw[Nat.pow_succ,Nat.mul_comm]
 exact⟨h1,by omega,by omega,h4⟩
theorem Sy.le {w:World} {go len:Nat} {R:List Pk} (h:Sy w go len 0 R):∀d,Sy w go len d R
 | 0=>h
 | d+1=>(Sy.le h d).up
theorem Sy.app {w:World} {go len d:Nat} {R Q:List Pk} (h:Sy w go len d R) (k:Sy w go len d Q):Sy w go len d (R++Q):=fun p hp=>by
 rcases List.mem_append.1 hp with q | q
 ·exact h p q
 ·exact k p q
theorem Sy.ext {w w':World} {go len d:Nat} {R:List Pk} (h:Sy w go len d R) (hE:Ext w w'):Sy w' go len d R:=fun p hp=>⟨⟨(h p hp).1.1.ext hE,(h p hp).1.2⟩,(h p hp).2⟩
theorem Sy.one {w w':World} {go len d B:Nat} {R l:List Pk} (h:Sy w go len d R) (hP:PR w B l) (hO:One B w w'):Sy w' go len d R:=fun p hp=>⟨⟨(h p hp).1.1.one hP hO,(h p hp).1.2⟩,(h p hp).2⟩
theorem Sy.perm {w:World} {go len d:Nat} {R Q:List Pk} (h:Sy w go len d R) (hp:Q.Perm R):Sy w go len d Q:=fun p hq=>h p (hp.mem_iff.1 hq)
theorem Sy.out {w w':World} {go len d:Nat} {R:List Pk} (h:Sy w go len d R) (hO:One go w w'):Sy w' go len d R:=fun p hp=>⟨⟨(h p hp).1.1.keeps hO (fun g hg e=>(h p hp).1.2 (by rw[hg];congr)),(h p hp).1.2⟩,(h p hp).2⟩
/-- a pack's symbols lie in no row of packs -/
theorem SyAt.apart {w:World} {p:Pk} (h:SyAt w p) {base n:Nat} {v:Value} {xs:List Value} (ho:w.ownsRow base 237 2 v n xs) {g:Nat} (hg:p.a=some ⟨g,0,none⟩):¬ v.ownBlock=some g:=by
 intro e;obtain⟨_,g',cs,h1,_,h3,_⟩:=h;rw[hg] at h1;have e1:g=g':=by injection h1 with h1;injection h1
 rcases ho.2 with⟨hv,_⟩ | ⟨g2,cap,cur,hv,_,hh,_⟩
 ·rw[hv] at e;cases e
 ·rw[hv] at e;have e2:g2=g:=by simpa [Value.ownBlock] using e
  rw[← e1,← e2,hh] at h3;injection h3 with h3;injection h3 with _ h3;exact absurd h3 (by decide)
theorem SyAt.grown {w w':World} {p:Pk} (h:SyAt w p) {base n:Nat} {v:Value} {xs:List Value} (ho:w.ownsRow base 237 2 v n xs) (hg:w.grownBy w' v.ownBlock):SyAt w' p:=
 h.keeps (Keeps.grown hg) (fun _ hq e=>h.apart ho hq e)
theorem Sy.grown {w w':World} {go len d base n:Nat} {R:List Pk} {v:Value} {xs:List Value} (h:Sy w go len d R) (ho:w.ownsRow base 237 2 v n xs) (hg:w.grownBy w' v.ownBlock):Sy w' go len d R:=fun p hp=>⟨⟨(h p hp).1.1.grown ho hg,(h p hp).1.2⟩,(h p hp).2⟩
theorem Sy.size {w:World} {go len d:Nat} {R:List Pk} (h:Sy w go len d R):∀q,(Pkg.syms ((pcs R).take q)).length≤q*2^d
 | 0=>by simp[Pkg.syms]
 | q+1=>by
  have ih:=Sy.size h q;rw[Nat.add_mul];by_cases hq:q<R.length
  ·have e:(pcs R).take (q+1)=(pcs R).take q ++ [R[q].pc]:=by
    rw[List.take_succ_eq_append_getElem (by rw[pcs_length];exact hq)];simp[pcs]
   rw[e,Pkg.syms_append,List.length_append];have:=(h R[q] (List.getElem_mem hq)).2.2.1;have e2:(Pkg.syms [R[q].pc]).length=R[q].s.length:=by simp[Pkg.syms,Pk.pc]
   omega
  ·rw[List.take_of_length_le (by rw[pcs_length];omega)];rw[List.take_of_length_le (by rw[pcs_length];omega)] at ih;omega
/-- what lies in memory while the lengths are counted: so many packs, and so many symbols of the next one, are told -/
structure Cnt (w w':World) (go len d:Nat) (R:List Pk) (g:Nat) (q:Nat) (t:List Nat):Prop where
 rp:PR w' g R
 sy:Sy w' go len d R
 ext:Ext w w'
 oc:Cs w' go len .i64 (fun s=>(((Pkg.syms ((pcs R).take q)).count s+t.count s:Nat):Int))
 lt:go<w'.heap.size
 ge:w.heap.size≤go
 ne:g≠go
theorem Cnt.step {w w' w2:World} {go len d:Nat} {R:List Pk} {g q:Nat} {t:List Nat} (h:Cnt w w' go len d R g q t) (hE:Ext w' w2):Cnt w w2 go len d R g q t:=
 ⟨h.rp.ext hE,h.sy.ext hE,h.ext.trans hE,h.oc.keeps (S:=fun _=>False) hE.keeps id,by have:=h.lt;have:=hE.size;omega,h.ge,h.ne⟩
theorem Cnt.more {w w':World} {go len d:Nat} {R:List Pk} {g q:Nat} {t:List Nat} (h:Cnt w w' go len d R g q t) {s:Nat} (hs:s<len):Cnt w (w'.setCell ⟨go,s,none⟩ (.int .i64 (((Pkg.syms ((pcs R).take q)).count s+t.count s+1:Nat):Int))) go len d R g q (t ++ [s]):=by
 have hO:One go w' (w'.setCell ⟨go,s,none⟩ (.int .i64 (((Pkg.syms ((pcs R).take q)).count s+t.count s+1:Nat):Int))):=Keeps.setCell (S:=fun k=>k=go) (p:=⟨go,s,none⟩) (Keeps.refl _ _) (.inl rfl) _;refine⟨h.rp.keeps hO h.ne,h.sy.out hO,Below.setCell h.ext h.ge _,?_,by have:=h.lt;simpa using this,h.ge,h.ne⟩;refine h.oc.put s _ _ hs (fun i _=>?_);rw[List.count_append];by_cases e:i=s
 ·subst e;rw[if_pos rfl];simp;omega
 ·rw[if_neg e];have: [s].count i=0:=by rw[List.count_eq_zero];simpa using e
  rw[this];rfl
theorem Cnt.next {w w':World} {go len d:Nat} {R:List Pk} {g q:Nat} {p:Pk} (h:Cnt w w' go len d R g q p.s) (hp:R[q]? =some p):Cnt w w' go len d R g (q+1) []:=by
 refine⟨h.rp,h.sy,h.ext,h.oc.congr (fun s _=>?_),h.lt,h.ge,h.ne⟩;obtain⟨hq,e⟩:=List.getElem?_eq_some_iff.1 hp;have e2:(pcs R).take (q+1)=(pcs R).take q ++ [p.pc]:=by
  rw[List.take_succ_eq_append_getElem (by rw[pcs_length];exact hq)];simp[pcs,e]
 rw[e2,Pkg.syms_append,List.count_append];simp[Pkg.syms,Pk.pc]
structure LSt (w w':World) (go gc len d:Nat) (L R:List Pk) (g:Nat):Prop where
 ext:Ext w w'
 cp:PR w' gc L
 rp:PR w' g R
 syL:Sy w' go len 0 L
 syR:Sy w' go len d R
 oc:Cs w' go len .i64 (fun _=>0)
 base:w.heap.size≤gc
 o1:gc<go
 o2:go<g
theorem LSt.step {w w' w2:World} {go gc len d:Nat} {L R:List Pk} {g:Nat} (h:LSt w w' go gc len d L R g) (hE:Ext w' w2):LSt w w2 go gc len d L R g:=
 ⟨h.ext.trans hE,h.cp.ext hE,h.rp.ext hE,h.syL.ext hE,h.syR.ext hE,h.oc.keeps (S:=fun _=>False) hE.keeps id,h.base,h.o1,h.o2⟩
theorem LSt.turn {w w' w2:World} {go gc len d:Nat} {L R R2:List Pk} {g:Nat} (h:LSt w w' go gc len d L R g) (hO:One g w' w2) (hP:PR w2 g R2) (hp:R2.Perm R):LSt w w2 go gc len d L R2 g:=
 ⟨by
  have:=h.ext.size;have:=h.base;have:=h.o1;have:=h.o2;exact Below.trans h.ext (hO.below (B:=w.heap.size) (by omega) (fun k hk e=>by omega)),h.cp.keeps hO (by have:=h.o1;have:=h.o2;omega),hP,h.syL.one h.rp hO,(h.syR.one h.rp hO).perm hp,h.oc.keeps hO (by have:=h.o2;omega),h.base,h.o1,h.o2⟩
theorem LSt.renew {w w' w2:World} {go gc len d d':Nat} {L R R2:List Pk} {g g2:Nat} (h:LSt w w' go gc len d L R g) (hE:Ext w' w2) (hP:PR w2 g2 R2) (hS:Sy w2 go len d' R2) (ho:go<g2):LSt w w2 go gc len d' L R2 g2:=
 ⟨h.ext.trans hE,h.cp.ext hE,hP,h.syL.ext hE,hS,h.oc.keeps (S:=fun _=>False) hE.keeps id,h.base,h.o1,ho⟩
theorem LSt.grown {w w' w2:World} {go gc len d b0 n:Nat} {L R:List Pk} {g:Nat} {v:Value} {xs:List Value} (h:LSt w w' go gc len d L R g) (_hb:b0≤w'.heap.size) (hgb:g<b0) (ho:w'.ownsRow b0 237 2 v n xs) (hG:w'.grownBy w2 v.ownBlock):LSt w w2 go gc len d L R g:=by
 have hk:=Keeps.grown hG;have hlt:∀k,v.ownBlock=some k→b0≤k:=fun k hk=>(ho.lt k hk).1;have:=h.ext.size;have:=h.base;have:=h.o1;have:=h.o2;exact⟨Below.trans h.ext (hk.below (B:=w.heap.size) (by omega) (fun k hk e=>by have:=hlt k e;omega)),h.cp.keeps hk (fun e=>by have:=hlt _ e;omega),h.rp.keeps hk (fun e=>by have:=hlt _ e;omega),h.syL.grown ho hG,h.syR.grown ho hG,h.oc.keeps hk (fun e=>by have:=hlt _ e;omega),h.base,h.o1,h.o2⟩
theorem syAt_own {w:World} {base sg n k:Nat} (c:Nat) {l:List Nat} (h:w.ownsRow base 3 1 (.slice (some ⟨sg,0,none⟩) n k) n (i64V (l.map fun i:Nat=>(i:Int)))) (h0:0<l.length) (hn:n=l.length):SyAt w ⟨c,some ⟨sg,0,none⟩,l.length,k,l⟩∧base≤sg:=by
 rcases h.2 with⟨hv,_⟩ | ⟨g,cap,cur,hv,hg,hh,hc,hm,hs,ht⟩
 ·cases hv
 ·injection hv with hv1 _ _;injection hv1 with hv1;injection hv1 with hv1 _ _;subst hv1;refine⟨⟨h0,sg,cur,rfl,rfl,hh,fun j hj=>?_⟩,hg⟩;have hj':j<l.length:=hj;have e:cur.toList[j]? =(i64V (l.map fun i:Nat=>(i:Int)))[j]?:=by
   rw[← ht,List.getElem?_take_of_lt (by omega)]
  rw[← Array.getElem?_toList,e];simp[i64V,hj']
theorem pcs_get {R:List Pk} {i:Nat} {x:Pk} (h:R[i]? =some x):(pcs R)[i]? =some x.pc:=by simp[pcs,h]
/-- a pair that was made -/
theorem Sy.pair {w:World} {go len d:Nat} {R:List Pk} (h:Sy w go len d R) {x y:Pk} (hx:x∈R) (hy:y∈R) {sg k:Nat} (hz:SyAt w ⟨x.c+y.c,some ⟨sg,0,none⟩,(x.s++y.s).length,k,x.s++y.s⟩) (hg:sg≠go):Sy w go len (d+1) [⟨x.c+y.c,some ⟨sg,0,none⟩,(x.s++y.s).length,k,x.s++y.s⟩]:=fun p hp=>by
 rw[List.mem_singleton.1 hp];obtain⟨_,a2,a3,a4⟩:=h x hx;obtain⟨_,b2,b3,b4⟩:=h y hy;have e:2^(d+1)=2*2^d:=by rw[Nat.pow_succ,Nat.mul_comm]
 refine⟨⟨hz,fun q=>by injection q with q;injection q with q;exact hg q⟩,?_,?_,?_⟩
 ·show x.c+y.c≤_;omega
 ·show (x.s++y.s).length≤_;rw[List.length_append];omega
 ·intro s hs;rcases List.mem_append.1 hs with q | q
  ·exact a4 s q
  ·exact b4 s q
theorem Pkg.coins_succ (cnt:Nat→Nat) (i:Nat):Pkg.coins cnt (i+1)=Pkg.coins cnt i++(if 0<cnt i then [Pkg.coin cnt i] else []):=by
 unfold Pkg.coins Pkg.used;rw[List.range_succ,List.filter_append,List.map_append];congr 1
 by_cases h:0<cnt i <;> simp[h]
def lenGood (f:Nat→Int) (len:Nat) (most:Nat):Prop:=len≤300∧1≤most∧most≤15∧∀j,j<len→0≤f j∧f j≤1048576
def LenPost (f:Nat→Int) (len most:Nat) (w:World) (ES:Value) (e:Ending) (w':World):Prop:=Ext w w'∧((2^most<(Pkg.used (cntN f) len).length∧e=.returned (.tuple #[.slice none 0 0,ES]))∨((Pkg.used (cntN f) len).length≤2^most∧∃g,e=.returned (.tuple #[.slice (some ⟨g,0,none⟩) len len,.nilIface])∧Ints w' (some ⟨g,0,none⟩) len (lenF f len most)∧w.heap.size≤g))
set_option maxHeartbeats 16000000 in
theorem lengths_good (x:Option Addr) (len cap:Nat) (f:Nat→Int) (most:Nat) (w:World) (hx:Ints w x len f) (ES:Value) (hS:w.cell? ⟨0,0,none⟩=some ES) (h:lenGood f len most):
  Calls Tryz.prog 128 #[.slice x len cap,.int .i64 (most:Int)] w fun e w'=>LenPost f len most w ES e w':=by
 obtain⟨i0,hi0,hz0,hz1,hz2⟩:=info_parts pkinfo;obtain⟨hl,hm1,hm2,hf⟩:=h;have HX:=Hd hx;have HS:=Hd hS;have HF:=Hd hf;have HC:=Hd (containsL_calls x len cap f w hx (by unfold maxLen;omega));have t1:decide ((300:Int)<(len:Int))=false:=decide_eq_false (by omega);have t2:decide ((most:Int)<1)=false:=decide_eq_false (by omega);have t3:decide ((15:Int)<(most:Int))=false:=decide_eq_false (by omega);obtain⟨B0,hB0⟩:∃B,w.heap.size=B:=⟨_,rfl⟩;have HB0:=Hd hB0;clear hx hS hf hB0;go_enter Tryz.func128,Tryz.ntmps128
 go_wp2_with fail;refine HC.out.mono ?_;rintro e w1 ⟨⟨b,rfl,hb⟩,rfl⟩;have hb2:b=false:=by
  rcases hb with⟨hb,_⟩ | ⟨_,hb⟩
  ·exact hb
  ·obtain⟨j,hj,q⟩:=hb;have:=HF.out j hj;omega
 subst hb2;clear hb HC;go_wp2_with fail;go_loopw [6,35] (fun v c wr=>∃i:Nat,i≤len∧c=.int .i64 i∧Hid (∃L:List Pk,wr.ownsRow B0 237 2 v L.length (pkL L)∧pcs L=Pkg.coins (cntN f) i∧L.length≤i∧∀p∈L,SyAt wr p)∧Hid (Ext w wr)) (fun _ c _=>len-(intOf c).toNat)
 case atStart=>exact⟨0,by omega,rfl,Hd ⟨[],World.ownsRow_nil _ _ _ _,rfl,by simp,by simp⟩,Hd (Ext.refl _)⟩
 case round=>
  obtain⟨i,hi,rfl,HO,HE⟩:=hrel;by_cases hlt:i<len
  ·obtain⟨a,rfl⟩:∃a,x=some a:=by
    cases x with
    | none=>have:=HX.out.1 rfl;omega
    | some a=>exact⟨a,rfl⟩
   obtain⟨hc,h1,h2⟩:=(HX.out.ext HE.out).2 a rfl i hlt;obtain⟨c,hcf⟩:∃c:Nat,f i=(c:Int):=⟨(f i).toNat,by have:=HF.out i hlt;omega⟩;have HCF:=Hd (show cntN f i=c by unfold cntN;omega);have hcb:c≤1048576:=by have:=HF.out i hlt;omega
   rw[hcf] at hc;clear h1 h2 hcf;by_cases h0:c=0
   ·have t4:decide ((0:Int)<(c:Int))=false:=decide_eq_false (by omega);have HN:=Hd (show Pkg.coins (cntN f) (i+1)=Pkg.coins (cntN f) i by rw[Pkg.coins_succ,HCF.out,if_neg (by omega),List.append_nil]);have h5:¬ 0<c:=by omega
    clear h0;go_wp2_with fail;go_roundw
    case rel=>
     obtain⟨L,q1,q2,q3,q4⟩:=HO.out;exact⟨i+1,by omega,by go_num,Hd ⟨L,q1,by rw[HN.out];exact q2,by omega,q4⟩,HE⟩
    case measure=>simp[intOf];omega
   ·have t4:decide ((0:Int)<(c:Int))=true:=decide_eq_true (by omega);have HN:=Hd (show Pkg.coins (cntN f) (i+1)=Pkg.coins (cntN f) i ++ [⟨c,[i]⟩] by rw[Pkg.coins_succ,HCF.out,if_pos (by omega)];show _ ++ [(⟨cntN f i,[i]⟩:Pkg.Pc)]=_;rw[HCF.out]);obtain⟨L,q1,q2,q3,q4⟩:=HO.out;have Q2:=Hd q2;have Q3:=Hd q3;obtain⟨N,hN⟩:∃N,L.length=N:=⟨_,rfl⟩;have HNN:=Hd hN;rw[hN] at q1 q3;clear hN;obtain⟨xo,co,rfl⟩:=lit_row q1;have HOA:Hid (((wr.alloc (.cells #[.int .i64 (i:Int)] 3)).alloc (.cells #[.int .i64 (c:Int),.slice (some ⟨wr.heap.size,0,none⟩) 1 1] 237)).ownsRow B0 237 2 (.slice xo N co) N (pkL L)):=Hd (ownsRow_kept q1 (((Ext.refl wr).alloc _).alloc _).keeps (fun _ _=>id));have Q4:=Hd q4;have hsz:=HE.out.size;have h5:0<c:=by omega
    have hLi:=q3;clear q1 q2 q3 q4 h0;go_wp2_with (at_builtin;refine wpList_append_own_at _ rfl _ _ 235 rfl B0 237 i0 (.agg #[.int .i64 0,.slice none 0 0]) 2 32 Tryz.underlying235 hi0 hz0 hz1 hz2 rfl (by decide) (.slice xo N co) N (pkL L) rfl HOA.out ⟨wr.heap.size+1,0,none⟩ 1 1 [.int .i64 (c:Int),.slice (some ⟨wr.heap.size,0,none⟩) 1 1] rfl rfl ?c2 ?c6 ?c3 ?c4 ?c5 ?_)
    case c2=>
     intro j u hj;have hb:Bk ((wr.alloc (.cells #[.int .i64 (i:Int)] 3)).alloc (.cells #[.int .i64 (c:Int),.slice (some ⟨wr.heap.size,0,none⟩) 1 1] 237)) (wr.heap.size+1) #[.int .i64 (c:Int),.slice (some ⟨wr.heap.size,0,none⟩) 1 1]:=Bk.at (by simp);rw[add_plain];exact (hb.cell j).trans (by simpa using hj)
    case c6=>intro u hu;simp at hu;rcases hu with rfl | rfl <;> rfl
    case c3=>unfold maxLen;omega
    case c4=>omega
    case c5=>have:=HB0.out;simp;omega
    intro v' w2 hown hgrow _ _;have HXG:=Hd ((show Ext wr ((wr.alloc (.cells #[.int .i64 (i:Int)] 3)).alloc (.cells #[.int .i64 (c:Int),.slice (some ⟨wr.heap.size,0,none⟩) 1 1] 237)) from ((Ext.refl wr).alloc _).alloc _));have HG:=Hd hgrow;have HOW:=Hd hown;clear hown hgrow;go_wp2_with fail;refine⟨⟨i+1,by omega,by simp,Hd ⟨L ++ [⟨c,some ⟨wr.heap.size,0,none⟩,1,1,[i]⟩],?_,?_,by simp[HNN.out];omega,?_⟩,?_⟩,by simp[intOf];omega⟩
    ·rw[List.length_append,HNN.out,pkL_append];exact HOW.out
    ·rw[pcs_append,Q2.out,HN.out];rfl
    ·intro p hp;rcases List.mem_append.1 hp with q | q
     ·exact ((Q4.out p q).ext HXG.out).grown HOA.out HG.out
     ·rw[List.mem_singleton.1 q];refine SyAt.grown ⟨Nat.zero_lt_one,wr.heap.size,_,rfl,rfl,((Below.heap_alloc _ _ _ (by simp)).trans (heap_alloc_new wr _)),?_⟩ HOA.out HG.out;intro j hj;have:j=0:=by simp at hj;omega
      subst this;rfl
    ·exact Hd (Below.trans (HE.out.trans HXG.out) ((Keeps.grown HG.out).below (by have:=(HE.out.trans HXG.out).size;exact this) (fun q hq e=>by have:=(HOA.out.lt q e).1;have:=HB0.out;omega)))
  ·obtain rfl:len=i:=by omega
   obtain⟨L,q1,q2,q3,q4⟩:=HO.out;obtain⟨N,hN⟩:∃N,L.length=N:=⟨_,rfl⟩;have HN:=Hd hN;have HNU:=Hd (show (Pkg.used (cntN f) len).length=N by
    have:=congrArg List.length q2;rw[pcs_length,hN] at this;rw[this];simp[Pkg.coins])
   rw[hN] at q1 q3;obtain⟨xo,co,rfl⟩:=lit_row q1;have Q1:=Hd q1;have Q2:=Hd q2;have Q4:=Hd q4;have hbl:=World.block_lt_of_cell? w _ HS.out;have hS1:=(HE.out.cell (p:=⟨0,0,none⟩) hbl).trans HS.out;obtain⟨M,hM⟩:∃M,2^most=M:=⟨_,rfl⟩;have HM:=Hd hM;have hMb:M≤32768:=by rw[← hM];exact Nat.pow_le_pow_right (by decide) hm2
   have e5:wrap64 ((2:Int)^most)=(M:Int):=by
    have:((2:Int)^most)=((2^most:Nat):Int):=by rw[Int.natCast_pow];rfl
    rw[this,hM];unfold wrap64;omega
   clear q1 q2 q4 hN HO hM hbl hi;by_cases hMN:M<N
   ·go_wp2_with fail;go_region;all_goals
     go_wp2_with fail;go_ret2;exact⟨Below.drew HE.out,.inl ⟨by rw[HNU.out,HM.out];exact hMN,rfl⟩⟩
   ·have hmk:=run_make_row' (P:=Tryz.prog) 88 3 (.int .i64 0) 8 Tryz.underlying88 i64info rfl .i64 .i64 len (by omega) (by omega);clear hS1;go_upto_region 13 with fail;clear hmk;rw[made_eq];obtain⟨go,hgo⟩:∃g,wr.heap.size=g:=⟨_,rfl⟩;refine wp_world (fun wz=>Ext wr wz∧Cs wz go len .i64 (fun _=>0)∧wz.heap.size=go+1) ⟨(Ext.refl wr).alloc _,by rw[← hgo];exact Cs.born wr .i64 len (fun _=>0) 3,by simp[hgo]⟩ ?_;rintro w2 ⟨hX,hC,hZ⟩;rw[hgo];have HX2:=Hd (HE.out.trans hX);have HCS:=Hd hC;have HGO:=Hd (And.intro hgo hZ);have HLE:=Hd (show B0≤go by have:=HE.out.size;have:=HB0.out;omega);have Q1b:=Hd (ownsRow_kept Q1.out hX.keeps (fun _ _=>id));have Q4b:Hid (∀p∈L,SyAt w2 p∧p.a≠some ⟨go,0,none⟩):=Hd (fun p hp=>⟨(Q4.out p hp).ext hX,fun e=>by
     obtain⟨_,g',cs,h1,_,h3,_⟩:=Q4.out p hp;rw[h1] at e;have:=lt_of_block h3;injection e with e;injection e with e;omega⟩)
    have HGC:=Hd (show ∀k,(Value.slice xo N co).ownBlock=some k→B0≤k∧k<go from fun k hk=>⟨(Q1.out.lt k hk).1,by rw[← hgo];exact (Q1.out.lt k hk).2⟩);clear hX hC hZ hgo Q1 Q4;by_cases h0:N=0
    ·have t6:((N:Int) ==1)=false:=beq_eq_false_iff_ne.2 (by omega);have h6:N≠1:=by omega
     have h7:N<2:=by omega
     go_wp2_with fail;go_ret2;refine⟨HX2.out,.inr ⟨by rw[HNU.out,HM.out];omega,go,rfl,⟨(fun h=>by cases h),fun a ha j hj=>?_⟩,by have:=HB0.out;have:=HLE.out;omega⟩⟩;injection ha with ha;subst ha;have hz:lenF f len most j=0:=by
      unfold lenF Pkg.lens;rw[if_pos (by rw[HNU.out];omega),if_neg]
      ·rfl
      ·intro hm;have:=List.length_pos_of_mem hm;have:=HNU.out;omega
     rw[add_plain,hz];exact⟨(HCS.out j hj).1,by decide,by decide⟩
    ·obtain⟨gc,cc,hv,hgc,hP,_⟩:=PR.of_own (l:=L) (by rw[HN.out];exact Q1b.out) (by rw[HN.out];omega);injection hv with hv1 hv2 hv3;subst hv1 hv3;clear hv2;have hgo:=(HGC.out gc rfl).2;have HP:=Hd hP;have HGC2:=Hd (And.intro hgc hgo);clear hP hgc hgo HGC;by_cases h1:N=1
     ·have t6:((N:Int) ==1)=true:=beq_iff_eq.2 (by omega);subst h1;obtain⟨p,rfl⟩:∃p,L=[p]:=by
       match L,HN.out with
       | [p],_=>exact⟨p,rfl⟩
      obtain⟨hps,hpa⟩:=Q4b.out p (by simp);obtain⟨s,hps1,hsu⟩:∃s,p.s=[s]∧Pkg.used (cntN f) len=[s]:=by
       have h2:=Q2.out;unfold Pkg.coins at h2;match hu:Pkg.used (cntN f) len,HNU.out with
       | [s],_=>
        rw[hu] at h2;refine⟨s,?_,rfl⟩;have:pcs [p]=[Pkg.coin (cntN f) s]:=by simpa using h2
        unfold pcs at this;simp only[List.map_cons,List.map_nil,List.cons.injEq,and_true] at this;exact congrArg Pkg.Pc.s this
      have hsl:s<len:=(Pkg.mem_used.1 (by rw[hsu];simp)).1;obtain⟨k2,k3⟩:=HP.out.at (i:=0) (by simp);obtain⟨sg,hsg,k4⟩:=hps.cell (j:=0) hps.1;have k5:p.n=1:=by
       obtain⟨_,g',cs,_,h2,_⟩:=hps;rw[h2,hps1];rfl
      simp only[hps1,List.getD_cons_zero] at k4;simp only[List.getElem_cons_zero,hsg,k5,Nat.zero_mul,Nat.zero_add] at k3;obtain⟨k6,k7⟩:=HCS.out s hsl;have HFI:=Hd (HCS.out.put s 1 (fun i=>if i=s then 1 else 0) hsl (fun i _=>rfl));have HHS:=Hd hsu;have hsi:(s:Int)<(len:Int):=by omega
      clear k2 hps hpa hsu hps1 hsg k5;go_wp2_with fail;go_ret2;refine⟨Below.setCell HX2.out (by have:=HB0.out;have:=HLE.out;show w.heap.size≤go;omega) _,.inr ⟨by rw[HNU.out,HM.out];omega,go,rfl,⟨(fun h=>by cases h),fun a ha j hj=>?_⟩,by have:=HB0.out;have:=HLE.out;omega⟩⟩;injection ha with ha;subst ha;have hz:lenF f len most j=if j=s then 1 else 0:=by
       unfold lenF Pkg.lens;rw[if_pos (by rw[HNU.out];omega),HHS.out];simp only[List.mem_singleton];split <;> rfl
      rw[add_plain,hz];exact⟨(HFI.out j hj).1,by split <;> decide,by split <;> decide⟩
     ·have t6:((N:Int) ==1)=false:=beq_eq_false_iff_ne.2 (by omega);have h7:¬ N<2:=by omega
      have HSO:=Hd (sort_any gc N co L w2 HN.out (by omega) HP.out);have HSY:Hid (Sy w2 go len 0 L):=Hd (fun p hp=>by
       have hq:p.pc∈Pkg.coins (cntN f) len:=by rw[← Q2.out];exact List.mem_map.2 ⟨p,hp,rfl⟩
       obtain⟨s,hs,e⟩:=List.mem_map.1 hq;have hs2:=(Pkg.mem_used.1 hs).1;have e1:p.c=cntN f s:=(congrArg Pkg.Pc.c e).symm;have e2:p.s=[s]:=(congrArg Pkg.Pc.s e).symm;have hb:=HF.out s hs2;refine⟨Q4b.out p hp,by rw[e1];unfold cntN;omega,by rw[e2];exact Nat.le_refl 1,fun z hz=>?_⟩;rw[e2] at hz;rw[List.mem_singleton.1 hz];exact hs2)
      clear Q4b;go_wp2_with fail;refine HSO.out.mono ?_;rintro e w3 ⟨rfl,hr,ho⟩;have HX3:Hid (Ext w w3):=Hd (Below.trans HX2.out (ho.below (B:=w.heap.size) HX2.out.size (fun k hk e=>by have:=HGC2.out.1;have:=HB0.out;omega)));have HP3:=Hd hr;have HS3:Hid (Sy w3 go len 0 (Srt.srt Pk.key L)):=Hd ((HSY.out.one HP.out ho).perm (Srt.srt_perm L));have HC3:=Hd (HCS.out.keeps ho (by have:=HGC2.out.2;omega));have HZ3:=Hd (show go+1≤w3.heap.size by have:=ho.size;have:=HGO.out.2;omega);have HPC:Hid (pcs (Srt.srt Pk.key L)=Srt.srt Pkg.ky (Pkg.coins (cntN f) len)):=Hd (by rw[pcs_srt,Q2.out]);have HLN:Hid ((Srt.srt Pk.key L).length=N):=Hd (by rw[Srt.srt_length];exact HN.out);clear hr ho HSY HCS HP HX2 HSO Q1b;generalize Srt.srt Pk.key L=L2 at HP3 HS3 HPC HLN;have HCL:=Hd (cloneP_any gc co L2 w3 HP3.out (by rw[HLN.out];omega) (by rw[HLN.out];omega));rw[HLN.out] at HCL;have HNN:=HLN;go_wp2_with fail;refine HCL.out.mono ?_;rintro e w4 ⟨⟨g,cg,rfl,hp4,hg4,hc4⟩,hx4⟩;have HL4:Hid (LSt w w4 go gc len 0 L2 L2 g):=Hd ⟨HX3.out.trans hx4,HP3.out.ext hx4,hp4,HS3.out.ext hx4,HS3.out.ext hx4,HC3.out.keeps (S:=fun _=>False) hx4.keeps id,by have:=HGC2.out.1;have:=HB0.out;omega,HGC2.out.2,by have:=HZ3.out;omega⟩;clear hp4 hg4 hx4 HX3 HP3 HS3 HC3 HZ3 HCL;have e7:(most:Int)-1=((most-1:Nat):Int):=by omega
      obtain⟨D,hD⟩:∃D,most-1=D:=⟨_,rfl⟩;rw[hD] at e7;have wD:∀z,z=(D:Int)→IntKind.i64.wrap z=z:=by intro z hz;rw[IntKind.wrap_i64];omega
      have HD:=Hd hD;have hDb:D≤14:=by omega
      clear hD;go_wp2_with fail;go_loopw [10,80] (fun v c wr=>∃(d g cg m:Nat),v=.slice (some ⟨g,0,none⟩) m cg∧c=.int .i64 d∧d≤D∧m≤cg∧Hid (∃R:List Pk,R.length=m∧N≤m∧m≤2*N∧pcs R=Pkg.row (Srt.srt Pkg.ky (Pkg.coins (cntN f) len)) d∧LSt w wr go gc len d L2 R g)) (fun _ c _=>D-(intOf c).toNat)
      case atStart=>exact⟨0,g,cg,N,rfl,rfl,by omega,hc4,Hd ⟨L2,HLN.out,by omega,by omega,HPC.out,HL4.out⟩⟩
      case round=>
       clear HL4;obtain⟨d,g,cg,m,rfl,rfl,hd,hmc,HR⟩:=hrel;by_cases hdD:d<D
       ·have t8:decide ((d:Int)<(D:Int))=true:=decide_eq_true (by omega);obtain⟨R,hRm,hm1,hm2,hpr,hls⟩:=HR.out;have HRM:=Hd hRm;have HPR:=Hd hpr;have HLS:=Hd hls;clear hRm hpr hls HR;rename World=>wl;go_wp2_with fail;go_loopw [11,12] (fun v c wz=>∃k i:Nat,c=.int .i64 i∧2*k=i∧i≤m∧Hid (∃Q:List Pk,Q.length=k∧wz.ownsRow wl.heap.size 237 2 v k (pkL Q)∧pcs Q=(Pkg.prs (pcs R)).take k∧Sy wz go len (d+1) Q)∧Hid (Ext wl wz)) (fun _ c _=>m-(intOf c).toNat)
        case atStart=>exact⟨0,0,rfl,rfl,by omega,Hd ⟨[],rfl,World.ownsRow_nil _ _ _ _,rfl,by intro p hp;cases hp⟩,Hd (Ext.refl _)⟩
        case round=>
         obtain⟨k,i,rfl,hki,him,HQ,HE2⟩:=hrel;obtain⟨j,hj⟩:∃j,i+1=j:=⟨_,rfl⟩;have ej:(i:Int)+1=(j:Int):=by omega
         have wj:∀z,z=(j:Int)→IntKind.i64.wrap z=z:=by intro z hz;rw[IntKind.wrap_i64];omega
         by_cases hjm:j<m
         ·have t9:decide ((j:Int)<(m:Int))=true:=decide_eq_true (by omega);obtain⟨Q,hQk,hQo,hQp,hQs⟩:=HQ.out;obtain⟨xo,co2,rfl⟩:=lit_row hQo;have hRm:=HRM.out;obtain⟨x,hx⟩:∃x,R[i]? =some x:=⟨_,List.getElem?_eq_getElem (by omega)⟩;obtain⟨y,hy⟩:∃y,R[j]? =some y:=⟨_,List.getElem?_eq_getElem (by omega)⟩;have HGX:=Hd hx;have HGY:=Hd hy;have hxm:=List.mem_of_getElem? hx;have hym:=List.mem_of_getElem? hy;have HMX:=Hd hxm;have HMY:=Hd hym;have HGL:=Hd HLS.out.rp.lt;have HKI:=Hd hki;obtain⟨i2,hi2⟩:∃i2,i+2=i2:=⟨_,rfl⟩;have ei2:(i:Int)+2=(i2:Int):=by omega
          have wi2:∀z,z=(i2:Int)→IntKind.i64.wrap z=z:=by intro z hz;rw[IntKind.wrap_i64];omega
          have HI2:=Hd hi2;have HLQ:Hid (LSt w wr go gc len d L2 R g):=Hd (HLS.out.step HE2.out);obtain⟨hsx,hx1,hx2,_⟩:=HLQ.out.syR x hxm;obtain⟨hsy,hy1,hy2,_⟩:=HLQ.out.syR y hym;have h2d:2^d≤16384:=Nat.le_trans (Nat.pow_le_pow_right (by decide) (show d≤14 by omega)) (by decide);obtain⟨cs,hcs⟩:∃cs,x.c+y.c=cs:=⟨_,rfl⟩;have ecs:(x.c:Int)+(y.c:Int)=(cs:Int):=by omega
          have wcs:∀z,z=(cs:Int)→IntKind.i64.wrap z=z:=by intro z hz;rw[IntKind.wrap_i64];omega
          obtain⟨hsx0,sgx,csx,hax,hnx,_⟩:=hsx.1;obtain⟨hsy0,sgy,csy,hay,hny,_⟩:=hsy.1;have HIX:=Hd hsx.1;have HIY:=Hd hsy.1;have HPX:=Hd (show (pcs Q ++ [⟨cs,x.s++y.s⟩])=(Pkg.prs (pcs R)).take (k+1) by
           have h1:=prs_get (pcs R) k x.pc y.pc (by rw[hki];exact pcs_get hx) (by rw[hki,hj];exact pcs_get hy);have h2:=(List.getElem?_eq_some_iff.1 h1);obtain⟨h3,h4⟩:=h2;rw[List.take_succ_eq_append_getElem h3,h4,hQp,← hcs];rfl)
          have HSL:=Hd (show x.s.length+y.s.length≤32768 by omega);have HQO:=Hd hQo;have HQS:=Hd hQs;have HQK:=Hd hQk;have HCS2:=Hd hcs;have HXN:=Hd (And.intro hax (And.intro hay (And.intro hnx hny)));have lj:j<m:=hjm;have li:i<m:=by omega
          clear hx hy hxm hym hQk hQo hQp hQs hsx hsy hx1 hx2 hy1 hy2 h2d hcs hRm hsx0 hsy0 hax hay hnx hny hj hki hi2 HQ;go_wp2_with fail;have HLX:Hid (Ext wl wr):=HE2;have HQOx:=HQO;have HQSx:=HQS;refine wp_region_held_drew (S:=fun w'=>w'.cell? ⟨g,i*2,none⟩=some (.int .i64 (x.c:Int))∧w'.cell? ⟨g,i*2+1,none⟩=some (.slice x.a x.n x.k)∧w'.cell? ⟨g,j*2,none⟩=some (.int .i64 (y.c:Int))∧w'.cell? ⟨g,j*2+1,none⟩=some (.slice y.a y.n y.k)) (by kernel_rfl) ⟨(PR.get HLQ.out.rp HGX.out).1,(PR.get HLQ.out.rp HGX.out).2,(PR.get HLQ.out.rp HGY.out).1,(PR.get HLQ.out.rp HGY.out).2⟩ (fun hHeld=>?_);clear hHeld;refine anyH_world (fun wz=>Ext wr wz) (show Ext wr wr.drew from Below.drew (Ext.refl wr)) ?_;rintro v2 h;have HLQ2:=Hd (HLQ.out.step h);have HLX2:=Hd (HLX.out.trans h);have HQO2:=Hd (ownsRow_kept HQOx.out h.keeps (fun _ _=>id));have HQS2:=Hd (HQSx.out.ext h);clear h;have hHeld:v2.cell? ⟨g,i*2,none⟩=some (.int .i64 (x.c:Int))∧v2.cell? ⟨g,i*2+1,none⟩=some (.slice x.a x.n x.k)∧v2.cell? ⟨g,j*2,none⟩=some (.int .i64 (y.c:Int))∧v2.cell? ⟨g,j*2+1,none⟩=some (.slice y.a y.n y.k):=⟨(PR.get HLQ2.out.rp HGX.out).1,(PR.get HLQ2.out.rp HGX.out).2,(PR.get HLQ2.out.rp HGY.out).1,(PR.get HLQ2.out.rp HGY.out).2⟩;refine tkH 0 rfl hHeld ?_;(try simp only[Act.put,xz]);refine tkH 1 rfl hHeld ?_;(try simp only[Act.put,xz]);refine tkH 2 rfl hHeld ?_;(try simp only[Act.put,xz]);refine tkH 3 rfl hHeld ?_
          (try simp only[Act.put,xz]);refine tkH 4 rfl hHeld ?_;(try simp only[Act.put,xz]);refine tkH 5 rfl hHeld ?_;(try simp only[Act.put,xz]);refine tkH 6 rfl hHeld ?_;(try simp only[Act.put,xz]);refine tkH 7 rfl hHeld ?_;(try simp only[Act.put,xz]);refine tkH 8 rfl hHeld ?_;(try simp only[Act.put,xz]);refine tkH 9 rfl hHeld ?_;(try simp only[Act.put,xz]);refine tkH 10 rfl hHeld ?_;(try simp only[Act.put,xz]);refine tkH 11 rfl hHeld ?_;(try simp only[Act.put,xz]);refine tkH 12 rfl hHeld ?_;(try simp only[Act.put,xz]);refine tkH 13 rfl hHeld ?_;(try simp only[Act.put,xz]);refine tkH 14 rfl hHeld ?_;(try simp only[Act.put,xz]);refine tkH 15 rfl hHeld ?_;(try simp only[Act.put,xz]);refine tkH 16 rfl hHeld ?_;(try simp only[Act.put,xz]);refine tkH 17 rfl hHeld ?_;(try simp only[Act.put,xz]);refine tkH 18 rfl hHeld ?_;(try simp only[Act.put,xz]);refine tkH 19 rfl hHeld ?_;(try simp only[Act.put,xz]);refine tkH 20 rfl hHeld ?_;(try simp only[Act.put,xz]);refine tkH 21 rfl hHeld ?_;(try simp only[Act.put,xz]);refine tkH 22 rfl hHeld ?_;(try simp only[Act.put,xz]);refine tkH 23 rfl hHeld ?_;(try simp only[Act.put,xz]);refine rdH 24 rfl fun KK hK=>?_;clear hHeld;go_simp;refine hK.out _ _ ⟨(PR.get (HLQ2.out.rp.ext ((Ext.refl v2).alloc _)) HGX.out).1,(PR.get (HLQ2.out.rp.ext ((Ext.refl v2).alloc _)) HGX.out).2,(PR.get (HLQ2.out.rp.ext ((Ext.refl v2).alloc _)) HGY.out).1,(PR.get (HLQ2.out.rp.ext ((Ext.refl v2).alloc _)) HGY.out).2⟩ (fun hHeld=>?_)
          clear hK KK hHeld;(try simp only[Act.put,xz]);refine anyH_world (fun wz=>Ext v2 wz∧wz.cell? ⟨v2.heap.size,0,none⟩=some (.slice x.a x.n x.k)∧wz.cell? ⟨v2.heap.size,1,none⟩=some (.slice y.a y.n y.k)) ⟨(Ext.refl v2).alloc _,by simp,by simp⟩ ?_;rintro v3 ⟨hE,hc0,hc1⟩;have HLQ3:=Hd (HLQ2.out.step hE);have HLX3:=Hd (HLX2.out.trans hE);have HQO3:=Hd (ownsRow_kept HQO2.out hE.keeps (fun _ _=>id));have HQS3:=Hd (HQS2.out.ext hE);have HC0:=Hd hc0;have HC1:=Hd hc1;clear hE hc0 hc1;have hHeld:v3.cell? ⟨g,i*2,none⟩=some (.int .i64 (x.c:Int))∧v3.cell? ⟨g,i*2+1,none⟩=some (.slice x.a x.n x.k)∧v3.cell? ⟨g,j*2,none⟩=some (.int .i64 (y.c:Int))∧v3.cell? ⟨g,j*2+1,none⟩=some (.slice y.a y.n y.k):=⟨(PR.get HLQ3.out.rp HGX.out).1,(PR.get HLQ3.out.rp HGX.out).2,(PR.get HLQ3.out.rp HGY.out).1,(PR.get HLQ3.out.rp HGY.out).2⟩;refine rdH 25 rfl fun KK hK=>?_;clear hHeld;go_simp;refine (concat_any v2.heap.size 2 _ (fun q=>if q=0 then .slice x.a x.n x.k else .slice y.a y.n y.k) (fun q=>if q=0 then x.s.map (fun i:Nat=>(i:Int)) else y.s.map (fun i:Nat=>(i:Int))) v3 (by omega) (by omega) ?ca ?cb ?cc).mono ?cd
          case ca=>
           intro q hq;match q,hq with
           | 0,_=>exact HC0.out
           | 1,_=>exact HC1.out
          case cb=>
           intro q hq;match q,hq with
           | 0,_=>exact ((HLQ3.out.syR x HMX.out).1.1).ir
           | 1,_=>exact ((HLQ3.out.syR y HMY.out).1.1).ir
          case cc=>have:=HSL.out;simp[concL];omega
          rintro e v4 ⟨⟨vv,rfl,hvo⟩,h⟩;have hvl:(concL (fun q=>if q=0 then x.s.map (fun i:Nat=>(i:Int)) else y.s.map (fun i:Nat=>(i:Int))) 2)=(x.s++y.s).map (fun i:Nat=>(i:Int)):=by simp[concL]
          rw[hvl] at hvo;obtain⟨sg,sk,rfl,hsk,hsl⟩:=ownsRow_some hvo (by have:=HIX.out.1;simp;omega);have HSYN:Hid (SyAt v4 ⟨cs,some ⟨sg,0,none⟩,(x.s++y.s).length,sk,x.s++y.s⟩∧v3.heap.size≤sg):=Hd (syAt_own cs hvo (by have:=HIX.out.1;simp;omega) (by simp));simp only[List.length_map] at *;have HLQ4:=Hd (HLQ3.out.step h);have HLX4:=Hd (HLX3.out.trans h);have HQO4:=Hd (ownsRow_kept HQO3.out h.keeps (fun _ _=>id));have HQS4:=Hd (HQS3.out.ext h);clear hvo hvl hsk hsl h;go_simp;refine hK.out _ _ ⟨(PR.get HLQ4.out.rp HGX.out).1,(PR.get HLQ4.out.rp HGX.out).2,(PR.get HLQ4.out.rp HGY.out).1,(PR.get HLQ4.out.rp HGY.out).2⟩ (fun hHeld=>?_);clear hK KK;(try simp only[Act.put,xz]);refine tkH 26 rfl hHeld ?_;(try simp only[Act.put,xz]);refine rdH 27 rfl fun KK hK=>?_;clear hHeld;go_simp;refine hK.out _ _ ⟨(PR.get (HLQ4.out.rp.ext ((Ext.refl v4).alloc _)) HGX.out).1,(PR.get (HLQ4.out.rp.ext ((Ext.refl v4).alloc _)) HGX.out).2,(PR.get (HLQ4.out.rp.ext ((Ext.refl v4).alloc _)) HGY.out).1,(PR.get (HLQ4.out.rp.ext ((Ext.refl v4).alloc _)) HGY.out).2⟩ (fun hHeld=>?_);clear hK KK hHeld;(try simp only[Act.put,xz]);refine anyH_world (fun wz=>Ext v4 wz∧Bk wz v4.heap.size #[.int .i64 (cs:Int),.slice (some ⟨sg,0,none⟩) (x.s++y.s).length sk]) ⟨(Ext.refl v4).alloc _,by rw[List.length_append];exact Bk.at rfl⟩ ?_;rintro v5 ⟨hE,hB⟩;have HLQ5:=Hd (HLQ4.out.step hE);have HLX5:=Hd (HLX4.out.trans hE);have HQO5:=Hd (ownsRow_kept HQO4.out hE.keeps (fun _ _=>id))
          have HQS5:=Hd (HQS4.out.ext hE);have HSYN2:=Hd (HSYN.out.1.ext hE);have HBB:=Hd hB;clear hE hB;obtain⟨v',w',hr,h2,h3,h4,h5⟩:=run_append_own_at (P:=Tryz.prog) v5 wl.heap.size 235 235 237 i0 (.agg #[.int .i64 0,.slice none 0 0]) 2 32 Tryz.underlying235 hi0 hz0 hz1 hz2 rfl (by decide) _ k _ HQO5.out ⟨v4.heap.size,0,none⟩ 1 1 [.int .i64 (cs:Int),.slice (some ⟨sg,0,none⟩) (x.s++y.s).length sk] rfl (fun j u h=>by
            rw[add_plain];exact (HBB.out.cell _).trans (by simpa using h)) (by intro u hu;simp at hu;rcases hu with rfl | rfl <;> rfl) (by have:=HKI.out;unfold maxLen;omega) (by have:=HKI.out;omega) HLX5.out.size
          have H2:=Hd h2;have H3:=Hd h3;clear h2 h3 h4 h5;have hHeld:v5.cell? ⟨g,i*2,none⟩=some (.int .i64 (x.c:Int))∧v5.cell? ⟨g,i*2+1,none⟩=some (.slice x.a x.n x.k)∧v5.cell? ⟨g,j*2,none⟩=some (.int .i64 (y.c:Int))∧v5.cell? ⟨g,j*2+1,none⟩=some (.slice y.a y.n y.k):=⟨(PR.get HLQ5.out.rp HGX.out).1,(PR.get HLQ5.out.rp HGX.out).2,(PR.get HLQ5.out.rp HGY.out).1,(PR.get HLQ5.out.rp HGY.out).2⟩;refine rdH 28 rfl fun KK hK=>?_;clear hHeld;rw[if_pos (show _=true by kernel_rfl)];unfold Oper.wp execOp;simp only[resolve,invoke,builtin,Sem.run_bind,Sem.run_pure,Result.andThen_ok,List.map_toArray,List.map_cons,List.map_nil,Act.eval,List.getElem_toArray,List.getElem_cons_succ,List.getElem_cons_zero];simp only[Array.getD_eq_getD_getElem?,List.getElem?_toArray,List.getElem?_cons_succ,List.getElem?_cons_zero,Option.getD_some,hr,Result.andThen_ok,Oper.upon];have HL9:Hid (LSt w w' go gc len d L2 R g):=Hd (HLQ5.out.grown HLX5.out.size HGL.out HQO5.out H3.out);have HX9:Hid (Ext wl w'):=Hd (Below.trans HLX5.out ((Keeps.grown H3.out).below HLX5.out.size (fun k hk e=>by have:=(HQO5.out.lt k e).1;omega)));have HS9:Hid (Sy w' go len (d+1) (Q ++ [⟨cs,some ⟨sg,0,none⟩,(x.s++y.s).length,sk,x.s++y.s⟩])):=Hd (Sy.grown (HQS5.out.app (by have h:=Sy.pair HLQ5.out.syR HMX.out HMY.out (by rw[HCS2.out];exact HSYN2.out) (by have h1:=HSYN.out.2;have h2:=HLQ3.out.o2;have h3:=HLQ3.out.rp.lt;omega);rw[HCS2.out] at h;exact h)) HQO5.out H3.out)
          refine hK.out _ _ ⟨(PR.get HL9.out.rp HGX.out).1,(PR.get HL9.out.rp HGX.out).2,(PR.get HL9.out.rp HGY.out).1,(PR.get HL9.out.rp HGY.out).2⟩ (fun hHeld=>?_);clear hK KK hr;(try simp only[Act.put,xz]);refine tkH 29 rfl hHeld ?_;(try simp only[Act.put,xz]);refine wpAnyH_done (by kernel_rfl) ?_ _;clear hHeld;clear HLQ5 HLX5 HQO5 HQS5 HLQ HLX HQOx HQSx;go_wp2_with fail;refine⟨⟨k+1,i2,rfl,by have:=HKI.out;have:=HI2.out;omega,by have:=HI2.out;omega,Hd ⟨Q ++ [⟨cs,some ⟨sg,0,none⟩,(x.s++y.s).length,sk,x.s++y.s⟩],by rw[List.length_append,HQK.out];rfl,by rw[pkL_append];exact H2.out,by rw[pcs_append];exact HPX.out,HS9.out⟩,HX9⟩,by have:=HI2.out;simp[intOf];omega⟩
         ·have t9:decide ((j:Int)<(m:Int))=false:=decide_eq_false (by omega);obtain⟨Q,hQk,hQo,hQp,hQs⟩:=HQ.out;have hk2:k=m/2:=by omega
          have hQl:pcs Q=Pkg.prs (pcs R):=by
           rw[hQp,List.take_of_length_le];rw[Pkg.prs_length,pcs_length,HRM.out];omega
          obtain⟨gq,cq,hv,hgq,hPQ,_⟩:=PR.of_own (l:=Q) (by rw[hQk];exact hQo) (by omega);rw[hQk] at hv;subst hv;have HLQ:Hid (LSt w wr go gc len d L2 R g):=Hd (HLS.out.step HE2.out);have HPQ:=Hd hPQ;have HQL:=Hd hQl;have HQK:=Hd (And.intro hQk hk2);have HQS:=Hd hQs;have HJM:=Hd hjm;have n1:¬ j<m:=hjm;clear hQk hQo hQp hQs hQl hPQ hk2 HQ hgq;have HCC:=Hd (concatP_any wr.heap.size 2 2 (fun q=>if q=0 then gc else gq) (fun q=>if q=0 then co else cq) (fun q=>if q=0 then L2 else Q) (wr.alloc (.cells #[.slice (some ⟨gc,0,none⟩) N co,.slice (some ⟨gq,0,none⟩) k cq] 235)) (by omega) (by omega)
           (by
            intro q hq;have hb:Bk (wr.alloc (.cells #[.slice (some ⟨gc,0,none⟩) N co,.slice (some ⟨gq,0,none⟩) k cq] 235)) wr.heap.size #[.slice (some ⟨gc,0,none⟩) N co,.slice (some ⟨gq,0,none⟩) k cq]:=Bk.at rfl;match q,hq with
            | 0,_=>exact (hb.cell 0).trans (by simp[HLN.out])
            | 1,_=>exact (hb.cell 1).trans (by simp[HQK.out.1]))
           (by
            intro q hq;match q,hq with
            | 0,_=>exact⟨by simp only[if_true];rw[HLN.out];omega,HLQ.out.cp.ext ((Ext.refl wr).alloc _)⟩
            | 1,_=>exact⟨by have:=HQK.out;show 0<Q.length;omega,HPQ.out.ext ((Ext.refl wr).alloc _)⟩)
           (by have:=HQK.out;simp[concP,HLN.out];omega))
          obtain⟨m2,hm2'⟩:∃m2,N+k=m2:=⟨_,rfl⟩;have HM2:=Hd (show N+k=m2∧N≤m2∧m2≤2*N from⟨hm2',by omega,by have:=HQK.out.2;omega⟩);clear hm2';go_wp2_with fail;refine HCC.out.mono ?_;rintro e w5 ⟨⟨v5,rfl,hvo⟩,hE5⟩;have hcp:concP (fun q=>if q=0 then L2 else Q) 2=L2++Q:=by simp[concP]
          rw[hcp] at hvo;have hlen:(L2++Q).length=m2:=by rw[List.length_append,HLN.out,HQK.out.1];exact HM2.out.1
          obtain⟨g2,c2,hv5,hg2,hP5,hc5⟩:=PR.of_own hvo (by have:=HM2.out;omega);rw[hlen] at hv5 hc5;subst hv5;have HC5:=Hd hc5;clear hc5;have HL5:Hid (LSt w w5 go gc len (d+1) L2 (L2++Q) g2):=Hd ((HLQ.out.step ((Ext.refl wr).alloc _)).renew hE5 hP5 (((HLQ.out.syL.le (d+1)).app HQS.out).ext (((Ext.refl wr).alloc _).trans hE5)) (by have h1:=HLQ.out.o2;have h2:=HLQ.out.rp.lt;simp at hg2;omega));have HS5:=Hd (sort_any g2 m2 c2 (L2++Q) w5 hlen (by have:=HM2.out;omega) hP5);have HPS:Hid (pcs (Srt.srt Pk.key (L2++Q))=Pkg.row (Srt.srt Pkg.ky (Pkg.coins (cntN f) len)) (d+1)):=Hd (by
           rw[pcs_srt,pcs_append,HPC.out,HQL.out,Srt.srt_append,Srt.srt_of_up (Srt.srt_up _),HPR.out,Srt.srt_of_up (Pkg.prs_up (Pkg.row_up (Srt.srt_up _) d))];rfl)
          have HLEN:Hid ((Srt.srt Pk.key (L2++Q)).length=m2):=Hd (by rw[Srt.srt_length];exact hlen);clear hvo hcp hlen hg2 hP5 hE5 HCC;go_wp2_with fail;refine HS5.out.mono ?_;rintro e w6 ⟨rfl,hr6,ho6⟩;have HL6:Hid (LSt w w6 go gc len (d+1) L2 (Srt.srt Pk.key (L2++Q)) g2):=Hd (HL5.out.turn ho6 hr6 (Srt.srt_perm _));clear hr6 ho6 HL5 HS5 HLQ HPQ HQS;have wd:∀z,z=((d+1:Nat):Int)→IntKind.i64.wrap z=z:=by intro z hz;rw[IntKind.wrap_i64];omega
          go_wp2_with fail;refine⟨⟨d+1,g2,c2,m2,rfl,by simp,by omega,HC5.out,Hd ⟨_,HLEN.out,HM2.out.2.1,HM2.out.2.2,HPS.out,HL6.out⟩⟩,by simp[intOf];omega⟩
       ·have t8:decide ((d:Int)<(D:Int))=false:=decide_eq_false (by omega);obtain⟨R,hRm,hm1',hm2',hpr,hls⟩:=HR.out;have hdD2:d=D:=by omega
        have HDD:=Hd hdD2;have HRM:=Hd hRm;have HPR:=Hd hpr;have HLS:=Hd hls;have HLG:=Hd (show 2*N-2≤m by
         have h1:=Pkg.row_enough (C:=Srt.srt Pkg.ky (Pkg.coins (cntN f) len)) (d:=d) (by rw[Srt.srt_length];unfold Pkg.coins;rw[List.length_map,HNU.out];omega) (by
          rw[Srt.srt_length];unfold Pkg.coins;rw[List.length_map,HNU.out,hdD2,show D+1=most by have:=HD.out;omega,HM.out];omega)
         rw[← hpr,pcs_length,hRm,Srt.srt_length] at h1;unfold Pkg.coins at h1;rw[List.length_map,HNU.out] at h1;exact h1)
        obtain⟨z,hz⟩:∃z,2*N-2=z:=⟨_,rfl⟩;obtain⟨y,hy⟩:∃y,2*N=y:=⟨_,rfl⟩;have ey:(2:Int)*(N:Int)=(y:Int):=by omega
        have ez:(y:Int)-2=(z:Int):=by omega
        have wy:∀v,v=(y:Int)→IntKind.i64.wrap v=v:=by intro v hv;rw[IntKind.wrap_i64];omega
        have wz:∀v,v=(z:Int)→IntKind.i64.wrap v=v:=by intro v hv;rw[IntKind.wrap_i64];omega
        have HZ:=Hd hz;have lzm:z≤cg:=by have:=HLG.out;omega
        have gzm:(z:Int)≤(cg:Int):=by omega
        have gz:(0:Int)≤(z:Int):=by omega
        clear hRm hpr hls HR hz hy hdD2;go_wp2_with fail;go_loopw [132] (fun c wr=>∃q:Nat,c=.int .i64 q∧q≤z∧Hid (Cnt w wr go len d R g q [])) (fun c _=>z-(intOf c).toNat)
        case atStart=>exact⟨0,rfl,by omega,Hd ⟨HLS.out.rp,HLS.out.syR,HLS.out.ext,HLS.out.oc.congr (fun s _=>by simp[Pkg.syms]),by have h1:=HLS.out.o2;have h2:=HLS.out.rp.lt;omega,by have h1:=HLS.out.base;have h2:=HLS.out.o1;omega,by have h1:=HLS.out.o2;omega⟩⟩
        case round=>
         obtain⟨q,rfl,hqz,HW⟩:=hrel;by_cases hlt2:q<z
         ·have t9:decide ((q:Int)<(z:Int))=true:=decide_eq_true (by omega);obtain⟨p,hpq⟩:∃p,R[q]? =some p:=⟨_,List.getElem?_eq_getElem (by have:=HRM.out;have:=HLG.out;have:=HZ.out;omega)⟩;obtain⟨k2,k3⟩:=HW.out.rp.get hpq;have HPM:=Hd (List.mem_of_getElem? hpq);obtain⟨hsa,hpc,hpl,hpsl⟩:=HW.out.sy p HPM.out;obtain⟨_,sg,css,ha,hn,_⟩:=hsa.1;obtain⟨ps,hps⟩:∃n,p.s.length=n:=⟨_,rfl⟩;rw[ha,hn,hps] at k3;have hgb:=HW.out.rp.lt;have lq:q<z:=hlt2;have HSA:=Hd (And.intro ha hps);have HPQ:=Hd hpq;have HPL:=Hd hpl;have hpsb:ps≤16384:=by
           have h6:2^d≤16384:=Nat.le_trans (Nat.pow_le_pow_right (by decide) (show d≤14 by omega)) (by decide);omega
          clear hpq hsa ha hn hps hpsl hpl hpc;go_wp2_with fail;go_loopw [139] (fun c wr=>∃e:Nat,c=.int .i64 e∧e≤ps∧Hid (Cnt w wr go len d R g q (p.s.take e))) (fun c _=>ps-(intOf c).toNat)
          case atStart=>exact⟨0,rfl,by omega,Hd (HW.out.step (by repeat (first | exact Ext.refl _ | refine Below.setCell ?_ (by simp) _ | refine Ext.alloc ?_ _)))⟩
          case round=>
           clear HW;obtain⟨e,rfl,hep,HW⟩:=hrel;by_cases hlt3:e<ps
           ·have t10:decide ((e:Int)<(ps:Int))=true:=decide_eq_true (by omega);obtain⟨hsa,_,_,hpsl⟩:=HW.out.sy p HPM.out;obtain⟨sg',hsg,k4⟩:=hsa.1.cell (j:=e) (by have:=HSA.out.2;omega);have hsg2:sg'=sg:=by
             have:=HSA.out.1;rw[hsg] at this;injection this with this;injection this
            subst hsg2;obtain⟨s,hs⟩:∃s,p.s.getD e 0=s:=⟨_,rfl⟩;have hes:e<p.s.length:=by have:=HSA.out.2;omega
            have hs2:p.s[e]=s:=by rw[← hs,List.getD_eq_getElem?_getD,List.getElem?_eq_getElem hes];rfl
            have hsl:s<len:=by rw[← hs2];exact hpsl _ (List.getElem_mem hes)
            rw[hs] at k4;obtain⟨k5,k6⟩:=HW.out.oc s hsl;have HM9:=Hd (HW.out.more hsl);have hbd:(Pkg.syms ((pcs R).take q)).count s+(p.s.take e).count s≤100000000:=by
             have h1:=List.count_le_length (a:=s) (l:=Pkg.syms ((pcs R).take q));have h2:=HW.out.sy.size q;have h3:=List.count_le_length (a:=s) (l:=p.s.take e);have h4:(p.s.take e).length≤p.s.length:=by simp;omega
             have h5:=HPL.out;have h6:2^d≤16384:=Nat.le_trans (Nat.pow_le_pow_right (by decide) (show d≤14 by omega)) (by decide);have h7:q*2^d≤600*16384:=Nat.mul_le_mul (by have:=HZ.out;omega) h6;omega
            have HT9:Hid (p.s.take e ++ [s]=p.s.take (e+1)):=Hd (by rw[List.take_succ_eq_append_getElem hes,hs2]);obtain⟨V,hV⟩:∃V,(Pkg.syms ((pcs R).take q)).count s+(p.s.take e).count s=V:=⟨_,rfl⟩;simp only[hV] at k5 hbd HM9;have eV:(V:Int)+1=((V+1:Nat):Int):=by omega
            obtain⟨V2,hV2⟩:∃V2,V+1=V2:=⟨_,rfl⟩;rw[hV2] at eV HM9;have wV:∀v,v=(V2:Int)→IntKind.i64.wrap v=v:=by intro v hv;rw[IntKind.wrap_i64];omega
            clear hsa hpsl hsg hs hes hs2 hV hV2 hbd;go_wp2_with fail;refine⟨⟨e+1,by simp,by omega,Hd (by rw[← HT9.out];exact HM9.out)⟩,by simp[intOf];omega⟩
           ·have t10:decide ((e:Int)<(ps:Int))=false:=decide_eq_false (by omega);have HN9:Hid (Cnt w wr go len d R g (q+1) []):=Hd (by
             have h:=HW.out;rw[List.take_of_length_le (by have:=HSA.out.2;omega)] at h;exact h.next HPQ.out)
            clear HW;go_wp2_with fail;refine⟨⟨q+1,by simp,by omega,HN9⟩,by simp[intOf];omega⟩
         ·have t9:decide ((q:Int)<(z:Int))=false:=decide_eq_false (by omega);go_wp2_with fail;go_ret2;refine⟨HW.out.ext,.inr ⟨by rw[HNU.out,HM.out];omega,go,rfl,⟨(fun h=>by cases h),fun a ha j hj=>?_⟩,HW.out.ge⟩⟩;injection ha with ha;subst ha;have hq2:q=2*N-2:=by have:=HZ.out;omega
          have hz:lenF f len most j=((((Pkg.syms ((pcs R).take q)).count j+([]:List Nat).count j:Nat)):Int):=by
           unfold lenF Pkg.lens;rw[if_neg (by rw[HNU.out];omega),HNU.out,HPR.out,hq2,HD.out,HDD.out];rfl
          have hb:=(lens_good f len most (fun j hj=>(HF.out j hj).1) hl (by omega) (by omega) (by rw[HNU.out,HM.out];omega)).1 j hj;rw[add_plain];refine⟨?_,by omega,by omega⟩;rw[hz];exact (HW.out.oc j hj).1
theorem mulMask (a:Nat) (ha:a<18446744073709551616):bits .and .u64 (a:Int) 4294967295=((a%4294967296:Nat):Int):=by
  have h:=bits_and_u64_nat a 4294967295 ha (by omega);rw[show a &&& 4294967295=a%4294967296 from Nat.and_two_pow_sub_one_eq_mod a 32] at h;exact h
theorem mul64_one (c:Nat) (hc:c≤10000) (w:World):Calls Tryz.prog 178 #[.int .u64 1,.int .u64 (c:Int)] w fun e w'=>e=.returned (.tuple #[.int .u64 0,.int .u64 (c:Int)])∧w'=w:=by
  have m1:bits .and .u64 1 4294967295=1:=by decide
  have m0:bits .and .u64 0 4294967295=0:=by decide
  have mc:bits .and .u64 (c:Int) 4294967295=(c:Int):=by rw[mulMask c (by omega)];congr 1;omega
  have dc:(c:Int)/4294967296=0:=by omega
  have wc_:IntKind.u64.wrap (c:Int)=(c:Int):=by rw[IntKind.wrap_u64];omega
  have w0_:IntKind.u64.wrap 0=0:=by decide
  go_enter Tryz.func178,Tryz.ntmps178
  go_wp2
  go_ret2;exact⟨rfl,rfl⟩
theorem mul_one (c:Nat) (hc:c≤10000) (w:World):Calls Tryz.prog 166 #[.int .u64 1,.int .u64 (c:Int)] w fun e w'=>e=.returned (.tuple #[.int .u64 0,.int .u64 (c:Int)])∧w'=w:=by
  go_enter Tryz.func166,Tryz.ntmps166
  go_wp2_with fail;refine (mul64_one c hc w).mono ?_;rintro e w2 ⟨rfl,rfl⟩;go_wp2_with fail;go_ret2;exact⟨rfl,rfl⟩
end Go.Proofs.YthlibiocadimhaaGreatDoor
