/-
  Lengths of a code by packages: packs in memory against their plain ones; what the lengths are as a code's.
  huff.Lengths: what lies in memory while its packages are merged.
  inflate: a dynamic block's lengths: the plain machine's steps, what stands beside a reader.
  Rows of cells through memory that grows. No function of the program is named.
  inflate.FixedLengths.
  inflate: the closures that read a distance.
  One fixed block, read: plain laws. No function of the program is named.
  A writer of bits: Bytes, behind what is aligned.
  deflate.stored, deflate.Stored.
  The document's reader of packed texts: its memory; ok, fail, align, get.
  A zipped text: its head, its sum.
  inflate.Inflate: the deferred closure.
  The document's tables of lengths and distances.
  The document's lengths of a fixed block.
  The tables of package inflate, out of what a row lists.
-/
import Derived.Test.YthlibiocadimhaaGreatDoorPngReadsG8
set_option linter.all false
set_option maxRecDepth 100000
namespace Go.Proofs.YthlibiocadimhaaGreatDoor
open Go.RowKit
def Pk.pc (p:Pk):Pkg.Pc:=⟨p.c,p.s⟩
def pcs (l:List Pk):List Pkg.Pc:=l.map Pk.pc
theorem zbw (l:List Pk):(pcs l).length=l.length:=by simp[pcs]
theorem zjp (l:List Pk):pcs (Srt.srt Pk.key l)=Srt.srt Pkg.ky (pcs l):=(Srt.zf6 (k:=Pk.key) Pk.pc (λ _=>rfl) l).symm
theorem zdE (l m:List Pk):pcs (l++m)=pcs l++pcs m:=by simp[pcs]
def SyAt (w:World) (p:Pk):Prop:=0<p.s.length/\∃g cs,p.a=some ⟨g,0,none⟩/\p.n=p.s.length/\w.heap[g]? =some (.cells cs 3 (0,0))/\∀j,j<p.s.length->cs[j]? =some (.int .i64 ((p.s.getD j 0:Nat):Int))
theorem SyAt.keeps {S:Nat->Prop} {w w':World} {p:Pk} (h:SyAt w p) (hk:Keeps S w w') (hS:∀g,p.a=some ⟨g,0,none⟩->¬ S g):SyAt w' p:=by
 obtain⟨h0,g,cs,h1,h2,h3,h4⟩:=h;exact⟨h0,g,cs,h1,h2,(hk.block g (qbK h3) (hS g h1)).trans h3,h4⟩
theorem SyAt.ext {w w':World} {p:Pk} (h:SyAt w p) (hE:Ext w w'):SyAt w' p:=h.keeps (S:=λ _=>False) hE.keeps (λ _ _=>id)
theorem SyAt.one {B:Nat} {w w':World} {p:Pk} {l:List Pk} (h:SyAt w p) (hP:PR w B l) (hO:One B w w'):SyAt w' p:=by
 refine h.keeps hO (λ g hg e=>?_);obtain⟨_,g',cs,h1,_,h3,_⟩:=h;obtain⟨r,hr⟩:=hP;rw[hg] at h1;have e1:g=g':=by injection h1 with h1;injection h1
 have e2:g=B:=e;rw[<- e1,e2,hr] at h3;injection h3 with h3;injection h3 with _ h3;exact absurd h3 (by decide)
theorem SyAt.ir {w:World} {p:Pk} (h:SyAt w p):Ir w (.slice p.a p.n p.k) (p.s.map (λ i:Nat=>(i:Int))):=by
 obtain⟨h0,g,cs,h1,h2,h3,h4⟩:=h;refine⟨by simpa using h0,g,p.k,by rw[h1,h2];simp,λ j hj=>?_⟩;have hj2:j<p.s.length:=by simpa using hj
 rw[cell_of_row w g j cs _ _ h3,h4 j hj2];simp[i64V,hj2]
theorem SyAt.cell {w:World} {p:Pk} (h:SyAt w p) {j:Nat} (hj:j<p.s.length):∃g,p.a=some ⟨g,0,none⟩/\w.cell? ⟨g,j,none⟩=some (.int .i64 ((p.s.getD j 0:Nat):Int)):=by
 obtain⟨h0,g,cs,h1,h2,h3,h4⟩:=h;exact⟨g,h1,by rw[cell_of_row w g j cs _ _ h3,h4 j hj]⟩
theorem zjG:∀(l:List Pkg.Pc) (k:Nat) (a b:Pkg.Pc),l[2*k]? =some a->l[2*k+1]? =some b->(Pkg.prs l)[k]? =some ⟨a.c+b.c,a.s++b.s⟩
 | [],k,a,b,h,_=>by simp at h
 | [x],k,a,b,_,h=>by
  rw[qba (by simp)] at h;cases h
 | x ::y ::l,0,a,b,ha,hb=>by
  simp at ha hb;subst ha hb;rfl
 | x ::y ::l,k+1,a,b,ha,hb=>by
  rw[show 2*(k+1)=2*k+1+1 by omega] at ha hb;exact zjG l k a b ha hb
def cntN (f:Nat->Int) (i:Nat):Nat:=(f i).toNat
def lenF (f:Nat->Int) (len most:Nat):Nat->Int:=λ i=>((Pkg.lens (cntN f) len most i:Nat):Int)
theorem Pkg.sumTo_mul (F:Nat->Nat) (c:Nat):∀n,Pkg.sumTo (λ j=>F j*c) n=Pkg.sumTo F n*c
 | 0=>by simp[Pkg.sumTo]
 | n+1=>by simp only[Pkg.sumTo,Pkg.sumTo_mul F c n,qbZ]
theorem Pkg.sum_ones:∀l:List Nat,(l.map λ _=>1).sum=l.length
 | []=>rfl
 | a ::l=>by rw[qaG,List.sum_cons,Pkg.sum_ones l,qaR];omega
theorem zcR (f:Nat->Int) (n:Nat):∀len,many f n len=Pkg.sumTo (λ j=>if f j=n then 1 else 0) len
 | 0=>rfl
 | len+1=>by simp only[many,Pkg.sumTo,zcR f n len]
theorem zff (f:Nat->Int) (len:Nat) (h0:∀j,j<len->0<=f j):∀n,n<=15->kraft f len n=Pkg.sumTo (λ j=>if 1<=f j/\f j<=n then 2^(15-(f j).toNat) else 0) len
 | 0,_=>by
  show 0=_;rw[Pkg.zbd (g:=λ _=>0) (λ j hj=>by rw[qac];rintro⟨h1,h2⟩;omega),Pkg.zbL];simp
 | n+1,hn=>by
  have ih:=zff f len h0 n (by omega);simp only[kraft];rw[ih,zcR];have e:Pkg.sumTo (λ j=>if f j=((n+1:Nat):Int) then 1 else 0) len*2^(14-n)=Pkg.sumTo (λ j=>if f j=((n+1:Nat):Int) then 2^(14-n) else 0) len:=by
   clear ih hn h0;induction len with
   | zero=>simp[Pkg.sumTo]
   | succ len ih=>
    simp only[Pkg.sumTo,qbZ,ih];congr 1
    split <;> simp
  rw[e,<- Pkg.zco];apply Pkg.zbd;intro j hj;have:=h0 j hj;by_cases c1:f j=((n+1:Nat):Int)
  ·rw[qac (by omega),qad c1,qad (by omega),c1,show 15-(((n+1:Nat):Int)).toNat=14-n by omega,Nat.zero_add]
  rw[qac c1];by_cases c2:1<=f j/\f j<=n
  ·rw[qad c2,qad (by omega)];omega
  rw[qac c2,qac (by omega)]
theorem zgy (f:Nat->Int) (len most:Nat) (h0:∀j,j<len->0<=f j) (hl:len<=300) (hm1:1<=most) (hm2:most<=15) (hn:(Pkg.used (cntN f) len).length<=2^most):
  (∀j,j<len->0<=lenF f len most j/\lenF f len most j<=most/\(0<lenF f len most j↔0<f j))/\zaT (lenF f len most) len/\zan (lenF f len most) len:=by
 have key:∀j,j<len->0<=lenF f len most j/\lenF f len most j<=most/\(0<lenF f len most j↔0<f j):=by
  intro j hj;have hmem:j∈Pkg.used (cntN f) len↔0<f j:=by
   rw[Pkg.zbO];unfold cntN;have:=h0 j hj;constructor
   ·rintro⟨_,q⟩;omega
   intro q;exact⟨hj,by omega⟩
  unfold lenF;by_cases h2:(Pkg.used (cntN f) len).length<2
  ·unfold Pkg.lens;rw[qad h2];by_cases hm:j∈Pkg.used (cntN f) len
   ·rw[qad hm];have:=hmem.1 hm;simp;omega
   rw[qac hm];have:¬ 0<f j:=λ q=>hm (hmem.2 q);simp;omega
  obtain⟨a1,a2,_,_⟩:=Pkg.zgv (cnt:=cntN f) (len:=len) (most:=most) (by omega) hm1 hn;by_cases hm:j∈Pkg.used (cntN f) len
  ·have:=a1 j hm;have:=hmem.1 hm;omega
  have:=a2 j hm;have:¬ 0<f j:=λ q=>hm (hmem.2 q);omega
 have hb:zaT (lenF f len most) len:=⟨hl,λ j hj=>by have:=key j hj;omega⟩;refine⟨key,hb,?_⟩;have hmem:∀j,j<len->(j∈Pkg.used (cntN f) len↔0<lenF f len most j):=by
  intro j hj;rw[(key j hj).2.2,Pkg.zbO];unfold cntN;have:=h0 j hj;constructor
  ·rintro⟨_,q⟩;omega
  intro q;exact⟨hj,by omega⟩
 by_cases h2:(Pkg.used (cntN f) len).length<2
 ·
  have hsum:∀g:Nat->Nat,Pkg.sumTo (λ i=>if 0<cntN f i then g i else 0) len=((Pkg.used (cntN f) len).map g).sum:=λ g=>(Pkg.zfe g (cntN f) len).symm;have hpos:∀j,j<len->(0<cntN f j↔0<lenF f len most j):=λ j hj=>by
   rw[<- hmem j hj,Pkg.zbO];exact⟨λ q=>⟨hj,q⟩,λ q=>q.2⟩
  have hone:∀j,j<len->0<lenF f len most j->lenF f len most j=1:=by
   intro j hj hp;unfold lenF Pkg.lens;rw[qad h2,qad ((hmem j hj).2 hp)];rfl
  have e1:many (lenF f len most) 1 len=(Pkg.used (cntN f) len).length:=by
   rw[zcR,Pkg.zbd (g:=λ i=>if 0<cntN f i then 1 else 0),hsum (λ _=>1)]
   ·exact Pkg.sum_ones _
   intro j hj;have q:=hpos j hj;by_cases c:0<cntN f j
   ·have q1:lenF f len most j=((1:Nat):Int):=hone j hj (q.1 c);rw[qad c,qad q1]
   rw[qac c,qac];intro e;exact c (q.2 (by rw[e];decide))
  have e0:many (lenF f len most) 0 len+(Pkg.used (cntN f) len).length=len:=by
   rw[<- e1,zcR,zcR,<- Pkg.zco,Pkg.zbd (g:=λ _=>1),Pkg.zbL]
   ·omega
   intro j hj;have q:=key j hj;by_cases c:0<lenF f len most j
   ·have:=hone j hj c;rw[qac (by omega),qad (by omega)]
   rw[qad (by omega),qac (by omega)]
  rcases Nat.eq_zero_or_pos (Pkg.used (cntN f) len).length with c | c
  ·exact .inl (by omega)
  exact .inr (.inl ⟨by omega,by omega⟩)
 refine .inr (.inr ?_);obtain⟨a1,a2,a3,_⟩:=Pkg.zgv (cnt:=cntN f) (len:=len) (most:=most) (by omega) hm1 hn;rw[zff _ _ (λ j hj=>(key j hj).1) 15 (qaj _)];have e:Pkg.sumTo (λ j=>if 1<=lenF f len most j/\lenF f len most j<=((15:Nat):Int) then 2^(15-(lenF f len most j).toNat) else 0) len=Pkg.sumTo (λ s=>if 0<cntN f s then 2^(most-Pkg.lens (cntN f) len most s) else 0) len*2^(15-most):=by
  have hj:∀j,j<len->(if 1<=lenF f len most j/\lenF f len most j<=((15:Nat):Int) then 2^(15-(lenF f len most j).toNat) else 0)=(if 0<cntN f j then 2^(most-Pkg.lens (cntN f) len most j) else 0)*2^(15-most):=by
   intro j hj;have q:=key j hj;have m:=hmem j hj;rw[Pkg.zbO] at m;by_cases c:0<cntN f j
   ·have q2:=m.1 ⟨hj,c⟩;rw[qad c,qad (by omega),<- qbY];congr 1
    unfold lenF at q q2⊢;simp only[qbm];omega
   have q2:¬ 0<lenF f len most j:=λ h=>c (m.2 h).2;rw[qac c,qac (by omega),Nat.zero_mul]
  rw[Pkg.zbd hj,Pkg.sumTo_mul]
 rw[e,a3,<- qbY,show most+(15-most)=15 by omega]
theorem Cs.keeps {S:Nat->Prop} {w w':World} {B n:Nat} {k:IntKind} {g:Nat->Int} (h:Cs w B n k g) (hk:Keeps S w w') (hS:¬ S B):Cs w' B n k g:=λ i hi=>by
 have hb:=qab w _ (h i hi).1;exact⟨(hk.cell (p:=⟨B,i,none⟩) hb hS).trans (h i hi).1,(hk.frozen (p:=⟨B,i,none⟩) hb hS).trans (h i hi).2⟩
def Sy (w:World) (go len d:Nat) (R:List Pk):Prop:=∀p∈R,(SyAt w p/\p.a≠some ⟨go,0,none⟩)/\p.c<=1048576*2^d/\p.s.length<=2^d/\∀s∈p.s,s<len
theorem Sy.up {w:World} {go len d:Nat} {R:List Pk} (h:Sy w go len d R):Sy w go len (d+1) R:=λ p hp=>by
 obtain⟨h1,h2,h3,h4⟩:=h p hp;have e:2^(d+1)=2*2^d:=by rw[qa1,qaJ]
 exact⟨h1,by omega,by omega,h4⟩
theorem Sy.le {w:World} {go len:Nat} {R:List Pk} (h:Sy w go len 0 R):∀d,Sy w go len d R
 | 0=>h
 | d+1=>(Sy.le h d).up
theorem Sy.app {w:World} {go len d:Nat} {R Q:List Pk} (h:Sy w go len d R) (k:Sy w go len d Q):Sy w go len d (R++Q):=λ p hp=>by
 rcases qa3.1 hp with q | q
 ·exact h p q
 exact k p q
theorem Sy.ext {w w':World} {go len d:Nat} {R:List Pk} (h:Sy w go len d R) (hE:Ext w w'):Sy w' go len d R:=λ p hp=>⟨⟨(h p hp).1.1.ext hE,(h p hp).1.2⟩,(h p hp).2⟩
theorem Sy.one {w w':World} {go len d B:Nat} {R l:List Pk} (h:Sy w go len d R) (hP:PR w B l) (hO:One B w w'):Sy w' go len d R:=λ p hp=>⟨⟨(h p hp).1.1.one hP hO,(h p hp).1.2⟩,(h p hp).2⟩
theorem Sy.perm {w:World} {go len d:Nat} {R Q:List Pk} (h:Sy w go len d R) (hp:Q.Perm R):Sy w go len d Q:=λ p hq=>h p (hp.mem_iff.1 hq)
theorem Sy.out {w w':World} {go len d:Nat} {R:List Pk} (h:Sy w go len d R) (hO:One go w w'):Sy w' go len d R:=λ p hp=>⟨⟨(h p hp).1.1.keeps hO (λ g hg e=>(h p hp).1.2 (by rw[hg];congr)),(h p hp).1.2⟩,(h p hp).2⟩
theorem SyAt.apart {w:World} {p:Pk} (h:SyAt w p) {base n:Nat} {v:Value} {xs:List Value} (ho:w.ownsRow base 237 2 v n xs) {g:Nat} (hg:p.a=some ⟨g,0,none⟩):¬ v.ownBlock=some g:=by
 intro e;obtain⟨_,g',cs,h1,_,h3,_⟩:=h;rw[hg] at h1;have e1:g=g':=by injection h1 with h1;injection h1
 rcases ho.2 with⟨hv,_⟩ | ⟨g2,cap,cur,hv,_,hh,_⟩
 ·rw[hv] at e;cases e
 rw[hv] at e;have e2:g2=g:=by simpa [Value.ownBlock] using e
 rw[<- e1,<- e2,hh] at h3;injection h3 with h3;injection h3 with _ h3;exact absurd h3 (by decide)
theorem SyAt.grown {w w':World} {p:Pk} (h:SyAt w p) {base n:Nat} {v:Value} {xs:List Value} (ho:w.ownsRow base 237 2 v n xs) (hg:w.grownBy w' v.ownBlock):SyAt w' p:=
 h.keeps (Keeps.grown hg) (λ _ hq e=>h.apart ho hq e)
theorem Sy.grown {w w':World} {go len d base n:Nat} {R:List Pk} {v:Value} {xs:List Value} (h:Sy w go len d R) (ho:w.ownsRow base 237 2 v n xs) (hg:w.grownBy w' v.ownBlock):Sy w' go len d R:=λ p hp=>⟨⟨(h p hp).1.1.grown ho hg,(h p hp).1.2⟩,(h p hp).2⟩
theorem Sy.size {w:World} {go len d:Nat} {R:List Pk} (h:Sy w go len d R):∀q,(Pkg.syms ((pcs R).take q)).length<=q*2^d
 | 0=>by simp[Pkg.syms]
 | q+1=>by
  have ih:=Sy.size h q;rw[qbZ];by_cases hq:q<R.length
  ·have e:(pcs R).take (q+1)=(pcs R).take q ++ [R[q].pc]:=by
    rw[qbJ (by rw[zbw];exact hq)];simp[pcs]
   rw[e,Pkg.zdg,qaa];have:=(h R[q] (qcA hq)).2.2.1;have e2:(Pkg.syms [R[q].pc]).length=R[q].s.length:=by simp[Pkg.syms,Pk.pc]
   omega
  rw[qan (by rw[zbw];omega)];rw[qan (by rw[zbw];omega)] at ih;omega
structure Cnt (w w':World) (go len d:Nat) (R:List Pk) (g:Nat) (q:Nat) (t:List Nat):Prop where
 rp:PR w' g R
 sy:Sy w' go len d R
 ext:Ext w w'
 oc:Cs w' go len .i64 (λ s=>(((Pkg.syms ((pcs R).take q)).count s+t.count s:Nat):Int))
 lt:go<w'.heap.size
 ge:w.heap.size<=go
 ne:g≠go
theorem Cnt.step {w w' w2:World} {go len d:Nat} {R:List Pk} {g q:Nat} {t:List Nat} (h:Cnt w w' go len d R g q t) (hE:Ext w' w2):Cnt w w2 go len d R g q t:=
 ⟨h.rp.ext hE,h.sy.ext hE,h.ext.trans hE,h.oc.keeps (S:=λ _=>False) hE.keeps id,by have:=h.lt;have:=hE.size;omega,h.ge,h.ne⟩
theorem Cnt.more {w w':World} {go len d:Nat} {R:List Pk} {g q:Nat} {t:List Nat} (h:Cnt w w' go len d R g q t) {s:Nat} (hs:s<len):Cnt w (w'.setCell ⟨go,s,none⟩ (.int .i64 (((Pkg.syms ((pcs R).take q)).count s+t.count s+1:Nat):Int))) go len d R g q (t ++ [s]):=by
 have hO:One go w' (w'.setCell ⟨go,s,none⟩ (.int .i64 (((Pkg.syms ((pcs R).take q)).count s+t.count s+1:Nat):Int))):=Keeps.setCell (S:=λ k=>k=go) (p:=⟨go,s,none⟩) (Keeps.refl _ _) (.inl rfl) _;refine⟨h.rp.keeps hO h.ne,h.sy.out hO,qaL h.ext h.ge _,?_,by have:=h.lt;simpa using this,h.ge,h.ne⟩;refine h.oc.put s _ _ hs (λ i _=>?_);rw[List.count_append];by_cases e:i=s
 ·subst e;rw[qad rfl];simp;omega
 rw[qac e];have: [s].count i=0:=by rw[List.count_eq_zero];simpa using e
 rw[this];rfl
theorem Cnt.next {w w':World} {go len d:Nat} {R:List Pk} {g q:Nat} {p:Pk} (h:Cnt w w' go len d R g q p.s) (hp:R[q]? =some p):Cnt w w' go len d R g (q+1) []:=by
 refine⟨h.rp,h.sy,h.ext,h.oc.congr (λ s _=>?_),h.lt,h.ge,h.ne⟩;obtain⟨hq,e⟩:=qa7.1 hp;have e2:(pcs R).take (q+1)=(pcs R).take q ++ [p.pc]:=by
  rw[qbJ (by rw[zbw];exact hq)];simp[pcs,e]
 rw[e2,Pkg.zdg,List.count_append];simp[Pkg.syms,Pk.pc]
structure LSt (w w':World) (go gc len d:Nat) (L R:List Pk) (g:Nat):Prop where
 ext:Ext w w'
 cp:PR w' gc L
 rp:PR w' g R
 syL:Sy w' go len 0 L
 syR:Sy w' go len d R
 oc:Cs w' go len .i64 (λ _=>0)
 base:w.heap.size<=gc
 o1:gc<go
 o2:go<g
theorem LSt.step {w w' w2:World} {go gc len d:Nat} {L R:List Pk} {g:Nat} (h:LSt w w' go gc len d L R g) (hE:Ext w' w2):LSt w w2 go gc len d L R g:=
 ⟨h.ext.trans hE,h.cp.ext hE,h.rp.ext hE,h.syL.ext hE,h.syR.ext hE,h.oc.keeps (S:=λ _=>False) hE.keeps id,h.base,h.o1,h.o2⟩
theorem LSt.turn {w w' w2:World} {go gc len d:Nat} {L R R2:List Pk} {g:Nat} (h:LSt w w' go gc len d L R g) (hO:One g w' w2) (hP:PR w2 g R2) (hp:R2.Perm R):LSt w w2 go gc len d L R2 g:=
 ⟨by
  have:=h.ext.size;have:=h.base;have:=h.o1;have:=h.o2;exact Below.trans h.ext (hO.below (B:=w.heap.size) (by omega) (λ k hk e=>by omega)),h.cp.keeps hO (by have:=h.o1;have:=h.o2;omega),hP,h.syL.one h.rp hO,(h.syR.one h.rp hO).perm hp,h.oc.keeps hO (by have:=h.o2;omega),h.base,h.o1,h.o2⟩
theorem LSt.renew {w w' w2:World} {go gc len d d':Nat} {L R R2:List Pk} {g g2:Nat} (h:LSt w w' go gc len d L R g) (hE:Ext w' w2) (hP:PR w2 g2 R2) (hS:Sy w2 go len d' R2) (ho:go<g2):LSt w w2 go gc len d' L R2 g2:=
 ⟨h.ext.trans hE,h.cp.ext hE,hP,h.syL.ext hE,hS,h.oc.keeps (S:=λ _=>False) hE.keeps id,h.base,h.o1,ho⟩
theorem LSt.grown {w w' w2:World} {go gc len d b0 n:Nat} {L R:List Pk} {g:Nat} {v:Value} {xs:List Value} (h:LSt w w' go gc len d L R g) (_hb:b0<=w'.heap.size) (hgb:g<b0) (ho:w'.ownsRow b0 237 2 v n xs) (hG:w'.grownBy w2 v.ownBlock):LSt w w2 go gc len d L R g:=by
 have hk:=Keeps.grown hG;have hlt:∀k,v.ownBlock=some k->b0<=k:=λ k hk=>(ho.lt k hk).1;have:=h.ext.size;have:=h.base;have:=h.o1;have:=h.o2;exact⟨Below.trans h.ext (hk.below (B:=w.heap.size) (by omega) (λ k hk e=>by have:=hlt k e;omega)),h.cp.keeps hk (λ e=>by have:=hlt _ e;omega),h.rp.keeps hk (λ e=>by have:=hlt _ e;omega),h.syL.grown ho hG,h.syR.grown ho hG,h.oc.keeps hk (λ e=>by have:=hlt _ e;omega),h.base,h.o1,h.o2⟩
theorem znG {w:World} {base sg n k:Nat} (c:Nat) {l:List Nat} (h:w.ownsRow base 3 1 (.slice (some ⟨sg,0,none⟩) n k) n (i64V (l.map λ i:Nat=>(i:Int)))) (h0:0<l.length) (hn:n=l.length):SyAt w ⟨c,some ⟨sg,0,none⟩,l.length,k,l⟩/\base<=sg:=by
 rcases h.2 with⟨hv,_⟩ | ⟨g,cap,cur,hv,hg,hh,hc,hm,hs,ht⟩
 ·cases hv
 injection hv with hv1 _ _;injection hv1 with hv1;injection hv1 with hv1 _ _;subst hv1;refine⟨⟨h0,sg,cur,rfl,rfl,hh,λ j hj=>?_⟩,hg⟩;have hj':j<l.length:=hj;have e:cur.toList[j]? =(i64V (l.map λ i:Nat=>(i:Int)))[j]?:=by
  rw[<- ht,qcn (by omega)]
 rw[<- Array.getElem?_toList,e];simp[i64V,hj']
theorem zj4 {R:List Pk} {i:Nat} {x:Pk} (h:R[i]? =some x):(pcs R)[i]? =some x.pc:=by simp[pcs,h]
theorem Sy.pair {w:World} {go len d:Nat} {R:List Pk} (h:Sy w go len d R) {x y:Pk} (hx:x∈R) (hy:y∈R) {sg k:Nat} (hz:SyAt w ⟨x.c+y.c,some ⟨sg,0,none⟩,(x.s++y.s).length,k,x.s++y.s⟩) (hg:sg≠go):Sy w go len (d+1) [⟨x.c+y.c,some ⟨sg,0,none⟩,(x.s++y.s).length,k,x.s++y.s⟩]:=λ p hp=>by
 rw[qaN.1 hp];obtain⟨_,a2,a3,a4⟩:=h x hx;obtain⟨_,b2,b3,b4⟩:=h y hy;have e:2^(d+1)=2*2^d:=by rw[qa1,qaJ]
 refine⟨⟨hz,λ q=>by injection q with q;injection q with q;exact hg q⟩,?_,?_,?_⟩
 ·show x.c+y.c<=_;omega
 ·show (x.s++y.s).length<=_;rw[qaa];omega
 intro s hs;rcases qa3.1 hs with q | q
 ·exact a4 s q
 exact b4 s q
end Go.Proofs.YthlibiocadimhaaGreatDoor
namespace Go.Proofs.YthlibiocadimhaaGreatDoor
open Go.RowKit
namespace Inf
open Classical in
noncomputable def za3 (many far:Nat) (rl:Except Nat (List Nat × Nat)):Except Nat (List Nat × List Nat × Nat):=
 match rl with
 | .error c=>.error c
 | .ok (l,a5)=>
  if ¬ good (fn (l.take many)) many then .error 0
  else if ¬ good (fn (l.drop many)) far then .error 0
  else if l.getD 256 0=0 then .error 0
  else .ok (l.take many,l.drop many,a5)
open Classical in
noncomputable def zbo (L:List UInt8) (many far:Nat) (rs:Except Nat ((Nat->Int) × Nat)):Except Nat (List Nat × List Nat × Nat):=
 match rs with
 | .error c=>.error c
 | .ok (f,a4)=>if ¬ good f 19 then .error 0 else za3 many far (lens L f (many+far) (many+far+1) a4 [])
open Classical in
theorem zlQ (L:List UInt8) (a:Nat):dyn L a=match get L 5 a with
  | .error c=>.error c
  | .ok (m,a1)=>
   match get L 5 a1 with
   | .error c=>.error c
   | .ok (r,a2)=>
    match get L 4 a2 with
    | .error c=>.error c
    | .ok (w,a3)=>if 286<m+257\/30<r+1 then .error 0 else zbo L (m+257) (r+1) (zaW L (w+4) 0 a3 (λ _=>0)):=by
 rfl
section
variable {L:List UInt8} {many far:Nat} {r:Except Nat (List Nat × List Nat × Nat)} {c:Nat}
theorem zjo {rs:Except Nat ((Nat->Int) × Nat)} (h:zbo L many far rs=r) (e:rs=.error c):.error c=r:=by subst e;exact h
theorem zjH {f:Nat->Int} {a:Nat} {rs:Except Nat ((Nat->Int) × Nat)} (h:zbo L many far rs=r) (e:rs=.ok (f,a)) (hg:¬ good f 19):.error 0=r:=by
 subst e;simp only[zbo] at h;rw[qad hg] at h;exact h
theorem zmP {f:Nat->Int} {a:Nat} {rs:Except Nat ((Nat->Int) × Nat)} (h:zbo L many far rs=r) (e:rs=.ok (f,a)) (hg:good f 19):za3 many far (lens L f (many+far) (many+far+1) a [])=r:=by
 subst e;simp only[zbo] at h;rw[qac (λ q=>q hg)] at h;exact h
theorem zaV {rl:Except Nat (List Nat × Nat)} (h:za3 many far rl=r) (e:rl=.error c):.error c=r:=by subst e;exact h
theorem zhU {l:List Nat} {a:Nat} {rl:Except Nat (List Nat × Nat)} (h:za3 many far rl=r) (e:rl=.ok (l,a)) (h1:¬ good (fn (l.take many)) many):.error 0=r:=by
 subst e;simp only[za3] at h;rw[qad h1] at h;exact h
theorem zio {l:List Nat} {a:Nat} {rl:Except Nat (List Nat × Nat)} (h:za3 many far rl=r) (e:rl=.ok (l,a)) (h1:good (fn (l.take many)) many) (h2:¬ good (fn (l.drop many)) far):.error 0=r:=by
 subst e;simp only[za3] at h;rw[qac (λ q=>q h1),qad h2] at h;exact h
theorem zik {l:List Nat} {a:Nat} {rl:Except Nat (List Nat × Nat)} (h:za3 many far rl=r) (e:rl=.ok (l,a)) (h1:good (fn (l.take many)) many) (h2:good (fn (l.drop many)) far) (h3:l.getD 256 0=0):.error 0=r:=by
 subst e;simp only[za3] at h;rw[qac (λ q=>q h1),qac (λ q=>q h2),qad h3] at h;exact h
theorem zli {l:List Nat} {a:Nat} {rl:Except Nat (List Nat × Nat)} (h:za3 many far rl=r) (e:rl=.ok (l,a)) (h1:good (fn (l.take many)) many) (h2:good (fn (l.drop many)) far) (h3:l.getD 256 0≠0):.ok (l.take many,l.drop many,a)=r:=by
 subst e;simp only[za3] at h;rw[qac (λ q=>q h1),qac (λ q=>q h2),qac h3] at h;exact h
theorem zfW {n i a:Nat} {f:Nat->Int} {rs:Except Nat ((Nat->Int) × Nat)} (h:zaW L (n+1) i a f=rs) (e:get L 3 a=.error c):rs=.error c:=by simp only[zaW,e] at h;exact h.symm
theorem zgq {n i a x a':Nat} {f:Nat->Int} {rs:Except Nat ((Nat->Int) × Nat)} (h:zaW L (n+1) i a f=rs) (e:get L 3 a=.ok (x,a')):zaW L n (i+1) a' (upd f (zaK.getD i 0) x)=rs:=by simp only[zaW,e] at h;exact h
variable {f:Nat->Int} {want F a:Nat} {l:List Nat} {rl:Except Nat (List Nat × Nat)}
theorem zgM (hF:0<F) (h:lens L f want F a l=rl) (hl:want<=l.length):rl=.ok (l,a):=by
 cases F with
 | zero=>omega
 | succ F=>simp only[lens,qad hl] at h;exact h.symm
theorem zj1 (hF:0<F) (h:lens L f want F a l=rl) (hl:¬ want<=l.length) (e:nxt L f 19 a=.error c):rl=.error c:=by
 cases F with
 | zero=>omega
 | succ F=>simp only[lens,qac hl,e] at h;exact h.symm
theorem zbs {k a1:Nat} (hF:0<F) (h:lens L f want F a l=rl) (hl:¬ want<=l.length) (e:nxt L f 19 a=.ok (k,a1)) (e2:rep L k a1 l=.error c):rl=.error c:=by
 cases F with
 | zero=>omega
 | succ F=>simp only[lens,qac hl,e,e2] at h;exact h.symm
theorem zbU {k a1 a2 t what:Nat} (hF:0<F) (h:lens L f want F a l=rl) (hl:¬ want<=l.length) (e:nxt L f 19 a=.ok (k,a1)) (e2:rep L k a1 l=.ok (t,what,a2)) (ho:want<l.length+t):rl=.error 0:=by
 cases F with
 | zero=>omega
 | succ F=>simp only[lens,qac hl,e,e2,qad ho] at h;exact h.symm
theorem zcK {k a1 a2 t what:Nat} (hF:0<F) (h:lens L f want F a l=rl) (hl:¬ want<=l.length) (e:nxt L f 19 a=.ok (k,a1)) (e2:rep L k a1 l=.ok (t,what,a2)) (ho:¬ want<l.length+t):∃F',F=F'+1/\lens L f want F' a2 (l++List.replicate t what)=rl:=by
 cases F with
 | zero=>omega
 | succ F=>simp only[lens,qac hl,e,e2,qac ho] at h;exact⟨F,rfl,h⟩
theorem zgc:rep L 16 a []=.error 0:=by unfold rep;rw[qad rfl,qad rfl]
theorem zj0 (hl:l≠[]) (e:get L 2 a=.error c):rep L 16 a l=.error c:=by unfold rep;rw[qad rfl,qac hl,e]
theorem rep_16 {x a':Nat} (hl:l≠[]) (e:get L 2 a=.ok (x,a')):rep L 16 a l=.ok (3+x,l.getD (l.length-1) 0,a'):=by unfold rep;rw[qad rfl,qac hl,e]
theorem zjl (e:get L 3 a=.error c):rep L 17 a l=.error c:=by unfold rep;rw[qac (by decide),qad rfl,e]
theorem rep_17 {x a':Nat} (e:get L 3 a=.ok (x,a')):rep L 17 a l=.ok (3+x,0,a'):=by unfold rep;rw[qac (by decide),qad rfl,e]
theorem zj9 (e:get L 7 a=.error c):rep L 18 a l=.error c:=by unfold rep;rw[qac (by decide),qac (by decide),qad rfl,e]
theorem rep_18 {x a':Nat} (e:get L 7 a=.ok (x,a')):rep L 18 a l=.ok (11+x,0,a'):=by unfold rep;rw[qac (by decide),qac (by decide),qad rfl,e]
theorem zhG {k:Nat} (h1:k≠16) (h2:k≠17) (h3:k≠18):rep L k a l=.ok (1,k,a):=by unfold rep;rw[qac h1,qac h2,qac h3]
end
theorem zgs:∀i,i<19->zaK.getD i 0<19:=by decide
end Inf
theorem IGo.keepS {w0 w wr w':World} {R B a most:Nat} {s:ByteArray} {v0 v:Value} {out:List UInt8} {S:Nat->Prop} (h:IGo w0 w wr R B s a v0 v out most) (hk:Keeps S wr w') (hS:∀k,S k->w.heap.size<=k) (hw:w0.heap.size<=w.heap.size) (hR:¬ S R) (hB:¬ S B) (hv:∀k,v.ownBlock=some k->¬ S k):IGo w0 w w' R B s a v0 v out most:=
 ⟨⟨h.st.at_.keep hk hR hB hv,Below.trans h.st.old (hk.below h.st.old.size (λ k hk q=>by have:=hS k q;omega)),h.st.hR,h.st.hB,h.st.hv,h.st.le⟩,
  ⟨h.step.keeps.trans hk (λ i hi q=>by have:=hS i q;omega),h.step.new⟩⟩
theorem IGo.lts {w0 w wr:World} {R B a most:Nat} {s:ByteArray} {v0 v:Value} {out:List UInt8} (h:IGo w0 w wr R B s a v0 v out most):R<wr.heap.size/\B<wr.heap.size/\∀k,v.ownBlock=some k->k<wr.heap.size:=
 ⟨h.bk.lt,h.st.at_.rd.lt,λ _ q=>zaA h.row q⟩
theorem zcm (R B a most len cap:Nat) (x:Option Addr) (f:Nat->Int) (s:ByteArray) (v0 v:Value) (out:List UInt8) (w0 w wr:World) (E:Nat->Addr) (hE:Errs w0 E) (hI:IGo w0 w wr R B s a v0 v out most) (hx:Ints wr x len f) (hg:Inf.good f len):
  Calls Tryz.prog 160 #[.pointer (some ⟨R,0,none⟩),.slice x len cap] wr λ e w'=>∃T,e=.returned (.pointer (some ⟨T,0,none⟩))/\Tr w' T f len R B v/\Ext wr w':=by
 obtain⟨l1,l2,l3⟩:=hI.lts;refine (zmw R len cap x f w0 wr E hE hI.old hx hg).mono ?_;rintro e w' ⟨⟨T,u,h1,h2,rfl,h3⟩,h4⟩;exact⟨T,rfl,⟨⟨u,h3,λ k q=>⟨by have:=h2 k q;omega,by have:=h2 k q;omega,λ e=>by have:=h2 k q;have:=l3 k e;omega⟩⟩,hg,by omega,by omega,λ e=>by have:=l3 T e;omega⟩,h4⟩
theorem zeP (R B a most len cap:Nat) (x:Option Addr) (f:Nat->Int) (s:ByteArray) (v0 v:Value) (out:List UInt8) (w0 w wr:World) (E:Nat->Addr) (hE:Errs w0 E) (hI:IGo w0 w wr R B s a v0 v out most) (hx:Ints wr x len f) (hl:len<=maxLen) (hg:¬ Inf.good f len):
  Calls Tryz.prog 160 #[.pointer (some ⟨R,0,none⟩),.slice x len cap] wr λ e w'=>e=zaR (E 0)/\Ext w0 w':=by
 refine (znk R len cap x f w0 wr E hE hI.old hx hl hg).mono ?_;rintro e w' ⟨rfl,h4⟩;exact⟨rfl,hI.st.gone (IStep.ext h4)⟩
structure SGo (w0 w wr:World) (R B:Nat) (s:ByteArray) (a:Nat) (v:Value) (out:List UInt8) (most G:Nat) (f:Nat->Int):Prop where
 go:IGo w0 w wr R B s a v v out most
 cs:Cs wr G 19 .i64 f
 hG:w.heap.size<=G
 lt:R<w.heap.size/\B<w.heap.size/\∀k,v.ownBlock=some k->k<w.heap.size
 hw:w0.heap.size<=w.heap.size
theorem zaz {w w':World} {B n:Nat} {k:IntKind} {g:Nat->Int} {S:Nat->Prop} (h:Cs w B n k g) (hk:Keeps S w w') (hB:¬ S B):Cs w' B n k g:=Cv.keeps (g:=λ i=>.int k (g i)) h hk hB
section
variable {w0 w wr w':World} {R B a a' most G:Nat} {f f':Nat->Int} {s:ByteArray} {v:Value} {out:List UInt8}
theorem SGo.old (h:SGo w0 w wr R B s a v out most G f):Ext w0 wr:=h.go.old
theorem SGo.bk (h:SGo w0 w wr R B s a v out most G f):Bk wr R #[.pointer (some ⟨B,0,none⟩),v,.int .i64 (most:Int)]:=h.go.bk
theorem SGo.ext (h:SGo w0 w wr R B s a v out most G f) (hE:Ext wr w'):SGo w0 w w' R B s a v out most G f:=⟨h.go.ext hE,zaz (S:=λ _=>False) h.cs hE.keeps id,h.hG,h.lt,h.hw⟩
theorem SGo.rd (h:SGo w0 w wr R B s a v out most G f) (hG:IGo w0 w w' R B s a' v v out most) (hS:RStep wr w' B 0):SGo w0 w w' R B s a' v out most G f:=
 ⟨hG,zaz h.cs hS.keeps (λ e=>by have:=h.hG;have:=h.lt.2.1;omega),h.hG,h.lt,h.hw⟩
theorem SGo.put (h:SGo w0 w wr R B s a v out most G f) (j:Nat) (x:Int) (hj:j<19):SGo w0 w (wr.setCell ⟨G,j,none⟩ (.int .i64 x)) R B s a v out most G (Inf.upd f j x):=by
 have hGl:=h.hG;have hlt:=h.lt;refine⟨h.go.keepS (S:=λ k=>k=G) ((Keeps.refl (λ k=>k=G) _).setCell (p:=⟨G,j,none⟩) (.inl rfl) _) (λ k q=>by omega) h.hw (λ q=>by omega) (λ q=>by omega) (λ k q e=>by have:=hlt.2.2 k q;omega),h.cs.put j x _ hj (λ i _=>rfl),h.hG,h.lt,h.hw⟩
theorem SGo.ints (h:SGo w0 w wr R B s a v out most G f) (hb:∀i,0<=f i/\f i<=7):Ints wr (some ⟨G,0,none⟩) 19 f:=by
 refine⟨λ e=>(by cases e),λ p hp i hi=>?_⟩;injection hp with hp;subst hp;rw[zae];have:=hb i;exact⟨(h.cs i hi).1,by omega,by omega⟩
end
theorem zb6 (l m:List Nat):intsV (l++m).length (Inf.fn (l++m))=intsV l.length (Inf.fn l)++intsV m.length (Inf.fn m):=by
 unfold intsV Inf.fn;apply List.ext_getElem
 ·simp
 intro i h1 h2;by_cases hi:i<l.length
 ·rw[List.getElem_append_left (by simpa using hi)];simp[List.getD,hi,qbj]
 rw[List.getElem_append_right (by simp;omega)];simp[List.getD,qbA (Nat.le_of_not_lt hi)]
theorem zmK (t what:Nat):intsV (List.replicate t what).length (Inf.fn (List.replicate t what))=List.replicate t (.int .i64 (what:Int)):=by
 unfold intsV Inf.fn;apply List.ext_getElem
 ·simp
 intro i h1 h2;have:i<t:=by simpa using h2
 simp[List.getD,this]
structure LGo (w0 w w5 wr:World) (R B:Nat) (s:ByteArray) (a:Nat) (v:Value) (out:List UInt8) (most:Nat) (vl:Value) (l:List Nat):Prop where
 go:IGo w0 w wr R B s a v v out most
 st:IStep w5 wr R B v v
 row:wr.ownsRow w5.heap.size 3 1 vl l.length (intsV l.length (Inf.fn l))
 lt:R<w5.heap.size/\B<w5.heap.size/\∀k,v.ownBlock=some k->k<w5.heap.size
 hw:w0.heap.size<=w.heap.size/\w.heap.size<=w5.heap.size
 bd:∀x∈l,x<=18
section
variable {w0 w w5 wr w':World} {R B a a' most g n c:Nat} {s:ByteArray} {v vl vl':Value} {out:List UInt8} {l:List Nat}
theorem LGo.old (h:LGo w0 w w5 wr R B s a v out most vl l):Ext w0 wr:=h.go.old
theorem LGo.bk (h:LGo w0 w w5 wr R B s a v out most vl l):Bk wr R #[.pointer (some ⟨B,0,none⟩),v,.int .i64 (most:Int)]:=h.go.bk
theorem LGo.keepS (h:LGo w0 w w5 wr R B s a v out most vl l) {S:Nat->Prop} (hk:Keeps S wr w') (hS:∀k,S k->w5.heap.size<=k):IGo w0 w w' R B s a v v out most/\IStep w5 w' R B v v:=
 ⟨h.go.keepS hk (λ k q=>by have:=hS k q;have:=h.hw;omega) h.hw.1 (λ q=>by have:=hS _ q;have:=h.lt;omega) (λ q=>by have:=hS _ q;have:=h.lt;omega) (λ k q e=>by have:=hS _ e;have:=h.lt.2.2 k q;omega),
  ⟨h.st.keeps.trans hk (λ i hi q=>by have:=hS _ q;omega),h.st.new⟩⟩
theorem LGo.ext (h:LGo w0 w w5 wr R B s a v out most vl l) (hE:Ext wr w'):LGo w0 w w5 w' R B s a v out most vl l:=
 ⟨h.go.ext hE,h.st.trans (IStep.ext hE),zaa (S:=λ _=>False) h.row hE.keeps (λ _ _ q=>q),h.lt,h.hw,h.bd⟩
theorem LGo.rd (h:LGo w0 w w5 wr R B s a v out most vl l) (hG:IGo w0 w w' R B s a' v v out most) (hS:RStep wr w' B 0):LGo w0 w w5 w' R B s a' v out most vl l:=
 ⟨hG,h.st.trans (IStep.rd hS),zaa h.row hS.keeps (λ k q e=>by have:=(h.row.lt k q).1;have:=h.lt.2.1;omega),h.lt,h.hw,h.bd⟩
theorem LGo.grow (h:LGo w0 w w5 wr R B s a v out most vl l) {n t what:Nat} (hn:l.length=n) (hg:wr.grownBy w' vl.ownBlock) (ho:w'.ownsRow w5.heap.size 3 1 vl' (n+t) (intsV n (Inf.fn l)++List.replicate t (.int .i64 (what:Int)))) (hx:what<=18):
  LGo w0 w w5 w' R B s a v out most vl' (l++List.replicate t what):=by
 have hk:=Keeps.grown hg;have q:=h.keepS hk (λ k e=>(h.row.lt k e).1);refine⟨q.1,q.2,?_,h.lt,h.hw,?_⟩
 ·rw[zb6,zmK,qaa,qaT,hn];exact ho
 intro x hx';rcases qa3.1 hx' with e | e
 ·exact h.bd x e
 rw[qb0 e];exact hx
theorem zdB (hb:∀x∈l,x<=18) (i:Nat):0<=Inf.fn l i/\Inf.fn l i<=18:=by
 unfold Inf.fn;by_cases hi:i<l.length
 ·have:=hb l[i] (qcA hi);simp[List.getD,hi];omega
 simp[List.getD,qba (Nat.le_of_not_lt hi)]
theorem LGo.cell (h:LGo w0 w w5 wr R B s a v out most (.slice (some ⟨g,0,none⟩) n c) l) (hn:l.length=n) (i:Nat) (hi:i<n):wr.cell? ⟨g,i,none⟩=some (.int .i64 ((l.getD i 0:Nat):Int)):=by
 have q:=h.row;rw[hn] at q;rw[q.cellAt i (by omega),zbc _ _ i hi];rfl
theorem LGo.take (h:LGo w0 w w5 wr R B s a v out most (.slice (some ⟨g,0,none⟩) n c) l) (hn:l.length=n) (m:Nat) (hm:m<=n):Ints wr (some ⟨g,0,none⟩) m (Inf.fn (l.take m)):=by
 refine⟨λ e=>(by cases e),λ p hp i hi=>?_⟩;injection hp with hp;subst hp;rw[zae];have e:Inf.fn (l.take m) i=Inf.fn l i:=by unfold Inf.fn;simp[List.getD,hi]
 have:=zdB h.bd i;rw[e];exact⟨h.cell hn i (by omega),by omega,by omega⟩
theorem LGo.drop (h:LGo w0 w w5 wr R B s a v out most (.slice (some ⟨g,0,none⟩) n c) l) (hn:l.length=n) (m k:Nat) (hm:m+k=n):Ints wr (some ⟨g,m,none⟩) k (Inf.fn (l.drop m)):=by
 refine⟨λ e=>(by cases e),λ p hp i hi=>?_⟩;injection hp with hp;subst hp;have e:Inf.fn (l.drop m) i=Inf.fn l (m+i):=by unfold Inf.fn;simp[List.getD,List.getElem?_drop]
 have:=zdB h.bd (m+i);rw[e,show (⟨g,m,none⟩:Addr).add i=⟨g,m+i,none⟩ by unfold Addr.add;split <;> simp_all];exact⟨h.cell hn (m+i) (by omega),by omega,by omega⟩
end
theorem ziw (few:Nat) (h:few<=19) (w:World):(Instr.sliceAt 192 (.pointer (some ⟨10,0,none⟩)) none (some (.int .i64 (few:Int))) none).run Tryz.prog w=.ok (.slice (some ⟨10,0,none⟩) few 19) w:=by
 have hl: Tryz.prog.arrayLen 192 =19:=by kernel_rfl
 rw[run_sliceAt_array_h (P:=Tryz.prog) w 192 _ Tryz.underlying192 .i64 (few:Int) (by omega) (by rw[hl];omega),hl];have hs:(sizeOf (Tryz.prog.elem 192)).run Tryz.prog w=.ok 1 w:=by kernel_rfl
 rw[hs];simp[Result.andThen,slicedAt,zae]
def DPost (w0 w:World) (R B:Nat) (s:ByteArray) (most:Nat) (v:Value) (out:List UInt8) (E:Nat->Addr) (r:Except Nat (List Nat × List Nat × Nat)) (e:Ending) (w':World):Prop:=
 match r with
 | .ok (l,d,a)=>∃T U,e=.returned (.tuple #[.pointer (some ⟨T,0,none⟩),.pointer (some ⟨U,0,none⟩)])/\IGo w0 w w' R B s a v v out most/\Tr w' T (Inf.fn l) l.length R B v/\Tr w' U (Inf.fn d) d.length R B v
 | .error c=>e=zaR (E c)/\Ext w0 w'
theorem zaJ {w0 w w':World} {R B c most:Nat} {s:ByteArray} {v:Value} {out:List UInt8} {E:Nat->Addr} {r:Except Nat (List Nat × List Nat × Nat)} (hr:.error c=r) (h:Ext w0 w'):DPost w0 w R B s most v out E r (zaR (E c)) w':=by
 subst hr;exact⟨rfl,h⟩
theorem zm2 {w0 w w':World} {R B a most T U:Nat} {s:ByteArray} {v:Value} {out:List UInt8} {E:Nat->Addr} {l d:List Nat} {r:Except Nat (List Nat × List Nat × Nat)} (hr:.ok (l,d,a)=r) (h:IGo w0 w w' R B s a v v out most) (hT:Tr w' T (Inf.fn l) l.length R B v) (hU:Tr w' U (Inf.fn d) d.length R B v):
  DPost w0 w R B s most v out E r (.returned (.tuple #[.pointer (some ⟨T,0,none⟩),.pointer (some ⟨U,0,none⟩)])) w':=by
 subst hr;exact⟨T,U,rfl,h,hT,hU⟩
end Go.Proofs.YthlibiocadimhaaGreatDoor
namespace Go.Proofs.YthlibiocadimhaaGreatDoor
open Go.RowKit
theorem Cs.ext {w w':World} {B n:Nat} {k:IntKind} {g:Nat->Int} (h:Cs w B n k g) (hE:Ext w w'):Cs w' B n k g:=zaz (S:=λ _=>False) h hE.keeps id
theorem Ir.rep {w:World} {g n c:Nat} {x:Int} (h0:0<n) (h:Cv w g n (λ _=>.int .i64 x)):Ir w (.slice (some ⟨g,0,none⟩) n c) (List.replicate n x):=by
 refine⟨by simpa using h0,g,c,by simp,λ j hj=>?_⟩;have hj1:j<n:=by simpa using hj
 rw[(h j hj1).1];simp[i64V,hj1]
def fixLs:Nat->List Int
 | 0=>List.replicate 144 8
 | 1=>List.replicate 112 9
 | 2=>List.replicate 24 7
 | _=>List.replicate 8 8
theorem zhu:concL fixLs 4=(List.range 288).map Inf.fixF:=by decide +kernel
theorem zit {w:World} {base:Nat} {v:Value} {n:Nat} {f:Nat->Int} (h:w.ownsRow base 3 1 v n (i64V ((List.range n).map f))) (hb:∀i,i<n-> -9223372036854775808<=f i/\f i<=9223372036854775807):
  ∃x cap,v=.slice x n cap/\Ints w x n f:=by
 refine Ints.of_own (base:=base) ?_ hb;have e:i64V ((List.range n).map f)=intsV n f:=by simp[i64V,intsV]
 rw[<- e];exact h
set_option maxHeartbeats 1000000 in
theorem zgO (w:World):Calls Tryz.prog 124 #[] w λ e w'=>(∃x c,e=.returned (.slice x 288 c)/\Ints w' x 288 Inf.fixF/\w'.ownsRow w.heap.size 3 1 (.slice x 288 c) 288 (intsV 288 Inf.fixF))/\Ext w w':=by
 go_enter Tryz.func124,Tryz.ntmps124
 go_wp2_with fail;refine (zbS w.heap.size 144 8 _ (by simp) (by decide) (by decide)).mono ?_;rintro e w1 ⟨⟨g1,c1,rfl,hc1,_,_⟩,hX1⟩;have HC1:=Hd (Ir.rep (c:=c1) (by decide) hc1);have HX1:=Hd (Ext.trans ((Ext.refl w).alloc _) hX1);clear hc1 hX1;go_wp2_with fail;refine (zbS w1.heap.size 112 9 _ (by simp) (by decide) (by decide)).mono ?_;rintro e w2 ⟨⟨g2,c2,rfl,hc2,_,_⟩,hX2⟩;have hX:=Ext.trans ((Ext.refl w1).alloc _) hX2;have HC2:=Hd (Ir.rep (c:=c2) (by decide) hc2);have HD1:=Hd (HC1.out.ext hX);have HX2:=Hd (HX1.out.trans hX);clear hc2 hX2 HC1 HX1 hX;go_wp2_with fail;refine (zbS w2.heap.size 24 7 _ (by simp) (by decide) (by decide)).mono ?_;rintro e w3 ⟨⟨g3,c3,rfl,hc3,_,_⟩,hX3⟩;have hX:=Ext.trans ((Ext.refl w2).alloc _) hX3;have HC3:=Hd (Ir.rep (c:=c3) (by decide) hc3);have HE1:=Hd (HD1.out.ext hX);have HE2:=Hd (HC2.out.ext hX);have HX3:=Hd (HX2.out.trans hX);clear hc3 hX3 HD1 HC2 HX2 hX;go_wp2_with fail;refine (zbS w3.heap.size 8 8 _ (by simp) (by decide) (by decide)).mono ?_;rintro e w4 ⟨⟨g4,c4,rfl,hc4,_,_⟩,hX4⟩;have hX:=Ext.trans ((Ext.refl w3).alloc _) hX4;have HC4:=Hd (Ir.rep (c:=c4) (by decide) hc4);have HF1:=Hd (HE1.out.ext hX);have HF2:=Hd (HE2.out.ext hX);have HF3:=Hd (HC3.out.ext hX);have HX4:=Hd (HX3.out.trans hX);clear hc4 hX4 HE1 HE2 HC3 HX3 hX;go_wp2_with fail;refine zaM (λ wz=>Ext w4 wz/\Bk wz w4.heap.size #[.slice (some ⟨g1,0,none⟩) 144 c1,.slice (some ⟨g2,0,none⟩) 112 c2,.slice (some ⟨g3,0,none⟩) 24 c3,.slice (some ⟨g4,0,none⟩) 8 c4]) ⟨(Ext.refl _).alloc _,Bk.at rfl⟩ ?_
 rintro w5 ⟨hX,hB⟩;have HB:=Hd hB;have HX5:=Hd (HX4.out.trans hX);have HG1:=Hd (HF1.out.ext hX);have HG2:=Hd (HF2.out.ext hX);have HG3:=Hd (HF3.out.ext hX);have HG4:=Hd (HC4.out.ext hX);clear hX hB HF1 HF2 HF3 HC4 HX4;refine (zfu w4.heap.size 4 4 (λ i=>(#[Value.slice (some ⟨g1,0,none⟩) 144 c1,.slice (some ⟨g2,0,none⟩) 112 c2,.slice (some ⟨g3,0,none⟩) 24 c3,.slice (some ⟨g4,0,none⟩) 8 c4]).getD i undef) fixLs w5 (by decide) (by decide) ?_ ?_ (by rw[zhu];simp)).mono ?_
 ·intro i hi;rw[HB.out.cell i];simp[hi]
 ·intro i hi;rcases (show i=0\/i=1\/i=2\/i=3 by omega) with rfl | rfl | rfl | rfl
  ·exact HG1.out
  ·exact HG2.out
  ·exact HG3.out
  exact HG4.out
 rintro e w6 ⟨⟨v,rfl,ho⟩,hX⟩;rw[zhu] at ho;rw[qcm,List.length_range] at ho;have hb:∀i,i<288-> -9223372036854775808<=Inf.fixF i/\Inf.fixF i<=9223372036854775807:=by
  intro i _;unfold Inf.fixF;split <;> (try split) <;> (try split) <;> omega
 obtain⟨x,c,rfl,hI⟩:=zit ho hb;have HI:=Hd hI;have e:i64V ((List.range 288).map Inf.fixF)=intsV 288 Inf.fixF:=by simp[i64V,intsV]
 rw[e] at ho;have HO:Hid (w6.ownsRow w.heap.size 3 1 (.slice x 288 c) 288 (intsV 288 Inf.fixF)):=Hd (ho.mono HX5.out.size);have HX6:=Hd (HX5.out.trans hX);clear ho hX hI hb e;go_wp2_with fail;go_ret;exact⟨⟨x,c,rfl,HI.out,HO.out⟩,HX6.out⟩
end Go.Proofs.YthlibiocadimhaaGreatDoor
namespace Go.Proofs.YthlibiocadimhaaGreatDoor
open Go.RowKit
theorem zgV {P : Program} {f : FuncId} {fn : Func} {c : Code} (hf : P.funcs[f]? = some fn) (hname : (fn.name == "runtime.NumGoroutine") = false) (hb : fn.body = some c) (args : Array Value) (w : World) : (callFunc f args).run P w = .ok (.enter f args) w := by
 have h1 : fn.name ≠ "runtime.NumGoroutine" := by simpa using hname
 simp[callFunc,hf,h1,hb,mark]
theorem IGo.trans {w0 w wr w':World} {R B a a' most:Nat} {s:ByteArray} {v0 v v':Value} {out out':List UInt8} (h:IGo w0 w wr R B s a v0 v out most) (k:IGo w0 wr w' R B s a' v v' out' most):IGo w0 w w' R B s a' v0 v' out' most:=⟨k.st,h.step.trans k.step⟩
namespace Inf
theorem zbr:good fixF 288:=by
 refine⟨⟨by decide,λ j _=>?_⟩,.inr (.inr ?_)⟩
 ·unfold fixF;split <;> (try split) <;> (try split) <;> omega
 decide +kernel
theorem zcs:good fiveF 32:=⟨⟨by decide,λ j _=>by unfold fiveF;omega⟩,.inr (.inr (by decide +kernel))⟩
theorem zd6:∀k,k<32->word fiveF 32 k=k:=by decide +kernel
theorem zoc {L:List UInt8} {a:Nat} (h:a+5<=8*L.length):nxt L fiveF 32 a=.ok (codeAt (Crc.num L) a 5,a+5):=by
 have hl:=zct (Crc.num L) a 5;exact zew zcs.2 ⟨by omega,by omega,h,hl,rfl,zd6 _ hl⟩
theorem zi8 {L:List UInt8} {a:Nat} (h:8*L.length<a+5):nxt L fiveF 32 a=.error 0:=by
 refine zfc λ n k hh=>?_;have h1:=hh.2.2.2.2.1;have h2:=hh.2.2.1;have:(5:Int)=n:=h1;omega
end Inf
def NPost (w0 w:World) (R B:Nat) (s:ByteArray) (v:Value) (out:List UInt8) (most:Nat) (E:Nat->Addr) (r:Except Nat (Nat × Nat)) (e:Ending) (w':World):Prop:=
 match r with
 | .ok (k,a')=>e=.returned (.int .i64 (k:Int))/\IGo w0 w w' R B s a' v v out most
 | .error c=>e=zaR (E c)/\Ext w0 w'
section
variable {w0 w w':World} {R B a' k c most:Nat} {s:ByteArray} {v:Value} {out:List UInt8} {E:Nat->Addr} {r:Except Nat (Nat × Nat)} {e:Ending}
theorem zhC {x:Value} (hr:r=.ok (k,a')) (hx:x=.int .i64 (k:Int)) (h:IGo w0 w w' R B s a' v v out most):NPost w0 w R B s v out most E r (.returned x) w':=by subst hr hx;exact⟨rfl,h⟩
theorem zeG (hr:r=.error c) (h:Ext w0 w'):NPost w0 w R B s v out most E r (zaR (E c)) w':=by subst hr;exact⟨rfl,h⟩
theorem NPost.yes (h:NPost w0 w R B s v out most E r e w') (hr:r=.ok (k,a')):e=.returned (.int .i64 (k:Int))/\IGo w0 w w' R B s a' v v out most:=by subst hr;exact h
theorem NPost.no (h:NPost w0 w R B s v out most E r e w') (hr:r=.error c):e=zaR (E c)/\Ext w0 w':=by subst hr;exact h
end
def BoxB (b:Nat) (x:Value) (R B:Nat) (w:World) (v:Value):Prop:=Bk w b #[x]/\b≠R/\b≠B/\v.ownBlock≠some b
theorem BoxB.step {b R B:Nat} {x:Value} {w w':World} {v v':Value} (h:BoxB b x R B w v) (k:IStep w w' R B v v'):BoxB b x R B w' v':=by
 obtain⟨h1,h2,h3,h4⟩:=h;have hl:=h1.lt;refine⟨h1.keeps k.keeps ?_,h2,h3,λ q=>?_⟩
 ·rintro (q | q | q)
  ·exact h2 q
  ·exact h3 q
  exact h4 q
 rcases k.new b q with r | r
 ·exact h4 r
 omega
set_option maxHeartbeats 1000000 in
theorem ziv (b R B a most:Nat) (s:ByteArray) (v:Value) (out:List UInt8) (w0 w:World) (E:Nat->Addr) (hE:Errs w0 E) (hI:ISt w0 w R B s a v out most) (hD:BoxB b (.pointer (some ⟨R,0,none⟩)) R B w v):
  Calls Tryz.prog 161 #[.pointer (some ⟨b,0,none⟩)] w λ e w'=>NPost w0 w R B s v out most E (Inf.nxt s.data.toList Inf.fiveF 32 a) e w':=by
 have HE:=Hd hE;have H0:=Hd (IGo.start hI);have HD:=Hd hD;have hle:=hI.le;obtain⟨r,hr⟩:=nmE (Inf.nxt s.data.toList Inf.fiveF 32 a);rw[hr];have HR:=Hd hr;obtain⟨N,hN⟩:=nmE (Crc.num s.data.toList);have HN:=Hd hN;clear hE hI hD hr hN;go_enter Tryz.func161,Tryz.ntmps161
 go_wp2_with fail;go_loopw [2,3] (λ x y wr=>∃i:Nat,i<=5/\y=.int .i64 i/\x=.int .i64 (codeAt N a i:Int)/\Hid (IGo w0 w wr R B s (a+i) v v out most)/\a+i<=8*s.size) (λ _ y _=>5-(intOf y).toNat)
 case atStart=>exact⟨0,by omega,rfl,rfl,H0,hle⟩
 case round=>
  clear H0;obtain⟨i,hi,rfl,rfl,H,hai⟩:=hrel;have hcl:=zct N a i;have h32:2^i<=2^5:=qaq (by decide) hi;by_cases hlt:i<5
  ·have c0:=(HD.out.step H.out.step).1.cell 0;obtain⟨C,hC⟩:=nmE (codeAt N a i);have HC:=Hd hC;rw[hC] at hcl⊢;have hC32:C<32:=by omega
   have wi:=wqz (x:=(i:Int)+1);have hC2:(C:Int)*2=((2*C:Nat):Int):=by omega
   have wc:=wqz (x:=((2*C:Nat):Int));have e10:(i:Int)<5:=by omega
   clear hC hcl h32;go_wp2_with fail;by_cases h1:a+i+1<=8*s.size
   ·have hg:Inf.get s.data.toList 1 (a+i)=.ok (N/2^(a+i)%2,a+i+1):=by
     unfold Inf.get;rw[qad (by rw[zag];exact h1),HN.out]
    obtain⟨y,hy⟩:=nmE (N/2^(a+i)%2);have hy2:y<2:=by omega
    rw[hy] at hg;have HY:=Hd hy;clear hy;refine (zaS R B (a+i) 1 y (a+i+1) most s v v out w0 w _ E HE.out H.out (by omega) hg).mono ?_;rintro e w1 ⟨rfl,hG,hS⟩;have H1:=Hd hG;have hor:=zmr C y (by omega) hy2;have hcod:codeAt N a (i+1)=2*C+y:=by simp only[codeAt,HC.out,HY.out]
    have HCOD:=Hd hcod;clear hG hS hg hcod H c0;have hor2:bits BinOp.or IntKind.i64 ((C:Int)*2) (y:Int)=((2*C+y:Nat):Int):=by rw[hC2];exact hor
    have hor3:bits BinOp.or IntKind.i64 (2*(C:Int)) (y:Int)=((2*C+y:Nat):Int):=by rw[show 2*(C:Int)=((2*C:Nat):Int) by omega];exact hor
    go_wp2_with fail;go_roundw
    case rel=>exact⟨i+1,by omega,by go_num,by rw[HCOD.out];exact zbg (by omega),by rw[<- qa6];exact H1,by omega⟩
    case measure=>simp[intOf];omega
   have hg:Inf.get s.data.toList 1 (a+i)=.error 0:=by
    unfold Inf.get;rw[qac (by rw[zag];exact h1)]
   have hrr:r=.error 0:=by rw[<- HR.out];exact Inf.zi8 (by rw[zag];omega)
   refine (za6 R B (a+i) 1 0 most s v v out w0 w _ E HE.out H.out (by omega) hg).mono ?_;rintro e w9 ⟨rfl,h9⟩;exact⟨rfl,zeG hrr h9⟩
  obtain rfl:i=5:=by omega
  have hrr:r=.ok (codeAt N a 5,a+5):=by rw[<- HR.out,<- HN.out];exact Inf.zoc (by rw[zag];omega)
  have HRR:=Hd hrr;obtain⟨C,hC⟩:=nmE (codeAt N a 5);rw[hC] at HRR⊢;clear hrr hC hcl h32;go_wp2_with fail;go_ret;exact zhC HRR.out rfl H.out
theorem Dist.five (b R B most:Nat) (s:ByteArray) (w0:World) (E:Nat->Addr) (hE:Errs w0 E):Dist 161 #[.pointer (some ⟨b,0,none⟩)] w0 R B s most E Inf.fiveF 32 (BoxB b (.pointer (some ⟨R,0,none⟩)) R B):=by
 refine⟨λ args w=>zgV Tryz.func161 (by kernel_rfl) rfl args w,λ w w' v v' h k=>h.step k,?_,?_⟩
 ·intro w wr a v0 v out k a' hG hd hn;refine (ziv b R B a most s v out w0 wr E hE hG.st hd).mono λ e w' h=>?_;have h:=h.yes hn;exact⟨h.1,hG.trans h.2,h.2.step⟩
 intro w wr a v0 v out c hG hd hn;refine (ziv b R B a most s v out w0 wr E hE hG.st hd).mono λ e w' h=>?_;exact h.no hn
theorem zjS (b d T R B a most gen:Nat) (g:Nat->Int) (s:ByteArray) (v:Value) (out:List UInt8) (w0 w:World) (E:Nat->Addr) (hE:Errs w0 E) (hI:ISt w0 w R B s a v out most) (hD:BoxB b (.pointer (some ⟨R,0,none⟩)) R B w v) (hD2:BoxB d (.pointer (some ⟨T,0,none⟩)) R B w v) (hT:Tr w T g gen R B v):
  Calls Tryz.prog 163 #[.pointer (some ⟨b,0,none⟩),.pointer (some ⟨d,0,none⟩)] w λ e w'=>NPost w0 w R B s v out most E (Inf.nxt s.data.toList g gen a) e w':=by
 have HE:=Hd hE;have H0:=Hd (IGo.start hI);have HT:=Hd hT;have c0:=hD.1.cell 0;have c1:=hD2.1.cell 0;clear hE hI hD hD2 hT;go_enter Tryz.func163,Tryz.ntmps163
 go_wp2_with fail;cases hn:Inf.nxt s.data.toList g gen a with
 | error c=>
  refine (ze7 R B T a c most gen g s v v out w0 w _ E HE.out H0.out HT.out hn).mono ?_;rintro e w9 ⟨rfl,h9⟩;exact⟨rfl,zeG hn h9⟩
 | ok q=>
  obtain⟨k,a1⟩:=q;refine (zd8 R B T a k a1 most gen g s v v out w0 w _ E HE.out H0.out HT.out hn).mono ?_;rintro e w1 ⟨rfl,hG,hS⟩;have HG:=Hd hG;have HN:=Hd hn;clear hG hS hn;go_wp2_with fail;go_ret;exact zhC HN.out rfl HG.out
theorem Dist.far (b d T R B most gen:Nat) (g:Nat->Int) (s:ByteArray) (w0:World) (E:Nat->Addr) (hE:Errs w0 E):
  Dist 163 #[.pointer (some ⟨b,0,none⟩),.pointer (some ⟨d,0,none⟩)] w0 R B s most E g gen (λ w v=>BoxB b (.pointer (some ⟨R,0,none⟩)) R B w v/\BoxB d (.pointer (some ⟨T,0,none⟩)) R B w v/\Tr w T g gen R B v):=by
 refine⟨λ args w=>zgV Tryz.func163 (by kernel_rfl) rfl args w,λ w w' v v' h k=>⟨h.1.step k,h.2.1.step k,h.2.2.step k⟩,?_,?_⟩
 ·intro w wr a v0 v out k a' hG hd hn;refine (zjS b d T R B a most gen g s v out w0 wr E hE hG.st hd.1 hd.2.1 hd.2.2).mono λ e w' h=>?_;have h:=h.yes hn;exact⟨h.1,hG.trans h.2,h.2.step⟩
 intro w wr a v0 v out c hG hd hn;refine (zjS b d T R B a most gen g s v out w0 wr E hE hG.st hd.1 hd.2.1 hd.2.2).mono λ e w' h=>?_;exact h.no hn
end Go.Proofs.YthlibiocadimhaaGreatDoor
namespace Go.Proofs.YthlibiocadimhaaGreatDoor
open Go.RowKit
namespace Dfl
theorem zn6 {t:Tk} (h:t.l=0\/(3<=t.l/\t.l<=258/\1<=t.d/\t.d<=32768)):Uses Inf.fixF 288 Inf.fiveF 32 t:=by
  have hf:∀k,1<=Inf.fixF k/\Inf.fixF k<=15:=by
    intro k;unfold Inf.fixF;split
    · omega
    split
    · omega
    split <;> omega
  refine⟨λ h0=>⟨by have:=t.b.toNat_lt;omega,hf _⟩,λ h0=>?_⟩;rcases h with h | ⟨h1,h2,h3,h4⟩
  · exact absurd h h0
  have a1:=zq8 h1 h2;have a2:=zrg h3 h4;exact⟨⟨by omega,hf _⟩,by omega,by unfold Inf.fiveF;omega,by unfold Inf.fiveF;omega⟩
def zcw (ts:List Tk):List Bool:=Bts.low 3 3++(toksB Inf.fixF 288 Inf.fiveF 32 ts++wordB Inf.fixF 288 256)
theorem zkg {ts:List Tk} {o':List UInt8} (hM:Means [] ts o') {L:List UInt8} {most:Nat} (hA:At L 0 (zcw ts)) (hm:o'.length<=most):∃bl,Inf.inf L most=.ok (o',((zcw ts).length+7)/8,bl):=by
  have hu:∀t∈ts,Uses Inf.fixF 288 Inf.fiveF 32 t:=λ t ht=>zn6 (hM.ok t ht);have hlen:=zgR hu;have e3:Bts.low 3 3=Bts.low 1 1++Bts.low 1 2:=by decide
  have hA0:=hA;unfold zcw at hA;rw[e3,qat] at hA;have g1:=hA.left.get (by decide);have A1:=hA.right;have g2:=A1.left.get (by decide);have A2:=A1.right;rw[Bts.zat] at A1 g2 A2;rw[Bts.zat] at A2;have hF:ts.length<8*L.length+1:=by
    have:=A2.1;rw[qaa] at this;omega
  have ht:=zlv Inf.zbr.2 Inf.zcs.2 ⟨by decide,by decide,by decide⟩ hM (8*L.length+1) (0+1+2) [] hm hu hF A2;have hb:=Inf.zgK (out:=[]) g1 g2 ht;have hbs:Inf.zaE L most (8*L.length+1) 0 [] []=.ok (0+1+2+(toksB Inf.fixF 288 Inf.fiveF 32 ts++wordB Inf.fixF 288 256).length,o',[] ++ [⟨1,[],[],[]++(ts.map ev ++ [⟨256,0,0,0⟩])⟩]):=by
    simp only[Inf.zaE,hb,if_true]
  refine⟨[] ++ [⟨1,[],[],[]++(ts.map ev ++ [⟨256,0,0,0⟩])⟩],?_⟩;unfold Inf.inf;rw[hbs];have el:(zcw ts).length=0+1+2+(toksB Inf.fixF 288 Inf.fiveF 32 ts++wordB Inf.fixF 288 256).length:=by
    unfold zcw;rw[qaa,Bts.zat]
  rw[el]
end Dfl
set_option maxHeartbeats 1000000 in
theorem zeF (B o n V:Nat) (v:Value) (s:ByteArray) (w:World) (hW:WAt w B o v V n) (h8:n%8=0) (hn:n+8*s.size<1099511627776):
  Calls Tryz.prog 122 #[.pointer (some ⟨B,o,none⟩),.string s] w λ e w'=>e=.returned (.tuple #[])/\∃v',WAt w' B o v' (V+Crc.num s.data.toList*2^n) (n+8*s.size)/\WStep w w' B o v v':=by
 obtain⟨i0,hi0,hz0,hz1,hz2⟩:=qbb u8inf;have HA:=Hd (zdc B o n V v w hW (by omega));rw[show (n+7)/8*8=n by omega] at HA;clear hW;go_enter Tryz.func122,Tryz.ntmps122
 go_wp2_with fail;refine HA.out.mono ?_;rintro e w2 ⟨rfl,hW2,hS2⟩;obtain⟨c0,c1,f0,f1,⟨l,hl,hV,hown⟩,hap,hlt⟩:=hW2;obtain⟨N,hN⟩:=nmE (l.length);have hlN:=hN;rw[hN] at hown hl;obtain⟨x,c,rfl⟩:=zam hown;have HO:=Hd hown;have HN:=Hd hN;have HV:=Hd hV;have HS2:=Hd hS2;have HP:=Hd (qaB hap hlt);have hB:B<w2.heap.size:=qab w2 _ c0;have HB:=Hd hB;have H8:=Hd h8;have HL:=Hd hl;have hNb:N<=140737488355328:=by omega
 have hSb:N+s.size<=140737488355328:=by omega
 have F0:=Hd f0;have F1:=Hd f1;have C1:=Hd c1;clear hown hN hlN hV hS2 hap hlt hl h8 HA;go_wp2_with (at_builtin;refine zcz rfl _ _ 62 9 rfl 0 5 i0 Tryz.underlying62 Tryz.underlying9 hi0 hz0 hz1 hz2 _ _ _ rfl HO.out s rfl ?c3 ?c4 (qbi _) ?_)
 case c3=>unfold maxLen;omega
 case c4=>omega
 intro v8 w8 hown hgrow hat;obtain⟨x8,c8,rfl⟩:=zam hown;have K:Keeps (λ k=>(Value.slice x N c).ownBlock=some k) w2 w8:=Keeps.grown hgrow;have nB:¬ (Value.slice x N c).ownBlock=some B:=HP.out.1;have k0:w8.cell? ⟨B,o,none⟩=some (.slice x N c):=(K.cell (p:=⟨B,o,none⟩) HB.out nB).trans c0;have k1:w8.cell? ⟨B,o+1,none⟩=some (.int .i64 (n:Int)):=(K.cell (p:=⟨B,o+1,none⟩) HB.out nB).trans c1;have g0:w8.frozen? ⟨B,o,none⟩=false:=(K.frozen (p:=⟨B,o,none⟩) HB.out nB).trans f0;have g1:w8.frozen? ⟨B,o+1,none⟩=false:=(K.frozen (p:=⟨B,o+1,none⟩) HB.out nB).trans f1;have nB8:(Value.slice x8 (N+s.size) c8).ownBlock≠some B:=by
  rcases hat with q | q
  ·rw[q];exact nB
  rw[q];intro e;injection e with e;have:=HB.out;omega
 have hnew:∀k,(Value.slice x8 (N+s.size) c8).ownBlock=some k->(Value.slice x N c).ownBlock=some k\/w2.heap.size<=k:=by
  intro k hk;rcases hat with q | q
  ·rw[q] at hk;exact .inl hk
  rw[q] at hk;injection hk with hk;exact .inr (by omega)
 have a3:(⟨B,o+1,none⟩:Addr)≠⟨B,o,none⟩:=by intro e;injection e with _ e2;omega
 have e8:(8:Int)*((N+s.size:Nat):Int)=((n+8*s.size:Nat):Int):=by have:=HL.out;have:=H8.out;omega
 have HF:Hid (WAt ((w8.setCell ⟨B,o,none⟩ (.slice x8 (N+s.size) c8)).setCell ⟨B,o+1,none⟩ (.int .i64 ((8:Int)*((N+s.size:Nat):Int)))) B o (.slice x8 (N+s.size) c8) (V+Crc.num s.data.toList*2^n) (n+8*s.size)/\WStep w2 ((w8.setCell ⟨B,o,none⟩ (.slice x8 (N+s.size) c8)).setCell ⟨B,o+1,none⟩ (.int .i64 ((8:Int)*((N+s.size:Nat):Int)))) B o (.slice x N c) (.slice x8 (N+s.size) c8)):=Hd (by
  rw[e8];have hl8:(l++s.data.toList).length=N+s.size:=by rw[qaa,HN.out];rfl
  have e1:2^n=2^(8*l.length):=by rw[HN.out,HL.out];congr 1;have:=H8.out;omega
  have hnum:Crc.num (l++s.data.toList)=V+Crc.num s.data.toList*2^n:=by rw[zhp,HV.out,e1]
  refine⟨⟨?_,?_,?_,?_,⟨l++s.data.toList,by rw[hl8];have:=HL.out;have:=H8.out;omega,hnum,?_⟩,nB8,?_⟩,⟨?_,?_,?_,hnew⟩⟩
  ·exact (qah _ _ _ _ a3).trans (qa0 _ _ _ k0)
  ·exact qa0 _ _ _ ((qah _ _ _ _ (λ e=>a3 e.symm)).trans k1)
  ·rw[qap,qap];exact g0
  ·rw[qap,qap];exact g1
  ·rw[hl8,show zad (l++s.data.toList)=zad l++Lib.strCells s by rw[zdo];simp[zad]];exact qaI (qaI hown nB8 _) nB8 _
  ·rw[<- hnum];have h:=Crc.zqO (l++s.data.toList);rw[hl8] at h;rw[show n+8*s.size=8*(N+s.size) by have:=HL.out;have:=H8.out;omega];exact h
  ·exact ((K.mono (λ _ _ q=>.inr q)).setCell (p:=⟨B,o,none⟩) (.inl (.inl rfl)) _).setCell (p:=⟨B,o+1,none⟩) (.inl (.inl rfl)) _
  ·intro j h1 h2;have b0:(⟨B,o,none⟩:Addr)≠⟨B,j,none⟩:=by intro e;injection e with _ e2;exact h1 e2.symm
   have b1:(⟨B,o+1,none⟩:Addr)≠⟨B,j,none⟩:=by intro e;injection e with _ e2;exact h2 e2.symm
   exact ((qah _ _ _ _ b1).trans (qah _ _ _ _ b0)).trans (K.cell (p:=⟨B,j,none⟩) HB.out nB)
  intro j;rw[qap,qap];exact K.frozen (p:=⟨B,j,none⟩) HB.out nB)
 clear hown hgrow hat K nB nB8 hnew e8 c0 c1 f0 f1;go_wp2_with fail;go_end0;exact⟨rfl,_,HF.out.1,HS2.out.trans HF.out.2⟩
theorem xor16 (n:Nat) (h:n<65536):bits BinOp.xor IntKind.u32 (n:Int) 65535=((65535-n:Nat):Int):=by
 rw[show (65535:Int)=((65535:Nat):Int) from rfl,u32_xor_nat n 65535 (by omega) (by decide),zeY n h]
theorem zjX (done p:List UInt8) (last:Nat) (hl:last<2) (hp:p.length<=65535):Crc.num done+last*2^(8*done.length)+p.length*2^(8*(done.length+1))+(65535-p.length)*2^(8*(done.length+1)+16)+Crc.num p*2^(8*(done.length+1)+16+16)=Crc.num (done++Sto.blk last p):=by
 rw[zhp];have hM:Crc.num (Sto.blk last p)=last+256*(p.length%256+256*(p.length/256+256*((255-p.length%256)+256*((255-p.length/256)+256*Crc.num p)))):=by
  unfold Sto.blk;simp only[qa2,qbx,Crc.num];rw[Sto.ofNat_toNat _ (by omega),Sto.ofNat_toNat _ (by omega),Sto.ofNat_toNat _ (by omega),Sto.ofNat_toNat _ (by omega),Sto.ofNat_toNat _ (by omega)]
 rw[hM];obtain⟨X,hX⟩:=nmE (2^(8*done.length));have e1:2^(8*(done.length+1))=X*256:=by rw[<- hX,Nat.mul_add,qbY]
 have e2:2^(8*(done.length+1)+16)=X*16777216:=by rw[qbY,e1,qbr]
 have e3:2^(8*(done.length+1)+16+16)=X*1099511627776:=by rw[qbY,e2,qbr]
 rw[hX,e1,e2,e3];obtain⟨n,hn⟩:=nmE (p.length);rw[hn] at hp⊢;generalize Crc.num p=z;generalize Crc.num done=q;have e4:last+256*(n%256+256*(n/256+256*((255-n%256)+256*((255-n/256)+256*z))))=last+n*256+(65535-n)*16777216+z*1099511627776:=by omega
 rw[e4];simp only[qbZ,qaJ X,qbr,qa6]
structure StoGo (w0 wr:World) (B:Nat) (v:Value) (done:List UInt8):Prop where
 at_:WAt wr B 0 v (Crc.num done) (8*done.length)
 ext:Ext w0 wr
 nb:w0.heap.size<=B
 nv:∀k,v.ownBlock=some k->w0.heap.size<=k
theorem StoGo.step {w0 wr w':World} {B:Nat} {v v':Value} (he:Ext w0 wr) (hb:w0.heap.size<=B) (hv:∀k,v.ownBlock=some k->w0.heap.size<=k) (hs:WStep wr w' B 0 v v'):Ext w0 w'/\∀k,v'.ownBlock=some k->w0.heap.size<=k:=by
 refine⟨Below.trans he (hs.keeps.below he.size (λ k hk q=>?_)),λ k q=>?_⟩
 ·rcases q with q | q
  ·omega
  have:=hv k q;omega
 rcases hs.new k q with r | r
 ·exact hv k r
 have:=he.size;omega
set_option maxHeartbeats 4000000 in
theorem zhO (t:ByteArray) (w:World) (ht:t.size<=300000):
  Calls Tryz.prog 87 #[.string t] w λ e w'=>e=.returned (.string (tb (Sto.all (t.size+1) t.data.toList)))/\Ext w w':=by
 obtain⟨A,hA⟩:=nmE (Sto.all (t.size+1) t.data.toList);rw[hA];have hAl:A.length<=300100:=by rw[<- hA];have:=Sto.zcH (t.size+1) t.data.toList;rw[zag] at this;omega
 have HA:=Hd hA;clear hA;go_enter Tryz.func87,Tryz.ntmps87
 go_upto_block 0 with fail;obtain⟨B,hB⟩:=nmE (w.heap.size);refine zac (λ wz=>Hid (StoGo w wz B (.slice none 0 0) [])) (Hd ⟨⟨?_,?_,?_,?_,⟨[],rfl,rfl,qaK _ _ _ _⟩,(by intro e;cases e),by simp[Crc.num]⟩,(Ext.refl w).alloc _,by omega,λ k q=>by cases q⟩) ?_
 ·subst hB;exact qaV _ _ _ _ rfl
 ·subst hB;exact qaV _ _ _ _ rfl
 ·subst hB;exact qbE _ _ _ _ rfl
 ·subst hB;exact qbE _ _ _ _ rfl
 rw[hB];have HBB:=Hd hB;clear hB;rintro w1 HS;go_wp2_with fail;go_loopw [0] (λ y wr=>∃(R:ByteArray) (done:List UInt8) (k:Nat) (v:Value),y=.string R/\R.size<=t.size/\Hid (done++Sto.all k R.data.toList=A)/\Hid (R.size<k)/\Hid (StoGo w wr B v done)) (λ y _=>match y with | .string R=>R.size | _=>0)
 case atStart=>exact⟨t,[],t.size+1,_,rfl,qaj _,Hd (by rw[qbx];exact HA.out),Hd (Nat.lt_succ_self _),HS⟩
 case round=>
  clear HS HA;obtain⟨R,done,k,v,rfl,hRt,HD,HK,HS⟩:=hrel;obtain⟨d,hd⟩:=nmE (done.length);have hdb:d<=300100:=by have:=congrArg List.length HD.out;rw[qaa] at this;omega
  have HDl:=Hd hd;have HAt:=Hd HS.out.at_;rw[hd] at HAt;have HE:=Hd HS.out.ext;have HNB:=Hd HS.out.nb;have HNV:=Hd HS.out.nv;obtain⟨V,hV⟩:=nmE (Crc.num done);rw[hV] at HAt;have HV:=Hd hV;obtain⟨k,rfl⟩:∃j,k=j+1:=⟨k-1,by have:=HK.out;omega⟩;clear HS hd hV;by_cases h6:R.size<=65535
  ·obtain⟨n,hn⟩:=nmE (R.size);have HNn:=Hd hn;have t1:((n:Int) ==(R.size:Int))=true:=qbl.2 (by omega);have HDA:Hid (done++Sto.blk 1 R.data.toList=A):=Hd (by rw[<- HD.out,Sto.zhh (by rw[zag];exact h6)]);have hnR:n<=R.size:=by omega
   have hnRI:(n:Int)<=(R.size:Int):=by omega
   have hn0:(0:Int)<=(n:Int):=by omega
   have hnt:((n:Nat):Int).toNat=n:=by omega
   have hmn:(if (R.size:Int)<65535 then (R.size:Int) else 65535)=(n:Int):=by split <;> omega
   have hn6:n<65536:=by omega
   have wn:∀z,z=(n:Int)->IntKind.u32.wrap z=z:=by rintro _ rfl;unfold IntKind.wrap;simp[IntKind.bits,IntKind.signed];omega
   have hkm:(n:Int)%4294967296=(n:Int):=by omega
   have hxo:=xor16 n hn6;obtain⟨y,hy⟩:=nmE (65535-n);rw[hy] at hxo;have HY:=Hd hy;have hy6:y<65536:=by omega
   clear hy;(try clear hn);go_wp2_with fail;refine (zcM B 0 (8*d) V 1 3 _ _ HAt.out (by decide) (by decide) (by omega)).mono ?_;rintro e w2 ⟨rfl,v2,h2,s2⟩;have HAt2:=Hd h2;obtain⟨q1,q2⟩:=StoGo.step HE.out HNB.out HNV.out s2;have HE2:=Hd q1;have HNV2:=Hd q2;clear h2 s2 q1 q2 HAt HE HNV;go_wp2_with fail;refine (zdc B 0 _ _ _ _ HAt2.out (by omega)).mono ?_;rintro e w3 ⟨rfl,h3,s3⟩;rw[show (8*d+3+7)/8*8=8*(d+1) by omega] at h3;have HAt3:=Hd h3;obtain⟨q1,q2⟩:=StoGo.step HE2.out HNB.out HNV2.out s3;have HE3:=Hd q1;have HNV3:=Hd q2;clear h3 s3 q1 q2 HAt2 HE2 HNV2;go_wp2_with fail;refine (zcM B 0 _ _ n 16 _ _ HAt3.out (by decide) (by omega) (by omega)).mono ?_;rintro e w4 ⟨rfl,v4,h4,s4⟩;have HAt4:=Hd h4;obtain⟨q1,q2⟩:=StoGo.step HE3.out HNB.out HNV3.out s4;have HE4:=Hd q1;have HNV4:=Hd q2;clear h4 s4 q1 q2 HAt3 HE3 HNV3;go_wp2_with fail;refine (zcM B 0 _ _ y 16 _ _ HAt4.out (by decide) (by omega) (by omega)).mono ?_;rintro e w5 ⟨rfl,v5,h5,s5⟩;have HAt5:=Hd h5;obtain⟨q1,q2⟩:=StoGo.step HE4.out HNB.out HNV4.out s5;have HE5:=Hd q1;have HNV5:=Hd q2;clear h5 s5 q1 q2 HAt4 HE4 HNV4 wn hkm hxo;obtain⟨P,hP⟩:=nmE (R.extract 0 n);have hPs:P.size=n:=by rw[<- hP];simp;omega
   have hPl:P.data.toList=R.data.toList.take n:=by rw[<- hP,zbY];simp
   have HPl:=Hd hPl;have HPs:=Hd hPs;have hb5:8*(d+1)+16+16+8*P.size<1099511627776:=by omega
   clear hPl hPs;go_wp2_with fail;(try rw[hP]);refine (zeF B 0 _ _ _ P _ HAt5.out (by omega) hb5).mono ?_;rintro e w6 ⟨rfl,v6,h6x,s6⟩;clear hP;have HF:Hid (StoGo w w6 B v6 (done++Sto.blk 1 P.data.toList)):=Hd (by
    obtain⟨q1,q2⟩:=StoGo.step HE5.out HNB.out HNV5.out s6;refine⟨?_,q1,HNB.out,q2⟩;have hpl:P.data.toList.length=n:=by rw[zag];exact HPs.out
    have e1:=zjX done P.data.toList 1 (by decide) (by omega);rw[HDl.out,HV.out,hpl,HY.out] at e1;rw[<- e1,qaa,HDl.out,Sto.zcA,hpl,show 8*(d+(5+n))=8*(d+1)+16+16+8*n by omega];rw[HPs.out] at h6x;exact h6x)
   clear h6x s6 HAt5 HE5 HNV5;have HPR:Hid (P.data.toList=R.data.toList):=Hd (by rw[HPl.out,qan (by rw[zag,HNn.out];exact qaj _)]);have hE:R.extract n R.size=⟨#[]⟩:=by rw[HNn.out];apply zgk;rw[zbY];simp
   go_wp2_with fail;refine (zdP B 0 _ _ _ _ HF.out.at_).mono ?_;rintro e w7 ⟨⟨l,hl,hV,rfl⟩,h7⟩;subst h7;have hlA:l=A:=by
    have e1:l=done++Sto.blk 1 P.data.toList:=Crc.zjD _ _ (by rw[hl];omega) hV;rw[e1,HPR.out,HDA.out]
   subst hlA;go_wp2_with fail;go_ret;refine⟨?_,HF.out.ext⟩;rw[zfV];rfl
  have t1:((65535:Int) ==(R.size:Int))=false:=qak.2 (by omega);obtain⟨n,hn⟩:∃n,n=65535:=⟨_,rfl⟩;have HN:=Hd hn;have hnI:(65535:Int)=(n:Int):=by omega
  rw[hnI] at t1;have HDA:Hid (done++(Sto.blk 0 (R.data.toList.take n)++Sto.all k (R.data.toList.drop n))=A):=Hd (by rw[<- HD.out,Sto.zhn (by rw[zag];exact h6),hn]);clear hnI;have hnR:n<=R.size:=by omega
  have hnRI:(n:Int)<=(R.size:Int):=by omega
  have hn0:(0:Int)<=(n:Int):=by omega
  have hnt:((n:Nat):Int).toNat=n:=by omega
  have hmn:(if (R.size:Int)<65535 then (R.size:Int) else 65535)=(n:Int):=by split <;> omega
  have hn6:n<65536:=by omega
  have wn:∀z,z=(n:Int)->IntKind.u32.wrap z=z:=by rintro _ rfl;unfold IntKind.wrap;simp[IntKind.bits,IntKind.signed];omega
  have hkm:(n:Int)%4294967296=(n:Int):=by omega
  have hxo:=xor16 n hn6;obtain⟨y,hy⟩:=nmE (65535-n);rw[hy] at hxo;have HY:=Hd hy;have hy6:y<65536:=by omega
  clear hy;(try clear hn);go_wp2_with fail;refine (zcM B 0 (8*d) V 0 3 _ _ HAt.out (by decide) (by decide) (by omega)).mono ?_;rintro e w2 ⟨rfl,v2,h2,s2⟩;have HAt2:=Hd h2;obtain⟨q1,q2⟩:=StoGo.step HE.out HNB.out HNV.out s2;have HE2:=Hd q1;have HNV2:=Hd q2;clear h2 s2 q1 q2 HAt HE HNV;go_wp2_with fail;refine (zdc B 0 _ _ _ _ HAt2.out (by omega)).mono ?_;rintro e w3 ⟨rfl,h3,s3⟩;rw[show (8*d+3+7)/8*8=8*(d+1) by omega] at h3;have HAt3:=Hd h3;obtain⟨q1,q2⟩:=StoGo.step HE2.out HNB.out HNV2.out s3;have HE3:=Hd q1;have HNV3:=Hd q2;clear h3 s3 q1 q2 HAt2 HE2 HNV2;go_wp2_with fail;refine (zcM B 0 _ _ n 16 _ _ HAt3.out (by decide) (by omega) (by omega)).mono ?_;rintro e w4 ⟨rfl,v4,h4,s4⟩;have HAt4:=Hd h4;obtain⟨q1,q2⟩:=StoGo.step HE3.out HNB.out HNV3.out s4;have HE4:=Hd q1;have HNV4:=Hd q2;clear h4 s4 q1 q2 HAt3 HE3 HNV3;go_wp2_with fail;refine (zcM B 0 _ _ y 16 _ _ HAt4.out (by decide) (by omega) (by omega)).mono ?_;rintro e w5 ⟨rfl,v5,h5,s5⟩;have HAt5:=Hd h5;obtain⟨q1,q2⟩:=StoGo.step HE4.out HNB.out HNV4.out s5;have HE5:=Hd q1;have HNV5:=Hd q2;clear h5 s5 q1 q2 HAt4 HE4 HNV4 wn hkm hxo;obtain⟨P,hP⟩:=nmE (R.extract 0 n);have hPs:P.size=n:=by rw[<- hP];simp;omega
  have hPl:P.data.toList=R.data.toList.take n:=by rw[<- hP,zbY];simp
  have HPl:=Hd hPl;have HPs:=Hd hPs;have hb5:8*(d+1)+16+16+8*P.size<1099511627776:=by omega
  clear hPl hPs;go_wp2_with fail;(try rw[hP]);refine (zeF B 0 _ _ _ P _ HAt5.out (by omega) hb5).mono ?_;rintro e w6 ⟨rfl,v6,h6x,s6⟩;clear hP;have HF:Hid (StoGo w w6 B v6 (done++Sto.blk 0 P.data.toList)):=Hd (by
   obtain⟨q1,q2⟩:=StoGo.step HE5.out HNB.out HNV5.out s6;refine⟨?_,q1,HNB.out,q2⟩;have hpl:P.data.toList.length=n:=by rw[zag];exact HPs.out
   have e1:=zjX done P.data.toList 0 (by decide) (by omega);rw[HDl.out,HV.out,hpl,HY.out] at e1;rw[<- e1,qaa,HDl.out,Sto.zcA,hpl,show 8*(d+(5+n))=8*(d+1)+16+16+8*n by omega];rw[HPs.out] at h6x;exact h6x)
  clear h6x s6 HAt5 HE5 HNV5;obtain⟨S,hS⟩:=nmE (R.extract n R.size);have hSs:S.size=R.size-n:=by rw[<- hS];simp
  have hSl:S.data.toList=R.data.toList.drop n:=by rw[<- hS,zbY,qan (by rw[qbh,zag];omega)]
  have hne:S.toList.isEmpty=false:=zqu S (by omega);have HSl:=Hd hSl;have HSs:=Hd hSs;clear hSl hSs;go_wp2_with fail;go_roundw
  case rel=>exact⟨S,done++Sto.blk 0 P.data.toList,k,_,rfl,by have:=HSs.out;omega,Hd (by rw[qat,HPl.out,HSl.out];exact HDA.out),Hd (by have:=HSs.out;have:=HK.out;have:=HN.out;omega),HF⟩
  case measure=>show S.size<R.size;have:=HSs.out;have:=HN.out;omega
def qc (T:ByteArray) (a e:Nat) (x:Nat->Value):Array Value:=#[.string T,.int .i64 (a:Int),x 2,x 3,.int .i64 (e:Int),x 5,x 6,x 7,x 8,x 9,x 10,x 11]
theorem zeS {T:ByteArray} {a e:Nat} {x y:Nat->Value} (h:∀i,i<12->x i=y i):qc T a e x=qc T a e y:=by
 unfold qc;rw[h 2 (by decide),h 3 (by decide),h 5 (by decide),h 6 (by decide),h 7 (by decide),h 8 (by decide),h 9 (by decide),h 10 (by decide),h 11 (by decide)]
def xset (x:Nat->Value) (i:Nat) (v:Value):Nat->Value:=λ j=>if j=i then v else x j
theorem zaI (Q a e:Nat) (T:ByteArray) (x:Nat->Value) (w:World) (hB:Bk w Q (qc T a e x)):
  Calls Tryz.prog 73 #[.pointer (some ⟨Q,0,none⟩)] w λ r w'=>r=.returned (.bool (decide (e=0)))/\w'=w:=by
 have c4:=hB.cell 4;simp only[qc] at c4;clear hB;go_enter Tryz.func73,Tryz.ntmps73
 go_wp2_with fail;go_ret;exact⟨zaG (by rw[qbX];simp),rfl⟩
theorem rokF {Q a e:Nat} {T:ByteArray} {x:Nat->Value} {w:World} {R:Ending->World->Prop} (hB:Bk w Q (qc T a e x)) (h:R (.returned (.bool false)) w) (he:¬ e=0:=by omega):Calls Tryz.prog 73 #[.pointer (some ⟨Q,0,none⟩)] w R:=by
 refine (zaI Q a e T x w hB).mono ?_;rintro r w' ⟨rfl,rfl⟩;rw[qaf he];exact h
theorem rokT {Q a:Nat} {T:ByteArray} {x:Nat->Value} {w:World} {R:Ending->World->Prop} (hB:Bk w Q (qc T a 0 x)) (h:R (.returned (.bool true)) w):Calls Tryz.prog 73 #[.pointer (some ⟨Q,0,none⟩)] w R:=by
 refine (zaI Q a 0 T x w hB).mono ?_;rintro r w' ⟨rfl,rfl⟩;exact h
theorem Bk.put1 {w:World} {Q a e:Nat} {T:ByteArray} {x:Nat->Value} (h:Bk w Q (qc T a e x)) (a':Nat):Bk (w.setCell ⟨Q,1,none⟩ (.int .i64 (a':Int))) Q (qc T a' e x):=by
 have:=h.set_ 1 (.int .i64 (a':Int));simpa [qc] using this
theorem Bk.put4 {w:World} {Q a e:Nat} {T:ByteArray} {x:Nat->Value} (h:Bk w Q (qc T a e x)) (e':Nat):Bk (w.setCell ⟨Q,4,none⟩ (.int .i64 (e':Int))) Q (qc T a e' x):=by
 have:=h.set_ 4 (.int .i64 (e':Int));simpa [qc] using this
theorem Bk.putx {w:World} {Q a e:Nat} {T:ByteArray} {x:Nat->Value} (h:Bk w Q (qc T a e x)) (i:Nat) (hi:i=2\/i=5\/i=6\/i=7\/i=8\/i=9\/i=10\/i=11) (v:Value):Bk (w.setCell ⟨Q,i,none⟩ v) Q (qc T a e (xset x i v)):=by
 have:=h.set_ i v;rcases hi with rfl | rfl | rfl | rfl | rfl | rfl | rfl | rfl <;> simpa [qc,xset] using this
theorem keepQ {w:World} {Q i:Nat} {v:Value}:Keeps (λ k=>k=Q) w (w.setCell ⟨Q,i,none⟩ v):=(Keeps.refl (λ k=>k=Q) w).setCell (p:=⟨Q,i,none⟩) (.inl rfl) v
def fl (e c:Nat):Nat:=if e=0 then c else e
theorem zap (Q a e c:Nat) (T:ByteArray) (x:Nat->Value) (w:World) (hB:Bk w Q (qc T a e x)):
  Calls Tryz.prog 80 #[.pointer (some ⟨Q,0,none⟩),.int .i64 (c:Int)] w λ r w'=>r=.returned (.tuple #[])/\Bk w' Q (qc T a (fl e c) x)/\Keeps (λ k=>k=Q) w w':=by
 have c4:=hB.cell 4;have f4:=hB.frozen 4;simp only[qc] at c4;by_cases he:e=0
 ·subst he;have H:=Hd (hB.put4 c);clear hB;go_enter Tryz.func80,Tryz.ntmps80
  go_wp2_with fail;go_end0;exact⟨rfl,H.out,keepQ⟩
 have hf:fl e c=e:=qac he;have t1:((e:Int) ==0)=false:=qak.2 (by omega);rw[hf];have H:=Hd hB;clear hB;go_enter Tryz.func80,Tryz.ntmps80
 go_wp2_with fail;go_end0;exact⟨rfl,H.out,Keeps.refl _ _⟩
theorem zgz (Q a e:Nat) (T:ByteArray) (x:Nat->Value) (w:World) (hB:Bk w Q (qc T a e x)) (ha:a<=100000000):
  Calls Tryz.prog 81 #[.pointer (some ⟨Q,0,none⟩)] w λ r w'=>r=.returned (.tuple #[])/\Bk w' Q (qc T ((a+7)/8*8) e x)/\Keeps (λ k=>k=Q) w w':=by
 have c1:=hB.cell 1;have f1:=hB.frozen 1;simp only[qc] at c1;have e8:((a:Int)+7)/8*8=(((a+7)/8*8:Nat):Int):=by omega
 have H:=Hd (hB.put1 ((a+7)/8*8));rw[<- e8] at H;have H8:=Hd e8;clear hB e8;go_enter Tryz.func81,Tryz.ntmps81
 go_wp2_with fail;go_end0;exact⟨rfl,H.out,keepQ⟩
theorem zfa (L:List UInt8) (a k:Nat) (_h:a+k<=8*L.length):Bts.val (((Bts.allB L).drop a).take k)=Crc.num L/2^a%2^k:=by
 rw[Bts.znF,Bts.znM,zop]
theorem zfF (M:List Bool) (a b:Nat) (_h:a<=b):(bs M).extract a b=bs ((M.drop a).take (b-a)):=by
 apply zbe;rw[zbY,zbh,zbh];simp[Bts.str,List.map_drop,List.map_take]
def GPost (Q:Nat) (T:ByteArray) (a e:Nat) (x:Nat->Value) (w:World) (g:Except Nat (Nat × Nat)) (r:Ending) (w':World):Prop:=
 Keeps (λ k=>k=Q) w w'/\if e=0 then
  match g with
  | .ok (n,a')=>r=.returned (.int .i64 (n:Int))/\Bk w' Q (qc T a' 0 x)
  | .error c=>r=.returned (.int .i64 0)/\Bk w' Q (qc T a (c+1) x)
 else r=.returned (.int .i64 0)/\Bk w' Q (qc T a e x)
set_option maxHeartbeats 4000000 in
theorem zao (Q a e k:Nat) (L:List UInt8) (x:Nat->Value) (w:World) (hB:Bk w Q (qc (bs (Bts.allB L)) a e x)) (hk:k<=16) (ha:a<=8*L.length) (hL:L.length<=300000):
  Calls Tryz.prog 74 #[.pointer (some ⟨Q,0,none⟩),.int .i64 (k:Int)] w λ r w'=>GPost Q (bs (Bts.allB L)) a e x w (Inf.get L k a) r w':=by
 have HO:=Hd (λ (w:World) (h:Bk w Q (qc (bs (Bts.allB L)) a e x))=>zaI Q a e (bs (Bts.allB L)) x w h);have hsz:(bs (Bts.allB L)).size=8*L.length:=by rw[zb2,Bts.zbK]
 obtain⟨T,hT⟩:=nmE (bs (Bts.allB L));rw[hT] at hB hsz HO⊢;have HT:=Hd hT;have HB:=Hd hB;have c0:=hB.cell 0;have c1:=hB.cell 1;have f1:=hB.frozen 1;simp only[qc] at c0 c1;have HSZ:=Hd hsz;obtain⟨Z,hZ⟩:=nmE (T.size);clear hB hT;by_cases he:e=0
 ·subst he;have hd:decide (0=0)=true:=rfl;obtain⟨A,hA⟩:=nmE (a+k);have hAI:(a:Int)+(k:Int)=(A:Int):=by omega
  have wA:=wqz (x:=(A:Int));rw[hZ] at hsz;by_cases hlt:Z<A
  ·have t1:=dT (p:=(Z:Int)<(A:Int));have HG:Hid (Inf.get L k a=.error 0):=Hd (by unfold Inf.get;rw[qac (by omega)]);clear hsz hA;go_enter Tryz.func74,Tryz.ntmps74
   go_wp2_with fail;refine rgQ ?_;refine qY ?_;refine zau (by kernel_rfl) λ K hK=>?_;go_simp;refine⟨_,HO.out _ HB.out.drew,hK _ ?_⟩;clear hK K;refine qY ?_;refine qY ?_;refine qY ?_;refine qY ?_;refine qY ?_;refine qY ?_;refine qY ?_;refine qY ?_;refine qY ?_;refine qY ?_;refine qY ?_;refine qY ?_;refine qY ?_;refine qY ?_;refine qY ?_;refine zaf ?_;go_wp2_with fail;refine (zap Q a 0 1 T x _ HB.out.drew).mono ?_;rintro r w1 ⟨rfl,hB1,hK1⟩;have HB1:=Hd hB1;have HK1:=Hd hK1;clear hB1 hK1;go_wp2_with fail;go_ret;refine⟨⟨HK1.out.os,HK1.out.tape,HK1.out.output,HK1.out.size,HK1.out.block⟩,?_⟩;rw[qad rfl,HG.out];exact⟨rfl,HB1.out⟩
  have t1:=dF (p:=(Z:Int)<(A:Int));have hAL:A<=8*L.length:=by omega
  have HG:Hid (Inf.get L k a=.ok (Crc.num L/2^a%2^k,A)):=Hd (by unfold Inf.get;rw[qad (by omega),hA]);obtain⟨M,hM⟩:=nmE (((Bts.allB L).drop a).take k);have hML:M.length<=32:=by rw[<- hM,qax];omega
  have hext:T.extract a A=bs M:=by rw[<- HT.out,zfF _ _ _ (by omega),<- hM,show A-a=k by omega]
  have hval:Bts.val M=Crc.num L/2^a%2^k:=by rw[<- hM];exact zfa L a k (by omega)
  obtain⟨nn,hnn⟩:=nmE (Bts.val M);have hnb:nn<65536:=by
   rw[<- hnn,hval];exact qaA (qbV _ (qbN _)) (qaq (by decide) hk)
  have HV:Hid (Crc.num L/2^a%2^k=nn):=Hd (hval.symm.trans hnn);have HLow:=Hd (λ (w:World)=>zbR (zmS M w hML));rw[hnn] at HLow;have wn:=wqz (x:=(nn:Int));have hBA:=HB.out.drew.put1 A;have HBA:=Hd hBA;have k0:=hBA.cell 0;have k1:=hBA.cell 1;simp only[qc] at k0 k1;have hsub:(A:Int)-(k:Int)=(a:Int):=by omega
  have wa:=wqz (x:=(a:Int));have haA:a<=A:=by omega
  have haA2:(a:Int)<=(A:Int):=by omega
  have hAZ:A<=Z:=by omega
  have hAZ2:(A:Int)<=(Z:Int):=by omega
  have ha0:(0:Int)<=(a:Int):=by omega
  have hat:((a:Nat):Int).toNat=a:=by omega
  have hAt:((A:Nat):Int).toNat=A:=by omega
  clear hsz hA hM hval hnn hBA;go_enter Tryz.func74,Tryz.ntmps74
  go_wp2_with fail;refine rgQ ?_;refine qY ?_;refine zau (by kernel_rfl) λ K hK=>?_;go_simp;refine⟨_,HO.out _ HB.out.drew,hK _ ?_⟩;clear hK K;refine qY ?_;refine qY ?_;refine qY ?_;refine qY ?_;refine qY ?_;refine qY ?_;refine qY ?_;refine qY ?_;refine qY ?_;refine qY ?_;refine qY ?_;refine qY ?_;refine qY ?_;refine qY ?_;refine qY ?_;refine zaf ?_;go_wp2_with fail;refine zac (λ wz=>Bk wz Q (qc T A 0 x)/\Keeps (λ k=>k=Q) w wz) ⟨HBA.out,(Keeps.refl (λ k=>k=Q) w).drew.setCell (p:=⟨Q,1,none⟩) (.inl rfl) _⟩ ?_;rintro w2 ⟨h2,hK2⟩;have H2:=Hd h2;have HK2:=Hd hK2;have j0:=h2.cell 0;have j1:=h2.cell 1;simp only[qc] at j0 j1;clear h2 hK2 k0 k1 c0 c1 f1 t1 hlt;refine rgQ ?_;refine qY ?_;refine qY ?_;refine qY ?_;refine qY ?_;refine qY ?_;refine qY ?_;refine qY ?_;refine qY ?_;refine qY ?_;refine qY ?_;refine qY ?_;refine qY ?_;refine qY ?_;refine qY ?_;refine qY ?_;refine zau (by kernel_rfl) λ K hK=>?_;go_simp;refine⟨_,HLow.out _,hK _ ?_⟩;clear hK K;refine qY ?_;refine qY ?_;refine zaf ?_;go_wp2_with fail;go_ret;refine⟨HK2.out.drew,?_⟩;rw[qad rfl,HG.out,HV.out];exact⟨rfl,H2.out⟩
 have hd:decide (e=0)=false:=qaf he;have hfl:fl e 1=e:=qac he;go_enter Tryz.func74,Tryz.ntmps74
 go_wp2_with fail;refine rgQ ?_;refine qY ?_;refine zau (by kernel_rfl) λ K hK=>?_;go_simp;refine⟨_,HO.out _ HB.out.drew,hK _ ?_⟩;clear hK K;refine qY ?_;refine qY ?_;refine qN ?_;refine qN ?_;refine qN ?_;refine qN ?_;refine qN ?_;refine qN ?_;refine qN ?_;refine qN ?_;refine qN ?_;refine qN ?_;refine qN ?_;refine qN ?_;refine qY ?_;refine zaf ?_;go_wp2_with fail;refine (zap Q a e 1 T x _ HB.out.drew).mono ?_;rintro r w1 ⟨rfl,hB1,hK1⟩;rw[hfl] at hB1;have HB1:=Hd hB1;have HK1:=Hd hK1;clear hB1 hK1;go_wp2_with fail;go_ret;refine⟨⟨HK1.out.os,HK1.out.tape,HK1.out.output,HK1.out.size,HK1.out.block⟩,?_⟩;rw[qac he];exact⟨rfl,HB1.out⟩
theorem u8_15 (x:Nat) (hx:x<256):bits BinOp.and IntKind.u8 (x:Int) 15=((x%16:Nat):Int):=by
 rw[show (15:Int)=((15:Nat):Int) from rfl,u8_and_nat x 15 hx (by decide),nat_mask4]
theorem u8_32 (x:Nat) (hx:x<256):(bits BinOp.and IntKind.u8 (x:Int) 32 !=0)=decide (x/32%2≠0):=by
 rw[show (32:Int)=((32:Nat):Int) from rfl,u8_and_nat x 32 hx (by decide)];have:∀x,x<256->((((x &&& 32:Nat):Int) !=0)=decide (x/32%2≠0)):=by decide +kernel
 exact this x hx
theorem zoR (x y:Nat) (hx:x<256) (hy:y<256):bits BinOp.or IntKind.i64 ((x:Int)*256) (y:Int)=((x*256+y:Nat):Int):=by
 rw[show ((x:Int)*256)=((x*256:Nat):Int) by omega,<- nat_join 8 (x*256) y (by omega) (by omega)];show IntKind.i64.wrap ((BitVec.ofInt 64 ((x*256:Nat):Int) ||| BitVec.ofInt 64 (y:Int)).toNat:Int)=_;have hx2:x*256 ||| y<2^16:=Nat.or_lt_two_pow (by omega) (by omega)
 rw[qb9,qb9,BitVec.toNat_or,qb7,qb7,qaF (by omega),qaF (by omega),qal];omega
namespace Inf
def zaB (s:ByteArray):Prop:=2<=s.size/\(s.data.toList.getD 0 0).toNat%16=8/\(s.data.toList.getD 0 0).toNat/16<=7/\((s.data.toList.getD 0 0).toNat*256+(s.data.toList.getD 1 0).toNat)%31=0/\(s.data.toList.getD 1 0).toNat/32%2=0
instance (s:ByteArray):Decidable (zaB s):=by unfold zaB;infer_instance
noncomputable def unz (s:ByteArray) (most:Int):Except Nat (List UInt8):=
 if most<0\/300000<most\/300000<s.size then .error 1 else
 if ¬ zaB s then .error 0 else
 match infl (s.extract 2 s.size) most with
 | .error c=>.error c
 | .ok (out,used,_)=>if s.size≠2+used+4 then .error 0 else if valN (s.data.toList.drop (2+used))≠Adl.adler out then .error 3 else .ok out
end Inf
theorem zjA (s:ByteArray) (h1:1<s.size):Inf.zaB s↔(s[0].toNat%16=8/\s[0].toNat/16<=7/\(s[0].toNat*256+s[1].toNat)%31=0/\s[1].toNat/32%2=0):=by
 have e0:s.data.toList.getD 0 0=s[0]:=by rw[List.getD,qai (by rw[zaF];omega)];rfl
 have e1:s.data.toList.getD 1 0=s[1]:=by rw[List.getD,qai (by rw[zaF];omega)];rfl
 unfold Inf.zaB;rw[e0,e1];exact⟨λ h=>h.2,λ h=>⟨h1,h⟩⟩
def zqv (w w':World) (E:Nat->Addr) (r:Except Nat (List UInt8)) (e:Ending):Prop:=
 Ext w w'/\match r with
 | .ok out=>e=.returned (.tuple #[.string (tb out),.nilIface])
 | .error c=>e=.returned (.tuple #[.string ⟨#[]⟩,sentV (E c)])
def zqH (r:Except Nat (List UInt8)) (e:Ending):Prop:=
 match r with
 | .ok out=>e=.returned (.tuple #[.string (tb out),.int .i64 0])
 | .error c=>e=.returned (.tuple #[.string ⟨#[]⟩,.int .i64 ((c+1:Nat):Int)])
def zjr (Q:Exit->Act->World->Prop):Exit->Act->World->Prop
 | .panic _,_,_=>False
 | e,a,w=>Q e a w
theorem zkt {P:Program} {c:Code} {Q:Exit->Act->World->Prop} {a:Act} {w:World} (h:c.wp P (zjr Q) a w):c.wp P Q a w:=
 wp_mono h λ e a w q=>by
  cases e with
  | panic ch=>exact q.elim
  | _=>exact q
theorem zix (x:Value) (xT:TypeId) (w:World):(Instr.typeAssert (.iface 197 x) xT 197 true).run Tryz.prog w=.ok (.tuple #[x,.bool true]) w:=by
 have hu:=Tryz.underlying197;simp[Instr.typeAssert,qbO hu,go_sem,Result.andThen]
theorem ziy (p q r:Addr) (w:World):
  CallsD Tryz.prog 133 #[.pointer (some p),.pointer (some q),.pointer (some r)] .returning w λ e u' w'=>e=.returned (.tuple #[])/\u'=.returning/\w'=w:=by
 refine callsD_of_wpS Tryz.func133 rfl λ c₀ cs hu=>?_;apply wpS_seq;apply wpS_region;simp[wpOpsS,go_sem,recoverD,hu,Tryz.ntmps133,Exit.thenS];refine wpS_of_wp ?_;go_wp2_with fail;cases c₀
 simp_all [bodyPostS,results,Tryz.results133]
structure Caught (w w':World) (p q r:Nat) (a:Addr):Prop where
 h0:Bk w' p #[.string ⟨#[]⟩]
 h1:Bk w' q #[.int .i64 0]
 h2:Bk w' r #[sentV a]
 ext:Below p w w'
theorem Caught.drew {w w':World} {p q r:Nat} {a:Addr} (h:Caught w w' p q r a):Caught w w'.drew p q r a:=⟨h.h0,h.h1,h.h2,qag h.ext⟩
theorem zl2 {w w0:World} {p:Nat} {a:Addr} {x y z:Value} (h0:Bk w p #[x]) (h1:Bk w (p+1) #[y]) (h2:Bk w (p+2) #[z]) (hE:Ext w w0):Caught w (((w0.setCell ⟨p,0,none⟩ (.string ⟨#[]⟩)).setCell ⟨p+1,0,none⟩ (.int .i64 0)).setCell ⟨p+2,0,none⟩ (sentV a)) p (p+1) (p+2) a:=by
 have hl:=h0.lt;have hs:=hE.size;have b0:=(h0.ext hE).set_ 0 (.string ⟨#[]⟩);have b1:=(h1.ext hE);have b2:=(h2.ext hE);refine⟨?_,?_,?_,?_⟩
 ·exact (b0.far (p:=⟨p+1,0,none⟩) (by show p≠p+1;omega) _).far (p:=⟨p+2,0,none⟩) (by show p≠p+2;omega) _
 ·exact ((b1.far (p:=⟨p,0,none⟩) (by show p+1≠p;omega) _).set_ 0 (.int .i64 0)).far (p:=⟨p+2,0,none⟩) (by show p+1≠p+2;omega) _
 ·exact ((b2.far (p:=⟨p,0,none⟩) (by show p+2≠p;omega) _).far (p:=⟨p+1,0,none⟩) (by show p+2≠p+1;omega) _).set_ 0 (sentV a)
 exact (((Below.mono hE (Nat.le_of_lt hl)).setCell (p:=⟨p,0,none⟩) (qaj _) _).setCell (p:=⟨p+1,0,none⟩) (by show p<=p+1;omega) _).setCell (p:=⟨p+2,0,none⟩) (by show p<=p+2;omega) _
set_option maxHeartbeats 1000000 in
theorem zqo (p:Nat) (a:Addr) (older:List PanicEntry) (x y z:Value) (w:World) (h0:Bk w p #[x]) (h1:Bk w (p+1) #[y]) (h2:Bk w (p+2) #[z]):
  CallsD Tryz.prog 133 #[.pointer (some ⟨p,0,none⟩),.pointer (some ⟨p+1,0,none⟩),.pointer (some ⟨p+2,0,none⟩)] (.panicking ({ v:=failV a,recovered:=false } ::older)) w λ e u' w'=>e=.returned (.tuple #[])/\u'=.panicking ({ v:=failV a,recovered:=true } ::older)/\Caught w w' p (p+1) (p+2) a:=by
 have HC:=Hd (λ w0 (hE:Ext w w0)=>zl2 (a:=a) h0 h1 h2 hE);have H0:=Hd h0;have H1:=Hd h1;have H2:=Hd h2;clear h0 h1 h2;refine callsD_of_wpS Tryz.func133 rfl λ c₀ cs hu=>?_;rw[show (#[Value.pointer (some ⟨p,0,none⟩),.pointer (some ⟨p+1,0,none⟩),.pointer (some ⟨p+2,0,none⟩)]++Array.replicate (Tryz.f133.ntmps - #[Value.pointer (some ⟨p,0,none⟩),.pointer (some ⟨p+1,0,none⟩),.pointer (some ⟨p+2,0,none⟩)].size) undef)=#[Value.pointer (some ⟨p,0,none⟩),.pointer (some ⟨p+1,0,none⟩),.pointer (some ⟨p+2,0,none⟩),undef,undef,undef,undef,undef,undef,undef,undef,undef,undef,undef] from rfl];apply wpS_seq;apply wpS_region;simp[wpOpsS,go_sem,recoverD,hu,Exit.thenS];refine wpS_of_wp ?_;unfold failV sentV;have hta:=zix;go_wp2_with fail;clear hta;have hl:=H0.out.lt;have hl1:=H1.out.lt;have hl2:=H2.out.lt;obtain⟨b,hb⟩:=nmE (w.heap.size);refine zac (λ wz=>Ext w wz/\wz.cell? ⟨b,0,none⟩=some (.iface 275 (.pointer (some a)))) ⟨(Ext.refl _).alloc _,by subst hb;exact (Bk.at (w:=w) rfl).cell 0⟩ ?_;rintro w1 ⟨hX,hc⟩;rw[hb] at hl hl1 hl2⊢;have HX:=Hd hX;have k0:=(H0.out.ext hX).cell 0;have k1:=(H1.out.ext hX).cell 0;have k2:=(H2.out.ext hX).cell 0;have f0:=(H0.out.ext hX).frozen 0;have f1:=(H1.out.ext hX).frozen 0;have f2:=(H2.out.ext hX).frozen 0;have n0:¬ p=b:=by omega
 have n1:¬ p+1=b:=by omega
 have n2:¬ p+2=b:=by omega
 clear hX hb hl hl1 hl2;go_region;all_goals (try go_wp2_with fail)
 all_goals exact⟨rfl,_,rfl,.tuple #[],by simp[results,Tryz.results133],rfl,rfl,(HC.out w1 HX.out).drew⟩
def natA (l:List Nat):Array Value:=(l.map λ z=>Value.int .i64 ((z:Nat):Int)).toArray
theorem zoE (l:List Nat) (i:Nat) (hi:i<l.length):(natA l)[i]? =some (.int .i64 ((l.getD i 0:Nat):Int)):=by
 unfold natA;simp[List.getD,hi]
theorem zjN {w:World} {t:TypeId} (l:List Nat) (A:Array Value) (n:Nat) (hA:A=natA l) (hn:l.length=n):Cs (w.alloc (.cells A t)) w.heap.size n .i64 (λ i=>((l.getD i 0:Nat):Int)):=by
 intro i hi;subst hA;rw[qaV _ _ _ _ rfl,qbE _ _ _ _ rfl];exact⟨zoE l i (by omega),rfl⟩
theorem zmR (w:World):Calls Tryz.prog 108 #[] w λ e w'=>∃C,e=.returned (.slice (some ⟨C,0,none⟩) 29 29)/\w.heap.size<=C/\Cs w' C 29 .i64 (λ i=>((Inf.lensL.getD i 0:Nat):Int))/\Ext w w':=by
 go_enter Tryz.func108,Tryz.ntmps108
 go_wp2_with fail;go_ret;exact⟨_,rfl,qaj _,zjN Inf.lensL _ 29 rfl rfl,(Ext.refl w).alloc _⟩
theorem zkL (w:World):Calls Tryz.prog 110 #[] w λ e w'=>∃C,e=.returned (.slice (some ⟨C,0,none⟩) 30 30)/\w.heap.size<=C/\Cs w' C 30 .i64 (λ i=>((Inf.zak.getD i 0:Nat):Int))/\Ext w w':=by
 go_enter Tryz.func110,Tryz.ntmps110
 go_wp2_with fail;go_ret;exact⟨_,rfl,qaj _,zjN Inf.zak _ 30 rfl rfl,(Ext.refl w).alloc _⟩
theorem zni:∀k,k<29->Inf.lensB.getD k 0=if k<8\/k=28 then 0 else k/4-1:=by decide
theorem zlj:∀k,k<30->Inf.zaQ.getD k 0=if k<4 then 0 else k/2-1:=by decide
theorem zhj (k:Nat) (hk:k<29) (w:World):Calls Tryz.prog 109 #[.int .i64 (k:Int)] w λ e w'=>e=.returned (.int .i64 ((Inf.lensB.getD k 0:Nat):Int))/\w'=w:=by
 have hb:=zni k hk;obtain⟨z,hz⟩:=nmE (Inf.lensB.getD k 0);rw[hz] at hb⊢;have HB:=Hd hb;clear hb hz;go_enter Tryz.func109,Tryz.ntmps109
 by_cases h8:k<8
 ·have t1:=dT (p:=(k:Int)<8);go_wp2_with fail;go_ret;exact⟨by rw[HB.out,qad (.inl h8)];rfl,rfl⟩
 have t1:=dF (p:=(k:Int)<8);by_cases h28:k=28
 ·subst h28;go_wp2_with fail;go_ret;exact⟨by rw[HB.out,qad (.inr trivial)];rfl,rfl⟩
 have t2:((k:Int) ==28)=false:=qak.2 (by omega);have hq:(k:Int).tdiv 4=((k/4:Nat):Int):=by rw[Int.tdiv_eq_ediv_of_nonneg (by omega)];rfl
 have hd:((k/4:Nat):Int)-1=((k/4-1:Nat):Int):=by omega
 obtain⟨d,hdd⟩:=nmE (k/4-1);have hdl:d<=10:=by omega
 go_wp2_with fail;go_ret;refine⟨zbA ?_,rfl⟩;rw[HB.out,qac (by omega),hdd];omega
theorem zg9 (k:Nat) (hk:k<30) (w:World):Calls Tryz.prog 111 #[.int .i64 (k:Int)] w λ e w'=>e=.returned (.int .i64 ((Inf.zaQ.getD k 0:Nat):Int))/\w'=w:=by
 have hb:=zlj k hk;obtain⟨z,hz⟩:=nmE (Inf.zaQ.getD k 0);rw[hz] at hb⊢;have HB:=Hd hb;clear hb hz;go_enter Tryz.func111,Tryz.ntmps111
 by_cases h8:k<4
 ·have t1:=dT (p:=(k:Int)<4);go_wp2_with fail;go_ret;exact⟨by rw[HB.out,qad h8];rfl,rfl⟩
 have t1:=dF (p:=(k:Int)<4);go_wp2_with fail;go_ret;refine⟨zbA ?_,rfl⟩;rw[HB.out,qac h8];omega
theorem Ygn2 {p:Prop} (h:p:=by
 clear HX HC;go_wp2_with fail;go_roundw
 case rel=>exact⟨i+1,by omega,by go_num,HX2,HN⟩
 case measure=>simp[intOf];omega):p:=h
theorem Ygn0 {p:Prop} (h:p:=by
 have HX2:Hid (Ext w (wr.setCell ⟨C,i,none⟩ (.int .i64 8))):=Hd (qaL HX.out (by show w.heap.size<=C;rw[HCC.out];exact qaj _) _);exact Ygn2):p:=h
theorem Ygn1 {p:Prop} (h:p:=by
 exact Ygn2):p:=h
theorem zkA (w:World):Calls Tryz.prog 78 #[] w λ e w'=>∃C,e=.returned (.slice (some ⟨C,0,none⟩) 288 288)/\w.heap.size<=C/\Ints w' (some ⟨C,0,none⟩) 288 Inf.fixF/\Ext w w':=by
 have hmk:=λ w=>qbR (P:=Tryz.prog) 88 3 (.int .i64 0) 8 Tryz.underlying88 zaX rfl .i64 .i64 288 (by omega) (by omega) w;simp only[show ((288:Nat):Int)=288 from rfl] at hmk;go_enter Tryz.func78,Tryz.ntmps78
 go_upto_block 0 with fail;clear hmk;obtain⟨C,hC⟩:=nmE (w.heap.size);refine zac (λ wz=>Hid (Ext w wz)/\Hid (Cs wz C 288 .i64 (λ _=>0))) ⟨Hd ((Ext.refl w).alloc _),Hd (by rw[zaY,<- hC];exact Cs.born w .i64 288 _ _)⟩ ?_;rw[hC];rintro w1 ⟨HX,HC⟩;have HCC:=Hd hC;clear hC;go_wp2_with fail;go_loopw [2] (λ z wr=>∃i:Nat,i<=288/\z=.int .i64 i/\Hid (Ext w wr)/\Hid (Cs wr C 288 .i64 (λ j=>if j<i then Inf.fixF j else 0))) (λ z _=>288-(intOf z).toNat)
 case atStart=>exact⟨0,by omega,rfl,HX,Hd (HC.out.congr (λ j _=>by rw[qac (by omega)]))⟩
 case round=>
  clear HX HC;obtain⟨i,hi,rfl,HX,HC⟩:=hrel;by_cases hlt:i<288
  ·have hc:wr.cell? ⟨C,i,none⟩=some (.int .i64 0):=by have h:=(HC.out i hlt).1;simpa using h
   have hf:=(HC.out i hlt).2;have wi:=wqz (x:=(i:Int)+1);have hi0:(0:Int)<=(i:Int):=by omega
   have hiI:(i:Int)<288:=by omega
   by_cases h1:i<144
   ·skip
    have t0:=dT (p:=(i:Int)<144);have HN:Hid (Cs (wr.setCell ⟨C,i,none⟩ (.int .i64 8)) C 288 .i64 (λ j=>if j<i+1 then Inf.fixF j else 0)):=Hd (HC.out.put i 8 _ hlt (λ j _=>by
     by_cases h:j=i
     ·subst h;rw[qad (by omega),qad rfl];unfold Inf.fixF;rw[qad h1]
     rw[qac h];by_cases h2:j<i
     ·rw[qad (by omega),qad h2]
     rw[qac (by omega),qac h2]))
    exact Ygn0
   by_cases h2:i<256
   ·skip
    have t0:=dF (p:=(i:Int)<144);have t1:=dT (p:=(i:Int)<256);have HN:Hid (Cs (wr.setCell ⟨C,i,none⟩ (.int .i64 9)) C 288 .i64 (λ j=>if j<i+1 then Inf.fixF j else 0)):=Hd (HC.out.put i 9 _ hlt (λ j _=>by
     by_cases h:j=i
     ·subst h;rw[qad (by omega),qad rfl];unfold Inf.fixF;rw[qac h1,qad h2]
     rw[qac h];by_cases h2:j<i
     ·rw[qad (by omega),qad h2]
     rw[qac (by omega),qac h2]))
    have HX2:Hid (Ext w (wr.setCell ⟨C,i,none⟩ (.int .i64 9))):=Hd (qaL HX.out (by show w.heap.size<=C;rw[HCC.out];exact qaj _) _);exact Ygn1
   by_cases h3:i<280
   ·skip
    have t0:=dF (p:=(i:Int)<144);have t1:=dF (p:=(i:Int)<256);have t2:=dT (p:=(i:Int)<280);have HN:Hid (Cs (wr.setCell ⟨C,i,none⟩ (.int .i64 7)) C 288 .i64 (λ j=>if j<i+1 then Inf.fixF j else 0)):=Hd (HC.out.put i 7 _ hlt (λ j _=>by
     by_cases h:j=i
     ·subst h;rw[qad (by omega),qad rfl];unfold Inf.fixF;rw[qac h1,qac h2,qad h3]
     rw[qac h];by_cases h2:j<i
     ·rw[qad (by omega),qad h2]
     rw[qac (by omega),qac h2]))
    have HX2:Hid (Ext w (wr.setCell ⟨C,i,none⟩ (.int .i64 7))):=Hd (qaL HX.out (by show w.heap.size<=C;rw[HCC.out];exact qaj _) _);exact Ygn1
   skip
   have t0:=dF (p:=(i:Int)<144);have t1:=dF (p:=(i:Int)<256);have t2:=dF (p:=(i:Int)<280);have HN:Hid (Cs (wr.setCell ⟨C,i,none⟩ (.int .i64 8)) C 288 .i64 (λ j=>if j<i+1 then Inf.fixF j else 0)):=Hd (HC.out.put i 8 _ hlt (λ j _=>by
    by_cases h:j=i
    ·subst h;rw[qad (by omega),qad rfl];unfold Inf.fixF;rw[qac h1,qac h2,qac h3]
    rw[qac h];by_cases h2:j<i
    ·rw[qad (by omega),qad h2]
    rw[qac (by omega),qac h2]))
   exact Ygn0
  obtain rfl:i=288:=by omega
  go_wp2_with fail;go_ret;exact⟨C,rfl,by have:=HCC.out;omega,⟨λ e=>(by cases e),λ q hq j hj=>by
   injection hq with hq;subst hq;rw[zae];refine⟨by have h:=(HC.out j hj).1;simp only[qad hj] at h;exact h,?_⟩;unfold Inf.fixF;repeat (first | split | omega)⟩,HX.out⟩
end Go.Proofs.YthlibiocadimhaaGreatDoor
namespace Go.Proofs.YthlibiocadimhaaGreatDoor
open Go.RowKit Go.ChangeShapes
def tabD (n:String) (zs:List Nat):List (String × DataW Unit):=[(n,Lib.tabData .i64 (zs.map λ z=>((z:Nat):Int)))]
theorem zds {l:List (String × DataW Unit)} {W:World} {n:String} {g m:Nat} {t:TypeId} {zs:List Nat} (h:laidMetH Tryz.prog l W) (hl:l.filter (λ x=>x.1 ==n)=tabD n zs)
    (hm:laidMetH Tryz.prog (tabD n zs) W=laidMet Tryz.prog (tabD n zs) W) (hg: Tryz.prog.globalNamed n=some g) (hty:(Tryz.prog.globals[g]?).map (·.type)=some t) (ht: Tryz.prog.underlying t=some (.array m 3)) (hct: Tryz.prog.cellsOf t=m) (hlen:zs.length=m):
    ∀k,k<m->W.cell? ⟨g,k,none⟩=some (.int .i64 ((zs.getD k 0:Nat):Int)):=by
  have h1:=laidMetH.filter (λ x=>x.1 ==n) h;rw[hl,hm] at h1;have hT:=Lib.tabIs_of_head (rest:=[]) hg hty ht Tryz.underlying3 (by kernel_rfl) hct h1;intro k hk;have:=hT.cell hg k (by simp;omega);rw[this];simp[List.getD,hlen,hk]
theorem zig {l:List (String × DataW Unit)} {W:World} (h:laidMetH Tryz.prog l W)
    (h1 : l.filter (λ x => x.1 == "layercake/inflate.Lens") = tabD "layercake/inflate.Lens" Inf.lensL) (h2 : l.filter (λ x => x.1 == "layercake/inflate.LenBits") = tabD "layercake/inflate.LenBits" Inf.lensB)
    (h3 : l.filter (λ x => x.1 == "layercake/inflate.Dists") = tabD "layercake/inflate.Dists" Inf.zak) (h4 : l.filter (λ x => x.1 == "layercake/inflate.DistBits") = tabD "layercake/inflate.DistBits" Inf.zaQ)
    (h5 : l.filter (λ x => x.1 == "layercake/inflate.Order") = tabD "layercake/inflate.Order" Inf.zaK) : Tabs W :=
  ⟨zds h h1 rfl (by kernel_rfl) (by kernel_rfl) Tryz.underlying232 (by kernel_rfl) rfl,zds h h2 rfl (by kernel_rfl) (by kernel_rfl) Tryz.underlying232 (by kernel_rfl) rfl,zds h h3 rfl (by kernel_rfl) (by kernel_rfl) Tryz.underlying233 (by kernel_rfl) rfl,zds h h4 rfl (by kernel_rfl) (by kernel_rfl) Tryz.underlying233 (by kernel_rfl) rfl,zds h h5 rfl (by kernel_rfl) (by kernel_rfl) Tryz.underlying192 (by kernel_rfl) rfl⟩
end Go.Proofs.YthlibiocadimhaaGreatDoor
