/-
  the document's InflateOf.
-/
import Derived.Test.YthlibiocadimhaaGreatDoorPngReadsG32
set_option linter.all false
set_option maxRecDepth 100000
namespace Go.Proofs.YthlibiocadimhaaGreatDoor
open Go.RowKit
theorem Ygo4 {p:Prop} (h:p:=by
 go_roundg 0
 case measure=>have:=HF0.out;have:=HK.out;omega
 case rel=>exact⟨_,0,rfl,Hd (.inr (.inr ⟨c,_,_,hl2,rfl,H9b.out.bk,H9b.out.old,(Inf.zb9 HF0.out HQB.out HQ.out).symm⟩)),Hd rfl⟩):p:=h
theorem Ygo5 {p:Prop} (h:p:=by
 obtain⟨F2,hF2,hS⟩:=hN;have HS2:=Hd hS;have HF2:=Hd hF2;clear hS hF2;(try go_wp2_with fail);go_roundg F2
 case measure=>have:=HF2.out;have:=HK.out;omega
 case rel=>exact⟨last,F2,rfl,HS2,Hd rfl⟩):p:=h
theorem Ygo0 {p:Prop} (h:p:=by
 go_wp2_with fail;rw[<- HR.out];refine qaZ (v:=.agg #[.string ⟨#[]⟩,.int .i64 0,.int .i64 2,.slice none 0 0,.slice none 0 0,.slice none 0 0,.slice none 0 0,.int .i64 0,.int .i64 0,.slice none 0 0]) (by simp[results,Tryz.results47,go_sem]) rfl ⟨⟨_,rfl,rfl⟩,?_⟩;first | exact (Ext.refl w).alloc _ | (simp;exact (Ext.refl w).alloc _)):p:=h
theorem Ygo1 {p:Prop} (h:p:=by
 go_wp2_with fail;refine rokF H_2.out.bk ?_;go_wp2_with fail;go_meet
 exact Hd (.inr ⟨0,_,_,H_2.out.bk,H_2.out.old,(Inf.zb9 HF0.out HQB.out HQ.out).symm⟩)):p:=h
theorem Ygo2 {p:Prop} (h:p:=by
 clear ht hW;(try go_wp2_with fail);exact Ygo4):p:=h
theorem Ygo3 {p:Prop} (h:p:=by
 clear ht hW hgr hen htl hG4 et hle e9 hLast hsl3;exact Ygo5):p:=h
set_option maxHeartbeats 2000000 in
theorem zja (Q a c:Nat) (T:ByteArray) (x:Nat->Value) (vs vd:Value) (w:World) (hB:Bk w Q (qc T a (c+1) x)):
  Calls Tryz.prog 76 #[.pointer (some ⟨Q,0,none⟩),vs,vd] w λ r w'=>r=.returned (.tuple #[])/\∃x',Bk w' Q (qc T a (c+1) x')/\Keeps (λ k=>k=Q) w w':=by
 have hmk300:=λ w=>qbR (P:=Tryz.prog) 88 3 (.int .i64 0) 8 Tryz.underlying88 zaX rfl .i64 .i64 300 (by omega) (by omega) w;simp only[show ((300:Nat):Int)=300 from rfl] at hmk300;have hmk40:=λ w=>qbR (P:=Tryz.prog) 88 3 (.int .i64 0) 8 Tryz.underlying88 zaX rfl .i64 .i64 40 (by omega) (by omega) w;simp only[show ((40:Nat):Int)=40 from rfl] at hmk40;have c7:=hB.cell 7;have f7:=hB.frozen 7;have c8:=hB.cell 8;have f8:=hB.frozen 8;simp only[qc] at c7 c8;have hQl:=hB.lt;have HB:=Hd hB;clear hB;go_enter Tryz.func76,Tryz.ntmps76
 go_upto_block 0 with fail;clear hmk300 hmk40 c7 f7 c8 f8;refine zac (λ wz=>Hid (∃x',Bk wz Q (qc T a (c+1) x')/\Keeps (λ k=>k=Q) w wz)) (Hd ⟨_,((HB.out.putx 7 (by simp) _).putx 8 (by simp) _).old.old,(((Keeps.refl (λ k=>k=Q) w).setCell (p:=⟨Q,7,none⟩) (.inl rfl) _).setCell (p:=⟨Q,8,none⟩) (.inl rfl) _).alloc _ |>.alloc _⟩) ?_;rintro w1 H1;clear HB hQl;go_wp2_with fail;go_loopw [] (λ wr=>Hid (∃x',Bk wr Q (qc T a (c+1) x')/\Keeps (λ k=>k=Q) w wr)) (λ _=>0)
 case atStart=>exact H1
 case round=>
  clear H1;obtain⟨x',hb,hk⟩:=hrel.out;have HB:=Hd hb;have HK:=Hd hk;clear hb hk hrel;go_wp2_with fail;refine rokF HB.out ?_;go_wp2_with fail;go_end0;exact⟨rfl,x',HB.out,HK.out⟩
def tksB (bl:List Inf.Blk):List Tk:=Inf.tksOf (bl.flatMap λ b=>b.tr)
theorem zeb (bl:List Inf.Blk) (b:Inf.Blk):tksB (bl ++ [b])=tksB bl++Inf.tksOf b.tr:=by simp[tksB,Inf.tksOf]
def rx0 (m:Nat):Nat->Value:=λ i=>if i=3 then .int .i64 (m:Int) else if i=9\/i=10 then .int .i64 0 else .slice none 0 0
structure BGo (w0 wr:World) (Q:Nat) (T:ByteArray) (a e:Nat) (x:Nat->Value) (m:Nat) (out:List UInt8) (tks:List Tk):Prop where
 bk:Bk wr Q (qc T a e x)
 x3:x 3=.int .i64 (m:Int)
 row:wr.ownsRow 0 5 1 (x 2) out.length (zad out)
 trow:wr.ownsRow 0 165 3 (x 11) tks.length (tokV tks)
 vot:∀k,(x 2).ownBlock=some k->(x 11).ownBlock≠some k
 old:Keeps (λ k=>k=Q) w0 wr
 ql:Q<w0.heap.size
 vn:∀k,(x 2).ownBlock=some k->w0.heap.size<=k
 vtn:∀k,(x 11).ownBlock=some k->w0.heap.size<=k
section
variable {w0 wr w':World} {Q a a' e e' m:Nat} {T:ByteArray} {x x':Nat->Value} {out out':List UInt8} {tks tks':List Tk} {bl:List Inf.Blk}
theorem BGo.voQ (h:BGo w0 wr Q T a e x m out tks):(x 2).ownBlock≠some Q:=λ q=>by have:=h.vn Q q;have:=h.ql;omega
theorem BGo.vtQ (h:BGo w0 wr Q T a e x m out tks):(x 11).ownBlock≠some Q:=λ q=>by have:=h.vtn Q q;have:=h.ql;omega
theorem BGo.to {S:Nat->Prop} (h:BGo w0 wr Q T a e x m out tks) (hk:Keeps S wr w') (hS:∀k,k<wr.heap.size->S k->k=Q\/(x 2).ownBlock=some k\/(x 11).ownBlock=some k) (hb:Bk w' Q (qc T a' e' x')) (hx3:x' 3=x 3)
  (hr:w'.ownsRow 0 5 1 (x' 2) out'.length (zad out')) (ht:w'.ownsRow 0 165 3 (x' 11) tks'.length (tokV tks')) (hv:∀k,(x' 2).ownBlock=some k->(x' 11).ownBlock≠some k)
  (hn:∀k,(x' 2).ownBlock=some k->(x 2).ownBlock=some k\/wr.heap.size<=k) (hnt:∀k,(x' 11).ownBlock=some k->(x 11).ownBlock=some k\/wr.heap.size<=k):BGo w0 w' Q T a' e' x' m out' tks':=by
 have hs:=h.old.size;refine⟨hb,hx3.trans h.x3,hr,ht,hv,h.old.trans hk (λ i hi q=>?_),h.ql,λ k q=>?_,λ k q=>?_⟩
 ·rcases hS i (by omega) q with r | r | r
  ·exact r
  ·have:=h.vn i r;omega
  have:=h.vtn i r;omega
 ·rcases hn k q with r | r
  ·exact h.vn k r
  omega
 rcases hnt k q with r | r
 ·exact h.vtn k r
 omega
theorem BGo.quiet (h:BGo w0 wr Q T a e x m out tks) (hk:Keeps (λ k=>k=Q) wr w') (hb:Bk w' Q (qc T a' e' x')) (h2:x' 2=x 2) (h3:x' 3=x 3) (h11:x' 11=x 11):BGo w0 w' Q T a' e' x' m out tks:=
 h.to hk (λ _ _ q=>.inl q) hb h3 (by rw[h2];exact zaa h.row hk (λ k q e=>h.voQ (by rw[q,e]))) (by rw[h11];exact zaa h.trow hk (λ k q e=>h.vtQ (by rw[q,e]))) (by rw[h2,h11];exact h.vot) (by rw[h2];exact λ _ q=>.inl q) (by rw[h11];exact λ _ q=>.inl q)
theorem BGo.ext (h:BGo w0 wr Q T a e x m out tks) (hE:Ext wr w'):BGo w0 w' Q T a e x m out tks:=h.quiet hE.keeps (h.bk.ext hE) rfl rfl rfl
theorem BGo.qgo (h:BGo w0 wr Q T a e x m out tks):QGo wr wr Q T a e x (x 2) (x 2) out:=⟨h.bk,rfl,h.row,h.voQ,IStep.refl _ _ _ _⟩
theorem BGo.ofQ {vo':Value} (h:BGo w0 wr Q T a e x m out tks) (q:QGo wr w' Q T a' e' x' (x 2) vo' out') (hx:∀i,i≠2->i≠5->i≠6->x' i=x i):BGo w0 w' Q T a' e' x' m out' tks:=by
 have h11:x' 11=x 11:=hx 11 (by decide) (by decide) (by decide);have ht:w'.ownsRow 0 165 3 (x' 11) tks.length (tokV tks):=by
  rw[h11];refine zaa h.trow q.step.keeps (λ k r s=>?_);rcases s with s | s | s
  ·exact h.vtQ (by rw[r,s])
  ·exact h.vtQ (by rw[r,s])
  exact h.vot k s r
 refine h.to q.step.keeps (λ k _ r=>?_) q.bk (hx 3 (by decide) (by decide) (by decide)) (by rw[q.x2];exact q.row) ht (λ k r=>?_) (λ k r=>q.step.new k (by rw[<- q.x2];exact r)) (by rw[h11];exact λ _ r=>.inl r)
 ·rcases r with r | r | r
  ·exact .inl r
  ·exact .inl r
  exact .inr (.inl r)
 rw[h11];rw[q.x2] at r;rcases q.step.new k r with s | s
 ·exact h.vot k s
 intro t;have:=zaA h.trow t;omega
theorem BGo.ofW {B7 B8:Nat} {vo vt:Value} {f7 f8:Nat->Int} (h:BGo w0 wr Q T a e x m out tks) (q:WGo wr w' Q B7 B8 T a' e' x (x 2) (x 11) vo vt out' tks' f7 f8):BGo w0 w' Q T a' e' (qx x B7 B8 vo vt) m out' tks':=
 h.to q.keeps (λ _ _ r=>r) q.bk rfl q.row q.trow q.vot q.new q.newt
theorem BGo.win (h:BGo w0 wr Q T a 0 x m out tks):WIn wr Q T a x (x 2) (x 11) out tks:=⟨h.bk,rfl,rfl,h.row,h.trow,h.voQ,h.vtQ,h.vot⟩
def LastB (lo:Nat) (w:World) (x:Nat->Value) (bl:List Inf.Blk):Prop:=∀b,bl.getLast? =some b->x 10=.int .i64 (b.kind:Int)/\(b.kind=2->∃p c q d B7 B8,x 5=.slice (some p) b.f.length c/\x 6=.slice (some q) b.g.length d/\x 7=.slice (some ⟨B7,0,none⟩) 300 300/\x 8=.slice (some ⟨B8,0,none⟩) 40 40/\
 Ints w (some p) b.f.length (Inf.fn b.f)/\Ints w (some q) b.g.length (Inf.fn b.g)/\Cs w B7 300 .i64 (Inf.use7 b.tr)/\Cs w B8 40 .i64 (Inf.use8 b.tr)/\lo<=p.block/\lo<=q.block/\lo<=B7/\lo<=B8)
theorem LastB.keeps {S:Nat->Prop} {lo:Nat} (h:LastB lo wr x bl) (hk:Keeps S wr w') (hS:∀k,lo<=k->¬ S k):LastB lo w' x bl:=by
 intro b hb;obtain⟨h1,h2⟩:=h b hb;refine⟨h1,λ h3=>?_⟩;obtain⟨p,c,q,d,B7,B8,e5,e6,e7,e8,i1,i2,c1,c2,n1,n2,n3,n4⟩:=h2 h3;exact⟨p,c,q,d,B7,B8,e5,e6,e7,e8,i1.on hk (λ a e=>by injection e with e;rw[<- e];exact hS _ n1),i2.on hk (λ a e=>by injection e with e;rw[<- e];exact hS _ n2),zaz c1 hk (hS _ n3),zaz c2 hk (hS _ n4),n1,n2,n3,n4⟩
def SL (x:Nat->Value):Prop:=(∃p n c,x 5=.slice p n c)/\(∃p n c,x 6=.slice p n c)/\(∃p n c,x 7=.slice p n c)/\(∃p n c,x 8=.slice p n c)/\∃k,x 10=.int .i64 k
theorem zij {w':World} {p:Nat} {a0 a1 a2 a3 a4 a5 a6 a7 a8 a9:Value} (hB:Bk w' p #[a0,a1,a2,a3,a4,a5,a6,a7,a8,a9]) (tmps:Array Value) (t4:tmps[4]? =some (.pointer (some ⟨p,0,none⟩))):(results Tryz.f47 tmps).run Tryz.prog w'=.ok (.agg #[a0,a1,a2,a3,a4,a5,a6,a7,a8,a9]) w':=by
 have c0:=hB.cell 0;have c1:=hB.cell 1;have c2:=hB.cell 2;have c3:=hB.cell 3;have c4:=hB.cell 4;have c5:=hB.cell 5;have c6:=hB.cell 6;have c7:=hB.cell 7;have c8:=hB.cell 8;have c9:=hB.cell 9;simp[results,Tryz.results47,go_sem,t4,c0,c1,c2,c3,c4,c5,c6,c7,c8,c9]
def set10 (w:World) (p:Nat) (a0 a1 a2 a3 a4 a5 a6 a7 a8 a9:Value):World:=(((((((((w.setCell ⟨p,0,none⟩ a0).setCell ⟨p,1,none⟩ a1).setCell ⟨p,2,none⟩ a2).setCell ⟨p,3,none⟩ a3).setCell ⟨p,4,none⟩ a4).setCell ⟨p,5,none⟩ a5).setCell ⟨p,6,none⟩ a6).setCell ⟨p,7,none⟩ a7).setCell ⟨p,8,none⟩ a8).setCell ⟨p,9,none⟩ a9
theorem zhT {w:World} {p:Nat} {z0 z1 z2 z3 z4 z5 z6 z7 z8 z9:Value} (h:Bk w p #[z0,z1,z2,z3,z4,z5,z6,z7,z8,z9]) (a0 a1 a2 a3 a4 a5 a6 a7 a8 a9:Value):Bk (set10 w p a0 a1 a2 a3 a4 a5 a6 a7 a8 a9) p #[a0,a1,a2,a3,a4,a5,a6,a7,a8,a9]:=by
 have:=(((((((((h.set_ 0 a0).set_ 1 a1).set_ 2 a2).set_ 3 a3).set_ 4 a4).set_ 5 a5).set_ 6 a6).set_ 7 a7).set_ 8 a8).set_ 9 a9;unfold set10;simpa using this
theorem zda {w:World} {p:Nat} (a0 a1 a2 a3 a4 a5 a6 a7 a8 a9:Value):Keeps (λ k=>k=p) w (set10 w p a0 a1 a2 a3 a4 a5 a6 a7 a8 a9):=by
 unfold set10;exact ((((((((((Keeps.refl (λ k=>k=p) w).setCell (p:=⟨p,0,none⟩) (.inl rfl) _).setCell (p:=⟨p,1,none⟩) (.inl rfl) _).setCell (p:=⟨p,2,none⟩) (.inl rfl) _).setCell (p:=⟨p,3,none⟩) (.inl rfl) _).setCell (p:=⟨p,4,none⟩) (.inl rfl) _).setCell (p:=⟨p,5,none⟩) (.inl rfl) _).setCell (p:=⟨p,6,none⟩) (.inl rfl) _).setCell (p:=⟨p,7,none⟩) (.inl rfl) _).setCell (p:=⟨p,8,none⟩) (.inl rfl) _).setCell (p:=⟨p,9,none⟩) (.inl rfl) _
end
def BEnd (w0 wr:World) (Q:Nat) (L:List UInt8) (m:Nat) (r:Except Nat (Nat × List UInt8 × List Inf.Blk)):Prop:=
 (∃a x out bl,BGo w0 wr Q (bs (Bts.allB L)) a 0 x m out (tksB bl)/\.ok (a,out,bl)=r/\(a<=8*L.length/\out.length<=m)/\x 9=.int .i64 (bl.length:Int)/\LastB w0.heap.size wr x bl/\SL x)\/
 ∃c a x,Bk wr Q (qc (bs (Bts.allB L)) a (c+1) x)/\Keeps (λ k=>k=Q) w0 wr/\.error c=r
def BSt (w0 wr:World) (Q:Nat) (L:List UInt8) (m:Nat) (r:Except Nat (Nat × List UInt8 × List Inf.Blk)) (last k:Nat):Prop:=
 (∃a x out bl,last=0/\BGo w0 wr Q (bs (Bts.allB L)) a 0 x m out (tksB bl)/\Inf.zaE L m k a out bl=r/\(a<=8*L.length/\8*L.length-a<k/\out.length<=m/\(tksB bl).length<=a/\bl.length<=a)/\x 9=.int .i64 (bl.length:Int)/\SL x)\/
 (∃a x out bl,last=1/\k=0/\BGo w0 wr Q (bs (Bts.allB L)) a 0 x m out (tksB bl)/\.ok (a,out,bl)=r/\(a<=8*L.length/\out.length<=m)/\x 9=.int .i64 (bl.length:Int)/\LastB w0.heap.size wr x bl/\SL x)\/
 ∃c a x,last<2/\k=0/\Bk wr Q (qc (bs (Bts.allB L)) a (c+1) x)/\Keeps (λ k=>k=Q) w0 wr/\.error c=r
theorem BSt.next {w0 wr:World} {Q:Nat} {L:List UInt8} {m:Nat} {r:Except Nat (Nat × List UInt8 × List Inf.Blk)} {last F a a1:Nat} {x:Nat->Value} {out out1:List UInt8} {bl:List Inf.Blk} {b:Inf.Blk} (hl:last<2) (hF:0<F) (hr:Inf.zaE L m F a out bl=r) (ha:8*L.length-a<F) (ho:out.length<=m) (hb:Inf.block L m a out=.ok (last,a1,out1,b))
  (hbl:bl.length<=a) (h1:a1<=8*L.length) (hG:BGo w0 wr Q (bs (Bts.allB L)) a1 0 x m out1 (tksB (bl ++ [b]))) (ht:(tksB (bl ++ [b])).length<=a1) (h9:x 9=.int .i64 ((bl.length:Int)+1)) (hL:LastB w0.heap.size wr x (bl ++ [b])) (hS:SL x):∃F2,F2<F/\BSt w0 wr Q L m r last F2:=by
 have hg:=Inf.zdQ ho hb;have e9:x 9=.int .i64 (((bl ++ [b]).length:Nat):Int):=by rw[h9];simp
 by_cases h0:last=1
 ·subst h0;exact⟨0,hF,.inr (.inl ⟨a1,x,out1,_,rfl,rfl,hG,(Inf.zeK hF hr hb).symm,⟨h1,hg.2⟩,e9,hL,hS⟩)⟩
 obtain⟨F2,e1,e2⟩:=Inf.zgB hF hr hb h0;exact⟨F2,by omega,.inl ⟨a1,x,out1,_,by omega,hG,e2,⟨h1,by omega,hg.2,ht,by rw[qaa];simp;omega⟩,e9,hS⟩⟩
def zfK (w':World) (r:Except Nat (List UInt8 × Nat × List Inf.Blk)) (v:Value):Prop:=
 match r with
 | .error c=>v=.agg #[.string ⟨#[]⟩,.int .i64 0,.int .i64 ((c+1:Nat):Int),.slice none 0 0,.slice none 0 0,.slice none 0 0,.slice none 0 0,.int .i64 0,.int .i64 0,.slice none 0 0]
 | .ok (out,used,bl)=>∃x lo,v=.agg #[.string (tb out),.int .i64 (used:Int),.int .i64 0,x 5,x 6,x 7,x 8,x 9,x 10,x 11]/\x 9=.int .i64 (bl.length:Int)/\LastB lo w' x bl/\w'.ownsRow 0 165 3 (x 11) (tksB bl).length (tokV (tksB bl))/\SL x
set_option maxHeartbeats 8000000 in
theorem zg1 (s:ByteArray) (most:Int) (w:World) (hs:s.size<=maxLen):
  Calls Tryz.prog 47 #[.string s,.int .i64 most] w λ e w'=>(∃v,e=.returned v/\zfK w' (Inf.infl s most) v)/\Ext w w':=by
 unfold maxLen at hs;obtain⟨r,hr⟩:=nmE (Inf.infl s most);rw[hr];unfold Inf.infl at hr;obtain⟨p,hp⟩:=nmE (w.heap.size);have HP:=Hd hp;by_cases hb:most<0\/300000<most\/300000<s.size
 ·rw[qad hb] at hr;have HR:=Hd hr;clear hr hp;go_enter Tryz.func47,Tryz.ntmps47
  by_cases h0:most<0
  ·have t0:decide (most<0)=true:=qae h0;exact Ygo0
  have t0:decide (most<0)=false:=qaf h0;by_cases h1:300000<most
  ·have t1:decide (300000<most)=true:=qae h1;exact Ygo0
  have h2:300000<s.size:=by omega
  have h2I:(300000:Int)<(s.size:Int):=by omega
  have t1:decide (300000<most)=false:=qaf h1;have t2:decide ((300000:Int)<(s.size:Int))=true:=qae h2I;clear hb;exact Ygo0
 rw[qac hb] at hr;obtain⟨m,rfl⟩:∃m:Nat,most=m:=⟨most.toNat,by omega⟩;have hm:m<=300000:=by omega
 have hsz:s.size<=300000:=by omega
 rw[qbm] at hr;have HR:=Hd hr;obtain⟨L,hLd⟩:=nmE (s.data.toList);have hL:L.length<=300000:=by rw[<- hLd,zag];exact hsz
 have HL:=Hd hLd;obtain⟨r0,hr0⟩:=nmE (Inf.zaE L m (8*L.length+1) 0 [] []);have HR0:=Hd hr0;have HBt:=Hd (λ w=>znq s w (by omega));rw[hLd] at HBt;clear hr hp hr0 hLd;have t0:=dF (p:=(m:Int)<0);have t1:=dF (p:=300000<(m:Int));have t2:=dF (p:=(300000:Int)<(s.size:Int));have n1:¬ 300000<m:=by omega
 have n2:¬ 300000<s.size:=by omega
 clear hb;go_enter Tryz.func47,Tryz.ntmps47
 go_wp2_with fail;clear t0 t1 t2 n1 n2;rw[HP.out];refine zaM (λ wz=>Ext w wz/\Bk wz p #[.string ⟨#[]⟩,.int .i64 0,.int .i64 0,.slice none 0 0,.slice none 0 0,.slice none 0 0,.slice none 0 0,.int .i64 0,.int .i64 0,.slice none 0 0]) ⟨(Ext.refl w).alloc _,Bk.at HP.out⟩ ?_;rintro w1 ⟨hX,hZ⟩;refine (HBt.out w1).mono ?_;rintro e w2 ⟨rfl,h2⟩;have HX:=Hd (hX.trans h2);have HZ:=Hd (hZ.ext h2);clear hX hZ h2;have hmk:=λ w=>qbR (P:=Tryz.prog) 127 9 (.string ⟨#[]⟩) 16 Tryz.underlying127 zjV rfl .i64 .i64 32 (by omega) (by omega) w;simp only[show ((32:Nat):Int)=32 from rfl] at hmk;obtain⟨T,hT⟩:=nmE (bs (Bts.allB L));rw[hT];have HT:=Hd hT;clear hT;go_upto_block 0 with fail;clear hmk;obtain⟨Q,hQ⟩:=nmE (w2.heap.size);have hpQ:p<Q:=by rw[<- hQ];exact HZ.out.lt
 refine zac (λ wz=>Hid (Ext w2 wz)/\Hid (Bk wz Q (qc T 0 0 (rx0 m)))/\Hid (Cv wz (Q+1) 32 (λ _=>.string ⟨#[]⟩))) ⟨Hd (((Ext.refl w2).alloc _).alloc _),Hd (Bk.old (Bk.at hQ)),Hd (by subst hQ;have h:=Cv.made (w2.alloc (.cells (qc T 0 0 (rx0 m)) 126)) 32 (.string ⟨#[]⟩) 9;rw[qb8] at h;exact h)⟩ ?_;rw[hQ];rintro w3 ⟨HX3,HB3,HF3⟩;have HQ:=Hd hQ;clear hQ;go_wp2_with fail;go_loopw [7] (λ z wr=>∃i:Nat,i<=32/\z=.int .i64 i/\Hid (Keeps (λ k=>k=Q+1) w3 wr)/\Hid (Cv wr (Q+1) 32 (λ j=>if j<i then .string (bs (Bts.high j 5)) else .string ⟨#[]⟩))) (λ z _=>32-(intOf z).toNat)
 case atStart=>exact⟨0,by omega,rfl,Hd (Keeps.refl _ _),Hd (HF3.out.congr (λ j _=>by rw[qac (by omega)]))⟩
 case round=>
  clear HF3;obtain⟨i,hi,rfl,HK,HF⟩:=hrel;by_cases hlt:i<32
  ·have wk:∀z,z=(i:Int)->IntKind.u32.wrap z=z:=by rintro _ rfl;unfold IntKind.wrap;simp[IntKind.bits,IntKind.signed];omega
   have hkm:(i:Int)%4294967296=(i:Int):=by omega
   have hi0:(0:Int)<=(i:Int):=by omega
   have hiI:(i:Int)<32:=by omega
   go_wp2_with fail;refine (zhK i 5 (by omega) (by omega) _).mono ?_;rintro e w5 ⟨rfl,h5⟩;have HK5:=Hd (HK.out.trans (h5.keeps (S:=λ k=>k=Q+1)) (λ _ _ q=>q));have HF5:=Hd (HF.out.ext h5);clear h5 HK HF wk hkm;have hc:=(HF5.out i hlt).1;have hf:=(HF5.out i hlt).2;have HF6:=Hd (HF5.out.put i (.string (bs (Bts.high i 5))) (λ j=>if j<i+1 then .string (bs (Bts.high j 5)) else .string ⟨#[]⟩) hlt (λ j _=>by
    by_cases h:j=i
    ·subst h;rw[qad (by omega),qad rfl]
    rw[qac h];by_cases h2:j<i
    ·rw[qad (by omega),qad h2]
    rw[qac (by omega),qac h2]))
   have HK6:=Hd (HK5.out.setCell (p:=⟨Q+1,i,none⟩) (.inl rfl) (.string (bs (Bts.high i 5))));clear HK5 HF5;have wi:=wqz (x:=(i:Int)+1);go_wp2_with fail;go_roundw
   case rel=>exact⟨i+1,by omega,by go_num,HK6,HF6⟩
   case measure=>simp[intOf];omega
  obtain rfl:i=32:=by omega
  have HB:=Hd (HB3.out.keeps HK.out (by omega));have HZ2:=Hd ((HZ.out.ext HX3.out).keeps HK.out (by omega));have HX2:Hid (Ext w wr):=Hd (Below.trans (HX.out.trans HX3.out) (HK.out.below (HX.out.trans HX3.out).size (λ k hk e=>by have:=HX.out.size;have:=HQ.out;omega)));have HV:Hid (Cw wr Q (.slice (some ⟨Q+1,0,none⟩) 32 32) Inf.fiveF 32):=Hd ⟨Inf.zcs,Q+1,32,rfl,by omega,HF.out.congr (λ j hj=>by rw[qad hj,Inf.zd6 j hj];rfl)⟩;have hQs:Q<wr.heap.size:=HB.out.lt;have hVs:Q+1<wr.heap.size:=qab wr _ (HF.out 0 (by decide)).1;clear HB3 HX3 HK HF HX HZ;go_upto_block 2 with fail;refine zac (λ wz=>Hid (Ext w wz)/\Hid (Bk wz p #[.string ⟨#[]⟩,.int .i64 0,.int .i64 0,.slice none 0 0,.slice none 0 0,.slice none 0 0,.slice none 0 0,.int .i64 0,.int .i64 0,.slice none 0 0])/\Hid (Bk wz Q (qc T 0 0 (rx0 m)))/\Hid (Cw wz Q (.slice (some ⟨Q+1,0,none⟩) 32 32) Inf.fiveF 32)/\Hid (Q+1<wz.heap.size)) ⟨HX2,HZ2,HB,HV,Hd hVs⟩ ?_;clear HX2 HZ2 HB HV hVs hQs hlt;rintro w0 ⟨HX,HZ,HB,HV,HS⟩;have HE0:Hid (BGo w0 w0 Q (bs (Bts.allB L)) 0 0 (rx0 m) m [] (tksB [])):=Hd ⟨by rw[HT.out];exact HB.out,rfl,qaK _ _ _ _,qaK _ _ _ _,(λ k q=>by cases q),Keeps.refl _ _,HB.out.lt,(λ k q=>by cases q),(λ k q=>by cases q)⟩;clear HB;go_cut [] (λ wx=>Hid (BEnd w0 wx Q L m r0))
  case first=>
   go_wp2_with fail;go_loopg [8] (8*L.length+1) (λ k z wr=>∃last F:Nat,z=.int .i64 (last:Int)/\Hid (BSt w0 wr Q L m r0 last F)/\Hid (F=k))
   case atStart=>exact⟨0,8*L.length+1,rfl,Hd (.inl ⟨0,rx0 m,[],[],rfl,HE0.out,HR0.out,⟨by omega,by omega,by simp,by simp[tksB,Inf.tksOf],by simp⟩,rfl,⟨_,_,_,rfl⟩,⟨_,_,_,rfl⟩,⟨_,_,_,rfl⟩,⟨_,_,_,rfl⟩,_,rfl⟩),Hd rfl⟩
   case round=>
    clear HE0;obtain⟨last,F,rfl,HST,HK⟩:=hrel;rcases HST.out with⟨a,x,out,bl,rfl,hG,hq,⟨b1,b2,b3,b4,b5⟩,h9,hsl⟩ | ⟨a,x,out,bl,rfl,hk0,hG,hq,hb,h9,hl,hsl⟩ | ⟨c,a,x,hl2,hk0,hB,hk,hq⟩
    ·have H_0:=Hd hG;have HQB:=Hd hq;have HF0:Hid (0<F):=Hd (by omega);have HBD:=Hd (qaB b2 (qaB b3 (qaB b4 b5)));have H9:=Hd h9;have hbl:bl.length<=3000000:=by omega
     have hal:=b1;have HSL:=Hd hsl;clear hsl hG hq b1 b2 b3 b4 b5 h9 HST;go_wp2_with fail;refine rokT H_0.out.bk ?_;go_wp2_with fail;cases hg1:Inf.get L 1 a with
     | error c=>
      obtain rfl:=(Inf.zaL hg1).1;have HQ:=Hd (Inf.znL (most:=m) (out:=out) hg1);refine (zao Q a 0 1 L x _ H_0.out.bk (by omega) (by omega) hL).mono ?_;rintro r9 w_1 ⟨hK,hP⟩;rw[qad rfl,hg1] at hP;obtain⟨rfl,hB⟩:=hP;have H_1:=Hd (H_0.out.quiet hK hB rfl rfl rfl);clear H_0 hK hB;clear hg1;go_wp2_with fail;refine (zao Q a (0+1) 2 L x _ H_1.out.bk (by omega) (by omega) hL).mono ?_;rintro r9 w_2 ⟨hK,hP⟩;rw[qac (by omega)] at hP;obtain⟨rfl,hB⟩:=hP;have H_2:=Hd (H_1.out.quiet hK hB rfl rfl rfl);clear H_1 hK hB;exact Ygo1
     | ok q=>
      obtain⟨last,a1⟩:=q;obtain⟨z1,z2,z3,z4⟩:=Inf.zax hg1;clear z4;have hl2:last<2:=z3;have hal1:a1<=8*L.length:=by omega
      have HA1:Hid (a<a1):=Hd (by omega);clear z1 z2 z3;have HG1:=Hd hg1;refine (zao Q a 0 1 L x _ H_0.out.bk (by omega) (by omega) hL).mono ?_;rintro r9 w_1 ⟨hK,hP⟩;rw[qad rfl,hg1] at hP;obtain⟨rfl,hB⟩:=hP;have H_1:=Hd (H_0.out.quiet hK hB rfl rfl rfl);clear H_0 hK hB;clear hg1;go_wp2_with fail;cases hg2:Inf.get L 2 a1 with
      | error c=>
       obtain rfl:=(Inf.zaL hg2).1;have HQ:=Hd (Inf.zn5 (most:=m) (out:=out) HG1.out hg2);refine (zao Q a1 0 2 L x _ H_1.out.bk (by omega) (by omega) hL).mono ?_;rintro r9 w_2 ⟨hK,hP⟩;rw[qad rfl,hg2] at hP;obtain⟨rfl,hB⟩:=hP;have H_2:=Hd (H_1.out.quiet hK hB rfl rfl rfl);clear H_1 hK hB;clear hg2;exact Ygo1
      | ok q=>
       obtain⟨kind,a2⟩:=q;obtain⟨z1,z2,z3,z4⟩:=Inf.zax hg2;clear z4;have hk4:kind<4:=z3;have hal2:a2<=8*L.length:=by omega
       have HA2:Hid (a<a2):=Hd (by have:=HA1.out;omega);clear z1 z2 z3;have HG2:=Hd hg2;refine (zao Q a1 0 2 L x _ H_1.out.bk (by omega) (by omega) hL).mono ?_;rintro r9 w_2 ⟨hK,hP⟩;rw[qad rfl,hg2] at hP;obtain⟨rfl,hB⟩:=hP;have H_2:=Hd (H_1.out.quiet hK hB rfl rfl rfl);clear H_1 hK hB;clear hg2;go_wp2_with fail;refine rokT H_2.out.bk ?_;have c9:w_2.cell? ⟨Q,9,none⟩=some (.int .i64 (bl.length:Int)):=(H_2.out.bk.cell 9).trans (congrArg some H9.out);have f9:=H_2.out.bk.frozen 9;have c10:w_2.cell? ⟨Q,10,none⟩=some (x 10):=H_2.out.bk.cell 10;have f10:=H_2.out.bk.frozen 10;obtain⟨nb,hnb⟩:=nmE (bl.length);rw[hnb] at c9;have wnb:=wqz (x:=(nb:Int)+1);have HNB:=Hd hnb;clear hnb;go_upto_block 4 with fail;clear c9 f9 c10 f10 wnb;obtain⟨x2,hx2⟩:=nmE (xset (xset x 9 (.int .i64 ((nb:Int)+1))) 10 (.int .i64 (kind:Int)));have HX2:Hid (x2 9=.int .i64 ((nb:Int)+1)/\x2 10=.int .i64 (kind:Int)):=Hd (by rw[<- hx2];exact⟨rfl,rfl⟩);have HSL2:Hid (SL x2):=Hd (by rw[<- hx2];obtain⟨s5,s6,s7,s8,_⟩:=HSL.out;exact⟨s5,s6,s7,s8,_,rfl⟩);refine zac (λ wz=>Hid (BGo w0 wz Q (bs (Bts.allB L)) a2 0 x2 m out (tksB bl))) (Hd (H_2.out.quiet (((Keeps.refl (λ k=>k=Q) _).setCell (p:=⟨Q,9,none⟩) (.inl rfl) _).setCell (p:=⟨Q,10,none⟩) (.inl rfl) _) (by rw[<- hx2];exact (H_2.out.bk.putx 9 (by simp) _).putx 10 (by simp) _) (by rw[<- hx2];rfl) (by rw[<- hx2];rfl) (by rw[<- hx2];rfl))) ?_;rintro w_3 H_3
       clear H_2 hx2;obtain rfl | rfl | rfl | rfl:kind=0\/kind=1\/kind=2\/kind=3:=by omega
       ·go_wp2_with fail;refine (ziA Q a2 m L x2 (x2 2) out _ H_3.out.qgo H_3.out.x3 hal2 hL hm HBD.out.2.1).mono ?_;rintro r9 w_s ⟨rfl,hP⟩;cases hs:Inf.stored L m a2 out with
        | error c=>
         rw[hs] at hP;obtain⟨a3,x3,vo3,out3,hq,hx⟩:=hP;have HQ:=Hd (Inf.zms HG1.out HG2.out hs);have H9b:=Hd (H_3.out.ofQ hq (λ i h2 _ _=>hx i h2));clear hs hq hx;(try go_wp2_with fail);exact Ygo4
        | ok q=>
         obtain⟨a3,out3⟩:=q;rw[hs] at hP;obtain⟨x3,vo3,hq,hx⟩:=hP;have HB:=Hd (Inf.zmQ HG1.out HG2.out hs);have hgr:=(Inf.zeB hs).1;have hen:=Inf.zkN hs;have hG3:=H_3.out.ofQ hq (λ i h2 _ _=>hx i h2);have e9:x3 9=.int .i64 ((bl.length:Int)+1):=by rw[hx 9 (by decide),HX2.out.1,HNB.out]
         have e10:x3 10=.int .i64 ((0:Nat):Int):=by rw[hx 10 (by decide),HX2.out.2]
         have hsl3:SL x3:=by obtain⟨s5,s6,s7,s8,s9⟩:=HSL2.out;unfold SL;rw[hx 5 (by decide),hx 6 (by decide),hx 7 (by decide),hx 8 (by decide),hx 10 (by decide)];exact⟨s5,s6,s7,s8,s9⟩
         have et:tksB (bl ++ [⟨0,[],[],[]⟩])=tksB bl:=by rw[zeb];simp[Inf.tksOf]
         have hN:=BSt.next hl2 HF0.out HQB.out HBD.out.1 HBD.out.2.1 HB.out HBD.out.2.2.2 hen (by rw[et];exact hG3) (by rw[et];have:=HBD.out;have:=HA2.out;omega) e9 (λ b hb=>by rw[List.getLast?_concat] at hb;injection hb with hb;subst hb;exact⟨e10,λ h=>absurd h (by decide)⟩) hsl3;clear hs hq hx hgr hen hG3 e9 e10 et hsl3;exact Ygo5
       ·go_wp2_with fail;refine (zkA _).mono ?_;rintro r9 w_f ⟨CF,rfl,hCF,hIF,hXF⟩;have H_4:=Hd (H_3.out.ext hXF);have HIF:=Hd hIF;clear H_3 hIF hXF hCF;go_wp2_with fail;refine (zeI (some ⟨CF,0,none⟩) 288 288 Inf.fixF _ HIF.out Inf.zbr.1 Inf.zbr.2).mono ?_;rintro r9 w_c ⟨⟨C,hC,rfl,hcv⟩,hXC⟩;have HCw:Hid (Cw w_c Q (.slice (some ⟨C,0,none⟩) 288 288) Inf.fixF 288):=Hd ⟨Inf.zbr,C,288,rfl,by have:=H_4.out.bk.lt;omega,hcv⟩;have HCn:Hid ((x2 2).ownBlock≠some C/\(x2 11).ownBlock≠some C):=Hd ⟨λ q=>by have:=zaA H_4.out.row q;omega,λ q=>by have:=zaA H_4.out.trow q;omega⟩;have H_5:=Hd (H_4.out.ext hXC);clear H_4 hC hcv hXC HIF;have HV2:=Hd (HV.out.quiet H_5.out.old);go_wp2_with fail;refine (zfE Q a2 288 32 m Inf.fixF Inf.fiveF L x2 (.slice (some ⟨C,0,none⟩) 288 288) (.slice (some ⟨Q+1,0,none⟩) 32 32) (x2 2) (x2 11) out (tksB bl) _ H_5.out.win H_5.out.x3 HCw.out HV2.out (λ C' l c q=>?ap) hal2 hL hm HBD.out.2.1 (by have:=HBD.out;have:=HA2.out;omega)).mono ?_
        case ap=>
         rcases q with q | q
         ·injection q with q;injection q with q;injection q with q;subst q;exact HCn.out
         injection q with q;injection q with q;injection q with q;subst q;have:=HS.out;exact⟨λ q=>by have:=H_5.out.vn _ q;omega,λ q=>by have:=H_5.out.vtn _ q;omega⟩
        rintro r9 w_w ⟨rfl,hP⟩;cases ht:Inf.toks L m Inf.fixF 288 Inf.fiveF 32 (8*L.length+1) a2 out [] with
        | error c=>
         rw[ht] at hP;obtain⟨a4,B7,B8,vo,vt,out4,tks4,f7,f8,hW⟩:=hP;have HQ:=Hd (Inf.zmO HG1.out HG2.out ht);have H9b:=Hd (H_5.out.ofW hW);exact Ygo2
        | ok q=>
         obtain⟨a4,out4,tr⟩:=q;rw[ht] at hP;obtain⟨B7,B8,vo,vt,hW⟩:=hP;have HB:=Hd (Inf.zgK HG1.out HG2.out ht);have hgr:=(Inf.zc2 _ _ _ _ _ _ _ HBD.out.2.1 ht).1;obtain⟨hen,htl⟩:=Inf.zh3 _ _ _ _ _ _ _ ht;have hG4:=H_5.out.ofW hW;have et:tksB (bl ++ [⟨1,[],[],tr⟩])=tksB bl++Inf.tksOf tr:=zeb _ _;have hle:=Inf.zbC tr;simp at htl;have e9:qx x2 B7 B8 vo vt 9=.int .i64 ((bl.length:Int)+1):=by show x2 9=_;rw[HX2.out.1,HNB.out]
         have hsl3:SL (qx x2 B7 B8 vo vt):=by obtain⟨s5,s6,s7,s8,s9⟩:=HSL2.out;exact⟨s5,s6,⟨_,_,_,rfl⟩,⟨_,_,_,rfl⟩,s9⟩
         have hLast:LastB w0.heap.size w_w (qx x2 B7 B8 vo vt) (bl ++ [⟨1,[],[],tr⟩]):=λ b hb=>by rw[List.getLast?_concat] at hb;injection hb with hb;subst hb;exact⟨HX2.out.2,λ h=>absurd h (by show ¬ (1:Nat)=2;decide)⟩
         have hN:=BSt.next hl2 HF0.out HQB.out HBD.out.1 HBD.out.2.1 HB.out HBD.out.2.2.2 hen (by rw[et];exact hG4) (by rw[et,qaa];have:=HBD.out;have:=HA2.out;omega) e9 hLast hsl3;exact Ygo3
       ·go_wp2_with fail;refine (zoy Q a2 L x2 (x2 2) out _ H_3.out.qgo hal2 hL).mono ?_;rintro r9 w_d hP;cases hd:Inf.dyn L a2 with
        | error c=>
         rw[hd] at hP;obtain⟨vs,vd,a3,x3,rfl,hq,hx⟩:=hP;have HQ:=Hd (Inf.zod (most:=m) (out:=out) HG1.out HG2.out hd);have H_4:=Hd (H_3.out.ofQ hq (λ i _ h5 h6=>hx i h5 h6));clear H_3 hd hq hx;go_wp2_with fail;refine (zja Q a3 c (bs (Bts.allB L)) x3 vs vd _ H_4.out.bk).mono ?_;rintro r9 w_w ⟨rfl,x4,hB4,hK4⟩;have HB4:=Hd hB4;have HK4:=Hd (H_4.out.old.trans hK4 (λ _ _ q=>q));clear hB4 hK4;(try go_wp2_with fail);go_roundg 0
         case measure=>have:=HF0.out;have:=HK.out;omega
         case rel=>exact⟨_,0,rfl,Hd (.inr (.inr ⟨c,_,_,hl2,rfl,HB4.out,HK4.out,(Inf.zb9 HF0.out HQB.out HQ.out).symm⟩)),Hd rfl⟩
        | ok q=>
         obtain⟨l,d,a3⟩:=q;rw[hd] at hP;obtain⟨vs,vd,x3,pp,c,qq,b,rfl,hq,hx,hCs,hCd,hNs,hNd,x5,x6,hIs,hId,hps,hqs⟩:=hP;have HDY:=Hd hd;have hal3:=Inf.zpz hd;have hgd:=Inf.zhH hd;have HA3:Hid (a<a3):=Hd (by have:=HA2.out;omega);have HO:Hid (∀C,w_3.heap.size<=C->(x2 2).ownBlock≠some C/\(x2 11).ownBlock≠some C):=Hd (λ C hC=>⟨λ q=>by have:=zaA H_3.out.row q;omega,λ q=>by have:=zaA H_3.out.trow q;omega⟩);have HQl:Hid (Q<w_3.heap.size):=Hd H_3.out.bk.lt;have HLO:Hid (w0.heap.size<=w_3.heap.size/\w0.heap.size<=w_d.heap.size):=Hd ⟨H_3.out.old.size,qam H_3.out.old.size hq.step.keeps.size⟩;have HCs:=Hd hCs;have HCd:=Hd hCd;have HNs:=Hd hNs;have HNd:=Hd hNd;have HI5:=Hd (qaB x5 (qaB x6 (qaB hIs (qaB hId (qaB hps hqs)))));have HQx:=Hd hq.x2;have H11:Hid (x3 11=x2 11):=Hd (hx 11 (by decide) (by decide));have HX3:Hid (x3 9=.int .i64 ((nb:Int)+1)/\x3 10=.int .i64 ((2:Nat):Int)):=Hd (by rw[hx 9 (by decide) (by decide),hx 10 (by decide) (by decide)];exact HX2.out);have H_4:=Hd (H_3.out.ofQ hq (λ i _ h5 h6=>hx i h5 h6));clear H_3 hd hq hx hCs hCd hNs hNd x5 x6 hIs hId hps hqs hgd;go_wp2_with fail;refine (zfE Q a3 l.length d.length m (Inf.fn l) (Inf.fn d) L x3 vs vd (x3 2) (x3 11) out (tksB bl) _ H_4.out.win H_4.out.x3 HCs.out HCd.out (λ C' l' c' q=>?ap) hal3 hL hm HBD.out.2.1 (by have:=HBD.out;have:=HA3.out;omega)).mono ?_
         case ap=>
          have hC':w_3.heap.size<=C':=by rcases q with q | q;exact HNs.out _ _ _ q;exact HNd.out _ _ _ q
          rw[HQx.out,H11.out];exact HO.out C' hC'
         rintro r9 w_w ⟨rfl,hP⟩;cases ht:Inf.toks L m (Inf.fn l) l.length (Inf.fn d) d.length (8*L.length+1) a3 out [] with
         | error c=>
          rw[ht] at hP;obtain⟨a4,B7,B8,vo,vt,out4,tks4,f7,f8,hW⟩:=hP;have HQ:=Hd (Inf.zlO HG1.out HG2.out HDY.out ht);have H9b:=Hd (H_4.out.ofW hW);exact Ygo2
         | ok q=>
          obtain⟨a4,out4,tr⟩:=q;rw[ht] at hP;obtain⟨B7,B8,vo,vt,hW⟩:=hP;have HB:=Hd (Inf.zlu HG1.out HG2.out HDY.out ht);have hgr:=(Inf.zc2 _ _ _ _ _ _ _ HBD.out.2.1 ht).1;obtain⟨hen,htl⟩:=Inf.zh3 _ _ _ _ _ _ _ ht;have hG4:=H_4.out.ofW hW;have et:tksB (bl ++ [⟨2,l,d,tr⟩])=tksB bl++Inf.tksOf tr:=zeb _ _;have hle:=Inf.zbC tr;simp at htl;have e9:qx x3 B7 B8 vo vt 9=.int .i64 ((bl.length:Int)+1):=by show x3 9=_;rw[HX3.out.1,HNB.out]
          have hsl3:SL (qx x3 B7 B8 vo vt):=by obtain⟨e5,e6,_⟩:=HI5.out;exact⟨⟨_,_,_,e5⟩,⟨_,_,_,e6⟩,⟨_,_,_,rfl⟩,⟨_,_,_,rfl⟩,_,HX3.out.2⟩
          have hLast:LastB w0.heap.size w_w (qx x3 B7 B8 vo vt) (bl ++ [⟨2,l,d,tr⟩]):=λ b9 hb=>by
           rw[List.getLast?_concat] at hb;injection hb with hb;subst hb;obtain⟨e5,e6,i5,i6,p5,p6⟩:=HI5.out;have hO:=λ C hC=>(by rw[HQx.out,H11.out];exact HO.out C hC:(x3 2).ownBlock≠some C/\(x3 11).ownBlock≠some C);have hQl:=HQl.out;have hlo:=HLO.out;refine⟨HX3.out.2,λ _=>⟨pp,c,qq,b,B7,B8,e5,e6,rfl,rfl,i5.on hW.keeps (λ a e=>?_),i6.on hW.keeps (λ a e=>?_),hW.c7,hW.c8,by omega,by omega,by have:=hW.n78;omega,by have:=hW.n78;omega⟩⟩
           ·injection e with e;subst e;rintro (r | r | r);omega;exact (hO _ p5).1 r;exact (hO _ p5).2 r
           injection e with e;subst e;rintro (r | r | r);omega;exact (hO _ p6).1 r;exact (hO _ p6).2 r
          have hN:=BSt.next hl2 HF0.out HQB.out HBD.out.1 HBD.out.2.1 HB.out HBD.out.2.2.2 hen (by rw[et];exact hG4) (by rw[et,qaa];have:=HBD.out;have:=HA3.out;omega) e9 hLast hsl3;exact Ygo3
       have HQ:=Hd (Inf.zoz (most:=m) (out:=out) HG1.out HG2.out (by omega));go_wp2_with fail;refine (zap Q a2 0 1 (bs (Bts.allB L)) x2 _ H_3.out.bk).mono ?_;rintro r9 w_f ⟨rfl,hB,hK⟩;rw[show fl 0 1=1 from rfl] at hB;have HB:=Hd hB;have HK2:=Hd (H_3.out.old.trans hK (λ _ _ q=>q));clear hB hK;(try go_wp2_with fail);go_roundg 0
       case measure=>have:=HF0.out;have:=HK.out;omega
       case rel=>exact⟨_,0,rfl,Hd (.inr (.inr ⟨0,_,_,hl2,rfl,HB.out,HK2.out,(Inf.zb9 HF0.out HQB.out HQ.out).symm⟩)),Hd rfl⟩
    ·have HQ:Hid (BEnd w0 wr Q L m r0):=Hd (.inl ⟨a,x,out,bl,hG,hq,hb,h9,hl,hsl⟩);clear hG hq hb h9 hl hsl HST;go_wp2_with fail;go_meet
     exact HQ
    have HQ:Hid (BEnd w0 wr Q L m r0):=Hd (.inr ⟨c,a,x,hB,hk,hq⟩);have HB:=Hd hB;clear hB hk hq HST;obtain rfl | rfl:last=0\/last=1:=by omega
    ·go_wp2_with fail;refine rokF HB.out ?_;go_wp2_with fail;go_meet
     exact HQ
    go_wp2_with fail;go_meet
    exact HQ
  have HE:=hcut;clear HE0;have hpn:¬ p=Q:=by omega
  rcases HE.out with⟨a,x,out,bl,hG,hq,⟨b1,b2⟩,h9,hl,hsl⟩ | ⟨c,a,x,hB,hk,hq⟩
  ·have HB:=Hd hG.bk;go_wp2_with fail;refine (zaI Q a 0 (bs (Bts.allB L)) x _ HB.out).mono ?_;rintro r9 w9 ⟨rfl,h9b⟩;have h9s:=h9b.symm;clear h9b;subst h9s;go_wp2_with fail;refine (zgz Q a 0 (bs (Bts.allB L)) x _ HB.out (by omega)).mono ?_;rintro r9 w_a ⟨rfl,hB,hK⟩;have hG2:=hG.quiet hK hB rfl rfl rfl;have HL2:=Hd (hl.keeps hK (λ k q e=>by have:=hG.ql;omega));obtain⟨used,hu⟩:=nmE ((a+7)/8);rw[hu] at hG2 hB;have hub:used<=300000:=by omega
   have HRr:Hid (r=.ok (out,used,bl)):=Hd (by rw[<- HR.out,HL.out];unfold Inf.inf;rw[HR0.out,<- hq];simp only[hu]);have HG:=Hd hG2;have H9:=Hd h9;have HSLx:=Hd hsl;obtain⟨⟨p5,n5,u5,e5⟩,⟨p6,n6,u6,e6⟩,⟨p7,n7,u7,e7⟩,⟨p8,n8,u8,e8⟩,⟨k10,e10⟩⟩:=hsl;have HEs:=Hd (qaB e5 (qaB e6 (qaB e7 (qaB e8 e10))));clear e5 e6 e7 e8 e10 hG hG2 hq h9 hl HB hK hB HE hu;have HZa:=Hd (HZ.out.keeps HG.out.old hpn);have HXa:Hid (Ext w w_a):=Hd (Below.trans HX.out (HG.out.old.below HX.out.size (λ k hk e=>by have:=HP.out;omega)));obtain⟨Lo,hLo⟩:=nmE (out.length);have hro:=HG.out.row;rw[hLo] at hro;obtain⟨xo,co,hxo⟩:=zam hro;have hcr:(convert 62 9 (.slice xo Lo co)).run Tryz.prog w_a.drew=.ok (.string (tb out)) w_a.drew:=by rw[<- hxo];exact ze1 hLo hro.drew
   have hrt:=HG.out.trow;obtain⟨tn,htn⟩:=nmE ((tksB bl).length);rw[htn] at hrt;obtain⟨xt,ct,hxt⟩:=zam hrt;have HT11:=Hd hxt;have c1:w_a.drew.cell? ⟨Q,1,none⟩=some (.int .i64 ((used*8:Nat):Int)):=HG.out.bk.cell 1;have c2:w_a.drew.cell? ⟨Q,2,none⟩=some (.slice xo Lo co):=(HG.out.bk.cell 2).trans (congrArg some hxo);have c5:w_a.drew.cell? ⟨Q,5,none⟩=some (.slice p5 n5 u5):=(HG.out.bk.cell 5).trans (congrArg some HEs.out.1);have c6:w_a.drew.cell? ⟨Q,6,none⟩=some (.slice p6 n6 u6):=(HG.out.bk.cell 6).trans (congrArg some HEs.out.2.1);have c7:w_a.drew.cell? ⟨Q,7,none⟩=some (.slice p7 n7 u7):=(HG.out.bk.cell 7).trans (congrArg some HEs.out.2.2.1);have c8:w_a.drew.cell? ⟨Q,8,none⟩=some (.slice p8 n8 u8):=(HG.out.bk.cell 8).trans (congrArg some HEs.out.2.2.2.1);have c9:w_a.drew.cell? ⟨Q,9,none⟩=some (.int .i64 (bl.length:Int)):=(HG.out.bk.cell 9).trans (congrArg some H9.out);have c10:w_a.drew.cell? ⟨Q,10,none⟩=some (.int .i64 k10):=(HG.out.bk.cell 10).trans (congrArg some HEs.out.2.2.2.2);have c11:w_a.drew.cell? ⟨Q,11,none⟩=some (.slice xt tn ct):=(HG.out.bk.cell 11).trans (congrArg some hxt);have hq8:(used:Int)*8/8=(used:Int):=by omega
   have wu:=wqz (x:=(used:Int));clear hxo hro hLo hrt htn hxt;have HZd:=Hd HZa.out.drew;have HXd:Hid (Ext w w_a.drew):=Hd (qag HXa.out);have HLd:=Hd (HL2.out.keeps (w':=w_a.drew) (Keeps.drew (Keeps.refl (λ _=>False) _)) (λ _ _=>id));have HTd:Hid (w_a.drew.ownsRow 0 165 3 (x 11) (tksB bl).length (tokV (tksB bl))):=Hd HG.out.trow.drew;have HVN:=Hd HG.out.vtn;go_wp2_with fail;refine zbB 39 (by kernel_rfl) (by kernel_rfl) ?_;simp only[qao,qaH,qaw,qaS];refine qY ?_;refine qY ?_;refine qY ?_;refine qY ?_;refine qY ?_;refine qY ?_;refine qY ?_;refine qY ?_;refine qY ?_;refine qY ?_;refine qY ?_;refine qY ?_;refine qY ?_;refine qY ?_;refine qY ?_;refine qY ?_;refine qY ?_;refine qY ?_;refine qY ?_;refine qY ?_;refine qY ?_;refine qY ?_;refine qY ?_;refine qY ?_;refine qY ?_;refine qY ?_;refine qY ?_;refine qY ?_;refine qY ?_;refine qY ?_;refine qY ?_;refine qY ?_;refine qY ?_;refine qY ?_;refine qY ?_;refine qY ?_;refine qY ?_;refine qY ?_;refine qY ?_;refine zaf ?_;clear c1 c2 c5 c6 c7 c8 c9 c10 c11 hcr hq8 wu HG HL2 HZa HXa;generalize w_a.drew=wd at HZd HXd HLd HTd⊢;have k0:=HZd.out.cell 0;have j0:=HZd.out.frozen 0;have k1:=HZd.out.cell 1;have j1:=HZd.out.frozen 1;have k2:=HZd.out.cell 2;have j2:=HZd.out.frozen 2;have k3:=HZd.out.cell 3;have j3:=HZd.out.frozen 3;have k4:=HZd.out.cell 4;have j4:=HZd.out.frozen 4;have k5:=HZd.out.cell 5;have j5:=HZd.out.frozen 5
   have k6:=HZd.out.cell 6;have j6:=HZd.out.frozen 6;have k7:=HZd.out.cell 7;have j7:=HZd.out.frozen 7;have k8:=HZd.out.cell 8;have j8:=HZd.out.frozen 8;have k9:=HZd.out.cell 9;have j9:=HZd.out.frozen 9;go_wp2_with fail;rw[HRr.out];refine qaZ (v:=_) (zij (zhT HZd.out _ _ _ _ _ _ _ _ _ _) _ rfl) rfl ⟨⟨_,rfl,?_⟩,Below.trans HXd.out ((zda _ _ _ _ _ _ _ _ _ _).below HXd.out.size (λ k hk e=>by have:=HP.out;omega))⟩;have KS:=zda (w:=wd) (p:=p) (.string (tb out)) (.int .i64 (used:Int)) (.int .i64 0) (.slice p5 n5 u5) (.slice p6 n6 u6) (.slice p7 n7 u7) (.slice p8 n8 u8) (.int .i64 (bl.length:Int)) (.int .i64 k10) (.slice xt tn ct);have hlo:p<w0.heap.size:=by have:=HS.out;omega
   exact⟨x,w0.heap.size,by rw[HEs.out.1,HEs.out.2.1,HEs.out.2.2.1,HEs.out.2.2.2.1,HEs.out.2.2.2.2,H9.out,HT11.out],H9.out,HLd.out.keeps KS (λ k q e=>by omega),zaa HTd.out KS (λ k q e=>by have:=HVN.out k q;omega),HSLx.out⟩
  have HB:=Hd hB;have HRr:Hid (r=.error c):=Hd (by rw[<- HR.out,HL.out];unfold Inf.inf;rw[HR0.out,<- hq]);have HZa:=Hd (HZ.out.keeps hk hpn);have HXa:Hid (Ext w wc):=Hd (Below.trans HX.out (hk.below HX.out.size (λ k hk e=>by have:=HP.out;omega)));clear hB hk hq HE;go_wp2_with fail;refine rokF HB.out ?_;have c4:wc.cell? ⟨Q,4,none⟩=some (.int .i64 ((c+1:Nat):Int)):=HB.out.cell 4;obtain⟨cc,hcc⟩:∃cc:Nat,c+1=cc:=⟨_,rfl⟩;rw[hcc] at c4;have HCC:=Hd hcc;clear hcc;have k0:=HZa.out.cell 0;have j0:=HZa.out.frozen 0;have k1:=HZa.out.cell 1;have j1:=HZa.out.frozen 1;have k2:=HZa.out.cell 2;have j2:=HZa.out.frozen 2;have k3:=HZa.out.cell 3;have j3:=HZa.out.frozen 3;have k4:=HZa.out.cell 4;have j4:=HZa.out.frozen 4;have k5:=HZa.out.cell 5;have j5:=HZa.out.frozen 5;have k6:=HZa.out.cell 6;have j6:=HZa.out.frozen 6;have k7:=HZa.out.cell 7;have j7:=HZa.out.frozen 7;have k8:=HZa.out.cell 8;have j8:=HZa.out.frozen 8;have k9:=HZa.out.cell 9;have j9:=HZa.out.frozen 9;go_wp2_with fail;rw[HRr.out];refine qaZ (v:=_) (zij (zhT HZa.out _ _ _ _ _ _ _ _ _ _) _ rfl) rfl ⟨⟨_,rfl,?_⟩,Below.trans HXa.out ((zda _ _ _ _ _ _ _ _ _ _).below HXa.out.size (λ k hk e=>by have:=HP.out;omega))⟩;unfold zfK;simp only[HCC.out]
end Go.Proofs.YthlibiocadimhaaGreatDoor
