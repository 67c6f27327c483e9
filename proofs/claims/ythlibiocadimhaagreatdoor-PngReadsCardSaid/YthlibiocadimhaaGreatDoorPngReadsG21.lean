/-
  deflate.dynamic: the memory that it goes through.
  One dynamic block, read: plain laws.
  Packed texts read though something stands behind them: plain laws. No function of the program is named.
  deflate.dynamic: what its writing rests on.
-/
import Derived.Test.YthlibiocadimhaaGreatDoorPngReadsG16
import Derived.Test.YthlibiocadimhaaGreatDoorPngReadsG18
import Derived.Test.YthlibiocadimhaaGreatDoorPngReadsG17
set_option linter.all false
set_option maxRecDepth 100000
namespace Go.Proofs.YthlibiocadimhaaGreatDoor
open Go.RowKit
def lnS (ts:List Tk):Nat->Int:=lenF (λ k=>((Dfl.cntS ts k:Nat):Int)) 286 15
def lnD (ts:List Tk):Nat->Int:=lenF (λ k=>((Dfl.cntD ts k:Nat):Int)) 30 15
theorem zdH (c:Nat->Nat) (len:Nat):(Pkg.used c len).length<=len:=by
 unfold Pkg.used;exact qam (List.length_filter_le _ _) (by simp)
theorem zgm {w:World} {b n:Nat} {s:Nat->Nat} (h:Cs w b n .i64 (λ k=>((s k:Nat):Int))) (hs:∀k,k<n->s k<=1000000):Ints w (some ⟨b,0,none⟩) n (λ k=>((s k:Nat):Int)):=by
 refine⟨λ h=>(by cases h),λ a ha i hi=>?_⟩;injection ha with ha;subst ha;rw[zae];have:=hs i hi;exact⟨(h i hi).1,(by omega:(-9223372036854775808:Int)<=((s i:Nat):Int)),(by omega:((s i:Nat):Int)<=9223372036854775807)⟩
theorem zdd {s:Nat->Nat} {len most:Nat} (h1:len<=300) (h2:1<=most) (h3:most<=15) (hs:∀k,s k<=1048576):zjR (λ k=>((s k:Nat):Int)) len most:=
 ⟨h1,h2,h3,λ j _=>⟨(by omega:(0:Int)<=((s j:Nat):Int)),(by have:=hs j;omega:((s j:Nat):Int)<=1048576)⟩⟩
theorem zgi {s:Nat->Nat} {len most:Nat} (h1:len<=300) (h2:1<=most) (h3:most<=15) (hl:len<=2^most):
  (∀j,j<len->0<=lenF (λ k=>((s k:Nat):Int)) len most j/\lenF (λ k=>((s k:Nat):Int)) len most j<=most/\(0<lenF (λ k=>((s k:Nat):Int)) len most j↔0<s j))/\Inf.good (lenF (λ k=>((s k:Nat):Int)) len most) len:=by
 have h:=zgy (λ k=>((s k:Nat):Int)) len most (λ j _=>(by omega:(0:Int)<=((s j:Nat):Int))) h1 h2 h3 (qam (zdH _ _) hl);refine⟨λ j hj=>?_,h.2.1,h.2.2⟩;obtain⟨a,b,c⟩:=h.1 j hj;exact⟨a,b,c.trans (by constructor <;> (intro q;have q':(0:Int)<((s j:Nat):Int):=by first | exact q | omega) <;> omega)⟩
theorem znR {ts:List Tk}:(∀j,j<286->0<=lnS ts j/\lnS ts j<=15/\(0<lnS ts j↔0<Dfl.cntS ts j))/\Inf.good (lnS ts) 286:=zgi (by decide) (by decide) (by decide) (by decide)
theorem zm9 {ts:List Tk}:(∀j,j<30->0<=lnD ts j/\lnD ts j<=15/\(0<lnD ts j↔0<Dfl.cntD ts j))/\Inf.good (lnD ts) 30:=zgi (by decide) (by decide) (by decide) (by decide)
structure DA (w wr:World) (D Wb:Nat) (la da cb eb:Nat) (f g:Nat->Int):Prop where
 old:Ext w wr
 df:DF wr D Wb ⟨la,0,none⟩ ⟨da,0,none⟩ ⟨cb,0,none⟩ ⟨eb,0,none⟩ 286 286 30 30 286 30 f g
 wb:Bk wr Wb #[.slice none 0 0,.int .i64 0]
 hw:w.heap.size<=Wb
 n1:D≠Wb
 n2:la≠Wb
 n3:da≠Wb
 n4:cb≠Wb
 n5:eb≠Wb
theorem DA.ext {w wr w':World} {D Wb la da cb eb:Nat} {f g:Nat->Int} (h:DA w wr D Wb la da cb eb f g) (hE:Ext wr w'):DA w w' D Wb la da cb eb f g:=
 ⟨h.old.trans hE,h.df.keeps (S:=λ _=>False) hE.keeps id id id id id,h.wb.ext hE,h.hw,h.n1,h.n2,h.n3,h.n4,h.n5⟩
theorem CG.far {w wr:World} {g1 g2:Nat} {s d:Nat->Nat} (h:CG w wr g1 g2 s d) (p:Addr) (hp:w.heap.size<=p.block) (h1:p.block≠g1) (h2:p.block≠g2) (u:Value):CG w (wr.setCell p u) g1 g2 s d:=
 ⟨qaL h.ext hp _,h.o1,h.o2,h.ne,h.c1.other _ _ h1,h.c2.other _ _ h2⟩
theorem Ints.far {w:World} {b n:Nat} {f:Nat->Int} (h:Ints w (some ⟨b,0,none⟩) n f) (p:Addr) (hp:b≠p.block) (u:Value):Ints (w.setCell p u) (some ⟨b,0,none⟩) n f:=
 h.on (Keeps.setCell (S:=λ k=>k=p.block) (Keeps.refl _ _) (.inl rfl) _) (λ a ha q=>by injection ha with ha;subst ha;exact hp q)
structure DB (w z:World) (B D Wb la da cb eb:Nat) (f g:Nat->Int):Prop where
 a:DA w z D Wb la da cb eb f g
 lt:D<B/\la<B/\da<B/\cb<B/\eb<B/\Wb<B
 bz:B<=z.heap.size
 wb:w.heap.size<=B
theorem DB.start {w z:World} {D Wb la da cb eb:Nat} {f g:Nat->Int} (h:DA w z D Wb la da cb eb f g):DB w z z.heap.size D Wb la da cb eb f g:=
 ⟨h,⟨qab z _ h.df.c0,h.df.li.block (by decide),h.df.di.block (by decide),qab z _ (h.df.lw.2 _ rfl 0 (by decide)),qab z _ (h.df.dw.2 _ rfl 0 (by decide)),h.wb.lt⟩,qaj _,h.old.size⟩
theorem DB.keeps {S:Nat->Prop} {w z z':World} {B D Wb la da cb eb:Nat} {f g:Nat->Int} (h:DB w z B D Wb la da cb eb f g) (hk:Keeps S z z') (hS:∀k,S k->B<=k):DB w z' B D Wb la da cb eb f g:=by
 obtain⟨⟨h1,h2,h3,h4,h5,h6,h7,h8,h9⟩,l,bz,wb⟩:=h;obtain⟨l1,l2,l3,l4,l5,l6⟩:=l;exact⟨⟨Below.trans h1 (hk.below (B:=w.heap.size) h1.size (λ k hk q=>by have:=hS k q;have hk':k<w.heap.size:=hk;omega)),h2.keeps hk (λ q=>by have:=hS _ q;omega) (λ q=>by have:B<=la:=hS _ q;omega) (λ q=>by have:B<=da:=hS _ q;omega) (λ q=>by have:B<=cb:=hS _ q;omega) (λ q=>by have:B<=eb:=hS _ q;omega),h3.keeps hk (λ q=>by have:=hS _ q;omega),h4,h5,h6,h7,h8,h9⟩,⟨l1,l2,l3,l4,l5,l6⟩,qam bz hk.size,wb⟩
theorem DB.ext {w z z':World} {B D Wb la da cb eb:Nat} {f g:Nat->Int} (h:DB w z B D Wb la da cb eb f g) (hE:Ext z z'):DB w z' B D Wb la da cb eb f g:=h.keeps (S:=λ _=>False) hE.keeps (λ _ q=>q.elim)
theorem DB.app {w z:World} {B D Wb la da cb eb:Nat} {f g:Nat->Int} (h:DB w z B D Wb la da cb eb f g) {v:Value} {n:Nat} {xs:List Value} (hv:OwnR z B 3 v n xs) {b m M c:Nat} {r:Nat->Int} (hI:Ints z (some ⟨b,0,none⟩) M r) (hm:m<=M) (hn:n+m<=1000):
  ∃v' z',(Builtin.append_ #[88,88] 88 #[v,.slice (some ⟨b,0,none⟩) m c]).run Tryz.prog z=.ok v' z'/\OwnR z' B 3 v' (n+m) (xs++intsV m r)/\DB w z' B D Wb la da cb eb f g:=by
 obtain⟨i0,hi0,hz0,hz1,hz2⟩:∃i,Tryz.prog.info? 3 =some i/\i.zero=some (.int .i64 0)/\i.size=1/\i.bytes=8:=⟨_,rfl,rfl,rfl,rfl⟩;obtain⟨v',z',hr,q2,q3,_,_⟩:=qcH (P:=Tryz.prog) z B 88 88 3 i0 (.int .i64 0) 1 8 Tryz.underlying88 hi0 hz0 hz1 hz2 rfl (by decide) v n xs hv ⟨b,0,none⟩ m c (intsV m r) (by simp[intsV]) (λ j u hj=>by
  have hjm:j<m:=by
   rcases qa8 j m with q | q
   ·exact q
   rw[qba (by simpa [intsV] using q)] at hj;cases hj
  rw[zbc _ _ _ hjm] at hj;injection hj with hj;subst hj;exact (hI.2 _ rfl j (by omega)).1) (by intro u hu;unfold intsV at hu;obtain⟨j,_,rfl⟩:=qcC.1 hu;rfl) (by unfold maxLen;omega) (by omega) h.bz
 exact⟨v',z',hr,q2,h.keeps (Keeps.grown q3) (λ k e=>(qbv hv k e).1)⟩
def rowL (f g:Nat->Int) (many far:Nat):List Nat:=Dfl.rowN f many++Dfl.rowN g far
theorem zdf (f g:Nat->Int) (many far:Nat):(rowL f g many far).length=many+far:=by unfold rowL;rw[qaa,Dfl.zeH,Dfl.zeH]
theorem zjm {f g:Nat->Int} {many far i:Nat} (hi:i<many):(rowL f g many far).getD i 0=(f i).toNat:=by
 unfold rowL Dfl.rowN;rw[List.getD,qbj (by simpa using hi),List.getElem?_map,List.getElem?_range hi];rfl
theorem zjn {f g:Nat->Int} {many far i:Nat} (hi:many<=i) (h2:i<many+far):(rowL f g many far).getD i 0=(g (i-many)).toNat:=by
 unfold rowL Dfl.rowN;rw[List.getD,qbA (by simpa using hi),List.getElem?_map,qcm,List.length_range,List.getElem?_range (by omega)];rfl
theorem zpT {f g:Nat->Int} {many far:Nat} (hf:∀j,j<many->0<=f j/\f j<=15) (hg:∀j,j<far->0<=g j/\g j<=15):∀j,j<many+far->(rowL f g many far).getD j 0<=15:=by
 intro j hj;rcases qa8 j many with q | q
 ·rw[zjm q];have:=hf j q;omega
 rw[zjn q hj];have:=hg (j-many) (by omega);omega
theorem znp {z:World} {B:Nat} {x:Option Addr} {c many far:Nat} {f g:Nat->Int} (h:OwnR z B 3 (.slice x (many+far) c) (many+far) (intsV many f++intsV far g)) (h0:0<many) (hf:∀j,j<many->0<=f j/\f j<=15) (hg:∀j,j<far->0<=g j/\g j<=15):Ints z x (many+far) (Inf.fn (rowL f g many far)):=by
 rcases zah h with⟨q1,q2⟩ | ⟨gb,cap,q⟩
 ·omega
 injection q with q _ _;subst q;refine⟨λ h=>(by cases h),λ a ha i hi=>?_⟩;injection ha with ha;subst ha;rw[zae,World.ownsRow.cellAt h i (by omega)];have hl:(intsV many f).length=many:=by simp[intsV]
 rcases qa8 i many with q | q
 ·have e:Inf.fn (rowL f g many far) i=f i:=by unfold Inf.fn;rw[zjm q];have:=hf i q;omega
  rw[e,qbj (by rw[hl];exact q),zbc _ _ _ q];have:=hf i q;exact⟨rfl,by omega,by omega⟩
 have e:Inf.fn (rowL f g many far) i=g (i-many):=by unfold Inf.fn;rw[zjn q hi];have:=hg (i-many) (by omega);omega
 rw[e,qbA (by rw[hl];exact q),hl,zbc _ _ _ (by omega)];have:=hg (i-many) (by omega);exact⟨rfl,by omega,by omega⟩
theorem zjK {w:World} {b n:Nat} {g:Nat->Nat} (h:Cs w b n .u32 (λ i=>((g i:Nat):Int))):U32s w (some ⟨b,0,none⟩) n g:=by
 refine⟨λ h=>(by cases h),λ a ha i hi=>?_⟩;injection ha with ha;subst ha;rw[zae];exact (h i hi).1
theorem zpK {rs:List Dfl.Rn} {l:List Nat} (h:Dfl.Says [] rs l) (hl:0<l.length):rs≠[]:=by
 rintro rfl;cases h
 simp at hl
def Rnc (z:World) (g:Nat) (rs:List Dfl.Rn):Prop:=∀i r,rs[i]? =some r->z.cell? ⟨g,i*3,none⟩=some (.int .i64 (r.s:Int))/\z.cell? ⟨g,i*3+1,none⟩=some (.int .i64 (r.m:Int))/\z.cell? ⟨g,i*3+2,none⟩=some (.int .i64 (r.b:Int))
theorem Rnc.keeps {S:Nat->Prop} {z z':World} {g:Nat} {rs:List Dfl.Rn} (h:Rnc z g rs) (hk:Keeps S z z') (hS:¬ S g):Rnc z' g rs:=by
 intro i r hr;obtain⟨h1,h2,h3⟩:=h i r hr;have hb:g<z.heap.size:=qab z _ h1;exact⟨(hk.cell (p:=⟨g,i*3,none⟩) hb hS).trans h1,(hk.cell (p:=⟨g,i*3+1,none⟩) hb hS).trans h2,(hk.cell (p:=⟨g,i*3+2,none⟩) hb hS).trans h3⟩
theorem Rnc.ext {z z':World} {g:Nat} {rs:List Dfl.Rn} (h:Rnc z g rs) (hE:Ext z z'):Rnc z' g rs:=h.keeps (S:=λ _=>False) hE.keeps id
theorem zkc:∀(rs:List Dfl.Rn) (i:Nat) (r:Dfl.Rn),rs[i]? =some r->(rnV rs)[i*3]? =some (.int .i64 (r.s:Int))/\(rnV rs)[i*3+1]? =some (.int .i64 (r.m:Int))/\(rnV rs)[i*3+2]? =some (.int .i64 (r.b:Int))
 | [],i,r,h=>by simp at h
 | a ::rs,0,r,h=>by
  simp at h;subst h;exact⟨rfl,rfl,rfl⟩
 | a ::rs,i+1,r,h=>by
  have ih:=zkc rs i r (by simpa using h);have e:rnV (a ::rs)=[.int .i64 (a.s:Int),.int .i64 (a.m:Int),.int .i64 (a.b:Int)]++rnV rs:=rfl;rw[e,show (i+1)*3=i*3+3 by omega];exact ih
theorem RR.cells {w z:World} {v:Value} {rs:List Dfl.Rn} (h:RR w z v rs) (h0:rs≠[]):∃g c,v=.slice (some ⟨g,0,none⟩) rs.length c/\w.heap.size<=g/\Rnc z g rs:=by
 have hp:0<rs.length:=List.length_pos_iff.2 h0;rcases zah h.row with⟨_,q⟩ | ⟨g,c,rfl⟩
 ·omega
 refine⟨g,c,rfl,(qbv h.row g rfl).1,λ i r hr=>?_⟩;have hi:i<rs.length:=by
  rcases qa8 i rs.length with q | q
  ·exact q
  rw[qba q] at hr;cases hr
 obtain⟨q1,q2,q3⟩:=zkc rs i r hr;refine⟨?_,?_,?_⟩
 ·rw[World.ownsRow.cellAt h.row _ (by omega)];exact q1
 ·rw[World.ownsRow.cellAt h.row _ (by omega)];exact q2
 rw[World.ownsRow.cellAt h.row _ (by omega)];exact q3
def cntR (rs:List Dfl.Rn) (k:Nat):Nat:=rs.countP (λ r=>r.s=k)
theorem zmC (rs:List Dfl.Rn) (r:Dfl.Rn) (k:Nat) (hk:r.s=k):cntR (rs ++ [r])=Dfl.bump (cntR rs) k:=by
 funext j
 simp only[cntR,Dfl.bump,qcu,List.countP_singleton,hk];by_cases h:j=k
 ·have q:(if decide (k=j)=true then 1 else 0)=1:=qad (qae h.symm);rw[qad h,q]
 have q:(if decide (k=j)=true then 1 else 0)=0:=qac (by simpa using λ e=>h (Eq.symm e));rw[qac h,q];omega
theorem zjv (rs:List Dfl.Rn) (k:Nat):cntR rs k<=rs.length:=List.countP_le_length
def lnR (rs:List Dfl.Rn):Nat->Int:=lenF (λ k=>((cntR rs k:Nat):Int)) 19 7
theorem zos {rs:List Dfl.Rn}:(∀j,j<19->0<=lnR rs j/\lnR rs j<=7/\(0<lnR rs j↔0<cntR rs j))/\Inf.good (lnR rs) 19:=zgi (by decide) (by decide) (by decide) (by decide)
namespace Dfl
def dynB (ts:List Tk) (many far few:Nat) (rs:List Rn):List Bool:=Bts.low 5 3++(headB many far few (lnR rs) rs++(toksB (lnS ts) 286 (lnD ts) 30 ts++wordB (lnS ts) 286 256))
structure DynOk (ts:List Tk) (many far few:Nat) (rs:List Rn):Prop where
  m:257<=many/\many<=286
  r:1<=far/\far<=30
  w:4<=few/\few<=19
  zm:∀j,many<=j->j<286->lnS ts j=0
  zf:∀j,far<=j->j<30->lnD ts j=0
  zw:∀i,few<=i->i<19->lnR rs (Inf.zaK.getD i 0)=0
  says:Says [] rs (rowL (lnS ts) (lnD ts) many far)
theorem zhA {h:Nat->Int} (h7:∀j,j<19->h j<=7):∀ {rs:List Rn},(∀r∈rs,r.s<19/\r.b<=7)->(runsB h rs).length<=14*rs.length
  | [],_=>qaj _
  | r ::rs,H=>by
    have ih:=zhA h7 (λ x hx=>H x (qaQ _ hx));obtain⟨a,b⟩:=H r (qbc ..);have:=h7 r.s a;rw[zkr,qaa,runB,qaa,Bts.zat,wordB,Bts.zaD,qaR];omega
end Dfl
namespace Sto
end Sto
def Reads (l t:List UInt8):Prop:=∀(post:List UInt8) (most:Nat),t.length<=most->∃bl,Inf.inf (l++post) most=.ok (t,l.length,bl)
theorem ziV {ts:List Tk} {t:List UInt8} (hM:Dfl.Means [] ts t) {l:List UInt8} (h1:l.length=((Dfl.zcw ts).length+7)/8) (h2:Crc.num l=Bts.val (Dfl.zcw ts)):Reads l t:=by
  intro post most hm;have hA:=Dfl.zpc (post:=post) h1 h2;obtain⟨bl,h⟩:=Dfl.zkg hM hA hm;rw[<- h1] at h;exact⟨bl,h⟩
theorem Reads.infl {l t:List UInt8} (h:Reads l t) (post:List UInt8) (hl:l.length+post.length<=300000) {most:Nat} (hm:t.length<=most) (hmm:most<=300000):∃bl,Inf.infl (⟨(l++post).toArray⟩:ByteArray) (most:Int)=.ok (t,l.length,bl):=by
  obtain⟨bl,q⟩:=h post most hm;refine⟨bl,?_⟩;unfold Inf.infl;have hsz:(⟨(l++post).toArray⟩:ByteArray).size=l.length+post.length:=by show (l++post).length=_;rw[qaa]
  rw[qac (by rw[hsz];omega),qbm];exact q
structure DW (w wP:World) (B D Wb la da cb eb gr sb kb:Nat) (f g h:Nat->Int) (rs:List Dfl.Rn):Prop where
 z:DB w wP B D Wb la da cb eb f g
 r:Rnc wP gr rs
 s:Ints wP (some ⟨sb,0,none⟩) 19 h
 k:Cs wP kb 19 .u32 (λ i=>(word h 19 i:Int))
 hr:B<=gr
 hs:B<=sb
 hk:B<=kb
theorem DW.old {w wP z:World} {B D Wb la da cb eb gr sb kb:Nat} {f g h:Nat->Int} {rs:List Dfl.Rn} (H:DW w wP B D Wb la da cb eb gr sb kb f g h rs) (hk:Keeps (λ k=>k=Wb) wP z):Ext w z:=
 Below.trans H.z.a.old (hk.below (B:=w.heap.size) H.z.a.old.size (λ k hk q=>by have q:k=Wb:=q;have:=H.z.a.hw;omega))
theorem DW.df {w wP z:World} {B D Wb la da cb eb gr sb kb:Nat} {f g h:Nat->Int} {rs:List Dfl.Rn} (H:DW w wP B D Wb la da cb eb gr sb kb f g h rs) (hk:Keeps (λ k=>k=Wb) wP z):DF z D Wb ⟨la,0,none⟩ ⟨da,0,none⟩ ⟨cb,0,none⟩ ⟨eb,0,none⟩ 286 286 30 30 286 30 f g:=
 H.z.a.df.keeps hk H.z.a.n1 H.z.a.n2 H.z.a.n3 H.z.a.n4 H.z.a.n5
theorem DW.runs {w wP z:World} {B D Wb la da cb eb gr sb kb:Nat} {f g h:Nat->Int} {rs:List Dfl.Rn} (H:DW w wP B D Wb la da cb eb gr sb kb f g h rs) (hk:Keeps (λ k=>k=Wb) wP z):Rnc z gr rs:=
 H.r.keeps hk (λ q=>by have q:gr=Wb:=q;have:=H.hr;have:=H.z.lt.2.2.2.2.2;omega)
theorem DW.lens {w wP z:World} {B D Wb la da cb eb gr sb kb:Nat} {f g h:Nat->Int} {rs:List Dfl.Rn} (H:DW w wP B D Wb la da cb eb gr sb kb f g h rs) (hk:Keeps (λ k=>k=Wb) wP z):Ints z (some ⟨sb,0,none⟩) 19 h:=
 H.s.on hk (λ a ha q=>by injection ha with ha;subst ha;have q:sb=Wb:=q;have:=H.hs;have:=H.z.lt.2.2.2.2.2;omega)
theorem DW.words {w wP z:World} {B D Wb la da cb eb gr sb kb:Nat} {f g h:Nat->Int} {rs:List Dfl.Rn} (H:DW w wP B D Wb la da cb eb gr sb kb f g h rs) (hk:Keeps (λ k=>k=Wb) wP z):Cs z kb 19 .u32 (λ i=>(word h 19 i:Int)):=
 H.k.keeps hk (λ q=>by have q:kb=Wb:=q;have:=H.hk;have:=H.z.lt.2.2.2.2.2;omega)
structure WS (wP z:World) (Wb:Nat) (u:Value) (L:List Bool):Prop where
 wb:WB z Wb u L
 st:WStep wP z Wb 0 (.slice none 0 0) u
theorem WS.keeps {wP z:World} {Wb:Nat} {u:Value} {L:List Bool} (h:WS wP z Wb u L):Keeps (λ k=>k=Wb) wP z:=
 h.st.keeps.mono (λ k _ q=>by
  rcases q with q | q
  ·exact q
  simp[Value.ownBlock] at q)
theorem WS.more {wP z z':World} {Wb:Nat} {u:Value} {L:List Bool} (h:WS wP z Wb u L) (h6:Keeps (λ k=>k=Wb\/u.ownBlock=some k) z z'):Keeps (λ k=>k=Wb) wP z':=
 h.keeps.trans h6 (λ k hk q=>by
  rcases q with q | q
  ·exact q
  rcases h.st.new k q with q | q
  ·simp[Value.ownBlock] at q
  omega)
theorem WS.start {wP:World} {Wb:Nat} (h:Bk wP Wb #[.slice none 0 0,.int .i64 0]):WS wP wP Wb (.slice none 0 0) []:=⟨ziu h,WStep.refl _ _ _ _⟩
theorem WS.step {wP z z':World} {Wb:Nat} {u u':Value} {L L':List Bool} (h:WS wP z Wb u L) (hW:WB z' Wb u' L') (hS:WStep z z' Wb 0 u u'):WS wP z' Wb u' L':=⟨hW,h.st.trans hS⟩
theorem WS.lt {wP z:World} {Wb:Nat} {u:Value} {L:List Bool} (h:WS wP z Wb u L):Wb<z.heap.size:=qab z _ h.wb.c0
theorem WS.ext {wP z z':World} {Wb:Nat} {u:Value} {L:List Bool} (h:WS wP z Wb u L) (hE:Ext z z'):WS wP z' Wb u L:=⟨h.wb.ext hE,h.st.ext hE h.lt⟩
theorem WS.drew {wP z:World} {Wb:Nat} {u:Value} {L:List Bool} (h:WS wP z Wb u L):WS wP z.drew Wb u L:=⟨h.wb.drew,h.st.redrew⟩
theorem WS.undrew {wP z z':World} {Wb:Nat} {u u':Value} {L L':List Bool} (h:WS wP z Wb u L) (hW:WB z' Wb u' L') (hS:WStep z.drew z' Wb 0 u u'):WS wP z' Wb u' L':=⟨hW,h.st.trans hS.undrew⟩
structure WX (wP z:World) (Wb T:Nat) (u:Value) (L:List Bool) (cs:Array Value):Prop where
 ws:WS wP z Wb u L
 bk:Bk z T cs
 o1:u.ownBlock≠some T
 o2:T≠Wb
theorem WX.new {wP z:World} {Wb:Nat} {u:Value} {L:List Bool} (h:WS wP z Wb u L) (cs:Array Value) (ty:TypeId):WX wP (z.alloc (.cells cs ty)) Wb z.heap.size u L cs:=by
 have hb:=h.lt;refine⟨h.ext ((Ext.refl _).alloc _),Bk.at rfl,?_,λ e=>by omega⟩;intro e;obtain⟨l,_,_,h3⟩:=h.wb.row;exact Nat.lt_irrefl _ (zaA h3 e)
theorem WX.drew {wP z:World} {Wb T:Nat} {u:Value} {L:List Bool} {cs:Array Value} (h:WX wP z Wb T u L cs):WX wP z.drew Wb T u L cs:=⟨h.ws.drew,h.bk.drew,h.o1,h.o2⟩
theorem WX.step {wP z z':World} {Wb T:Nat} {u u':Value} {L L':List Bool} {cs:Array Value} (h:WX wP z Wb T u L cs) (hW:WB z' Wb u' L') (hS:WStep z z' Wb 0 u u'):WX wP z' Wb T u' L' cs:=by
 refine⟨h.ws.step hW hS,h.bk.keeps hS.keeps (by rintro (e | e);exact h.o2 e;exact h.o1 e),λ e=>?_,h.o2⟩;rcases hS.new T e with q | q
 ·exact h.o1 q
 have:=h.bk.lt;omega
end Go.Proofs.YthlibiocadimhaaGreatDoor
