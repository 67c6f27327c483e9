/-
  Reading a file of a picture, plain: the head, one chunk more, the pixels. No function of the program is named.
  A picture that grows, pixel by pixel, in a variable of its own.
  The chunks and the rows of dot's file, plain. No function of the program is named.
  What is written of dot's picture is read: the plain law. No function of the program is named.
  Rows of packed numbers as they grow in memory; a map of pixels that is read. No function of the program is named.
  png.Write.
  A picture that grows in a variable of its own, above all that was there.
-/
import Derived.Test.YthlibiocadimhaaGreatDoorPngReadsG29
set_option linter.all false
set_option maxRecDepth 100000
namespace Go.Proofs.YthlibiocadimhaaGreatDoor
open Go.RowKit
theorem pwq {x:Int} (h: -9223372036854775808<=x/\x<=9223372036854775807):(∀z,z=x->IntKind.i64.wrap z=z)/\(∀z,z=x->wrap64 z=z):=⟨by rintro _ rfl;rw[qal];omega,by rintro _ rfl;unfold wrap64;omega⟩
namespace Png
def byN (k:Nat):Nat:=if k=0 then 1 else if k=2 then 3 else if k=3 then 1 else if k=6 then 4 else 0
theorem zh4 (k:Nat):smp (k:Int)=if byN k=0 then none else some (byN k):=by
 unfold smp updI byN;by_cases h6:k=6
 ·subst h6;rfl
 by_cases h3:k=3
 ·subst h3;rfl
 by_cases h2:k=2
 ·subst h2;rfl
 by_cases h0:k=0
 ·subst h0;rfl
 rw[qac (by omega),qac (by omega),qac (by omega),qac (by omega),qac h0,qac h2,qac h3,qac h6];rfl
theorem zfh (k:Nat):byN k<=4:=by unfold byN;split;omega;split;omega;split;omega;split <;> omega
def depOk (k d:Nat):Prop:=d=8\/(k=3/\(d=1\/d=2\/d=4))
instance (k d:Nat):Decidable (depOk k d):=by unfold depOk;infer_instance
inductive HdR where
 | bad (c:Nat)
 | ok (W H d k:Nat)
def headR (c:Ck):HdR:=
 if c.k=ihdr/\c.d.size=13 then
  let l:=c.d.data.toList;let W:=valN (l.take 4);let H:=valN ((l.drop 4).take 4);if 1<=W/\W<=256/\1<=H/\H<=256 then
   if byN (l.getD 9 0).toNat≠0/\depOk (l.getD 9 0).toNat (l.getD 8 0).toNat/\l.drop 10=[0,0,0] then .ok W H (l.getD 8 0).toNat (l.getD 9 0).toNat
   else .bad 0
  else .bad 1
 else .bad 0
def stN (r:Rd) (c:Ck):Nat:=if c.k≠idat/\r.st=1 then 2 else r.st
def mostN (r:Rd):Nat:=if r.kind=3 then 2^r.depth else 256
def onB (r:Rd) (c:Ck):Bool:=
 if c.k=ihdr\/c.k=iend then false
 else if c.k=idat then decide (stN r c<2)
 else if c.k=plte then decide (r.hc=false/\r.ha=false/\stN r c=0/\r.kind≠0/\0<c.d.size/\c.d.size%3=0/\c.d.size/3<=mostN r)
 else if c.k=trns then decide (r.hc=true/\r.ha=false/\stN r c=0/\r.kind=3/\3*c.d.size<=r.colors.size)
 else decide (97<=(c.k.data.toList.getD 0 0).toNat)
def onR (r:Rd) (c:Ck):Rd:=
 if c.k=ihdr\/c.k=iend then { r with st:=stN r c }
 else if c.k=idat then { r with data:=r.data++c.d.data.toList,st:=1 }
 else if c.k=plte then { r with colors:=c.d,hc:=true,st:=stN r c }
 else if c.k=trns then { r with alphas:=c.d,ha:=true,st:=stN r c }
 else { r with st:=stN r c }
def runR (r:Rd):List Ck->Rd
 | []=>r
 | c ::L=>runR (onR r c) L
def runB (r:Rd):List Ck->Bool
 | []=>true
 | c ::L=>onB r c&&runB (onR r c) L
theorem zgY (r:Rd) (L:List Ck) (c:Ck):runR r (L ++ [c])=onR (runR r L) c:=by
 induction L generalizing r with
 | nil=>rfl
 | cons x L ih=>exact ih _
theorem zd9 (r:Rd) (L:List Ck) (c:Ck):runB r (L ++ [c])=(runB r L&&onB (runR r L) c):=by
 induction L generalizing r with
 | nil=>simp[runB,runR]
 | cons x L ih=>simp only[qa2,runB,runR,ih,Bool.and_assoc]
theorem znw (r:Rd) (c:Ck):(onR r c).wide=r.wide/\(onR r c).high=r.high/\(onR r c).depth=r.depth/\(onR r c).kind=r.kind:=by
 unfold onR;split
 ·exact⟨rfl,rfl,rfl,rfl⟩
 split
 ·exact⟨rfl,rfl,rfl,rfl⟩
 split
 ·exact⟨rfl,rfl,rfl,rfl⟩
 split <;> exact⟨rfl,rfl,rfl,rfl⟩
theorem zcx (r:Rd) (L:List Ck):(runR r L).wide=r.wide/\(runR r L).high=r.high/\(runR r L).depth=r.depth/\(runR r L).kind=r.kind:=by
 induction L generalizing r with
 | nil=>exact⟨rfl,rfl,rfl,rfl⟩
 | cons c L ih=>
  obtain⟨a,b,d,e⟩:=ih (onR r c);obtain⟨a',b',d',e'⟩:=znw r c;exact⟨a.trans a',b.trans b',d.trans d',e.trans e'⟩
theorem zpm (r:Rd) (c:Ck):(onR r c).data.length<=r.data.length+c.d.size:=by
 unfold onR;have hz:c.d.data.toList.length=c.d.size:=rfl;split
 ·exact Nat.le_add_right _ _
 split
 ·show (r.data++c.d.data.toList).length<=_;rw[qaa,hz];exact qaj _
 split
 ·exact Nat.le_add_right _ _
 split <;> exact Nat.le_add_right _ _
theorem zo8 (r:Rd) (c:Ck) (hr:r.colors.size<=300000/\r.alphas.size<=300000) (hc:c.Ok):(onR r c).colors.size<=300000/\(onR r c).alphas.size<=300000:=by
 unfold onR;split
 ·exact hr
 split
 ·exact hr
 split
 ·exact⟨hc.d,hr.2⟩
 split
 ·exact⟨hr.1,hc.d⟩
 exact hr
def numAt (r:Rd) (l:List UInt8) (wide i:Nat):Nat:=(l.getD (i/r.wide*wide+i%r.wide*r.depth/8) 0).toNat/2^sft r.depth (i%r.wide)%2^r.depth
def zaO (r:Rd) (l:List UInt8) (wide i:Nat):Prop:=r.kind=3->3*numAt r l wide i<r.colors.size
instance (r:Rd) (l:List UInt8) (wide i:Nat):Decidable (zaO r l wide i):=by unfold zaO;infer_instance
def bI (l:List UInt8) (i:Nat):Int:=((l.getD i 0).toNat:Int)
def pxAt (r:Rd) (l:List UInt8) (wide i:Nat):P4:=
 let y:=i/r.wide;let x:=i%r.wide;if r.kind=0 then ⟨bI l (y*wide+x),bI l (y*wide+x),bI l (y*wide+x),255⟩
 else if r.kind=2 then ⟨bI l (y*wide+3*x),bI l (y*wide+3*x+1),bI l (y*wide+3*x+2),255⟩
 else if r.kind=6 then ⟨bI l (y*wide+4*x),bI l (y*wide+4*x+1),bI l (y*wide+4*x+2),bI l (y*wide+4*x+3)⟩
 else
  let n:=numAt r l wide i;⟨bI r.colors.data.toList (3*n),bI r.colors.data.toList (3*n+1),bI r.colors.data.toList (3*n+2),if n<r.alphas.size then bI r.alphas.data.toList n else 255⟩
theorem za7 (l:List UInt8) (i:Nat):Pix.Byte (bI l i):=by
 unfold bI;have:=(l.getD i 0).toNat_lt;exact⟨by omega,by omega⟩
theorem zgh (r:Rd) (l:List UInt8) (wide i:Nat):(pxAt r l wide i).Ok:=by
 have b255:Pix.Byte 255:=⟨by decide,by decide⟩;unfold pxAt;split
 ·exact⟨za7 _ _,za7 _ _,za7 _ _,b255⟩
 split
 ·exact⟨za7 _ _,za7 _ _,za7 _ _,b255⟩
 split
 ·exact⟨za7 _ _,za7 _ _,za7 _ _,za7 _ _⟩
 refine⟨za7 _ _,za7 _ _,za7 _ _,?_⟩;show Pix.Byte (if _ then _ else _);split
 ·exact za7 _ _
 exact b255
def rowN (r:Rd):Nat:=(r.wide*byN r.kind*r.depth+7)/8
def rd0 (W H d k:Nat):Rd:=⟨W,H,d,k,⟨#[]⟩,⟨#[]⟩,false,false,[],0⟩
inductive PcR where
 | fault (c i:Nat)
 | bad (c:Nat)
 | ok (W H:Nat) (px:Nat->P4)
noncomputable def pixR (r:Rd) (t:List UInt8):PcR:=
 if t.length=r.high*(rowN r+1)/\(∀j,j<r.high->kdT (tx t) (rowN r) j<=4) then
  if ∀i,i<r.high*r.wide->zaO r (unS (tx t) (rowN r) (byN r.kind) r.high).data.toList (rowN r) i then .ok r.wide r.high (pxAt r (unS (tx t) (rowN r) (byN r.kind) r.high).data.toList (rowN r))
  else .bad 0
 else .bad 0
noncomputable def bodyR (r:Rd) (L:List Ck):PcR:=
 if L≠[]/\(L.getLast?.map λ c=>(c.k,c.d))=some (iend,⟨#[]⟩)/\runB r L.dropLast=true then
  let r':=runR r L.dropLast;if r'.st=0\/(r'.kind=3/\r'.hc=false) then .bad 0
  else match Inf.unz ⟨r'.data.toArray⟩ ((r'.high*(rowN r'+1):Nat):Int) with
   | .error c=>.bad c
   | .ok t=>pixR r' t
 else .bad 0
noncomputable def picR (s:ByteArray):PcR:=
 match readL s with
 | .bad c i=>.fault c i
 | .ok []=>.bad 0
 | .ok (h ::L)=>match headR h with
  | .bad c=>.bad c
  | .ok W H d k=>bodyR (rd0 W H d k) L
end Png
structure PxE (w wr:World) (W H:Int) (v:Value) (k:Nat) (px:Nat->P4):Prop where
 e:EAt w wr W H v k px
theorem PxE.ext {w wr wz:World} {W H:Int} {v:Value} {k:Nat} {px:Nat->P4} (h:PxE w wr W H v k px) (hE:Ext wr wz):PxE w wz W H v k px:=by
 obtain⟨h1,h2,h3,h4,h5,h6,h7⟩:=h;have l0:w.heap.size<wr.heap.size:=qab wr _ h2.c0;have l1:w.heap.size+1<wr.heap.size:=qab wr _ h3.c0;exact⟨h1.trans hE,h2.ext hE,h3.ext hE,λ j=>(hE.keeps.frozen (S:=λ _=>False) (p:=⟨w.heap.size,j,none⟩) l0 id).trans (h4 j),λ j=>(hE.keeps.frozen (S:=λ _=>False) (p:=⟨w.heap.size+1,j,none⟩) l1 id).trans (h5 j),zaa (S:=λ _=>False) h6 hE.keeps (λ _ _=>id),h7⟩
theorem PxE.lit {w wr:World} {W H:Int} {v:Value} {k:Nat} {px:Nat->P4} (h:PxE w wr W H v k px):∃x c,v=.slice x k c:=zln h.e.own
theorem zqN (p:P4):∀u∈ [Value.int .u8 p.r,.int .u8 p.g,.int .u8 p.b,.int .u8 p.a],u.oneCell'=true:=by
 intro u hu;simp only[qbd,List.not_mem_nil,or_false] at hu;rcases hu with hu | hu | hu | hu <;> (subst hu;rfl)
theorem PxE.start {w wz:World} {W H:Int} {px:Nat->P4} (hX:Ext w wz) (hQ:Bk wz w.heap.size #[.int .i64 0,.int .i64 0,.slice none 0 0]) (hP:Bk wz (w.heap.size+1) #[.int .i64 W,.int .i64 H,.slice none 0 0]):PxE w wz W H (.slice none 0 0) 0 px:=
 ⟨⟨hX,hQ.pic,hP.pic,λ j=>hQ.frozen j,λ j=>hP.frozen j,qaK _ _ _ _,⟨λ h=>(by cases h),λ h=>(by cases h)⟩⟩⟩
theorem PxE.grown {w wr w3:World} {W H:Int} {x:Option Addr} {c k:Nat} {px:Nat->P4} {v':Value} (h:PxE w wr W H (.slice x k c) k px) (hown:w3.ownsRow w.heap.size 53 4 v' (k+1) (pxV k px ++ [.int .u8 (px k).r,.int .u8 (px k).g,.int .u8 (px k).b,.int .u8 (px k).a])) (hgrow:wr.grownBy w3 (Value.slice x k c).ownBlock) (hat:v'.ownBlock=(Value.slice x k c).ownBlock\/v'.ownBlock=some wr.heap.size):
  w3.cell? ⟨w.heap.size+1,2,none⟩=some (.slice x k c)/\w3.frozen? ⟨w.heap.size+1,2,none⟩=false/\PxE w (w3.setCell ⟨w.heap.size+1,2,none⟩ v') W H v' (k+1) px:=by
 have h:=h.e;have hT:w.heap.size+1<wr.heap.size:=qab wr _ h.pic.c0;have hkk:Keeps (λ q=>(Value.slice x k c).ownBlock=some q) wr w3:=Keeps.grown hgrow;have n0:¬ (Value.slice x k c).ownBlock=some w.heap.size:=h.ne.1;have n1:¬ (Value.slice x k c).ownBlock=some (w.heap.size+1):=h.ne.2;have cc:∀b j,b<wr.heap.size->¬ (Value.slice x k c).ownBlock=some b->w3.cell? ⟨b,j,none⟩=wr.cell? ⟨b,j,none⟩:=λ b j hb hn=>hkk.cell (p:=⟨b,j,none⟩) hb hn;have ff:∀b j,b<wr.heap.size->¬ (Value.slice x k c).ownBlock=some b->w3.frozen? ⟨b,j,none⟩=wr.frozen? ⟨b,j,none⟩:=λ b j hb hn=>hkk.frozen (p:=⟨b,j,none⟩) hb hn;have hng:v'.ownBlock≠some w.heap.size/\v'.ownBlock≠some (w.heap.size+1):=by
  rcases hat with q | q
  ·exact⟨λ e=>n0 (q.symm.trans e),λ e=>n1 (q.symm.trans e)⟩
  exact⟨λ e=>by rw[q] at e;injection e with e;omega,λ e=>by rw[q] at e;injection e with e;omega⟩
 have hE:Ext w w3:=Below.trans h.ext (hkk.below h.ext.size (λ q hq e=>by have:=(h.own.lt q e).1;omega));have e0:∀j,(⟨w.heap.size+1,2,none⟩:Addr)≠⟨w.heap.size,j,none⟩:=λ j e=>by injection e with e;omega
 have e1:∀j,j≠2->(⟨w.heap.size+1,2,none⟩:Addr)≠⟨w.heap.size+1,j,none⟩:=λ j hj e=>by injection e with _ e;exact hj e.symm
 refine⟨(cc _ 2 hT n1).trans h.pic.c2,(ff _ 2 hT n1).trans (h.fp 2),⟨⟨hE.setCell (by show w.heap.size<=w.heap.size+1;omega) _,⟨?_,?_,?_⟩,⟨?_,?_,?_⟩,?_,?_,?_,hng⟩⟩⟩
 ·exact (qah _ _ _ _ (e0 0)).trans ((cc _ 0 (by omega) n0).trans h.res.c0)
 ·exact (qah _ _ _ _ (e0 1)).trans ((cc _ 1 (by omega) n0).trans h.res.c1)
 ·exact (qah _ _ _ _ (e0 2)).trans ((cc _ 2 (by omega) n0).trans h.res.c2)
 ·exact (qah _ _ _ _ (e1 0 (by decide))).trans ((cc _ 0 hT n1).trans h.pic.c0)
 ·exact (qah _ _ _ _ (e1 1 (by decide))).trans ((cc _ 1 hT n1).trans h.pic.c1)
 ·exact qa0 _ _ _ ((cc _ 2 hT n1).trans h.pic.c2)
 ·intro j;rw[qap];exact (ff _ j (by omega) n0).trans (h.fr j)
 ·intro j;rw[qap];exact (ff _ j hT n1).trans (h.fp j)
 rw[zfb];exact qaI hown hng.2 _
theorem PxE.push {w wr:World} {W H:Int} {x:Option Addr} {c k:Nat} {px:Nat->P4} (h:PxE w wr W H (.slice x k c) k px) {p:P4} (hp:px k=p) {T:Nat} (hB:Bk wr T #[.int .u8 p.r,.int .u8 p.g,.int .u8 p.b,.int .u8 p.a]) (hk:k<=1000000):
  ∃y d w',(Builtin.append_ #[22,22] 22 #[.slice x k c,.slice (some ⟨T,0,none⟩) 1 1]).run Tryz.prog wr=.ok (.slice y (k+1) d) w'/\
   w'.cell? ⟨w.heap.size+1,2,none⟩=some (.slice x k c)/\w'.frozen? ⟨w.heap.size+1,2,none⟩=false/\PxE w (w'.setCell ⟨w.heap.size+1,2,none⟩ (.slice y (k+1) d)) W H (.slice y (k+1) d) (k+1) px:=by
 subst hp;obtain⟨i0,hi0,hz0,hz1,hz2⟩:=qbb zdw;obtain⟨v',w3,hr,hown,hgrow,_,hat⟩:=qcH (P:=Tryz.prog) wr w.heap.size 22 22 53 i0 _ 4 4 Tryz.underlying22 hi0 hz0 hz1 hz2 rfl (by decide) (.slice x k c) k (pxV k px) h.e.own ⟨T,0,none⟩ 1 1 [.int .u8 (px k).r,.int .u8 (px k).g,.int .u8 (px k).b,.int .u8 (px k).a] rfl
  (λ j u hu=>by rw[zae,hB.cell j,<- Array.getElem?_toList];exact hu) (zqN _) (by unfold maxLen;omega) (by omega) h.e.ext.size
 obtain⟨q1,q2,q3⟩:=h.grown hown hgrow hat;obtain⟨g,d,rfl,_,_⟩:=zaw hown (by omega);exact⟨_,d,w3,hr,q1,q2,q3⟩
theorem PxE.done {w wr:World} {W H:Int} {x:Option Addr} {c k:Nat} {px:Nat->P4} (h:PxE w wr W H (.slice x k c) k px) (hok:∀i,i<k->(px i).Ok):
  PicAt (((wr.setCell ⟨w.heap.size,0,none⟩ (.int .i64 W)).setCell ⟨w.heap.size,1,none⟩ (.int .i64 H)).setCell ⟨w.heap.size,2,none⟩ (.slice x k c)) w.heap.size W H (.slice x k c)/\Ext w (((wr.setCell ⟨w.heap.size,0,none⟩ (.int .i64 W)).setCell ⟨w.heap.size,1,none⟩ (.int .i64 H)).setCell ⟨w.heap.size,2,none⟩ (.slice x k c))/\
   Pxs (((wr.setCell ⟨w.heap.size,0,none⟩ (.int .i64 W)).setCell ⟨w.heap.size,1,none⟩ (.int .i64 H)).setCell ⟨w.heap.size,2,none⟩ (.slice x k c)) x k px/\(∀a,x=some a->w.heap.size<=a.block):=by
 refine⟨h.e.res.set,h.e.ext.set3 (qaj _) _ _ _,?_⟩;obtain⟨y,d,e,hP,hb⟩:=Pxs.of_own (zhE h.e.own h.e.ne.1 (.int .i64 W) (.int .i64 H) (.slice x k c)) hok;injection e with e1 _ _;subst e1;exact⟨hP,hb⟩
theorem zcU {w0 w:World} {b:Nat} {x y z u x' y' z' u':Value} (hX:Ext w0 w) (hb:w0.heap.size<=b) (hB:Bk w b #[x,y,z,u]):
  Ext w0 ((((w.setCell ⟨b,0,none⟩ x').setCell ⟨b,1,none⟩ y').setCell ⟨b,2,none⟩ z').setCell ⟨b,3,none⟩ u')/\Bk ((((w.setCell ⟨b,0,none⟩ x').setCell ⟨b,1,none⟩ y').setCell ⟨b,2,none⟩ z').setCell ⟨b,3,none⟩ u') b #[x',y',z',u']/\Keeps (λ k=>k=b) w ((((w.setCell ⟨b,0,none⟩ x').setCell ⟨b,1,none⟩ y').setCell ⟨b,2,none⟩ z').setCell ⟨b,3,none⟩ u'):=
 ⟨qaL (qaL (qaL (qaL hX (by exact hb) _) (by exact hb) _) (by exact hb) _) (by exact hb) _,(((hB.set_ 0 x').set_ 1 y').set_ 2 z').set_ 3 u',((((Keeps.refl (λ k=>k=b) w).setCell (.inl rfl) _).setCell (.inl rfl) _).setCell (.inl rfl) _).setCell (.inl rfl) _⟩
theorem zcj (x y:Nat) (hx:x<65536) (hy:y<65536):bits BinOp.and IntKind.i64 (x:Int) (y:Int)=((x &&& y:Nat):Int):=by
 show IntKind.i64.wrap ((BitVec.ofInt 64 (x:Int) &&& BitVec.ofInt 64 (y:Int)).toNat:Int)=_;have h:x &&& y<=x:=Nat.and_le_left;rw[qb9,qb9,BitVec.toNat_and,qb7,qb7,qaF (by omega),qaF (by omega),qal];omega
theorem zqe {x sh dep:Nat} (hx:x<256) (hd:Png.IsDep dep):bits BinOp.and IntKind.i64 ((x:Int)/2^sh) (IntKind.i64.wrap (IntKind.i64.wrap (2^dep)-1))=((x/2^sh%2^dep:Nat):Int):=by
 have e:(x:Int)/2^sh=((x/2^sh:Nat):Int):=by push_cast;rfl
 have hq:x/2^sh<=x:=qcy _ _;obtain⟨q,hq2⟩:=nmE (x/2^sh);rw[e,hq2];rw[hq2] at hq;rw[<- Nat.and_two_pow_sub_one_eq_mod];rcases hd with rfl | rfl | rfl | rfl
 ·rw[show IntKind.i64.wrap (IntKind.i64.wrap (2^1)-1)=((1:Nat):Int) by decide,zcj q 1 (by omega) (by omega)]
 ·rw[show IntKind.i64.wrap (IntKind.i64.wrap (2^2)-1)=((3:Nat):Int) by decide,zcj q 3 (by omega) (by omega)]
 ·rw[show IntKind.i64.wrap (IntKind.i64.wrap (2^4)-1)=((15:Nat):Int) by decide,zcj q 15 (by omega) (by omega)]
 rw[show IntKind.i64.wrap (IntKind.i64.wrap (2^8)-1)=((255:Nat):Int) by decide,zcj q 255 (by omega) (by omega)]
theorem zjE {s:ByteArray} {a b j:Nat} (h:j<b-a):(s.extract a b).data.toList.getD j 0=s.data.toList.getD (a+j) 0:=by
 have e:(s.extract a b).data.toList=(s.data.toList.drop a).take (b-a):=by
  rw[qb4,qca,List.extract_eq_take_drop]
 rw[e,qaY,qcn h,List.getElem?_drop,<- qaY]
theorem MI.get {w:World} {b n:Nat} {p:Int} {g:Int->Option Nat} (h:MI w b g) (hp:OkI p) (hg:g p=some n):
  (Instr.lookup 75 (.map (some b)) (.int .i64 p) false).run Tryz.prog w=.ok (.int .i64 (n:Int)) w:=by
 obtain⟨es,clock,hb,h1,h2,h3⟩:=h;obtain⟨l,hl⟩:=zcJ p hp;have hzv:(zeroValue 3).run Tryz.prog w=.ok (.int .i64 0) w:=by kernel_rfl
 have hes:∀e∈es.toList,∃l,keyOf Tryz.prog 3 e.key=some l:=by
  intro e he;obtain⟨q,n,hk',q1,_⟩:=h1 e he;rw[hk'];exact zcJ q q1
 have hcheck:=zbQ.check w es.isEmpty hl;show (Instr.lookup 75 (.map (some b)) (kI p) false).run Tryz.prog w=_;rcases zbQ.find w hl es.toList hes with⟨hf,hno⟩ | ⟨j,e,hf,hj,he⟩
 ·obtain⟨e,hm,hk2⟩:=h2 p n hp hg;exact absurd hk2 (hno e hm)
 obtain⟨q,m,hk',_,hv,hg2⟩:=h1 e (qa5 hj);obtain rfl:=zhI (hk'.symm.trans he);rw[hg] at hg2;injection hg2 with hg2;subst hg2;simp[Instr.lookup,qbO Tryz.underlying75,qbG hb,hcheck,hf,hv,Result.andThen]
def zpG (w w':World) (r:Rd) (l:List UInt8) (wide:Nat) (e:Ending):Prop:=
 Ext w w'/\((∃x c,e=.returned (.tuple #[.agg #[.int .i64 (r.wide:Int),.int .i64 (r.high:Int),.slice x (r.high*r.wide) c],.bool true])/\Pxs w' x (r.high*r.wide) (Png.pxAt r l wide)/\(∀i,i<r.high*r.wide->Png.zaO r l wide i)/\(∀a,x=some a->w.heap.size<=a.block))\/
  (e=.returned (.tuple #[.agg #[.int .i64 0,.int .i64 0,.slice none 0 0],.bool false])/\∃i,i<r.high*r.wide/\¬ Png.zaO r l wide i))
namespace Png
def planC (W H:Nat) (px:Nat->P4) (n:Nat):List Ck:=
  [⟨ihdr,⟨(headL W H (depN (pals px n).length) 3).toArray⟩⟩,⟨plte,⟨(colL (pals px n)).toArray⟩⟩] ++
    (if 0<covs (pals px n) (pals px n).length then [⟨trns,⟨((alpL (pals px n)).take (covs (pals px n) (pals px n).length)).toArray⟩⟩] else [])
def planR (W H:Nat) (px:Nat->P4) (n:Nat):List UInt8:=rowsP (depN (pals px n).length) W (λ i=>(pals px n).idxOf (px i)) H
def fullC (L:List Ck) (z:List UInt8):List Ck:=L ++ [⟨idat,⟨z.toArray⟩⟩] ++ [⟨iend,⟨#[]⟩⟩]
theorem znb {L:List Ck} {z R:List UInt8} (hL:∀c∈L,c.Ok) (hz:z.length<=(Sto.all (R.length+1) R).length) (hR:R.length<=20000):∀c∈fullC L (zipL z R),c.Ok:=by
  intro c hc;unfold fullC at hc;rcases qa3.1 hc with hc | hc
  · rcases qa3.1 hc with hc | hc
    · exact hL c hc
    rw[qaN.1 hc];refine⟨by show (4:Nat)<=_;unfold maxLen;omega,?_⟩;show (zipL z R).toArray.size<=_;have:=Sto.zcH (R.length+1) R;rw[qb5,zdb];omega
  rw[qaN.1 hc];exact⟨by show (4:Nat)<=_;unfold maxLen;omega,by show (0:Nat)<=_;omega⟩
end Png
namespace Png
theorem zlc {n:Nat} (h:n<=256):n<=2^depN n:=by
 unfold depN;split
 ·omega
 split
 ·omega
 split <;> omega
def sumC:List Ck->Nat
 | []=>0
 | c ::L=>12+c.d.size+sumC L
theorem zfg:∀(L acc:List Ck),(∀c∈L,kindB c.k.data.toList=true)->8+sumC L+((acc.flatMap enc).length)<=300000->fileL acc acc.length=.ok (sigB++acc.flatMap enc)->fileL (acc++L) (acc++L).length=.ok (sigB++(acc++L).flatMap enc)
 | [],acc,_,_,h=>by rw[qbW];exact h
 | c ::L,acc,hk,hs,h=>by
  have hkc:=hk c (qbc ..);have hst:fstep c acc.length (sigB++acc.flatMap enc)=.ok (sigB++(acc ++ [c]).flatMap enc):=by
   unfold fstep;have e8:sigB.length=8:=rfl;unfold sumC at hs;rw[qad hkc,qac (by rw[qaa,e8];omega),List.flatMap_append,qat];simp
  have h2:=(zfC h).trans hst;have:=zfg L (acc ++ [c]) (λ q hq=>hk q (qaQ _ hq)) (by
   unfold sumC at hs;rw[List.flatMap_append,qaa];have:([c].flatMap enc).length=12+c.d.size:=by simp[zb3 c hkc]
   omega) h2
  rw[qat] at this;exact this
theorem zlL {W H d k:Nat} (hW:1<=W/\W<=256) (hH:1<=H/\H<=256) (hd:d<256) (hk:k<256) (hb:byN k≠0) (ho:depOk k d):headR ⟨ihdr,⟨(headL W H d k).toArray⟩⟩=.ok W H d k:=by
 have e1:(headL W H d k).take 4=big4 W:=rfl;have e2:((headL W H d k).drop 4).take 4=big4 H:=rfl;have e3:(headL W H d k).getD 8 0=UInt8.ofNat d:=rfl;have e4:(headL W H d k).getD 9 0=UInt8.ofNat k:=rfl;have e5:(headL W H d k).drop 10=[0,0,0]:=rfl;unfold headR;rw[qad ⟨rfl,rfl⟩];show (if 1<=valN ((headL W H d k).take 4)/\_ then _ else _)=_;simp only[e1,e2,e3,e4,e5,zcn W (by omega),zcn H (by omega),Sto.ofNat_toNat d hd,Sto.ofNat_toNat k hk];rw[qad ⟨hW.1,hW.2,hH.1,hH.2⟩,qad ⟨hb,ho,trivial⟩]
theorem stN_0 {r:Rd} {c:Ck} (h:r.st=0):stN r c=0:=by unfold stN;rw[h];simp
theorem zb4:¬ (idat=ihdr\/idat=iend):=by decide
theorem zbG:¬ (plte=ihdr\/plte=iend)/\¬ plte=idat:=by decide
theorem zbb:¬ (trns=ihdr\/trns=iend)/\¬ trns=idat/\¬ trns=plte:=by decide
theorem zo2 (r:Rd) (d:ByteArray) (h:r.st=0):onB r ⟨idat,d⟩=true/\onR r ⟨idat,d⟩= { r with data:=r.data++d.data.toList,st:=1 }:=by
 unfold onB onR;rw[qac zb4,qac zb4,qad rfl,qad rfl,stN_0 h];exact⟨rfl,rfl⟩
theorem zoS {r r':Rd} {M:List Ck} {t:List UInt8} (hB:runB r M=true) (hR:runR r M=r') (hs:r'.st≠0) (hc:r'.kind=3->r'.hc=true) (hu:Inf.unz ⟨r'.data.toArray⟩ ((r'.high*(rowN r'+1):Nat):Int)=.ok t):bodyR r (M ++ [⟨iend,⟨#[]⟩⟩])=pixR r' t:=by
 unfold bodyR;rw[qad ⟨by simp,by simp,by rw[List.dropLast_concat];exact hB⟩];simp only[List.dropLast_concat,hR];rw[qac (by rintro (h | ⟨h1,h2⟩);exact hs h;rw[hc h1] at h2;cases h2),hu]
theorem zqq {r:Rd} {t:List UInt8} {u:ByteArray} (hl:t.length=r.high*(rowN r+1)) (hk:∀j,j<r.high->kdT (tx t) (rowN r) j<=4) (hu:unS (tx t) (rowN r) (byN r.kind) r.high=u) (hg:∀i,i<r.high*r.wide->zaO r u.data.toList (rowN r) i):pixR r t=.ok r.wide r.high (pxAt r u.data.toList (rowN r)):=by
 unfold pixR;rw[qad ⟨hl,hk⟩,hu,qad hg]
theorem znv {s:ByteArray} {W H d k:Nat} {M:List Ck} {z:List UInt8} (hr:readL s=.ok (⟨ihdr,⟨(headL W H d k).toArray⟩⟩ ::M ++ [⟨idat,⟨z.toArray⟩⟩] ++ [⟨iend,⟨#[]⟩⟩])) (hW:1<=W/\W<=256) (hH:1<=H/\H<=256) (hd:d<256) (hk:k<256) (hb:byN k≠0) (ho:depOk k d):picR s=bodyR (rd0 W H d k) (M ++ [⟨idat,⟨z.toArray⟩⟩] ++ [⟨iend,⟨#[]⟩⟩]):=by
 unfold picR;rw[hr];show (match headR ⟨ihdr,⟨(headL W H d k).toArray⟩⟩ with | .bad c=>PcR.bad c | .ok W H d k=>bodyR (rd0 W H d k) _)=_;rw[zlL hW hH hd hk hb ho];rfl
theorem ziT (r:Rd) (L M:List Ck):runR r (L++M)=runR (runR r L) M:=by
 induction L generalizing r with
 | nil=>rfl
 | cons x L ih=>exact ih _
theorem ziG (r:Rd) (L M:List Ck):runB r (L++M)=(runB r L&&runB (runR r L) M):=by
 induction L generalizing r with
 | nil=>simp[runB,runR]
 | cons x L ih=>simp only[qa2,runB,runR,ih,Bool.and_assoc]
theorem zlH {r r1:Rd} {M:List Ck} {z R:List UInt8} (hB:runB r M=true) (hR:runR r M=r1) (h0:r1.st=0) (hd:r1.data=[]) (hc:r1.kind=3->r1.hc=true) (hz:Reads z R) (hl:z.length+6<=300000) (hn:R.length=r1.high*(rowN r1+1)) (hm:R.length<=300000):
  bodyR r (M ++ [⟨idat,⟨(zipL z R).toArray⟩⟩] ++ [⟨iend,⟨#[]⟩⟩])=pixR { r1 with data:=zipL z R,st:=1 } R:=by
 obtain⟨o1,o2⟩:=zo2 r1 ⟨(zipL z R).toArray⟩ h0;refine zoS (r':= { r1 with data:=zipL z R,st:=1 }) ?_ ?_ (by show (1:Nat)≠0;omega) hc ?_
 ·rw[ziG,hB,hR];show (true&&(onB r1 _&&true))=true;rw[o1];rfl
 ·rw[ziT,hR];simp only[runR];rw[o2,hd];rfl
 have:=zqn hz hl (most:=R.length) (qaj _) hm;rw[hn] at this;exact this
theorem zjB (L:List Ck) (h:∀c∈L,kindB c.k.data.toList=true):(L.flatMap enc).length=sumC L:=by
 induction L with
 | nil=>rfl
 | cons c L ih=>
  rw[qcJ,qaa,zb3 c (h c (qbc ..)),ih (λ q hq=>h q (qaQ _ hq))];rfl
def p1:P4:=⟨1,2,3,4⟩
theorem zmo:planR 1 1 (λ _=>p1) 1=[0,0]:=by rfl
theorem zhz:planC 1 1 (λ _=>p1) 1=[⟨ihdr,⟨(headL 1 1 1 3).toArray⟩⟩,⟨plte,⟨#[1,2,3]⟩⟩,⟨trns,⟨#[4]⟩⟩]:=by rfl
theorem zmy:∀c∈planC 1 1 (λ _=>p1) 1,c.Ok:=by
 rw[zhz];intro c hc;simp only[qbd,List.not_mem_nil,or_false] at hc;have h4:(4:Nat)<=maxLen:=by unfold maxLen;omega
 rcases hc with rfl | rfl | rfl <;> exact⟨h4,by decide⟩
theorem pix1 (d:List UInt8):∃qx,pixR ⟨1,1,1,3,⟨#[1,2,3]⟩,⟨#[4]⟩,true,true,d,1⟩ [0,0]=.ok 1 1 qx/\qx 0=p1:=by
 have e:rowN ⟨1,1,1,3,⟨#[1,2,3]⟩,⟨#[4]⟩,true,true,d,1⟩=1:=by show (1*byN 3*1+7)/8=1;decide
 have e1:unS (tx [0,0]) 1 1 1=⟨#[0]⟩:=by kernel_rfl
 have e2:kdT (tx [0,0]) 1 0=0:=by kernel_rfl
 have e3:numAt ⟨1,1,1,3,⟨#[1,2,3]⟩,⟨#[4]⟩,true,true,d,1⟩ [0] 1 0=0:=by show (([0]:List UInt8).getD (0/1*1+0%1*1/8) 0).toNat/2^sft 1 (0%1)%2^1=0;kernel_rfl
 refine⟨_,zqq (u:=⟨#[0]⟩) (by rw[e];rfl) (λ j hj=>?_) (by rw[e];exact e1) (λ i hi _=>?_),?_⟩
 ·obtain rfl:j=0:=by have:j<1:=hj;omega
  rw[e,e2];omega
 ·obtain rfl:i=0:=by have:i<1:=hi;omega
  rw[e];show 3*numAt _ [0] 1 0<3;rw[e3];omega
 rw[e];show pxAt _ [0] 1 0=_;unfold pxAt;rw[qac (show ¬ (3=0) by omega),qac (show ¬ (3=2) by omega),qac (show ¬ (3=6) by omega),e3];rfl
theorem zq6 {z:List UInt8} (hz:Reads z [0,0]) (hl:z.length<=20):
  ∃out,fileL (fullC (planC 1 1 (λ _=>p1) 1) (zipL z [0,0])) (fullC (planC 1 1 (λ _=>p1) 1) (zipL z [0,0])).length=.ok out/\60<out.length/\out.length<=300000/\∃qx,picR ⟨out.toArray⟩=.ok 1 1 qx/\qx 0=p1:=by
 rw[zhz];have hzl:=zdb z [0,0];unfold fullC;have hf:=zfg ([⟨ihdr,⟨(headL 1 1 1 3).toArray⟩⟩,⟨plte,⟨#[1,2,3]⟩⟩,⟨trns,⟨#[4]⟩⟩] ++ [⟨idat,⟨(zipL z [0,0]).toArray⟩⟩] ++ [⟨iend,⟨#[]⟩⟩]) [] (by
  intro c hc;simp only[qa2,qbx,qbd,List.not_mem_nil,or_false] at hc;rcases hc with rfl | rfl | rfl | rfl | rfl
  ·show kindB ihdr.data.toList=true;decide
  ·show kindB plte.data.toList=true;decide
  ·show kindB trns.data.toList=true;decide
  ·show kindB idat.data.toList=true;decide
  ·show kindB iend.data.toList=true;decide) (by
  show 8+(25+(15+(13+(12+(zipL z [0,0]).length+12))))+0<=300000;omega) rfl
 rw[qbx] at hf;obtain⟨L,hL⟩:=nmE ([⟨ihdr,⟨(headL 1 1 1 3).toArray⟩⟩,⟨plte,⟨#[1,2,3]⟩⟩,⟨trns,⟨#[4]⟩⟩] ++ [(⟨idat,⟨(zipL z [0,0]).toArray⟩⟩:Ck)] ++ [⟨iend,⟨#[]⟩⟩]);have hlen:(sigB++L.flatMap enc).length=8+(25+(15+(13+(12+(zipL z [0,0]).length+12)))):=by
  rw[qaa,zjB L (by
   rw[<- hL];intro c hc;simp only[qa2,qbx,qbd,List.not_mem_nil,or_false] at hc;rcases hc with rfl | rfl | rfl | rfl | rfl <;> first | decide | (show kindB idat.data.toList=true;decide)),<- hL]
  rfl
 have hread:=ziC (L:=L) (λ c hc=>by
  rw[<- hL] at hc;simp only[qa2,qbx,qbd,List.not_mem_nil,or_false] at hc;rcases hc with rfl | rfl | rfl | rfl | rfl
  ·decide
  ·decide
  ·decide
  ·show (zipL z [0,0]).length<=_;omega
  decide) (by rw[<- hL];exact hf)
 rw[hL] at hf⊢;refine⟨sigB++L.flatMap enc,hf,by rw[hlen];omega,by rw[hlen];omega,?_⟩;rw[<- hL] at hread;rw[<- hL,znv (M:=[⟨plte,⟨#[1,2,3]⟩⟩,⟨trns,⟨#[4]⟩⟩]) hread (by decide) (by decide) (by decide) (by decide) (by decide) (.inr ⟨rfl,.inl rfl⟩)];rw[zlH (r:=rd0 1 1 1 3) (r1:=⟨1,1,1,3,⟨#[1,2,3]⟩,⟨#[4]⟩,true,true,[],0⟩) (M:=[⟨plte,⟨#[1,2,3]⟩⟩,⟨trns,⟨#[4]⟩⟩]) (by decide) (by rfl) rfl rfl (λ _=>rfl) hz (by omega) rfl (by decide)];exact pix1 _
end Png
theorem MP.get {w:World} {b n:Nat} {p:P4} {g:P4->Option Nat} (h:MP w b g) (hp:p.Ok) (hg:g p=some n):
  (Instr.lookup 54 (.map (some b)) (p.val) false).run Tryz.prog w=.ok (.int .i64 (n:Int)) w:=by
 obtain⟨es,clock,hb,h1,h2,h3⟩:=h;obtain⟨l,hl⟩:=zcL p hp;have hzv:(zeroValue 3).run Tryz.prog w=.ok (.int .i64 0) w:=by kernel_rfl
 have hes:∀e∈es.toList,∃l,keyOf Tryz.prog 53 e.key=some l:=by
  intro e he;obtain⟨q,n,hk',q1,_⟩:=h1 e he;rw[hk'];exact zcL q q1
 have hcheck:=zbP.check w es.isEmpty hl;rcases zbP.find w hl es.toList hes with⟨hf,hno⟩ | ⟨j,e,hf,hj,he⟩
 ·obtain⟨e,hm,hk2⟩:=h2 p n hp hg;exact absurd hk2 (hno e hm)
 obtain⟨q,m,hk',_,hv,hg2⟩:=h1 e (qa5 hj);obtain rfl:=zhq (hk'.symm.trans he);rw[hg] at hg2;injection hg2 with hg2;subst hg2;simp[Instr.lookup,qbO Tryz.underlying54,qbG hb,hcheck,hf,hv,Result.andThen]
theorem zqP (o:UInt8) {v sh:Nat} (h:v <<< sh<256):bits BinOp.or IntKind.u8 (o.toNat:Int) ((v:Int)*2^sh%256)=((o ||| UInt8.ofNat (v <<< sh)).toNat:Int):=by
 have ho:=o.toNat_lt;have e:(v:Int)*2^sh%256=((v <<< sh:Nat):Int):=by
  rw[Nat.shiftLeft_eq] at h⊢;have q:((v*2^sh:Nat):Int)=(v:Int)*2^sh:=by push_cast;rfl
  rw[<- q];omega
 rw[e,u8_or_nat _ _ (by omega) h,UInt8.toNat_or,qbI,qaF h]
theorem zku {α:Type} (a b:List α) {k j:Nat} (hk:a.length=k) (u:α):(a++b).set (k+j) u=a++b.set j u:=by
 subst hk;rw[List.set_append,qac (by omega),Nat.add_sub_cancel_left]
structure RbS (wb wr:World) (v:Value) (l:List UInt8):Prop where
 fr:Ext wb wr
 own:wr.ownsRow wb.heap.size 5 1 v l.length (zad l)
theorem RbS.start (w:World):RbS w w (.slice none 0 0) []:=⟨Ext.refl w,qaK _ _ _ _⟩
theorem RbS.ext {wb wr wz:World} {v:Value} {l:List UInt8} (h:RbS wb wr v l) (hE:Ext wr wz):RbS wb wz v l:=
 ⟨h.fr.trans hE,zaa (S:=λ _=>False) h.own hE.keeps (λ _ _=>id)⟩
theorem RbS.app {wb wr w':World} {v v':Value} {l m:List UInt8} {n:Nat} (h:RbS wb wr v l) (hn:l.length+m.length=n) (hown:w'.ownsRow wb.heap.size 5 1 v' n (zad l++zad m)) (hg:wr.grownBy w' v.ownBlock):RbS wb w' v' (l++m):=by
 refine⟨Below.trans h.fr ((Keeps.grown hg).below h.fr.size (λ k hk q=>by have:=(h.own.lt k q).1;omega)),?_⟩;rw[qaa,hn,zfr];exact hown
theorem RbS.put {wb wr:World} {g n c i:Nat} {l:List UInt8} (h:RbS wb wr (.slice (some ⟨g,0,none⟩) n c) l) (b:UInt8):RbS wb (wr.setCell ⟨g,i,none⟩ (.int .u8 (b.toNat:Int))) (.slice (some ⟨g,0,none⟩) n c) (l.set i b):=by
 obtain⟨hf,h1,h2⟩:=h;rcases h2 with⟨hv,_⟩ | ⟨g',cap,cur,hv,hbg,hh,hc,hm,hz,ht⟩
 ·cases hv
 injection hv with e1 e2 e3;injection e1 with e1;injection e1 with e1 _ _;subst e1;subst e3;refine⟨qaL hf (p:=⟨g,i,none⟩) hbg _,by rw[zbx,qcF];omega,.inr ⟨g,c,cur.setIfInBounds i (.int .u8 (b.toNat:Int)),?_,hbg,?_,?_,hm,?_,?_⟩⟩
 ·rw[qcF,e2]
 ·simp[World.setCell,qbk,hh]
 ·rw[qcF];exact hc
 ·rw[Array.size_setIfInBounds];exact hz
 rw[Array.toList_setIfInBounds,qcF];have e4:(cur.toList.set i (.int .u8 (b.toNat:Int))).take (l.length*1)=(cur.toList.take (l.length*1)).set i (.int .u8 (b.toNat:Int)):=by rw[List.take_set]
 rw[e4,ht];unfold zad;rw[List.map_set]
theorem RbS.cell {wb wr:World} {g n c i:Nat} {l:List UInt8} (h:RbS wb wr (.slice (some ⟨g,0,none⟩) n c) l) (hi:i<l.length):wr.cell? ⟨g,i,none⟩=some (.int .u8 ((l.getD i 0).toNat:Int)):=by
 have hn:n=l.length:=by
  rcases h.own.2 with⟨hv,_⟩ | ⟨g',cap',cur',hv,_⟩
  ·cases hv
  injection hv
 subst hn;rw[h.own.cellAt i (by omega),zaN l i hi,qaY,qai hi];rfl
theorem RbS.froz {wb wr:World} {g n c i:Nat} {l:List UInt8} (h:RbS wb wr (.slice (some ⟨g,0,none⟩) n c) l):wr.frozen? ⟨g,i,none⟩=false:=by
 rcases h.own.2 with⟨hv,_⟩ | ⟨g',cap,cur,hv,hbg,hh,_⟩
 ·cases hv
 injection hv with e1 e2 e3;injection e1 with e1;injection e1 with e1 _ _;subst e1;simp[World.frozen?,hh]
theorem RbS.some {wb wr:World} {v:Value} {l:List UInt8} (h:RbS wb wr v l) (h0:0<l.length):∃g c,v=.slice (some ⟨g,0,none⟩) l.length c/\l.length<=c:=by
 obtain⟨g,c,h1,h2,_⟩:=zaw h.own h0;exact⟨g,c,h1,h2⟩
theorem RbS.keepsPic {wb wr:World} {b:Nat} {W H:Int} {u v:Value} {l:List UInt8} (h:RbS wb wr v l) (hb:PicAt wb b W H u):PicAt wr b W H u:=hb.ext h.fr
theorem Yfx1 {p:Prop} (h:p:=by
 clear hqa;go_wp2_with fail;go_roundw
 case rel=>exact⟨k+1,by go_num,by omega,by first | (rw[HV.out];go_num) | (rw[HV.out]),HCo⟩
 case measure=>simp[intOf];omega):p:=h
theorem Yfx0 {p:Prop} (h:p:=by
 have hHeld:v5.cell? ⟨Tb,0,none⟩=some (.int .u8 q.r)/\v5.cell? ⟨Tb,1,none⟩=some (.int .u8 q.g)/\v5.cell? ⟨Tb,2,none⟩=some (.int .u8 q.b)/\v5.cell? ⟨Tb,3,none⟩=some (.int .u8 q.a):=⟨T_5.out.cell 0,T_5.out.cell 1,T_5.out.cell 2,T_5.out.cell 3⟩;refine rdH 13 rfl λ KK hK=>?_;clear hHeld;obtain⟨y10,d10,v6,hr,hz,hg⟩:=S_5.out.push2 (m:=1) [Png.u8i q.a] rfl (cs:=#[.int .u8 q.a]) HQV.out.2.symm C_5.out (by omega);rw[qad (show _=true by kernel_rfl)];unfold Oper.wp execOp;simp only[resolve,invoke,builtin,qbu,qbM,qas,qbg,qaG,qa9,Act.eval,qbD,qbf,qbe];simp only[qaO,qaz,qaC,qay,qbn,hr,qas,Oper.upon];have S_6:=Hd hz;have T_6:=Hd (zb1 hg T_5.out (λ e=>by have:=HO10.out _ e;have:=LT.out;omega));have XR_6:=Hd (show wr.heap.size<=v6.heap.size from qam XR_5.out hg.size);refine oS hK ⟨T_6.out.cell 0,T_6.out.cell 1,T_6.out.cell 2,T_6.out.cell 3⟩ λ hHeld=>?_;clear hK KK hr hHeld hz hg S_5 T_5 XR_5 C_5;have hHeld:v6.cell? ⟨Tb,0,none⟩=some (.int .u8 q.r)/\v6.cell? ⟨Tb,1,none⟩=some (.int .u8 q.g)/\v6.cell? ⟨Tb,2,none⟩=some (.int .u8 q.b)/\v6.cell? ⟨Tb,3,none⟩=some (.int .u8 q.a):=⟨T_6.out.cell 0,T_6.out.cell 1,T_6.out.cell 2,T_6.out.cell 3⟩;refine tk2 14 15 ?_
 refine dnT ?_;clear hHeld;have HCo:Hid (CoS w7 v6 (.slice y9 (3*k+3) d9) (.slice y10 (k+1) d10) (Png.colL (l.take (k+1))) (Png.alpL (l.take (k+1)))):=Hd (by
  have h:=S_6.out;rw[hz9,hz10] at h;rw[Png.zmG l (by rw[HNN.out];exact hlt),HQ.out,Png.zlF,Png.zlb,HAA.out.1,HAA.out.2];exact h)
 have k3:=T_6.out.cell 3;clear S_6 XR_6;by_cases hqa:q.a<255
 ·have ta:decide (q.a<255)=true:=qae hqa;have HV:=Hd (show Png.covs l (k+1)=k+1 from by show (if (Png.atL l k).a<255 then k+1 else Png.covs l k)=_;rw[HQ.out,qad hqa]);exact Yfx1
 have ta:decide (q.a<255)=false:=qaf hqa;have HV:=Hd (show Png.covs l (k+1)=Png.covs l k from by show (if (Png.atL l k).a<255 then k+1 else Png.covs l k)=_;rw[HQ.out,qac hqa]);exact Yfx1):p:=h
def zqs (w w':World) (E:Nat->Addr) (W H:Nat) (px:Nat->P4) (n:Nat) (e:Ending):Prop:=
 Ext w w'/\∃z w9,Reads z (Png.planR W H px n)/\z.length<=(Sto.all ((Png.planR W H px n).length+1) (Png.planR W H px n)).length/\FPost w9 w' E (fileL (Png.fullC (Png.planC W H px n) (zipL z (Png.planR W H px n))) (Png.fullC (Png.planC W H px n) (zipL z (Png.planR W H px n))).length) e
set_option maxHeartbeats 4000000 in
theorem zkC (W H:Nat) (x:Option Addr) (n cap:Nat) (px:Nat->P4) (w:World) (E:Nat->Addr) (hE:Errs w E) (hT:Tabs w) (hx:Pxs w x n px) (hr:zcV (W:Int) (H:Int) n=true) (hn:n<=256) (hRl:Png.planR W H px n=[0,0]) (hCk:(Png.planC W H px n).length<=3/\∀c∈Png.planC W H px n,c.Ok):
  Calls Tryz.prog 8 #[.agg #[.int .i64 (W:Int),.int .i64 (H:Int),.slice x n cap]] w λ e w'=>zqs w w' E W H px n e:=by
 have HRL:=Hd hRl;have HCK:=Hd hCk;clear hRl hCk;have HX:=Hd hx;have HER:=Hd hE;have HTB:=Hd hT;have HWH:Hid ((1<=W/\W<=256)/\(1<=H/\H<=256)/\n=H*W):=Hd (by
  obtain⟨a,b,h1,h2,q1,q2,q3,q4,q5⟩:=zk7 hr;have e1:W=a:=by omega
  have e2:H=b:=by omega
  subst e1 e2;exact⟨⟨q1,q2⟩,⟨q3,q4⟩,by rw[qaJ];exact q5⟩)
 clear hx hE hT;obtain⟨j0,hj0,hz0,hz1,hz2⟩:=qbb ckinf;go_enter Tryz.func8,Tryz.ntmps8
 go_wp2_with fail;have X1:Hid (Ext w (w.alloc (.cells #[.int .i64 (W:Int),.int .i64 (H:Int),.slice x n cap] 24))):=Hd ((Ext.refl w).alloc _);have P1:=Hd (PicAt.new w (W:Int) (H:Int) (.slice x n cap) 24);refine (zkB _ _ _ _ _ _).mono ?_;rintro e w2 ⟨rfl,h2⟩;rw[hr];have X2:=Hd (X1.out.trans h2);have P2:=Hd (P1.out.ext h2);clear h2 X1 P1 hr;have c0:=P2.out.c0;have c1:=P2.out.c1;have c2:=P2.out.c2;go_wp2_with fail;refine (ziN _ _ _ _ _ _ _ (HX.out.ext X2.out) (by omega)).mono ?_;rintro e w3 ⟨y,cy,mb,rfl,h1,h2,h3⟩;have X3:=Hd (X2.out.trans h3);have P3:=Hd (P2.out.ext h3);have HY:=Hd h1;have HM:=Hd h2;clear h1 h2 h3 X2 P2 c0 c1 c2;obtain⟨C,hC⟩:=nmE (Png.planC W H px n);obtain⟨R,hR⟩:=nmE (Png.planR W H px n);have HC:=Hd hC;have HRR:=Hd hR;clear hC hR;obtain⟨l,hl⟩:=nmE (Png.pals px n);have HPL:=Hd hl;have hll:l.length<=n:=by rw[<- hl];exact Png.ze8 px n
 rw[hl] at HY HM⊢;clear hl;go_upto_if 32 with fail
 go_cut [6,7] (λ s6 s7 wx=>s7=.string ⟨R.toArray⟩/\Hid (Ext w3 wx)/\Hid (Rw w3 wx s6 C.length C))
 case first=>
  by_cases hbig:256<l.length
  ·exact absurd hbig (by omega)
  have t0:=dF (p:=(256:Int)<(l.length:Int));obtain⟨N,hN⟩:=nmE (l.length);have HNN:=Hd hN;rw[hN] at hbig hll t0 HY⊢;clear hN;obtain⟨dep,hdep⟩:=nmE (depN N);have HDP:=Hd hdep;have HID:Hid (Png.IsDep dep):=Hd (by rw[<- hdep];unfold depN Png.IsDep;split;exact .inl rfl;split;exact .inr (.inl rfl);split;exact .inr (.inr (.inl rfl));exact .inr (.inr (.inr rfl)));have hd8:dep<=8:=by rcases HID.out with q | q | q | q <;> omega
  have HCb:Hid (C=[⟨Png.ihdr,⟨(Png.headL W H dep 3).toArray⟩⟩,⟨Png.plte,⟨(Png.colL l).toArray⟩⟩]++(if 0<Png.covs l N then [⟨Png.trns,⟨((Png.alpL l).take (Png.covs l N)).toArray⟩⟩] else [])):=Hd (by rw[<- HC.out];unfold Png.planC;rw[HPL.out,HNN.out,hdep]);have HRb:Hid (R=Png.rowsP dep W (λ i=>l.idxOf (px i)) H):=Hd (by rw[<- HRR.out];unfold Png.planR;rw[HPL.out,HNN.out,hdep]);have HDO:=Hd (ziX N w3);rw[hdep] at HDO;clear hdep;go_wp2_with fail;refine HDO.out.mono ?_;rintro e w4 ⟨rfl,h4⟩;have X4:=Hd h4;have P4:=Hd (P3.out.ext h4);clear h4 HDO;have c0:=P4.out.c0;have c1:=P4.out.c1;have c2:=P4.out.c2;have HHD:=Hd (znh W H dep 3 w4 HWH.out.1.2 HWH.out.2.1.2 (by omega) (by decide));go_wp2_with fail;refine HHD.out.mono ?_;rintro e w5 ⟨rfl,h5⟩;have X5:=Hd (X4.out.trans h5);have hzb:=X5.out.size;clear h5 HHD c0 c1 c2 X4 P4;obtain⟨D,hD⟩:∃D:ByteArray,(⟨(Png.headL W H dep 3).toArray⟩:ByteArray)=D:=⟨_,rfl⟩;rw[hD] at HCb⊢;clear hD;go_wp2_with (at_builtin;refine apA (qaK _ _ _ _) [.string Png.ihdr,.string D] ?_ (base:=w3.heap.size));intro v7 w7 hown hgrow _ hat;have X7:=Hd (X5.out.trans (Keeps.below (S:=λ _=>False) (Keeps.trans (Keeps.alloc (Ext.keeps (S:=λ _=>False) (Ext.refl w5)) (.cells #[.string Png.ihdr,.string D] 58)) ((Keeps.grown hgrow).mono (λ k _ q=>by cases q)) (λ _ _ q=>q)) (qaj _) (λ _ _ q=>q)));have R7:Hid (Rw w3 w7 v7 1 [⟨Png.ihdr,D⟩]):=Hd hown
  have P7:=Hd (P3.out.ext X7.out);have Y7:=Hd (HY.out.ext X7.out);have M7:=Hd (HM.out.ext X7.out);clear hown hgrow hat X5 HY;go_wp2_with fail;go_loopw [9,10,11,57] (λ v9 v10 v11 iv wr=>∃k:Nat,iv=.int .i64 (k:Int)/\k<=N/\v11=.int .i64 ((Png.covs l k:Nat):Int)/\Hid (CoS w7 wr v9 v10 (Png.colL (l.take k)) (Png.alpL (l.take k)))) (λ _ _ _ iv _=>N-(intOf iv).toNat)
  case atStart=>exact⟨0,rfl,by omega,rfl,Hd (CoS.start w7)⟩
  case round=>
   obtain⟨k,rfl,hk,rfl,HS⟩:=hrel;by_cases hlt:k<N
   ·have t1:=dT (p:=(k:Int)<(N:Int));obtain⟨A,rfl⟩:=Y7.out.isSome hlt;obtain⟨q,hq⟩:=nmE (Png.atL l k);have HQ:=Hd hq;obtain⟨c0,c1,c2,c3,hok⟩:=(Y7.out.ext HS.out.fr).2 A rfl k hlt;rw[hq] at c0 c1 c2 c3 hok;have HOK:=Hd hok;clear hok hq;have hki:(0:Int)<=(k:Int):=by omega
    have hkn:(k:Int)<(N:Int):=by omega
    go_wp2_with fail;obtain⟨a9,ha9⟩:=nmE (Png.colL (l.take k));obtain⟨a10,ha10⟩:=nmE (Png.alpL (l.take k));have hz9:a9.length=3*k:=by rw[<- ha9,Png.zno,qax,HNN.out,qcf (by omega)]
    have hz10:a10.length=k:=by rw[<- ha10,Png.zht,qax,HNN.out,qcf (by omega)]
    have HAA:=Hd (qaB ha9 ha10);rw[ha9,ha10] at HS;clear ha9 ha10;have HO9:Hid (∀b,(u9).ownBlock=some b->b<wr.heap.size):=Hd (λ b hb=>(HS.out.o9.lt b hb).2);have HO10:Hid (∀b,(u10).ownBlock=some b->b<wr.heap.size):=Hd (λ b hb=>(HS.out.o10.lt b hb).2);have hq3:zad [Png.u8i q.r,Png.u8i q.g,Png.u8i q.b]=[.int .u8 q.r,.int .u8 q.g,.int .u8 q.b]:=by unfold zad;simp only[qaG,qa9,Png.zbX HOK.out.r,Png.zbX HOK.out.g,Png.zbX HOK.out.b]
    have hq1:zad [Png.u8i q.a]=[.int .u8 q.a]:=by unfold zad;simp only[qaG,qa9,Png.zbX HOK.out.a]
    have HQV:=Hd (qaB hq3 hq1);clear hq3 hq1;refine zac (λ wz=>Ext wr wz/\Bk wz wr.heap.size #[.int .u8 q.r,.int .u8 q.g,.int .u8 q.b,.int .u8 q.a]) ⟨(Ext.refl wr).alloc _,Bk.at rfl⟩ ?_;rintro v1 ⟨hE,hB⟩;obtain⟨Tb,hTb⟩:=nmE (wr.heap.size);rw[hTb] at hB⊢;have LT:=Hd (show wr.heap.size<=Tb from qcx hTb);clear hTb c0 c1 c2 c3;have S_1:=Hd (HS.out.ext hE);have T_1:=Hd hB;have XR_1:=Hd hE.size;clear hE hB HS;have k0:=T_1.out.cell 0;have k1:=T_1.out.cell 1;have k2:=T_1.out.cell 2;have k3:=T_1.out.cell 3;refine qar (S:=λ w'=>w'.cell? ⟨Tb,0,none⟩=some (.int .u8 q.r)/\w'.cell? ⟨Tb,1,none⟩=some (.int .u8 q.g)/\w'.cell? ⟨Tb,2,none⟩=some (.int .u8 q.b)/\w'.cell? ⟨Tb,3,none⟩=some (.int .u8 q.a)) (by kernel_rfl) ⟨T_1.out.cell 0,T_1.out.cell 1,T_1.out.cell 2,T_1.out.cell 3⟩ (λ hHeld=>?_);clear hHeld;clear k0 k1 k2 k3;refine zab (λ wz=>Ext v1 wz) (show Ext v1 v1.drew from qag (Ext.refl v1)) ?_;rintro v2 h;have S_2:=Hd (S_1.out.ext h);have T_2:=Hd (T_1.out.ext h);have XR_2:=Hd (qam XR_1.out h.size);clear h S_1 T_1 XR_1;have hHeld:v2.cell? ⟨Tb,0,none⟩=some (.int .u8 q.r)/\v2.cell? ⟨Tb,1,none⟩=some (.int .u8 q.g)/\v2.cell? ⟨Tb,2,none⟩=some (.int .u8 q.b)/\v2.cell? ⟨Tb,3,none⟩=some (.int .u8 q.a):=⟨T_2.out.cell 0,T_2.out.cell 1,T_2.out.cell 2,T_2.out.cell 3⟩;refine tk5 0 1 2 3 4 ?_;refine tk5 5 6 9 10 11 ?_;refine rdH2 7 12 rfl rfl (λ KK hK=>?_) λ KK hK=>?_
    ·clear hHeld;have LX:=Hd (show wr.heap.size<=v2.heap.size from XR_2.out);go_simp;refine oS hK ⟨(T_2.out.ext ((Ext.refl v2).alloc _)).cell 0,(T_2.out.ext ((Ext.refl v2).alloc _)).cell 1,(T_2.out.ext ((Ext.refl v2).alloc _)).cell 2,(T_2.out.ext ((Ext.refl v2).alloc _)).cell 3⟩ λ hHeld=>?_;clear hK KK hHeld;refine zab (λ wz=>Ext v2 wz/\Bk wz v2.heap.size #[.int .u8 q.r,.int .u8 q.g,.int .u8 q.b]) ⟨(Ext.refl v2).alloc _,Bk.at rfl⟩ ?_;rintro v3 ⟨hE,hB⟩;obtain⟨Ab,hb⟩:=nmE (v2.heap.size);rw[hb] at hB LX;(try rw[hb]);have LA:=LX;clear LX;have S_3:=Hd (S_2.out.ext hE);have T_3:=Hd (T_2.out.ext hE);have XR_3:=Hd (qam XR_2.out hE.size);clear hE hb S_2 T_2 XR_2;have A_3:=Hd (hB);clear hB;have hHeld:v3.cell? ⟨Tb,0,none⟩=some (.int .u8 q.r)/\v3.cell? ⟨Tb,1,none⟩=some (.int .u8 q.g)/\v3.cell? ⟨Tb,2,none⟩=some (.int .u8 q.b)/\v3.cell? ⟨Tb,3,none⟩=some (.int .u8 q.a):=⟨T_3.out.cell 0,T_3.out.cell 1,T_3.out.cell 2,T_3.out.cell 3⟩;refine rdH2 8 12 rfl rfl (λ KK hK=>?_) λ KK hK=>?_
     ·clear hHeld;obtain⟨y9,d9,v4,hr,hz,hg⟩:=S_3.out.push (m:=3) [Png.u8i q.r,Png.u8i q.g,Png.u8i q.b] rfl (cs:=#[.int .u8 q.r,.int .u8 q.g,.int .u8 q.b]) HQV.out.1.symm A_3.out (by omega);rw[qad (show _=true by kernel_rfl)];unfold Oper.wp execOp;simp only[resolve,invoke,builtin,qbu,qbM,qas,qbg,qaG,qa9,Act.eval,qbD,qbf,qbe];simp only[qaO,qaz,qaC,qay,qbn,hr,qas,Oper.upon];have S_4:=Hd hz;have T_4:=Hd (zb1 hg T_3.out (λ e=>by have:=HO9.out _ e;have:=LT.out;omega));have XR_4:=Hd (show wr.heap.size<=v4.heap.size from qam XR_3.out hg.size);refine oS hK ⟨T_4.out.cell 0,T_4.out.cell 1,T_4.out.cell 2,T_4.out.cell 3⟩ λ hHeld=>?_;clear hK KK hr hHeld hz hg S_3 T_3 XR_3 A_3;have hHeld:v4.cell? ⟨Tb,0,none⟩=some (.int .u8 q.r)/\v4.cell? ⟨Tb,1,none⟩=some (.int .u8 q.g)/\v4.cell? ⟨Tb,2,none⟩=some (.int .u8 q.b)/\v4.cell? ⟨Tb,3,none⟩=some (.int .u8 q.a):=⟨T_4.out.cell 0,T_4.out.cell 1,T_4.out.cell 2,T_4.out.cell 3⟩;refine rdH 12 rfl λ KK hK=>?_;clear hHeld;have LX:=Hd (show wr.heap.size<=v4.heap.size from XR_4.out);go_simp;refine oS hK ⟨(T_4.out.ext ((Ext.refl v4).alloc _)).cell 0,(T_4.out.ext ((Ext.refl v4).alloc _)).cell 1,(T_4.out.ext ((Ext.refl v4).alloc _)).cell 2,(T_4.out.ext ((Ext.refl v4).alloc _)).cell 3⟩ λ hHeld=>?_
      clear hK KK hHeld;refine zab (λ wz=>Ext v4 wz/\Bk wz v4.heap.size #[.int .u8 q.a]) ⟨(Ext.refl v4).alloc _,Bk.at rfl⟩ ?_;rintro v5 ⟨hE,hB⟩;obtain⟨Cb,hb⟩:=nmE (v4.heap.size);rw[hb] at hB LX;(try rw[hb]);have LC:=LX;clear LX;have S_5:=Hd (S_4.out.ext hE);have T_5:=Hd (T_4.out.ext hE);have XR_5:=Hd (qam XR_4.out hE.size);clear hE hb S_4 T_4 XR_4;have C_5:=Hd (hB);clear hB;exact Yfx0
     clear hHeld;have LX:=Hd (show wr.heap.size<=v3.heap.size from XR_3.out);go_simp;refine oS hK ⟨(T_3.out.ext ((Ext.refl v3).alloc _)).cell 0,(T_3.out.ext ((Ext.refl v3).alloc _)).cell 1,(T_3.out.ext ((Ext.refl v3).alloc _)).cell 2,(T_3.out.ext ((Ext.refl v3).alloc _)).cell 3⟩ λ hHeld=>?_;clear hK KK hHeld;refine zab (λ wz=>Ext v3 wz/\Bk wz v3.heap.size #[.int .u8 q.a]) ⟨(Ext.refl v3).alloc _,Bk.at rfl⟩ ?_;rintro v4 ⟨hE,hB⟩;obtain⟨Cb,hb⟩:=nmE (v3.heap.size);rw[hb] at hB LX;(try rw[hb]);have LC:=LX;clear LX;have S_4:=Hd (S_3.out.ext hE);have T_4:=Hd (T_3.out.ext hE);have XR_4:=Hd (qam XR_3.out hE.size);have A_4:=Hd (A_3.out.ext hE);clear hE hb S_3 T_3 XR_3 A_3;have C_4:=Hd (hB);clear hB;have hHeld:v4.cell? ⟨Tb,0,none⟩=some (.int .u8 q.r)/\v4.cell? ⟨Tb,1,none⟩=some (.int .u8 q.g)/\v4.cell? ⟨Tb,2,none⟩=some (.int .u8 q.b)/\v4.cell? ⟨Tb,3,none⟩=some (.int .u8 q.a):=⟨T_4.out.cell 0,T_4.out.cell 1,T_4.out.cell 2,T_4.out.cell 3⟩;refine rdH 8 rfl λ KK hK=>?_;clear hHeld;obtain⟨y9,d9,v5,hr,hz,hg⟩:=S_4.out.push (m:=3) [Png.u8i q.r,Png.u8i q.g,Png.u8i q.b] rfl (cs:=#[.int .u8 q.r,.int .u8 q.g,.int .u8 q.b]) HQV.out.1.symm A_4.out (by omega);rw[qad (show _=true by kernel_rfl)];unfold Oper.wp execOp;simp only[resolve,invoke,builtin,qbu,qbM,qas,qbg,qaG,qa9,Act.eval,qbD,qbf,qbe]
     simp only[qaO,qaz,qaC,qay,qbn,hr,qas,Oper.upon];have S_5:=Hd hz;have T_5:=Hd (zb1 hg T_4.out (λ e=>by have:=HO9.out _ e;have:=LT.out;omega));have XR_5:=Hd (show wr.heap.size<=v5.heap.size from qam XR_4.out hg.size);have C_5:=Hd (zb1 hg C_4.out (λ e=>by have:=HO9.out _ e;have:=LC.out;omega));refine oS hK ⟨T_5.out.cell 0,T_5.out.cell 1,T_5.out.cell 2,T_5.out.cell 3⟩ λ hHeld=>?_;clear hK KK hr hHeld hz hg S_4 T_4 XR_4 A_4 C_4;exact Yfx0
    clear hHeld;have LX:=Hd (show wr.heap.size<=v2.heap.size from XR_2.out);go_simp;refine oS hK ⟨(T_2.out.ext ((Ext.refl v2).alloc _)).cell 0,(T_2.out.ext ((Ext.refl v2).alloc _)).cell 1,(T_2.out.ext ((Ext.refl v2).alloc _)).cell 2,(T_2.out.ext ((Ext.refl v2).alloc _)).cell 3⟩ λ hHeld=>?_;clear hK KK hHeld;refine zab (λ wz=>Ext v2 wz/\Bk wz v2.heap.size #[.int .u8 q.a]) ⟨(Ext.refl v2).alloc _,Bk.at rfl⟩ ?_;rintro v3 ⟨hE,hB⟩;obtain⟨Cb,hb⟩:=nmE (v2.heap.size);rw[hb] at hB LX;(try rw[hb]);have LC:=LX;clear LX;have S_3:=Hd (S_2.out.ext hE);have T_3:=Hd (T_2.out.ext hE);have XR_3:=Hd (qam XR_2.out hE.size);clear hE hb S_2 T_2 XR_2;have C_3:=Hd (hB);clear hB;have hHeld:v3.cell? ⟨Tb,0,none⟩=some (.int .u8 q.r)/\v3.cell? ⟨Tb,1,none⟩=some (.int .u8 q.g)/\v3.cell? ⟨Tb,2,none⟩=some (.int .u8 q.b)/\v3.cell? ⟨Tb,3,none⟩=some (.int .u8 q.a):=⟨T_3.out.cell 0,T_3.out.cell 1,T_3.out.cell 2,T_3.out.cell 3⟩;refine rdH 7 rfl λ KK hK=>?_;clear hHeld;have LX:=Hd (show wr.heap.size<=v3.heap.size from XR_3.out);go_simp;refine oS hK ⟨(T_3.out.ext ((Ext.refl v3).alloc _)).cell 0,(T_3.out.ext ((Ext.refl v3).alloc _)).cell 1,(T_3.out.ext ((Ext.refl v3).alloc _)).cell 2,(T_3.out.ext ((Ext.refl v3).alloc _)).cell 3⟩ λ hHeld=>?_;clear hK KK hHeld;refine zab (λ wz=>Ext v3 wz/\Bk wz v3.heap.size #[.int .u8 q.r,.int .u8 q.g,.int .u8 q.b]) ⟨(Ext.refl v3).alloc _,Bk.at rfl⟩ ?_;rintro v4 ⟨hE,hB⟩;obtain⟨Ab,hb⟩:=nmE (v3.heap.size)
    rw[hb] at hB LX;(try rw[hb]);have LA:=LX;clear LX;have S_4:=Hd (S_3.out.ext hE);have T_4:=Hd (T_3.out.ext hE);have XR_4:=Hd (qam XR_3.out hE.size);have C_4:=Hd (C_3.out.ext hE);clear hE hb S_3 T_3 XR_3 C_3;have A_4:=Hd (hB);clear hB;have hHeld:v4.cell? ⟨Tb,0,none⟩=some (.int .u8 q.r)/\v4.cell? ⟨Tb,1,none⟩=some (.int .u8 q.g)/\v4.cell? ⟨Tb,2,none⟩=some (.int .u8 q.b)/\v4.cell? ⟨Tb,3,none⟩=some (.int .u8 q.a):=⟨T_4.out.cell 0,T_4.out.cell 1,T_4.out.cell 2,T_4.out.cell 3⟩;refine rdH 8 rfl λ KK hK=>?_;clear hHeld;obtain⟨y9,d9,v5,hr,hz,hg⟩:=S_4.out.push (m:=3) [Png.u8i q.r,Png.u8i q.g,Png.u8i q.b] rfl (cs:=#[.int .u8 q.r,.int .u8 q.g,.int .u8 q.b]) HQV.out.1.symm A_4.out (by omega);rw[qad (show _=true by kernel_rfl)];unfold Oper.wp execOp;simp only[resolve,invoke,builtin,qbu,qbM,qas,qbg,qaG,qa9,Act.eval,qbD,qbf,qbe];simp only[qaO,qaz,qaC,qay,qbn,hr,qas,Oper.upon];have S_5:=Hd hz;have T_5:=Hd (zb1 hg T_4.out (λ e=>by have:=HO9.out _ e;have:=LT.out;omega));have XR_5:=Hd (show wr.heap.size<=v5.heap.size from qam XR_4.out hg.size);have C_5:=Hd (zb1 hg C_4.out (λ e=>by have:=HO9.out _ e;have:=LC.out;omega));refine oS hK ⟨T_5.out.cell 0,T_5.out.cell 1,T_5.out.cell 2,T_5.out.cell 3⟩ λ hHeld=>?_
    clear hK KK hr hHeld hz hg S_4 T_4 XR_4 C_4 A_4;exact Yfx0
   obtain rfl:k=N:=by omega
   have t1:=dF (p:=(k:Int)<(k:Int));have htk:l.take k=l:=qan (by rw[HNN.out];exact qaj _);rw[htk] at HS;clear htk;obtain⟨y9,d9,rfl⟩:=zdA HS.out.o9;obtain⟨y10,d10,rfl⟩:=zdA HS.out.o10;have hcv:=zfq rfl HS.out.o9;obtain⟨T9,hT9⟩:=nmE (tx (Png.colL l));rw[hT9] at hcv;have HT9:=Hd hT9;clear hT9;have HR8:=Hd (R7.out.ext HS.out.fr);have HRow:=Hd (show wr.ownsRow w3.heap.size 58 2 v7 1 (ckL [⟨Png.ihdr,D⟩]) from HR8.out);have hzw:=(X7.out.trans HS.out.fr).size;go_wp2_with (at_builtin;refine apA (HRow.out.alloc _) [.string Png.plte,.string T9] ?_ (hnews:=?c1))
   case c1=>
    intro j u hu;rw[zae];exact (Bk.at (w:=wr) rfl).cell j |>.trans (by simpa [Png.plte] using hu)
   intro v8 w8 hown hgrow _ hat;obtain⟨hck,hx8⟩:=zfX (k:=Png.plte) (d:=T9) (wr:=wr.alloc (.cells #[.string Png.plte,.string T9] 58)) ((X7.out.trans HS.out.fr).alloc _) (HRow.out.alloc _) hgrow hown;have A8:=Hd (HS.out.kept10 (λ b hb=>(R7.out.lt b hb).2) hgrow);have X8:=Hd hx8;have R8:=Hd hck;have X8:=Hd hx8;have R8:=Hd hck;clear hx8 hck hown hgrow hat HRow HR8 HS hcv R7;have hcl:=Png.zj3 l k;obtain⟨cv,hcv⟩:=nmE (Png.covs l k);have HCV:=Hd hcv;rw[hcv] at HCb hcl⊢;clear hcv;go_upto_if 89 with fail
   go_cut [6] (λ s6 wx=>Hid (Ext w3 wx)/\Hid (Rw w3 wx s6 C.length C))
   case first=>
    by_cases h0:0<cv
    ·have t2:=dT (p:=(0:Int)<(cv:Int));rw[qad h0] at HCb;have HEA:=Hd (show (Png.alpL l).length=k by rw[Png.zht,HNN.out]);have hcap:=zoT A8.out;have hcv:=zlS A8.out (by rw[HEA.out];exact hcl) h0;obtain⟨T10,hT10⟩:∃T:ByteArray,(⟨((Png.alpL l).take cv).toArray⟩:ByteArray)=T:=⟨_,rfl⟩;rw[hT10] at hcv HCb;clear hT10;have hcd:cv<=d10:=by have:=HEA.out;omega
     have HCP:=Hd hcap;clear hcap;have hcI:(cv:Int)<=(d10:Int):=by omega
     have HRow:=Hd (show w8.ownsRow w3.heap.size 58 2 v8 2 (ckL [⟨Png.ihdr,D⟩,⟨Png.plte,T9⟩]) from R8.out);have hzw8:=X8.out.size;go_wp2_with (at_builtin;refine apA (HRow.out.alloc _) [.string Png.trns,.string T10] ?_ (hnews:=?c1))
     case c1=>
      intro j u hu;rw[zae];exact (Bk.at (w:=w8) rfl).cell j |>.trans (by simpa [Png.trns] using hu)
     intro v11 w11 hown hgrow _ hat;obtain⟨hck,hx11⟩:=zfX (k:=Png.trns) (d:=T10) (wr:=w8.alloc (.cells #[.string Png.trns,.string T10] 58)) (X8.out.alloc _) (HRow.out.alloc _) hgrow hown;have X11:=Hd hx11;have R11:=Hd hck;clear hx11 hck hown hgrow hat HRow hcv;go_wp2_with fail;go_meet
     exact⟨X11,Hd (by rw[HCb.out,<- zeo,HT9.out];exact R11.out)⟩
    have t2:=dF (p:=(0:Int)<(cv:Int));rw[qac h0,qbW] at HCb;go_wp2_with fail;go_meet
    exact⟨X8,Hd (by rw[HCb.out,<- zeo,HT9.out];exact R8.out)⟩
   obtain⟨HXb,HRb6⟩:=hcut;have Pb:=Hd (P3.out.ext HXb.out);have Mb:=Hd (HM.out.ext HXb.out);have Xb:=Hd (HX.out.ext (X3.out.trans HXb.out));clear P3 HM HX A8 X8 R8 Y7 M7 P7 X7 HTB hcl hzw HT9;rename World=>wb;obtain⟨j1,hj1,hy0,hy1,hy2⟩:=qbb zdI;obtain⟨vv,hvv⟩:∃f:Nat->Nat,(λ i=>l.idxOf (px i))=f:=⟨_,rfl⟩;have HVV:=Hd hvv;rw[hvv] at HRb;clear hvv;obtain⟨nb,hnb⟩:∃q:Nat,(W*dep+7)/8=q:=⟨_,rfl⟩;have HNB:=Hd hnb;obtain⟨WD,hWD⟩:∃q:Nat,W*dep=q:=⟨_,rfl⟩;have HWD:=Hd hWD;have hWb:=HWH.out.1;have hHb:=HWH.out.2.1;have hWD8:WD<=2048:=by rw[<- hWD];exact qam (qaE hWb.2 hd8) (by decide)
   have hd1:1<=dep:=by rcases HID.out with q | q | q | q <;> omega
   have hWD1:1<=WD:=by rw[<- hWD];exact qaE hWb.1 hd1
   have hnb1:1<=nb/\nb<=256:=by rw[hWD] at hnb;omega
   have hmul:(W:Int)*(dep:Int)=(WD:Int):=by rw[<- hWD];push_cast;rfl
   have hquo:((WD:Int)+7).tdiv 8=(nb:Int):=by rw[hWD] at hnb;rw[<- hnb];rfl
   have HAR:=Hd (qaB hmul hquo);clear hnb hWD;have c0:=Pb.out.c0;have c1:=Pb.out.c1;have c2:=Pb.out.c2;go_wp2_with fail;clear c0 c1 c2;go_loopw [14,100] (λ bv iv wr=>∃y:Nat,iv=.int .i64 (y:Int)/\y<=H/\Hid (RbS wb wr bv (Png.rowsP dep W vv y))) (λ _ iv _=>H-(intOf iv).toNat)
   case atStart=>exact⟨0,rfl,by omega,Hd (RbS.start wb)⟩
   case round=>
    obtain⟨y,rfl,hy,HB⟩:=hrel;by_cases hlt:y<H
    ·have t1:=dT (p:=(y:Int)<(H:Int));have hL:=Png.zgF dep W vv y;rw[HNB.out] at hL;obtain⟨LB,hLB⟩:=nmE ((Png.rowsP dep W vv y).length);have hLm:LB<=70000:=by rw[<- hLB,hL];exact qam (qaE (show y<=256 by omega) (show nb+1<=257 by omega)) (by decide)
     have HLB:=Hd hLB;have HRow:=Hd (show wr.ownsRow wb.heap.size 5 1 u14 LB (zad (Png.rowsP dep W vv y)) from by rw[<- hLB];exact HB.out.own);clear hL hLB;have hzb:=HB.out.fr.size;go_wp2_with (at_builtin;refine apA (HRow.out.alloc _) [.int .u8 0] ?_);intro v1 w1 hown hgrow _ hat;have HB1:=Hd (RbS.app (m:=[0]) (n:=LB+1) (HB.out.ext ((Ext.refl wr).alloc _)) (by rw[HLB.out];rfl) hown hgrow);clear hown hgrow hat HRow hzb;have P1:=Hd (HB1.out.keepsPic Pb.out);have c0:=P1.out.c0;have c1:=P1.out.c1;have c2:=P1.out.c2;have hzb:=HB1.out.fr.size;have HRow:=Hd (show w1.ownsRow wb.heap.size 5 1 v1 (LB+1) (zad (Png.rowsP dep W vv y ++ [0])) from by have:=HB1.out.own;rw[qaa,HLB.out] at this;exact this);have hmul:=HAR.out.1;have hquo:=HAR.out.2;have w1q:=wqz (x:=(WD:Int));have w2q:=wqz (x:=(WD:Int)+7);have w3q:=wqz (x:=(nb:Int));go_wp2_with (at_builtin;go_loud (refine zdp _ rfl _ _ 62 3 rfl wb.heap.size 5 j1 _ 1 1 .i64 .i64 Tryz.underlying62 Tryz.underlying3 hj1 hy0 hy1 hy2 rfl (by decide) _ _ _ rfl HRow.out nb ?c0 ?c1 _ (ziZ nb) ?c2 ?c3 ?c4 ?c5 ?_))
     case c0=>rfl
     case c1=>omega
     case c2=>exact zfn _
     case c3=>unfold maxLen;omega
     case c4=>omega
     case c5=>exact hzb
     intro v2 w2 hown hgrow hat;have HB2:=Hd (RbS.app (m:=List.replicate nb 0) (n:=LB+1+nb) HB1.out (by rw[qaa,HLB.out,qaT];rfl) hown hgrow);clear hown hgrow hat HRow hzb c0 c1 c2 P1 HB1;obtain⟨K,hK⟩:=nmE (LB+1);obtain⟨pre,hpre⟩:=nmE (Png.rowsP dep W vv y ++ [0]);have HPRE:=Hd hpre;have hpl:pre.length=K:=by rw[<- hpre,qaa,HLB.out];exact hK
     rw[hpre] at HB2;clear hpre;have HPL2:=Hd hpl;have hTL:(pre++List.replicate nb 0).length=K+nb:=by rw[qaa,qaT,hpl]
     obtain⟨gb,cb,rfl,hcb⟩:=HB2.out.some (by omega);rw[hTL] at HB2 hcb⊢;clear hTL hpl;obtain⟨TL,hTL⟩:=nmE (K+nb);rw[hTL] at HB2 hcb⊢;have hsub:(TL:Int)-(nb:Int)=(K:Int):=by omega
     have w4q:=wqz (x:=(K:Int));have hkc:K<=cb:=by omega
     have hkt:K<=TL:=by omega
     have hkI:(K:Int)<=(cb:Int):=by omega
     have hkn:¬ (cb=K):=by omega
     have hkn2:¬ (cb-K=0):=by omega
     have hktI:(K:Int)<=(TL:Int):=by omega
     have hk0:(0:Int)<=(K:Int):=by omega
     have P2:=Hd (HB2.out.keepsPic Pb.out);have c0:=P2.out.c0;have c1:=P2.out.c1;have c2:=P2.out.c2;go_wp2_with fail;obtain⟨LK,hLK⟩:=nmE (TL-K);obtain⟨CK,hCK⟩:=nmE (cb-K);rw[hLK,hCK];have hLKn:LK=nb:=by omega
     clear hLK hCK;subst hLKn;have HKS:=Hd hTL;have HKS:=Hd hTL;clear hsub w4q hkc hkt hkI hkn hkn2 hktI hk0 w1q w2q w3q hmul hquo hK hTL c0 c1 c2;go_loopw [127] (λ iv wr=>∃x:Nat,iv=.int .i64 (x:Int)/\x<=W/\Hid (RbS wb wr (.slice (some ⟨gb,0,none⟩) TL cb) (pre++Png.packR dep LK (λ x=>vv (y*W+x)) x))) (λ iv _=>W-(intOf iv).toNat)
     case atStart=>exact⟨0,rfl,by omega,HB2⟩
     case round=>
      clear HB2 P2;obtain⟨xx,rfl,hxx,HB3⟩:=hrel;by_cases hlx:xx<W
      ·have t2:=dT (p:=(xx:Int)<(W:Int));obtain⟨xd,hxd⟩:∃q:Nat,xx*dep=q:=⟨_,rfl⟩;have hxd1:xd<=2048:=by rw[<- hxd];exact qam (qaE (show xx<=256 by omega) hd8) (by decide)
       have hxm:(xx:Int)*(dep:Int)=(xd:Int):=by rw[<- hxd];push_cast;rfl
       have hji:=Png.ze3 (x:=xx) HID.out hlx;have hsf:=Png.zeZ (x:=xx) HID.out;obtain⟨sh,hsh⟩:=nmE (Png.sft dep xx);have HSH:=Hd hsh;rw[hsh] at hsf;unfold Png.sft at hsh;rw[hxd] at hji hsh;rw[HNB.out] at hji;have hms:xd%8+dep<=8:=by rw[<- hxd];rcases HID.out with h | h | h | h <;> rw[h] <;> omega
       obtain⟨jj,hjj⟩:=nmE (xd/8);obtain⟨m8,hm8⟩:=nmE (xd%8);obtain⟨s8,hs8⟩:=nmE (8-dep);have hq8:(xd:Int).tdiv 8=(jj:Int):=by rw[<- hjj];rfl
       have hr8:(xd:Int).tmod 8=(m8:Int):=by rw[<- hm8];rfl
       rw[hjj] at hji;rw[hm8] at hms;rw[hm8,hs8] at hsh;have hs8i:(8:Int)-(dep:Int)=(s8:Int):=by omega
       have hshi:(s8:Int)-(m8:Int)=(sh:Int):=by omega
       obtain⟨yW,hyW⟩:∃q:Nat,y*W=q:=⟨_,rfl⟩;obtain⟨pi,hpi⟩:∃q:Nat,yW+xx=q:=⟨_,rfl⟩;have hpn:pi<n:=by have:=HWH.out.2.2;have h2:(y+1)*W<=H*W:=qaW _ (by omega);rw[qcc] at h2;omega
       have hyWi:(y:Int)*(W:Int)=(yW:Int):=by rw[<- hyW];push_cast;rfl
       have hpii:(yW:Int)+(xx:Int)=(pi:Int):=by omega
       have HPI:=Hd (show y*W+xx=pi by omega);obtain⟨A,rfl⟩:=Xb.out.isSome hpn;obtain⟨q,hq⟩:=nmE (px pi);have HQ:=Hd hq;obtain⟨k0,k1,k2,k3,hok⟩:=(Xb.out.ext HB3.out.fr).2 A rfl pi hpn;rw[hq] at k0 k1 k2 k3 hok;have HOK:=Hd hok;have hmem:q∈l:=by rw[<- HPL.out,Png.zh6];exact⟨pi,hpn,hq⟩
       obtain⟨v,hv⟩:=nmE (l.idxOf q);have hvl:v<k:=by rw[<- hv,<- HNN.out];exact List.idxOf_lt_length_of_mem hmem
       have hnum:Png.num l q=some v:=by unfold Png.num;rw[qad hmem,hv]
       have hvd:v<2^dep:=by have:=Png.zlc (n:=k) (by omega);rw[HDP.out] at this;omega
       have tl:=(Mb.out.ext (show Ext wb wr.drew from qag HB3.out.fr)).get HOK.out hnum;unfold P4.val pixv at tl;have HV:=Hd (show vv pi=v from by rw[<- HVV.out];show l.idxOf (px pi)=v;rw[hq];exact hv);clear hok hq hv hnum hmem;obtain⟨o,ho⟩:∃o,(Png.packR dep LK (λ x=>vv (y*W+x)) xx).getD jj 0=o:=⟨_,rfl⟩;have HO:=Hd ho;have hpk:=Png.zd4 dep LK (λ x=>vv (y*W+x)) xx;have hcell:=HB3.out.cell (i:=K+jj) (by rw[qaa,HPL2.out,hpk];omega);have hfz:=HB3.out.froz (i:=K+jj);rw[qaY,qbA (by rw[HPL2.out];omega),HPL2.out,Nat.add_sub_cancel_left,<- qaY,ho] at hcell;clear ho hpk;have hslt:v <<< sh<256:=by rw[<- HSH.out];exact Png.zom HID.out hvd
       have hv256:v<256:=by omega
       have P3b:=Hd (HB3.out.keepsPic Pb.out);have c0:=P3b.out.c0;have c1:=P3b.out.c1;have c2:=P3b.out.c2;obtain⟨wa1,wb1⟩:=pwq (x:=(xd:Int)) ⟨by omega,by omega⟩;obtain⟨wa2,wb2⟩:=pwq (x:=(jj:Int)) ⟨by omega,by omega⟩;obtain⟨wa3,wb3⟩:=pwq (x:=(m8:Int)) ⟨by omega,by omega⟩;obtain⟨wa4,wb4⟩:=pwq (x:=(s8:Int)) ⟨by omega,by omega⟩;obtain⟨wa5,wb5⟩:=pwq (x:=(sh:Int)) ⟨by omega,by omega⟩;obtain⟨wa6,wb6⟩:=pwq (x:=(yW:Int)) ⟨by omega,by omega⟩;obtain⟨wa7,wb7⟩:=pwq (x:=(pi:Int)) ⟨by omega,by omega⟩;have wu:IntKind.u8.wrap (v:Int)=(v:Int):=by rw[IntKind.wrap_u8];omega
       have i1:(0:Int)<=(jj:Int):=by omega
       have i2:(jj:Int)<(LK:Int):=by omega
       have i3:(0:Int)<=(pi:Int):=by omega
       have i4:(pi:Int)<(n:Int):=by omega
       have i5:¬ ((sh:Int)<0):=by omega
       have HJ:=Hd (qaB hjj (qaB hxd hji));clear hjj hxd hji hm8 hs8 hsh hyW hpi;go_wp2_with fail;refine zbB 26 (by kernel_rfl) (by kernel_rfl) ?_;simp only[qao,qaH,qaw,qaS];refine qY ?_;refine qY ?_;refine qY ?_;refine qY ?_;refine qY ?_;refine qY ?_;refine qY ?_;refine qY ?_;refine qY ?_;refine qY ?_;refine qY ?_;refine qY ?_;refine qY ?_;refine qY ?_;refine qY ?_;refine qY ?_;refine qY ?_;refine qY ?_;refine qY ?_;refine qY ?_;refine qY ?_;refine qY ?_;refine qY ?_;refine qY ?_;refine qY ?_;refine qY ?_;refine zaf ?_;go_wp2_with fail;go_roundw
       case rel=>
        refine⟨xx+1,by go_num,by omega,Hd ?_⟩;rw[zqP o hslt];have e:Png.packR dep LK (λ x=>vv (y*W+x)) (xx+1)=(Png.packR dep LK (λ x=>vv (y*W+x)) xx).set jj (o ||| UInt8.ofNat (v <<< sh)):=by
         show (Png.packR dep LK (λ x=>vv (y*W+x)) xx).set (xx*dep/8) ((Png.packR dep LK (λ x=>vv (y*W+x)) xx).getD (xx*dep/8) 0 ||| UInt8.ofNat (vv (y*W+xx) <<< Png.sft dep xx))=_;rw[HJ.out.2.1,HJ.out.1,HO.out,HPI.out,HV.out,HSH.out]
        have h:=(HB3.out.put (i:=K+jj) (o ||| UInt8.ofNat (v <<< sh))).ext (qag (Ext.refl _));rw[zku _ _ HPL2.out,<- e] at h;exact h
       case measure=>simp[intOf];omega
      obtain rfl:xx=W:=by omega
      have t2:=dF (p:=(xx:Int)<(xx:Int));go_wp2_with fail;go_roundw
      case rel=>
       refine⟨y+1,by go_num,by omega,Hd ?_⟩;have h:=HB3.out;rw[<- HPRE.out,qat] at h;have e:Png.rowsP dep xx vv (y+1)=Png.rowsP dep xx vv y++([0]++Png.packR dep LK (λ x=>vv (y*xx+x)) xx):=by
        show _++(0 ::Png.packR dep ((xx*dep+7)/8) _ xx)=_;rw[HNB.out];rfl
       rw[e];exact h
      case measure=>simp[intOf];omega
    obtain rfl:y=H:=by omega
    have t1:=dF (p:=(y:Int)<(y:Int));obtain⟨yb,db,rfl⟩:=zdA HB.out.own;have hcv:=zfq rfl HB.out.own;have HF:=Hd (qaB HRb.out (qaB (HXb.out.trans HB.out.fr) (HRb6.out.ext HB.out.fr)));have hkl:=HNN.out;clear HRb HXb HRb6 HB;subst hkl;go_wp2_with fail;go_meet
    exact⟨by rw[HF.out.1,zeo],Hd HF.out.2.1,Hd HF.out.2.2⟩
 obtain⟨rfl,HXa,HRa⟩:=hcut;have HRs:Hid (R=[0,0]):=Hd (by rw[<- HRR.out];exact HRL.out);have HCs:Hid (C.length<=3/\∀c∈C,c.Ok):=Hd (by rw[<- HC.out];exact HCK.out);have HW:=Hd (X3.out.trans HXa.out);have HEc:=Hd (HER.out.ext HW.out);have HZ:=Hd (zpr ⟨R.toArray⟩ wc (HTB.out.ext HW.out) (sentV (E 1)) (sentV (E 2)) (HEc.out.var 1 (by decide)) (HEc.out.var 2 (by decide)) (by rw[HRs.out]));go_wp2_with fail;refine HZ.out.mono ?_;rintro e w4 ⟨⟨z,rfl,hz3,hz4⟩,hx4⟩;have HZ1:=Hd hz3;have HZ2:=Hd hz4;have R4:=Hd (HRa.out.ext hx4);have X4:=Hd (HXa.out.trans hx4);clear hz3 hz4 hx4 HRa HXa HZ;obtain⟨Z,hZ⟩:∃Z:ByteArray,(⟨(zipL z R).toArray⟩:ByteArray)=Z:=⟨_,rfl⟩;have HZZ:=Hd hZ;rw[show (⟨R.toArray⟩:ByteArray).data.toList=R from rfl,hZ];clear hZ;obtain⟨N,hN⟩:=nmE (C.length);have HN:=Hd hN;rw[hN] at R4;clear hN;have hN3:N<=3:=by rw[<- HN.out];exact HCs.out.1
 have hzb:=X4.out.size;have HRow:=Hd (show w4.ownsRow w3.heap.size 58 2 u6 N (ckL C) from R4.out);go_wp2_with (at_builtin;refine apA (HRow.out.alloc _) [.string Png.idat,.string Z,.string Png.iend,.string ⟨#[]⟩] ?_ (hnews:=?c1))
 case c1=>
  intro j u hu;rw[zae];exact (Bk.at (w:=w4) rfl).cell j |>.trans (by simpa [Png.idat,Png.iend] using hu)
 intro v7 w7 hown hgrow _ hat;have O7:w7.ownsRow w3.heap.size 58 2 v7 (Png.fullC C (zipL z R)).length (ckL (Png.fullC C (zipL z R))):=by
  unfold Png.fullC;rw[zdW,zdW,qaa,qaa,HN.out,HZZ.out,qat];exact hown
 have X7:=Hd (Below.trans X4.out ((Keeps.trans (Keeps.alloc (Ext.keeps (S:=λ i=>(u6).ownBlock=some i) (Ext.refl w4)) (.cells #[.string Png.idat,.string Z,.string Png.iend,.string ⟨#[]⟩] 58)) (Keeps.grown hgrow) (λ _ _ q=>q)).below hzb (λ k hk q=>by have:=(HRow.out.lt k q).1;omega)));obtain⟨x7,c7,rfl,hC7⟩:=Cks.of_own O7;have HC7:=Hd hC7;clear hown hgrow hat O7 HRow R4 X4 hC7;have HOK:Hid (∀c∈Png.fullC C (zipL z R),c.Ok):=Hd (Png.znb HCs.out.2 HZ2.out (by rw[HRs.out];decide));have hfl:(Png.fullC C (zipL z R)).length=N+2:=by unfold Png.fullC;rw[qaa,qaa,HN.out];rfl
 obtain⟨D,hD⟩:=nmE (Png.fullC C (zipL z R));have HD:=Hd hD;rw[hD] at HC7 HOK hfl⊢;clear hD;obtain⟨M,hM⟩:=nmE (D.length);have HWR:=Hd (zlz x7 c7 D w7 E (HER.out.ext (X3.out.trans X7.out)).c HC7.out (by omega) HOK.out);have HM7:=Hd hM;rw[hM] at HWR⊢;go_wp2_with fail;refine HWR.out.mono ?_;rintro e w8 ⟨hX8,h8⟩;rcases h8 with⟨out,ho,rfl⟩ | ⟨ce,ie,F,hce,hie,hb,rfl,hF⟩
 ·have HX8:=Hd hX8;have HX8:=Hd hX8;have HO:=Hd ho;clear hX8 ho;go_wp2_with fail;go_ret2;exact⟨((X3.out.trans X7.out).trans HX8.out),z,w7,by rw[HRR.out];exact HZ1.out,by rw[HRR.out];exact HZ2.out,by rw[HC.out,HRR.out,HD.out,HM7.out];exact⟨HX8.out,.inl ⟨out,HO.out,rfl⟩⟩⟩
 have HX8:=Hd hX8;have HO:=Hd (qaB hce (qaB hie (qaB hb hF)));clear hX8 hce hie hb hF;go_wp2_with fail;go_ret2;exact⟨((X3.out.trans X7.out).trans HX8.out),z,w7,by rw[HRR.out];exact HZ1.out,by rw[HRR.out];exact HZ2.out,by rw[HC.out,HRR.out,HD.out,HM7.out];exact⟨HX8.out,.inr ⟨ce,ie,F,HO.out.1,HO.out.2.1,HO.out.2.2.1,rfl,HO.out.2.2.2⟩⟩⟩
structure PgE (u wr:World) (W H:Int) (v:Value) (k:Nat) (px:Nat->P4):Prop where
  ext:Ext u wr
  pic:Bk wr u.heap.size #[.int .i64 W,.int .i64 H,v]
  own:wr.ownsRow u.heap.size 53 4 v k (pxV k px)
  ne:v.ownBlock≠some u.heap.size
theorem PgE.go {u wr wz:World} {W H:Int} {v:Value} {k:Nat} {px:Nat->P4} (h:PgE u wr W H v k px) (hE:Ext wr wz):PgE u wz W H v k px:=
  ⟨h.ext.trans hE,h.pic.ext hE,zaa (S:=λ _=>False) h.own hE.keeps (λ _ _=>id),h.ne⟩
theorem PgE.start {u wz:World} {W H:Int} {px:Nat->P4} (hE:Ext u wz) (hP:Bk wz u.heap.size #[.int .i64 W,.int .i64 H,.slice none 0 0]):PgE u wz W H (.slice none 0 0) 0 px:=
  ⟨hE,hP,qaK _ _ _ _,λ h=>(by cases h)⟩
theorem PgE.grown {u wr w3:World} {W H:Int} {x:Option Addr} {c k:Nat} {px:Nat->P4} {v':Value} (h:PgE u wr W H (.slice x k c) k px) (hown:w3.ownsRow u.heap.size 53 4 v' (k+1) (pxV k px ++ [.int .u8 (px k).r,.int .u8 (px k).g,.int .u8 (px k).b,.int .u8 (px k).a])) (hgrow:wr.grownBy w3 (Value.slice x k c).ownBlock) (hat:v'.ownBlock=(Value.slice x k c).ownBlock\/v'.ownBlock=some wr.heap.size):
    w3.cell? ⟨u.heap.size,2,none⟩=some (.slice x k c)/\w3.frozen? ⟨u.heap.size,2,none⟩=false/\PgE u (w3.setCell ⟨u.heap.size,2,none⟩ v') W H v' (k+1) px:=by
  have hT:u.heap.size<wr.heap.size:=h.pic.lt;have hkk:Keeps (λ q=>(Value.slice x k c).ownBlock=some q) wr w3:=Keeps.grown hgrow;have hB3:=h.pic.keeps hkk h.ne;have hng:v'.ownBlock≠some u.heap.size:=by
    rcases hat with q | q
    · rw[q];exact h.ne
    rw[q];intro e;injection e with e;omega
  have hE:Ext u w3:=Below.trans h.ext (hkk.below h.ext.size (λ q hq e=>by have:=(h.own.lt q e).1;omega));exact⟨hB3.cell 2,hB3.frozen 2,hE.setCell (by exact qaj _) _,hB3.set_ 2 v',by rw[zfb];exact qaI hown hng _,hng⟩
end Go.Proofs.YthlibiocadimhaaGreatDoor
