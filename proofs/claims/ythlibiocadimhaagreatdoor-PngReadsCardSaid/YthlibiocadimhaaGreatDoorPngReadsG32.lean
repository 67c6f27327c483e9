/-
  the document's reader: a block's words.
-/
import Derived.Test.YthlibiocadimhaaGreatDoorPngReadsG26
set_option linter.all false
set_option maxRecDepth 100000
namespace Go.Proofs.YthlibiocadimhaaGreatDoor
open Go.RowKit
theorem Ygm12 {p:Prop} (h:p:=by
 rintro r w5 ⟨hKq,hP⟩;rw[qad rfl,HGT.out] at hP;obtain⟨rfl,hB⟩:=hP;have H_5:=Hd (H_4.out.quiet hKq hB);have CT_5:=Hd (zaz CT_4.out hKq HCQ.out);clear hKq hB H_4 CT_4;go_simp;refine oT hK ?_;clear hK KK;refine tk2 8 9 ?_;refine dnT ?_;(try go_wp2_with fail);go_meet
 exact⟨rfl,H_5⟩):p:=h
theorem Ygm13 {p:Prop} (h:p:=by
 refine rdT 19 λ KK hK=>?_;have HRo:=Hd (zaa HO.out (Y_2.out.keeps (S:=λ _=>False)) (λ _ _ q=>q));refine apL HRo.out [.int .u8 (y.toNat:Int)] ?_ (hnews:=(λ j u hu=>?c1))
 case c1=>
  obtain rfl:j=0:=by have:=(qa7.1 hu).1;simpa using this
  rw[zae,T1_2.out.cell 0];exact hu
 intro g1 cap1 w4 hown hgrow hat hlt1;have P:=H_2.out.byte (y:=y) HM.out (Ext.refl _) hgrow hown (by rcases hat with q | q;exact .inl q.symm;exact .inr (by rw[q];rfl));have b1:w4.cell? ⟨Q,2,none⟩=some (.slice (some ⟨gb,0,none⟩) M cp):=P.1.cell 2;have f1:=P.1.frozen 2;have HP:=Hd P.2;clear P hown hgrow hat hlt1;refine oT hK ?_;clear hK KK;refine tk2 20 21 ?_;refine rdT 22 λ KK hK=>?_;go_simp;refine oT hK ?_;clear hK KK b1 f1;refine dnT ?_;have wj:=wqz (x:=(j:Int)+1);have HU2:=Hd HUS.out;go_wp2_with fail;go_roundw
 case rel=>exact⟨j+1,_,by omega,by go_num,Hd (by rw[HU2.out];exact HP.out)⟩
 case measure=>simp[intOf];omega):p:=h
theorem Ygm6 {p:Prop} (h:p:=by
 refine rdT 7 λ KK hK=>?_;go_simp;refine (zao Q a1 0 lb L (qx x B7 B8 vo vt) _ H_4.out.bk (by omega) (by omega) hL).mono ?_;exact Ygm12):p:=h
theorem Ygm7 {p:Prop} (h:p:=by
 simp only[HLN.out] at ce;go_simp;refine oT hK ?_;clear hK KK ce;refine tk2 8 9 ?_;refine dnT ?_;(try go_wp2_with fail);go_meet
 exact⟨rfl,H_5⟩):p:=h
theorem Ygm8 {p:Prop} (h:p:=by
 go_wp2_with fail;refine rokF H_1.out.bk ?_;go_wp2_with fail;go_end0;exact zbM HQ.out rfl H_1.out):p:=h
theorem Ygm9 {p:Prop} (h:p:=by
 refine rdT 7 λ KK hK=>?_;go_simp;refine (zao Q a3 0 db L (qx x B7 B8 vo vt) _ H_4.out.bk (by omega) (by omega) hL).mono ?_;exact Ygm12):p:=h
theorem Ygm10 {p:Prop} (h:p:=by
 refine rdT 17 λ KK hK=>?_;have hc:=zai Y_1.out HC.out;go_simp;refine oT hK ?_;clear hK KK hc;refine rdT 18 λ KK hK=>?_;go_simp;refine oT hK ?_;clear hK KK;refine zab (λ wz=>Ext w1 wz/\Bk wz w1.heap.size #[.int .u8 (y.toNat:Int)]) ⟨Ext.alloc (Ext.refl _) _,Bk.at rfl⟩ ?_;rintro w2 ⟨h,hB⟩;have H_2:=Hd (H_1.out.ext h);have Y_2:=Hd (Y_1.out.trans h);clear h H_1 Y_1;have T1_2:=Hd (hB);clear hB;exact Ygm13):p:=h
theorem Ygm11 {p:Prop} (h:p:=by
 exact Ygm13):p:=h
theorem Ygm0 {p:Prop} (h:p:=by
 as_aux_lemma=>
  refine rgW λ w3 h=>?_;have H_3:=Hd (H_2.out.ext h);clear h H_2;refine tk3 1 4 5 ?_;refine rdT 0 λ KK hK=>?_;go_simp;refine (zmR _).mono ?_;rintro r w4 ⟨C,rfl,hge,hcs,hE⟩;have H_4:=Hd (H_3.out.ext hE);have HCQ:Hid (C≠Q):=Hd (by have:=H_3.out.bk.lt;omega);have CT_4:=Hd hcs;clear hge hcs hE H_3;go_simp;refine oT hK ?_;clear hK KK;refine tkH 2 ?_;refine rdT2 3 6 (λ KK hK=>?_) λ KK hK=>?_
  ·have ce:=(CT_4.out kk (by omega)).1;simp only[HLN.out] at ce;go_simp;refine oT hK ?_;clear hK KK ce;refine rdT 6 λ KK hK=>?_;go_simp;refine (HBt.out _).mono ?_;rintro r _ ⟨rfl,rfl⟩;go_simp;refine oT hK ?_;clear hK KK;exact Ygm6
  go_simp;refine (HBt.out _).mono ?_;rintro r _ ⟨rfl,rfl⟩;go_simp;refine oT hK ?_;clear hK KK;refine rdT2 3 7 (λ KK hK=>?_) λ KK hK=>?_
  ·have ce:=(CT_4.out kk (by omega)).1;simp only[HLN.out] at ce;go_simp;refine oT hK ?_;clear hK KK ce;exact Ygm6
  go_simp;refine (zao Q a1 0 lb L (qx x B7 B8 vo vt) _ H_4.out.bk (by omega) (by omega) hL).mono ?_;rintro r w5 ⟨hKq,hP⟩;rw[qad rfl,HGT.out] at hP;obtain⟨rfl,hB⟩:=hP;have H_5:=Hd (H_4.out.quiet hKq hB);have CT_5:=Hd (zaz CT_4.out hKq HCQ.out);clear hKq hB H_4 CT_4;go_simp;refine oT hK ?_;clear hK KK;refine rdT 3 λ KK hK=>?_;have ce:=(CT_5.out kk (by omega)).1;exact Ygm7):p:=h
theorem Ygm1 {p:Prop} (h:p:=by
 go_wp2_with fail;refine rokF H_1.out.bk ?_;exact Ygm8):p:=h
theorem Ygm2 {p:Prop} (h:p:=by
 as_aux_lemma=>
  refine rgW λ w3 h=>?_;have H_3:=Hd (H_2.out.ext h);clear h H_2;refine tk3 1 4 5 ?_;refine rdT 0 λ KK hK=>?_;go_simp;refine (zkL _).mono ?_;rintro r w4 ⟨C,rfl,hge,hcs,hE⟩;have H_4:=Hd (H_3.out.ext hE);have HCQ:Hid (C≠Q):=Hd (by have:=H_3.out.bk.lt;omega);have CT_4:=Hd hcs;clear hge hcs hE H_3;go_simp;refine oT hK ?_;clear hK KK;refine tkH 2 ?_;refine rdT2 3 6 (λ KK hK=>?_) λ KK hK=>?_
  ·have ce:=(CT_4.out d (by omega)).1;simp only[HLN.out] at ce;go_simp;refine oT hK ?_;clear hK KK ce;refine rdT 6 λ KK hK=>?_;go_simp;refine (HBt.out _).mono ?_;rintro r _ ⟨rfl,rfl⟩;go_simp;refine oT hK ?_;clear hK KK;exact Ygm9
  go_simp;refine (HBt.out _).mono ?_;rintro r _ ⟨rfl,rfl⟩;go_simp;refine oT hK ?_;clear hK KK;refine rdT2 3 7 (λ KK hK=>?_) λ KK hK=>?_
  ·have ce:=(CT_4.out d (by omega)).1;simp only[HLN.out] at ce;go_simp;refine oT hK ?_;clear hK KK ce;exact Ygm9
  go_simp;refine (zao Q a3 0 db L (qx x B7 B8 vo vt) _ H_4.out.bk (by omega) (by omega) hL).mono ?_;rintro r w5 ⟨hKq,hP⟩;rw[qad rfl,HGT.out] at hP;obtain⟨rfl,hB⟩:=hP;have H_5:=Hd (H_4.out.quiet hKq hB);have CT_5:=Hd (zaz CT_4.out hKq HCQ.out);clear hKq hB H_4 CT_4;go_simp;refine oT hK ?_;clear hK KK;refine rdT 3 λ KK hK=>?_;have ce:=(CT_5.out d (by omega)).1;exact Ygm7):p:=h
theorem Ygm3 {p:Prop} (h:p:=by
 have k1:w1.cell? ⟨Q,2,none⟩=some (.slice (some ⟨gb,0,none⟩) M cp):=H_1.out.bk.cell 2;go_simp;refine oT hK ?_;clear hK KK k1;refine rdT 12 λ KK hK=>?_;have k1:w1.cell? ⟨Q,2,none⟩=some (.slice (some ⟨gb,0,none⟩) M cp):=H_1.out.bk.cell 2;go_simp;refine oT hK ?_;clear hK KK k1;refine tk3 13 15 16 ?_;exact Ygm10):p:=h
theorem Ygm4 {p:Prop} (h:p:=by
 refine rdT 8 λ KK hK=>?_;have k1:w1.cell? ⟨Q,2,none⟩=some (.slice (some ⟨gb,0,none⟩) M cp):=H_1.out.bk.cell 2;go_simp;refine oT hK ?_;clear hK KK k1;refine tkH 16 ?_;exact Ygm10):p:=h
theorem Ygm5 {p:Prop} (h:p:=by
 refine rdT2 4 17 (λ KK hK=>?_) λ KK hK=>?_
 ·have k1:w1.cell? ⟨Q,2,none⟩=some (.slice (some ⟨gb,0,none⟩) M cp):=H_1.out.bk.cell 2;go_simp;refine oT hK ?_;clear hK KK k1;exact Ygm10
 have hc:=zai Y_1.out HC.out;go_simp;refine oT hK ?_;clear hK KK hc;refine rdT2 4 18 (λ KK hK=>?_) λ KK hK=>?_
 ·have k1:w1.cell? ⟨Q,2,none⟩=some (.slice (some ⟨gb,0,none⟩) M cp):=H_1.out.bk.cell 2;go_simp;refine oT hK ?_;clear hK KK k1;refine rdT 18 λ KK hK=>?_;go_simp;refine oT hK ?_;clear hK KK;refine zab (λ wz=>Ext w1 wz/\Bk wz w1.heap.size #[.int .u8 (y.toNat:Int)]) ⟨Ext.alloc (Ext.refl _) _,Bk.at rfl⟩ ?_;rintro w2 ⟨h,hB⟩;have H_2:=Hd (H_1.out.ext h);have Y_2:=Hd (Y_1.out.trans h);clear h H_1 Y_1;have T1_2:=Hd (hB);clear hB;exact Ygm11
 go_simp;refine oT hK ?_;clear hK KK;refine zab (λ wz=>Ext w1 wz/\Bk wz w1.heap.size #[.int .u8 (y.toNat:Int)]) ⟨Ext.alloc (Ext.refl _) _,Bk.at rfl⟩ ?_;rintro w2 ⟨h,hB⟩;have H_2:=Hd (H_1.out.ext h);have Y_2:=Hd (Y_1.out.trans h);clear h H_1 Y_1;have T1_2:=Hd (hB);clear hB;refine rdT 4 λ KK hK=>?_;have k1:w2.cell? ⟨Q,2,none⟩=some (.slice (some ⟨gb,0,none⟩) M cp):=H_2.out.bk.cell 2;go_simp;refine oT hK ?_;clear hK KK k1;exact Ygm11):p:=h
theorem Cw.far {w w':World} {Q:Nat} {v v0 t0:Value} {f:Nat->Int} {len:Nat} (h:Cw w Q v f len) (hA:∀C l c,v=.slice (some ⟨C,0,none⟩) l c->v0.ownBlock≠some C/\t0.ownBlock≠some C) (hk:Keeps (λ k=>k=Q\/v0.ownBlock=some k\/t0.ownBlock=some k) w w'):Cw w' Q v f len:=by
 obtain⟨h0,C,c,h1,h2,h3⟩:=h;refine⟨h0,C,c,h1,h2,h3.keeps hk ?_⟩;rintro (q | q | q)
 ·exact h2 q
 ·exact (hA C _ _ h1).1 q
 exact (hA C _ _ h1).2 q
namespace Inf
section
variable {L:List UInt8} {most:Nat} {f:Nat->Int} {len:Nat} {g:Nat->Int} {gen F a:Nat} {out:List UInt8} {tr:List Ev} {r:TRes}
theorem zpx {c:Nat} (hF:0<F) (h:toks L most f len g gen F a out tr=r) (hn:nxt L f len a=.error c):.error c=r:=by
 cases F with
 | zero=>omega
 | succ F=>simp only[toks,hn] at h;exact h
theorem zqU {a1:Nat} (hF:0<F) (h:toks L most f len g gen F a out tr=r) (hn:nxt L f len a=.ok (256,a1)):.ok (a1,out,tr ++ [⟨256,0,0,0⟩])=r:=by
 cases F with
 | zero=>omega
 | succ F=>simp only[toks,hn,qad] at h;exact h
theorem zbT {k a1 c:Nat} (hF:0<F) (h:toks L most f len g gen F a out tr=r) (hn:nxt L f len a=.ok (k,a1)) (hk:k≠256) (ht:tok L most g gen k a1 out=.error c):.error c=r:=by
 cases F with
 | zero=>omega
 | succ F=>simp only[toks,hn,qac hk,ht] at h;exact h
end
end Inf
def WSt (L:List UInt8) (most:Nat) (f:Nat->Int) (len:Nat) (g:Nat->Int) (gen:Nat) (rr:Inf.TRes) (tks0:List Tk) (a e F:Nat) (out:List UInt8) (tr:List Inf.Ev) (tks:List Tk) (f7 f8:Nat->Int):Prop:=
 (e=0/\Inf.toks L most f len g gen F a out tr=rr/\(a<=8*L.length/\8*L.length-a<F/\out.length<=most/\tr.length<=a)/\tks=tks0++Inf.tksOf tr/\f7=Inf.use7 tr/\f8=Inf.use8 tr)\/∃c,e=c+1/\.error c=rr/\F=0
def WPost (w:World) (Q:Nat) (T:ByteArray) (x:Nat->Value) (v0 t0:Value) (tks:List Tk) (r:Inf.TRes) (e:Ending) (w':World):Prop:=
 e=.returned (.tuple #[])/\match r with
 | .ok (a,out,tr)=>∃B7 B8 vo vt,WGo w w' Q B7 B8 T a 0 x v0 t0 vo vt out (tks++Inf.tksOf tr) (Inf.use7 tr) (Inf.use8 tr)
 | .error c=>∃a B7 B8 vo vt out tks' f7 f8,WGo w w' Q B7 B8 T a (c+1) x v0 t0 vo vt out tks' f7 f8
section
variable {w w':World} {Q B7 B8 a e c:Nat} {T:ByteArray} {x:Nat->Value} {v0 t0 vo vt:Value} {out:List UInt8} {tr:List Inf.Ev} {tks tks':List Tk} {f7 f8:Nat->Int} {r:Inf.TRes}
theorem zbM (hr:.error c=r) (he:e=c+1) (h:WGo w w' Q B7 B8 T a e x v0 t0 vo vt out tks' f7 f8):WPost w Q T x v0 t0 tks r (.returned (.tuple #[])) w':=by
 subst hr he;exact⟨rfl,a,B7,B8,vo,vt,out,tks',f7,f8,h⟩
theorem znU (hr:.ok (a,out,tr)=r) (h:WGo w w' Q B7 B8 T a 0 x v0 t0 vo vt out tks' f7 f8) (h1:tks'=tks++Inf.tksOf tr) (h7:f7=Inf.use7 tr) (h8:f8=Inf.use8 tr):WPost w Q T x v0 t0 tks r (.returned (.tuple #[])) w':=by
 subst hr h1 h7 h8;exact⟨rfl,B7,B8,vo,vt,h⟩
theorem WIn.make {t:TypeId} (h:WIn w Q T a x vo vt out tks):WGo w ((((w.setCell ⟨Q,7,none⟩ (.slice (some ⟨w.heap.size,0,none⟩) 300 300)).setCell ⟨Q,8,none⟩ (.slice (some ⟨w.heap.size+1,0,none⟩) 40 40)).alloc (.cells (madeCells #[Value.int .i64 0] 300) t)).alloc (.cells (madeCells #[Value.int .i64 0] 40) t)) Q w.heap.size (w.heap.size+1) T a 0 x vo vt vo vt out tks (λ _=>0) (λ _=>0):=by
 have K:Keeps (λ k=>k=Q) w ((((w.setCell ⟨Q,7,none⟩ (.slice (some ⟨w.heap.size,0,none⟩) 300 300)).setCell ⟨Q,8,none⟩ (.slice (some ⟨w.heap.size+1,0,none⟩) 40 40)).alloc (.cells (madeCells #[Value.int .i64 0] 300) t)).alloc (.cells (madeCells #[Value.int .i64 0] 40) t)):=
  ((((Keeps.refl (λ k=>k=Q) w).setCell (p:=⟨Q,7,none⟩) (.inl rfl) _).setCell (p:=⟨Q,8,none⟩) (.inl rfl) _).alloc _).alloc _
 obtain⟨w2,hw2⟩:=nmE ((w.setCell ⟨Q,7,none⟩ (.slice (some ⟨w.heap.size,0,none⟩) 300 300)).setCell ⟨Q,8,none⟩ (.slice (some ⟨w.heap.size+1,0,none⟩) 40 40));have hs2:w2.heap.size=w.heap.size:=by rw[<- hw2];simp
 refine h.start ?_ K ?_ ?_ (qaj _) (Nat.lt_succ_self _)
 ·have b1:=h.bk.putx 7 (by simp) (.slice (some ⟨w.heap.size,0,none⟩) 300 300);have b2:=b1.putx 8 (by simp) (.slice (some ⟨w.heap.size+1,0,none⟩) 40 40);rw[zeS (y:=qx x w.heap.size (w.heap.size+1) vo vt) (λ i _=>by
   unfold xset qx;by_cases i8:i=8
   ·subst i8;rfl
   rw[qac i8];by_cases i7:i=7
   ·subst i7;rfl
   rw[qac i7];by_cases i2:i=2
   ·subst i2;exact h.x2
   rw[qac i2,qac i7,qac i8];by_cases i11:i=11
   ·subst i11;exact h.x11
   rw[qac i11])] at b2
  exact (b2.old (o:=.cells (madeCells #[Value.int .i64 0] 300) t)).old (o:=.cells (madeCells #[Value.int .i64 0] 40) t)
 ·rw[hw2,zaY,<- hs2];exact (Cs.born w2 .i64 300 _ t).alloc (by simp) _
 rw[hw2,zaY (n:=40),<- hs2];have c1:=Cs.born (w2.alloc (.cells (madeCells #[Value.int .i64 0] 300) t)) .i64 40 (λ _=>0) t;rw[qb8] at c1;exact c1
end
theorem zow:∀k,k<29->3<=Inf.lensL.getD k 0:=by decide
set_option maxHeartbeats 8000000 in
theorem zfE (Q a len gen most:Nat) (f g:Nat->Int) (L:List UInt8) (x:Nat->Value) (vs vd v0 t0:Value) (out0:List UInt8) (tks0:List Tk) (w:World) (hI:WIn w Q (bs (Bts.allB L)) a x v0 t0 out0 tks0) (hx3:x 3=.int .i64 (most:Int)) (hS:Cw w Q vs f len) (hD:Cw w Q vd g gen) (hA:∀C l c,(vs=.slice (some ⟨C,0,none⟩) l c\/vd=.slice (some ⟨C,0,none⟩) l c)->v0.ownBlock≠some C/\t0.ownBlock≠some C) (ha:a<=8*L.length) (hL:L.length<=300000) (hmost:most<=300000) (hout:out0.length<=most) (htk:tks0.length<=8*L.length):
  Calls Tryz.prog 76 #[.pointer (some ⟨Q,0,none⟩),vs,vd] w λ r w'=>WPost w Q (bs (Bts.allB L)) x v0 t0 tks0 (Inf.toks L most f len g gen (8*L.length+1) a out0 []) r w':=by
 have HX3:Hid (x 3=.int .i64 (most:Int)):=Hd hx3;have HCS:=Hd (λ wz hk=>hS.far (w':=wz) (λ C l c q=>hA C l c (.inl q)) hk);have HCD:=Hd (λ wz hk=>hD.far (w':=wz) (λ C l c q=>hA C l c (.inr q)) hk);have hlen:len<=300:=hS.1.1.1;obtain⟨i0,hi0,hz0,hz1,hz2⟩:=qbb u8inf;obtain⟨j0,hj0,hy0,hy1,hy2⟩:=qbb zpd;obtain⟨rr,hr⟩:=nmE (Inf.toks L most f len g gen (8*L.length+1) a out0 []);rw[hr];have HR:=Hd hr;have HI:=Hd hI;clear hS hD hA hr hx3;have hmk300:=λ w=>qbR (P:=Tryz.prog) 88 3 (.int .i64 0) 8 Tryz.underlying88 zaX rfl .i64 .i64 300 (by omega) (by omega) w;simp only[show ((300:Nat):Int)=300 from rfl] at hmk300;have hmk40:=λ w=>qbR (P:=Tryz.prog) 88 3 (.int .i64 0) 8 Tryz.underlying88 zaX rfl .i64 .i64 40 (by omega) (by omega) w;simp only[show ((40:Nat):Int)=40 from rfl] at hmk40;have c7:=hI.bk.cell 7;have f7:=hI.bk.frozen 7;have c8:=hI.bk.cell 8;have f8:=hI.bk.frozen 8;simp only[qc] at c7 c8;have hQl:=hI.bk.lt;clear hI;go_enter Tryz.func76,Tryz.ntmps76
 go_upto_block 0 with fail;clear hmk300 hmk40 c7 f7 c8 f8;refine zac (λ wz=>Hid (WGo w wz Q w.heap.size (w.heap.size+1) (bs (Bts.allB L)) a 0 x v0 t0 v0 t0 out0 tks0 (λ _=>0) (λ _=>0))) (Hd HI.out.make) ?_;rintro w_1 H_0;generalize w.heap.size+1=B8 at H_0;generalize w.heap.size=B7 at H_0;clear HI hQl;go_wp2_with fail;go_loopg [] (8*L.length+1) (λ k wr=>∃(a e F:Nat) (vo vt:Value) (out:List UInt8) (tr:List Inf.Ev) (tks:List Tk) (f7 f8:Nat->Int),Hid (WGo w wr Q B7 B8 (bs (Bts.allB L)) a e x v0 t0 vo vt out tks f7 f8)/\Hid (WSt L most f len g gen rr tks0 a e F out tr tks f7 f8)/\Hid (F=k))
 case atStart=>exact⟨a,0,8*L.length+1,_,_,out0,[],_,_,_,H_0,Hd (.inl ⟨rfl,HR.out,⟨ha,by omega,hout,qbi _⟩,by simp[Inf.tksOf],rfl,rfl⟩),Hd rfl⟩
 case round=>
  clear H_0 HR ha hout;obtain⟨a,e,F,vo,vt,out,tr,tks,f7,f8,H_0,HST,HK⟩:=hrel;rcases HST.out with⟨he,hq,⟨hb1,hb2,hb3,hb4⟩,ht,h7,h8⟩ | ⟨c,he,hq,hF⟩
  ·subst he ht h7 h8;have HT:=Hd hq;have HF0:Hid (0<F):=Hd (by omega);clear hq HST;have hal:=hb1;have HB:=Hd (qaB hb2 (qaB hb3 hb4));have htl:tr.length<=2400000:=by omega
   clear hb2 hb3 hb4;go_wp2_with fail;refine rokT H_0.out.bk ?_;go_wp2_with fail;cases hn:Inf.nxt L f len a with
   | error c=>
    obtain rfl:=Inf.zb0 hn;have HQ:=Hd (Inf.zpx HF0.out HT.out hn);refine (zbV Q a 0 len f vs L (qx x B7 B8 vo vt) _ H_0.out.bk (HCS.out _ H_0.out.keeps) (by omega) hL).mono ?_;rintro r w_2 ⟨hK,hP⟩;rw[qad rfl,hn] at hP;obtain⟨rfl,hB⟩:=hP;have H_1:=Hd (H_0.out.quiet hK hB);clear H_0;clear hK hB;clear hn;exact Ygm8
   | ok q=>
    obtain⟨k,a1⟩:=q;have hx1:=Inf.zbn hn;obtain⟨ha1,hal1,hkl⟩:=hx1;have HN:=Hd hn;refine (zbV Q a 0 len f vs L (qx x B7 B8 vo vt) _ H_0.out.bk (HCS.out _ H_0.out.keeps) (by omega) hL).mono ?_;rintro r w_2 ⟨hK,hP⟩;rw[qad rfl,hn] at hP;obtain⟨rfl,hB⟩:=hP;have H_1:=Hd (H_0.out.quiet hK hB);clear H_0;clear hK hB;clear hn;have HA1:Hid (a<a1):=Hd ha1;clear ha1;go_wp2_with fail;refine rokT H_1.out.bk ?_;obtain⟨z,hz⟩:=nmE (Inf.use7 tr k);have hzb:=Inf.zp6 tr k;rw[hz] at hzb;have wz:=wqz (x:=z+1);have HZ:=Hd hz;have hk300:k<300:=by omega
    have hk0:(0:Int)<=(k:Int):=by omega
    have hkI:(k:Int)<300:=by omega
    have hkt:((k:Nat):Int).toNat=k:=by omega
    have c7:w_2.cell? ⟨Q,7,none⟩=some (.slice (some ⟨B7,0,none⟩) 300 300):=H_1.out.bk.cell 7;have cu:=(H_1.out.c7 k hk300).1;have fu:=(H_1.out.c7 k hk300).2;rw[hz] at cu;clear hz hzb;go_upto_region 6 with fail;clear c7 cu fu wz;refine zac (λ wz=>Hid (WGo w wz Q B7 B8 (bs (Bts.allB L)) a1 0 x v0 t0 vo vt out (tks0++Inf.tksOf tr) (Inf.upd (Inf.use7 tr) k (z+1)) (Inf.use8 tr))) (Hd (H_1.out.use7 k (z+1) hk300)) ?_;rintro w_3 H_2;clear H_1;by_cases hk:k=256
    ·subst hk;go_wp2_with fail;go_end0;exact znU (Inf.zqU HF0.out HT.out HN.out) H_2.out (by rw[Inf.zdL];simp[Inf.tkOf]) (by rw[Inf.zd3,<- HZ.out]) (by rw[Inf.zhm _ _ (by simp)])
    have t1:((k:Int) ==256)=false:=qak.2 (by omega);have HKN:=Hd hk;by_cases hk2:k<256
    ·as_aux_lemma=>
      have t2:=dT (p:=(k:Int)<256);clear hk;obtain⟨Lo,hLo⟩:=nmE (out.length);have HL:=Hd hLo;have hro:=H_2.out.row;rw[hLo] at hro;obtain⟨xo,co,rfl⟩:=zam hro;have HLo:Hid (Lo<=most):=Hd (by rw[<- hLo];exact HB.out.2.1);clear hLo hro;go_wp2_with fail;have c2:w_3.cell? ⟨Q,2,none⟩=some (.slice xo Lo co):=H_2.out.bk.cell 2;have c3:w_3.cell? ⟨Q,3,none⟩=some (.int .i64 (most:Int)):=(H_2.out.bk.cell 3).trans (congrArg some HX3.out);by_cases hm:Lo<most
      ·as_aux_lemma=>
        have t3:=dF (p:=(most:Int)<=(Lo:Int));have n3:¬ most<=Lo:=by omega
        have HQ:=Hd (Inf.zex HF0.out HT.out HN.out HKN.out (Inf.zjj (L:=L) (g:=g) (gen:=gen) (a:=a1) (out:=out) (most:=most) hk2 (by rw[HL.out];omega)));refine rgQ ?_;refine qY ?_;refine qY ?_;refine qY ?_;refine qY ?_;refine qY ?_;refine qY ?_;refine qY ?_;refine qY ?_;refine qY ?_;refine qY ?_;refine zaf ?_;have H_3:=Hd (H_2.out.ext (show Ext w_3 w_3.drew from qag (Ext.refl _)));clear H_2;clear c2 c3 t1 t2 t3 n3;have wk:∀z,z=(k:Int)->IntKind.u8.wrap z=z:=by rintro _ rfl;unfold IntKind.wrap;simp[IntKind.bits,IntKind.signed];omega
        have hro:=H_3.out.row;rw[HL.out] at hro;have HO:=Hd hro;clear hro;have hky:(((UInt8.ofNat k).toNat:Nat):Int)=(k:Int):=by rw[qbI,qaF (by omega)]
        have HKY:=Hd hky;have hkm:(k:Int)%256=(k:Int):=by omega
        have hmo:Lo<300000:=by omega
        clear hky;have c2:w_3.drew.cell? ⟨Q,2,none⟩=some (.slice xo Lo co):=H_3.out.bk.cell 2;go_wp2_with (at_builtin;refine apA (HO.out.alloc _) [.int .u8 (k:Int)] ?_);intro v' w4 hown hgrow _ hat;obtain⟨x4,c4,rfl⟩:=zam hown;have P:=H_3.out.byte (y:=UInt8.ofNat k) HL.out ((Ext.refl _).alloc _) hgrow (by rw[HKY.out];exact hown) (by rcases hat with q | q;exact .inl q;exact .inr (by rw[q];simp));have b1:w4.cell? ⟨Q,2,none⟩=some (.slice xo Lo co):=P.1.cell 2;have fb:=P.1.frozen 2;have HP:=Hd P.2;clear P hown hgrow hat c2 HO;go_upto_region 11 with fail;clear b1 fb;refine zac (λ wz=>Hid (WGo w wz Q B7 B8 (bs (Bts.allB L)) a1 0 x v0 t0 (.slice x4 (Lo+1) c4) vt (out ++ [UInt8.ofNat k]) (tks0++Inf.tksOf tr) (Inf.upd (Inf.use7 tr) k (z+1)) (Inf.use8 tr))) HP ?_;rintro w_4 H_4;clear H_3;clear HP;obtain⟨M,hM⟩:=nmE ((tks0++Inf.tksOf tr).length);have HM:=Hd hM;have hMb:M<=5000000:=by rw[<- hM,qaa];have:=Inf.zbC tr;omega
        have hrt:=H_4.out.trow;rw[hM] at hrt;obtain⟨xt,ct,rfl⟩:=zam hrt;clear hM hrt;have hrt:=H_4.out.trow;rw[HM.out] at hrt;have HRT:=Hd hrt;clear hrt;have c11:w_4.cell? ⟨Q,11,none⟩=some (.slice xt M ct):=H_4.out.bk.cell 11;go_wp2_with (at_builtin;refine apA (HRT.out.alloc _) [.int .u8 (k:Int),.int .i64 0,.int .i64 0] ?_);intro v7 w7 hown hgrow _ hat;obtain⟨x7,c7,rfl⟩:=zam hown;have P:=H_4.out.tok (t:=⟨UInt8.ofNat k,0,0⟩) HM.out ((Ext.refl _).alloc _) hgrow (by rw[HKY.out];exact hown) (by rcases hat with q | q;exact .inl q;exact .inr (by rw[q];simp));have b1:w7.cell? ⟨Q,11,none⟩=some (.slice xt M ct):=P.1.cell 11;have fb:=P.1.frozen 11;have HP:=Hd P.2;clear P hown hgrow hat c11 HRT;go_wp2_with fail;obtain⟨F2,hF2,HR2⟩:=HQ.out;have HR3:=Hd HR2;have HF3:Hid (F=F2+1):=Hd hF2;clear HR2 HQ hF2;go_roundg F2
        case measure=>have:=HF3.out;have:=HK.out;omega
        case rel=>exact⟨a1,0,F2,_,_,_,tr ++ [⟨k,0,0,0⟩],_,_,_,HP,Hd (.inl ⟨rfl,HR3.out,⟨hal1,by have:=HF3.out;have:=HB.out;have:=HA1.out;omega,by rw[qaa,HL.out];simp;omega,by rw[qaa];have:=HB.out;have:=HA1.out;simp;omega⟩,by rw[Inf.zdL,qat];simp[Inf.tkOf,hk2],by rw[Inf.zd3,<- HZ.out],(Inf.zhm _ _ (by simp;omega)).symm⟩),Hd rfl⟩
      have t3:=dT (p:=(most:Int)<=(Lo:Int));have n3:most<=Lo:=by omega
      have HQ:=Hd (Inf.zbT HF0.out HT.out HN.out HKN.out (Inf.zhJ (L:=L) (g:=g) (gen:=gen) (a:=a1) (out:=out) (most:=most) hk2 (by rw[HL.out];omega)));refine rgQ ?_;refine qY ?_;refine qY ?_;refine qY ?_;refine qY ?_;refine qY ?_;refine qY ?_;refine qY ?_;refine qY ?_;refine qY ?_;refine qY ?_;refine zaf ?_;have H_3:=Hd (H_2.out.ext (show Ext w_3 w_3.drew from qag (Ext.refl _)));clear H_2;go_wp2_with fail;refine (zap Q a1 0 2 (bs (Bts.allB L)) (qx x B7 B8 (.slice xo Lo co) vt) _ H_3.out.bk).mono ?_;rintro r w_4 ⟨rfl,hB,hK⟩;rw[show fl 0 2=2 from rfl] at hB;have H_4:=Hd (H_3.out.quiet hK hB);clear H_3;clear hK hB;go_wp2_with fail;go_end0;exact zbM HQ.out rfl H_4.out
    ·as_aux_lemma=>
      have t2:=dF (p:=(k:Int)<256);obtain⟨kk,rfl⟩:∃kk,k=kk+257:=⟨k-257,by omega⟩;have hkk:((kk+257:Nat):Int)-257=(kk:Int):=by omega
      have wkk:=wqz (x:=(kk:Int));clear hk hkt hkI hk0;by_cases hk3:29<=kk
      ·have t3:=dT (p:=(29:Int)<=(kk:Int));have HQ:=Hd (Inf.zbT HF0.out HT.out HN.out HKN.out (Inf.zjk (L:=L) (most:=most) (g:=g) (gen:=gen) (a:=a1) (out:=out) (by omega:286<=kk+257)));go_wp2_with fail;refine (zap Q a1 0 1 (bs (Bts.allB L)) (qx x B7 B8 vo vt) _ H_2.out.bk).mono ?_;rintro r w_4 ⟨rfl,hB,hK⟩;rw[show fl 0 1=1 from rfl] at hB;have H_3:=Hd (H_2.out.quiet hK hB);clear H_2;clear hK hB;go_wp2_with fail;go_end0;exact zbM HQ.out rfl H_3.out
      ·as_aux_lemma=>
        have t3:=dF (p:=(29:Int)<=(kk:Int));obtain⟨lb,hlb⟩:=nmE (Inf.lensB.getD kk 0);obtain⟨ln,hln⟩:=nmE (Inf.lensL.getD kk 0);have hlb5:lb<=5:=by rw[<- hlb];exact Inf.zis kk
        have hln5:ln<=258:=by rw[<- hln];exact Inf.zin kk
        have hln3:3<=ln:=by rw[<- hln];exact zow kk (by omega)
        have HLB:=Hd hlb;have HLN:=Hd hln;have HBt:=Hd (λ w=>zhj kk (by omega) w);simp only[hlb] at HBt;clear hlb hln;go_upto_region 15 with fail;clear t1 t2 t3 hkk wkk;have hkI:(0:Int)<=(kk:Int):=by omega
        have hkI2:(kk:Int)<29:=by omega
        have hkt:((kk:Nat):Int).toNat=kk:=by omega
        have hk29:kk<29:=by omega
        cases hx:Inf.get L lb a1 with
        | error c=>
         obtain rfl:=(Inf.zaL hx).1;have HGT:=Hd hx;have HQ:=Hd (Inf.zbT HF0.out HT.out HN.out HKN.out (Inf.zoG (L:=L) (most:=most) (g:=g) (gen:=gen) (out:=out) (by omega) (by omega) (by rw[qaX,HLB.out];exact hx)));have wn:=wqz (x:=(ln:Int));clear hx;go_cut [7] (λ s7 wx=>s7=.int .i64 (ln:Int)/\Hid (WGo w wx Q B7 B8 (bs (Bts.allB L)) a1 (0+1) x v0 t0 vo vt out (tks0++Inf.tksOf tr) (Inf.upd (Inf.use7 tr) (kk+257) (z+1)) (Inf.use8 tr)))
         case first=>
          exact Ygm0
         clear H_2;obtain⟨rfl,H_0⟩:=hcut;as_aux_lemma=>
          go_wp2_with fail;refine (zbV Q a1 (0+1) gen g vd L (qx x B7 B8 vo vt) _ H_0.out.bk (HCD.out _ H_0.out.keeps) (by omega) hL).mono ?_;rintro r w_4 ⟨hK,hP⟩;rw[qac (by omega)] at hP;obtain⟨rfl,hB⟩:=hP;have H_1:=Hd (H_0.out.quiet hK hB);clear H_0;clear hK hB;exact Ygm1
        | ok q=>
         obtain⟨y,a2⟩:=q;obtain⟨z1,z2,z3,z4⟩:=Inf.zax hx;clear z4;have hy32:y<32:=qaA z3 (qaq (n:=2) (by decide) hlb5);have hal2:a2<=8*L.length:=by omega
         have HA2:Hid (a1<=a2):=Hd (by omega);clear z1 z2 z3;have HX:=Hd hx;have HGT:=Hd hx;clear hx;obtain⟨n,hn⟩:∃n:Nat,ln+y=n:=⟨_,rfl⟩;have hnI:(ln:Int)+(y:Int)=(n:Int):=by omega
         have wn:=wqz (x:=(n:Int));have HNN:=Hd hn;have hn290:n<=290:=by omega
         have hn3:3<=n:=by omega
         clear hn;go_cut [7] (λ s7 wx=>s7=.int .i64 (n:Int)/\Hid (WGo w wx Q B7 B8 (bs (Bts.allB L)) a2 0 x v0 t0 vo vt out (tks0++Inf.tksOf tr) (Inf.upd (Inf.use7 tr) (kk+257) (z+1)) (Inf.use8 tr)))
         case first=>
          exact Ygm0
         clear H_2;obtain⟨rfl,H_0⟩:=hcut;as_aux_lemma=>
          clear wn hnI HGT;go_wp2_with fail;cases hd:Inf.nxt L g gen a2 with
          | error c=>
           obtain rfl:=Inf.zb0 hd;have HQ:=Hd (Inf.zbT HF0.out HT.out HN.out HKN.out (Inf.zoK (by omega) (by omega) (by rw[qaX,HLB.out];exact HX.out) hd));refine (zbV Q a2 0 gen g vd L (qx x B7 B8 vo vt) _ H_0.out.bk (HCD.out _ H_0.out.keeps) (by omega) hL).mono ?_;rintro r w_4 ⟨hK,hP⟩;rw[qad rfl,hd] at hP;obtain⟨rfl,hB⟩:=hP;have H_1:=Hd (H_0.out.quiet hK hB);clear H_0;clear hK hB;clear hd;exact Ygm1
          | ok q=>
           obtain⟨d,a3⟩:=q;have hx3:=Inf.zbn hd;obtain⟨hb1,hal3,-⟩:=hx3;have HA3:Hid (a2<=a3):=Hd (by omega);clear hb1;have HDD:=Hd hd;refine (zbV Q a2 0 gen g vd L (qx x B7 B8 vo vt) _ H_0.out.bk (HCD.out _ H_0.out.keeps) (by omega) hL).mono ?_;rintro r w_4 ⟨hK,hP⟩;rw[qad rfl,hd] at hP;obtain⟨rfl,hB⟩:=hP;have H_1:=Hd (H_0.out.quiet hK hB);clear H_0;clear hK hB;clear hd;have HTF:=Hd (Inf.zoH (L:=L) (most:=most) (g:=g) (gen:=gen) (out:=out) (k:=kk+257) (by omega) (by omega) (by rw[qaX,HLB.out];exact HX.out) HDD.out);go_wp2_with fail;refine rokT H_1.out.bk ?_;by_cases hd3:30<=d
           ·have t3:=dT (p:=(30:Int)<=(d:Int));have HQ:=Hd (Inf.zbT HF0.out HT.out HN.out HKN.out (HTF.out.trans (Inf.zjJ hd3)));go_wp2_with fail;refine (zap Q a3 0 1 (bs (Bts.allB L)) (qx x B7 B8 vo vt) _ H_1.out.bk).mono ?_;rintro r w_5 ⟨rfl,hB,hK⟩;rw[show fl 0 1=1 from rfl] at hB;have H_2:=Hd (H_1.out.quiet hK hB);clear H_1;clear hK hB;go_wp2_with fail;refine rokF H_2.out.bk ?_;go_wp2_with fail;go_end0;exact zbM HQ.out rfl H_2.out
           ·as_aux_lemma=>
             have t3:=dF (p:=(30:Int)<=(d:Int));go_wp2_with fail;refine rokT H_1.out.bk ?_;clear t3;obtain⟨u,hu⟩:=nmE (Inf.use8 tr d);have hub:=Inf.zoO tr d;rw[hu] at hub;have wu:=wqz (x:=u+1);have HU:=Hd hu;have hd40:d<40:=by omega
             have hd0:(0:Int)<=(d:Int):=by omega
             have hdI:(d:Int)<40:=by omega
             have hdt:((d:Nat):Int).toNat=d:=by omega
             have c8:w_4.cell? ⟨Q,8,none⟩=some (.slice (some ⟨B8,0,none⟩) 40 40):=H_1.out.bk.cell 8;have cu:=(H_1.out.c8 d hd40).1;have fu:=(H_1.out.c8 d hd40).2;rw[hu] at cu;clear hu hub;go_upto_region 21 with fail;clear c8 cu fu wu;refine zac (λ wz=>Hid (WGo w wz Q B7 B8 (bs (Bts.allB L)) a3 0 x v0 t0 vo vt out (tks0++Inf.tksOf tr) (Inf.upd (Inf.use7 tr) (kk+257) (z+1)) (Inf.upd (Inf.use8 tr) d (u+1)))) (Hd (H_1.out.use8 d (u+1) hd40)) ?_;rintro w_5 H_2;clear H_1;obtain⟨db,hdb⟩:=nmE (Inf.zaQ.getD d 0);obtain⟨dl,hdl⟩:=nmE (Inf.zak.getD d 0);have hdb13:db<=13:=by rw[<- hdb];exact Inf.zgx d
             have hdl5:dl<=24577:=by rw[<- hdl];exact Inf.zgT d
             have hdl1:1<=dl:=by rw[<- hdl];exact Inf.zfp d (by omega)
             have HLNk:=HLN;clear HLN;have HDB:=Hd hdb;have HLN:=Hd hdl;have HBt2:=Hd (λ w=>zg9 d (by omega) w);simp only[hdb] at HBt2;clear HBt;have HBt:=HBt2;clear HBt2 hdb hdl hdI;have hdI2:(d:Int)<30:=by omega
             cases hy:Inf.get L db a3 with
             | error c=>
              obtain rfl:=(Inf.zaL hy).1;have HGT:=Hd hy;have HQ:=Hd (Inf.zbT HF0.out HT.out HN.out HKN.out (HTF.out.trans (Inf.zoJ (by omega) (by rw[HDB.out];exact hy))));have wn:=wqz (x:=(dl:Int));clear hy;go_cut [9] (λ s9 wx=>s9=.int .i64 (dl:Int)/\Hid (WGo w wx Q B7 B8 (bs (Bts.allB L)) a3 (0+1) x v0 t0 vo vt out (tks0++Inf.tksOf tr) (Inf.upd (Inf.use7 tr) (kk+257) (z+1)) (Inf.upd (Inf.use8 tr) d (u+1))))
              case first=>
               exact Ygm2
              clear H_2;obtain⟨rfl,H_0⟩:=hcut;as_aux_lemma=>
               clear wn;go_wp2_with fail;refine rokF H_0.out.bk ?_;go_wp2_with fail;refine zac (λ wz=>Ext wc wz) (Ext.refl _) ?_;rintro w_6 hX;have H_1:=Hd (H_0.out.ext hX);clear H_0;clear hX;refine rgQ ?_;have hdk:=dF (p:=(0+1)=0);refine qY ?_;refine zau (by kernel_rfl) λ K hK=>?_;go_simp;refine⟨_,(zaI Q a3 (0+1) (bs (Bts.allB L)) (qx x B7 B8 vo vt) _ H_1.out.bk.drew),hK _ ?_⟩;clear hK K;refine qY ?_;refine qN ?_;refine qN ?_;refine qN ?_;refine qN ?_;refine qN ?_;refine qN ?_;refine qN ?_;refine qN ?_;refine qN ?_;refine qN ?_;refine qN ?_;refine qN ?_;refine qY ?_;refine zaf ?_;clear hdk;have H_2:=Hd (H_1.out.ext (show Ext w_6 w_6.drew from qag (Ext.refl _)));clear H_1;obtain⟨Lo,hLo⟩:=nmE (out.length);have HL:=Hd hLo;have hro:=H_2.out.row;rw[hLo] at hro;obtain⟨xo,co,rfl⟩:=zam hro;have HLo:Hid (Lo<=most):=Hd (by rw[<- hLo];exact HB.out.2.1);clear hLo hro;go_wp2_with fail;go_loopw [10] (λ cz wr=>cz=.int .i64 0/\Hid (WGo w wr Q B7 B8 (bs (Bts.allB L)) a3 (0+1) x v0 t0 (.slice xo Lo co) vt out (tks0++Inf.tksOf tr) (Inf.upd (Inf.use7 tr) (kk+257) (z+1)) (Inf.upd (Inf.use8 tr) d (u+1)))) (λ _ _=>0)
               case atStart=>exact⟨rfl,H_2⟩
               case round=>
                clear H_2;obtain⟨rfl,H_2⟩:=hrel;have t8:=dT (p:=(0:Int)<(n:Int));have n8:0<n:=by omega
                go_wp2_with fail;refine rokF H_2.out.bk ?_;clear t8 n8;go_upto_region 30 with fail;obtain⟨M,hM⟩:=nmE ((tks0++Inf.tksOf tr).length);have HM:=Hd hM;have hMb:M<=5000000:=by rw[<- hM,qaa];have:=Inf.zbC tr;omega
                have hrt:=H_2.out.trow;rw[hM] at hrt;obtain⟨xt,ct,rfl⟩:=zam hrt;clear hM hrt;have hrt:=H_2.out.trow;rw[HM.out] at hrt;have HRT:=Hd hrt;clear hrt;have c11:wr.cell? ⟨Q,11,none⟩=some (.slice xt M ct):=H_2.out.bk.cell 11;go_wp2_with (at_builtin;refine apA (HRT.out.alloc _) [.int .u8 0,.int .i64 (n:Int),.int .i64 (dl:Int)] ?_);intro v7 w7 hown hgrow _ hat;obtain⟨x7,c7,rfl⟩:=zam hown;have P:=H_2.out.tok (t:=⟨0,(n:Int),(dl:Int)⟩) HM.out ((Ext.refl _).alloc _) hgrow (by exact hown) (by rcases hat with q | q;exact .inl q;exact .inr (by rw[q];simp));have b1:w7.cell? ⟨Q,11,none⟩=some (.slice xt M ct):=P.1.cell 11;have fb:=P.1.frozen 11;have HP:=Hd P.2;clear P hown hgrow hat c11 HRT;go_wp2_with fail;go_roundg 0
                case measure=>have:=HF0.out;have:=HK.out;omega
                case rel=>exact⟨a3,_,0,_,_,_,[],_,_,_,HP,Hd (.inr ⟨0,rfl,HQ.out,rfl⟩),Hd rfl⟩
             | ok q=>
              obtain⟨y2,a4⟩:=q;obtain⟨z1,z2,z3,z4⟩:=Inf.zax hy;clear z4;have hy8:y2<8192:=qaA z3 (qaq (n:=2) (by decide) hdb13);have hal4:a4<=8*L.length:=by omega
              have HA4:Hid (a3<=a4):=Hd (by omega);clear z1 z2 z3;have HY:=Hd hy;have HGT:=Hd hy;clear hy;obtain⟨bk,hbk⟩:∃bk:Nat,dl+y2=bk:=⟨_,rfl⟩;have hbI:(dl:Int)+(y2:Int)=(bk:Int):=by omega
              have wn:=wqz (x:=(bk:Int));have hbk2:1<=bk/\bk<=40000:=by omega
              have HBK:=Hd hbk;clear hbk;go_cut [9] (λ s9 wx=>s9=.int .i64 (bk:Int)/\Hid (WGo w wx Q B7 B8 (bs (Bts.allB L)) a4 0 x v0 t0 vo vt out (tks0++Inf.tksOf tr) (Inf.upd (Inf.use7 tr) (kk+257) (z+1)) (Inf.upd (Inf.use8 tr) d (u+1))))
              case first=>
               exact Ygm2
              clear H_2;obtain⟨rfl,H_0⟩:=hcut;as_aux_lemma=>
               clear wn hbI HGT;go_wp2_with fail;refine rokT H_0.out.bk ?_;obtain⟨Lo,hLo⟩:=nmE (out.length);have HL:=Hd hLo;have hro:=H_0.out.row;rw[hLo] at hro;obtain⟨xo,co,rfl⟩:=zam hro;have HLo:Hid (Lo<=most):=Hd (by rw[<- hLo];exact HB.out.2.1);clear hLo hro;have c2:wc.cell? ⟨Q,2,none⟩=some (.slice xo Lo co):=H_0.out.bk.cell 2;by_cases hbo:Lo<bk
               ·as_aux_lemma=>
                 have t3:=dT (p:=(Lo:Int)<(bk:Int));have HQ:=Hd (Inf.zbT HF0.out HT.out HN.out HKN.out (HTF.out.trans (Inf.zhP (by omega) (by rw[HDB.out];exact HY.out) (by rw[HL.out,HLN.out,HBK.out];exact hbo))));go_wp2_with fail;clear t3 c2;refine (zap Q a4 0 1 (bs (Bts.allB L)) (qx x B7 B8 (.slice xo Lo co) vt) _ H_0.out.bk).mono ?_;rintro r w_6 ⟨rfl,hB,hK⟩;rw[show fl 0 1=1 from rfl] at hB;have H_1:=Hd (H_0.out.quiet hK hB);clear H_0;clear hK hB;go_wp2_with fail;refine rgQ ?_;have hdk:=dF (p:=1=0);refine qY ?_;refine zau (by kernel_rfl) λ K hK=>?_;go_simp;refine⟨_,(zaI Q a4 1 (bs (Bts.allB L)) (qx x B7 B8 (.slice xo Lo co) vt) _ H_1.out.bk.drew),hK _ ?_⟩;clear hK K;refine qY ?_;refine qN ?_;refine qN ?_;refine qN ?_;refine qN ?_;refine qN ?_;refine qN ?_;refine qN ?_;refine qN ?_;refine qN ?_;refine qN ?_;refine qN ?_;refine qN ?_;refine qY ?_;refine zaf ?_;clear hdk;have H_2:=Hd (H_1.out.ext (show Ext w_6 w_6.drew from qag (Ext.refl _)));clear H_1;go_wp2_with fail;go_loopw [10] (λ cz wr=>cz=.int .i64 0/\Hid (WGo w wr Q B7 B8 (bs (Bts.allB L)) a4 1 x v0 t0 (.slice xo Lo co) vt out (tks0++Inf.tksOf tr) (Inf.upd (Inf.use7 tr) (kk+257) (z+1)) (Inf.upd (Inf.use8 tr) d (u+1)))) (λ _ _=>0)
                 case atStart=>exact⟨rfl,H_2⟩
                 case round=>
                  clear H_2;obtain⟨rfl,H_2⟩:=hrel;have t8:=dT (p:=(0:Int)<(n:Int));have n8:0<n:=by omega
                  go_wp2_with fail;refine rokF H_2.out.bk ?_;clear t8 n8;go_upto_region 30 with fail;obtain⟨M,hM⟩:=nmE ((tks0++Inf.tksOf tr).length);have HM:=Hd hM;have hMb:M<=5000000:=by rw[<- hM,qaa];have:=Inf.zbC tr;omega
                  have hrt:=H_2.out.trow;rw[hM] at hrt;obtain⟨xt,ct,rfl⟩:=zam hrt;clear hM hrt;have hrt:=H_2.out.trow;rw[HM.out] at hrt;have HRT:=Hd hrt;clear hrt;have c11:wr.cell? ⟨Q,11,none⟩=some (.slice xt M ct):=H_2.out.bk.cell 11;go_wp2_with (at_builtin;refine apA (HRT.out.alloc _) [.int .u8 0,.int .i64 (n:Int),.int .i64 (bk:Int)] ?_);intro v7 w7 hown hgrow _ hat;obtain⟨x7,c7,rfl⟩:=zam hown;have P:=H_2.out.tok (t:=⟨0,(n:Int),(bk:Int)⟩) HM.out ((Ext.refl _).alloc _) hgrow (by exact hown) (by rcases hat with q | q;exact .inl q;exact .inr (by rw[q];simp));have b1:w7.cell? ⟨Q,11,none⟩=some (.slice xt M ct):=P.1.cell 11;have fb:=P.1.frozen 11;have HP:=Hd P.2;clear P hown hgrow hat c11 HRT;go_wp2_with fail;go_roundg 0
                  case measure=>have:=HF0.out;have:=HK.out;omega
                  case rel=>exact⟨a4,_,0,_,_,_,[],_,_,_,HP,Hd (.inr ⟨0,rfl,HQ.out,rfl⟩),Hd rfl⟩
               ·as_aux_lemma=>
                 have t3:=dF (p:=(Lo:Int)<(bk:Int));have n3:¬ Lo<bk:=hbo;have HBO:=Hd hbo;have wl:∀z,z=(Lo:Int)+(n:Int)->IntKind.i64.wrap z=z:=by rintro _ rfl;have:=HLo.out;rw[qal];omega
                 go_wp2_with fail;clear t3 n3 c2;refine zac (λ wz=>Ext wc wz) (Ext.refl _) ?_;rintro w_6 hX;have H_1:=Hd (H_0.out.ext hX);clear H_0;clear hX;have c2:w_6.cell? ⟨Q,2,none⟩=some (.slice xo Lo co):=H_1.out.bk.cell 2;have c3:w_6.cell? ⟨Q,3,none⟩=some (.int .i64 (most:Int)):=(H_1.out.bk.cell 3).trans (congrArg some HX3.out);by_cases hmo:most<Lo+n
                 ·as_aux_lemma=>
                   have t4:=dT (p:=(most:Int)<(Lo:Int)+(n:Int));have HQ:=Hd (Inf.zbT HF0.out HT.out HN.out HKN.out (HTF.out.trans (Inf.zh2 (by omega) (by rw[HDB.out];exact HY.out) (by rw[HL.out,HLN.out,HBK.out];exact HBO.out) (by rw[HL.out,qaX,HLNk.out,HNN.out];exact hmo))));refine rgQ ?_;have hdk:decide (0=0)=true:=rfl;refine qY ?_;refine zau (by kernel_rfl) λ K hK=>?_;go_simp;refine⟨_,(zaI Q a4 0 (bs (Bts.allB L)) (qx x B7 B8 (.slice xo Lo co) vt) _ H_1.out.bk.drew),hK _ ?_⟩;clear hK K;refine qY ?_;refine qY ?_;refine qY ?_;refine qY ?_;refine qY ?_;refine qY ?_;refine qY ?_;refine qY ?_;refine qY ?_;refine qY ?_;refine qY ?_;refine qY ?_;refine qY ?_;refine qY ?_;refine zaf ?_;clear hdk;have H_2:=Hd (H_1.out.ext (show Ext w_6 w_6.drew from qag (Ext.refl _)));clear H_1;go_wp2_with fail;clear t4 wl c2 c3;refine (zap Q a4 0 2 (bs (Bts.allB L)) (qx x B7 B8 (.slice xo Lo co) vt) _ H_2.out.bk).mono ?_;rintro r w_7 ⟨rfl,hB,hK⟩;rw[show fl 0 2=2 from rfl] at hB;have H_3:=Hd (H_2.out.quiet hK hB);clear H_2;clear hK hB;go_wp2_with fail;go_loopw [10] (λ cz wr=>cz=.int .i64 0/\Hid (WGo w wr Q B7 B8 (bs (Bts.allB L)) a4 2 x v0 t0 (.slice xo Lo co) vt out (tks0++Inf.tksOf tr) (Inf.upd (Inf.use7 tr) (kk+257) (z+1)) (Inf.upd (Inf.use8 tr) d (u+1)))) (λ _ _=>0)
                   case atStart=>exact⟨rfl,H_3⟩
                   case round=>
                    clear H_3;obtain⟨rfl,H_3⟩:=hrel;have t8:=dT (p:=(0:Int)<(n:Int));have n8:0<n:=by omega
                    go_wp2_with fail;refine rokF H_3.out.bk ?_;clear t8 n8;go_upto_region 30 with fail;obtain⟨M,hM⟩:=nmE ((tks0++Inf.tksOf tr).length);have HM:=Hd hM;have hMb:M<=5000000:=by rw[<- hM,qaa];have:=Inf.zbC tr;omega
                    have hrt:=H_3.out.trow;rw[hM] at hrt;obtain⟨xt,ct,rfl⟩:=zam hrt;clear hM hrt;have hrt:=H_3.out.trow;rw[HM.out] at hrt;have HRT:=Hd hrt;clear hrt;have c11:wr.cell? ⟨Q,11,none⟩=some (.slice xt M ct):=H_3.out.bk.cell 11;go_wp2_with (at_builtin;refine apA (HRT.out.alloc _) [.int .u8 0,.int .i64 (n:Int),.int .i64 (bk:Int)] ?_);intro v7 w7 hown hgrow _ hat;obtain⟨x7,c7,rfl⟩:=zam hown;have P:=H_3.out.tok (t:=⟨0,(n:Int),(bk:Int)⟩) HM.out ((Ext.refl _).alloc _) hgrow (by exact hown) (by rcases hat with q | q;exact .inl q;exact .inr (by rw[q];simp));have b1:w7.cell? ⟨Q,11,none⟩=some (.slice xt M ct):=P.1.cell 11;have fb:=P.1.frozen 11;have HP:=Hd P.2;clear P hown hgrow hat c11 HRT;go_wp2_with fail;go_roundg 0
                    case measure=>have:=HF0.out;have:=HK.out;omega
                    case rel=>exact⟨a4,_,0,_,_,_,[],_,_,_,HP,Hd (.inr ⟨1,rfl,HQ.out,rfl⟩),Hd rfl⟩
                 ·as_aux_lemma=>
                   have t4:=dF (p:=(most:Int)<(Lo:Int)+(n:Int));have HQ:=Hd (Inf.zex HF0.out HT.out HN.out HKN.out (HTF.out.trans (Inf.zlJ (by omega) (by rw[HDB.out];exact HY.out) (by rw[HL.out,HLN.out,HBK.out];exact HBO.out) (by rw[HL.out,qaX,HLNk.out,HNN.out];exact hmo))));rw[qaX,HLNk.out,HNN.out,HLN.out,HBK.out] at HQ;refine rgQ ?_;have hdk:decide (0=0)=true:=rfl;refine qY ?_;refine zau (by kernel_rfl) λ K hK=>?_;go_simp;refine⟨_,(zaI Q a4 0 (bs (Bts.allB L)) (qx x B7 B8 (.slice xo Lo co) vt) _ H_1.out.bk.drew),hK _ ?_⟩;clear hK K;refine qY ?_;refine qY ?_;refine qY ?_;refine qY ?_;refine qY ?_;refine qY ?_;refine qY ?_;refine qY ?_;refine qY ?_;refine qY ?_;refine qY ?_;refine qY ?_;refine qY ?_;refine qY ?_;refine zaf ?_;clear hdk;have H_2:=Hd (H_1.out.ext (show Ext w_6 w_6.drew from qag (Ext.refl _)));clear H_1;clear t4 wl c2 c3;have HBd:Hid (Lo+n<=most/\bk<=Lo/\1<=bk):=Hd ⟨by omega,by omega,by omega⟩;clear hmo hbo;go_wp2_with fail;go_loopw [10] (λ cz wr=>∃(j:Nat) (v:Value),j<=n/\cz=.int .i64 j/\Hid (WGo w wr Q B7 B8 (bs (Bts.allB L)) a4 0 x v0 t0 v vt (copyL out bk j) (tks0++Inf.tksOf tr) (Inf.upd (Inf.use7 tr) (kk+257) (z+1)) (Inf.upd (Inf.use8 tr) d (u+1)))) (λ cz _=>n-(intOf cz).toNat)
                   case atStart=>exact⟨0,_,by omega,rfl,H_2⟩
                   case round=>
                    clear H_2;obtain⟨j,v,hj,rfl,H_0⟩:=hrel;by_cases hjn:j<n
                    ·as_aux_lemma=>
                      obtain⟨U,hU⟩:=nmE (copyL out bk j);have HUS:Hid (copyL out bk (j+1)=U ++ [U.getD (U.length-bk) 0]):=Hd (by simp only[copyL,hU]);have hUl:U.length=Lo+j:=by rw[<- hU,za1,HL.out]
                      rw[hU] at H_0;obtain⟨M,hM⟩:=nmE (U.length);have hro:=H_0.out.row;rw[hM] at hro hUl HUS;have HM:=Hd hM;have hBq:=HBd.out;obtain⟨gb,cp,rfl,_,_⟩:=zaw hro (by omega);obtain⟨y,hy⟩:=nmE (U.getD (M-bk) 0);rw[hy] at HUS;obtain⟨q,hq⟩:∃q:Nat,M-bk=q:=⟨_,rfl⟩;have hc:wr.cell? ⟨gb,q,none⟩=some (.int .u8 (y.toNat:Int)):=by
                       have hql:q<U.length:=by omega
                       rw[hro.cellAt q (by omega),zaN U q hql,<- hy,hq];simp[List.getD,hql]
                      have hqI:(M:Int)-(bk:Int)=(q:Int):=by omega
                      have wq:=wqz (x:=(q:Int));have hqM:q<M:=by omega
                      have hM2:M<300000:=by omega
                      have hqMI:(q:Int)<(M:Int):=by omega
                      have hq0:(0:Int)<=(q:Int):=by omega
                      have hqn:((q:Nat):Int).toNat=q:=by omega
                      have t8:=dT (p:=(j:Int)<(n:Int));have n8:j<n:=hjn;have HO:=Hd hro;have HC:=Hd hc;clear hU hy hM hq hUl hBq hc hro;go_wp2_with fail;refine rokT H_0.out.bk ?_;clear t8 n8;go_wp2_with fail;have Y_0:=Hd (Ext.refl wr);refine rgW λ w1 h=>?_;have H_1:=Hd (H_0.out.ext h);have Y_1:=Hd (Y_0.out.trans h);clear h H_0 Y_0;refine tk5 0 1 2 3 5 ?_;refine tk5 6 7 9 10 11 ?_;refine tkH 14 ?_;refine qch (rs:=[4,8,12]) (by kernel_rfl) (by simp) ?_;refine qaM rfl (λ KK hK=>?_) (qaM rfl (λ KK hK=>?_) (qaM rfl (λ KK hK=>?_) qcb))
                      ·have k1:w1.cell? ⟨Q,2,none⟩=some (.slice (some ⟨gb,0,none⟩) M cp):=H_1.out.bk.cell 2;go_simp;refine oT hK ?_;clear hK KK k1;refine rdT2 8 12 (λ KK hK=>?_) λ KK hK=>?_
                       ·exact Ygm3
                       have k1:w1.cell? ⟨Q,2,none⟩=some (.slice (some ⟨gb,0,none⟩) M cp):=H_1.out.bk.cell 2;go_simp;refine oT hK ?_;clear hK KK k1;refine tk2 13 15 ?_;exact Ygm4
                      ·have k1:w1.cell? ⟨Q,2,none⟩=some (.slice (some ⟨gb,0,none⟩) M cp):=H_1.out.bk.cell 2;go_simp;refine oT hK ?_;clear hK KK k1;refine rdT2 4 12 (λ KK hK=>?_) λ KK hK=>?_
                       ·exact Ygm3
                       have k1:w1.cell? ⟨Q,2,none⟩=some (.slice (some ⟨gb,0,none⟩) M cp):=H_1.out.bk.cell 2;go_simp;refine oT hK ?_;clear hK KK k1;refine tk3 13 15 16 ?_;exact Ygm5
                      have k1:w1.cell? ⟨Q,2,none⟩=some (.slice (some ⟨gb,0,none⟩) M cp):=H_1.out.bk.cell 2;go_simp;refine oT hK ?_;clear hK KK k1;refine tk2 13 15 ?_;refine rdT2 4 8 (λ KK hK=>?_) λ KK hK=>?_
                      ·have k1:w1.cell? ⟨Q,2,none⟩=some (.slice (some ⟨gb,0,none⟩) M cp):=H_1.out.bk.cell 2;go_simp;refine oT hK ?_;clear hK KK k1;exact Ygm4
                      have k1:w1.cell? ⟨Q,2,none⟩=some (.slice (some ⟨gb,0,none⟩) M cp):=H_1.out.bk.cell 2;go_simp;refine oT hK ?_;clear hK KK k1;refine tkH 16 ?_;exact Ygm5
                    ·as_aux_lemma=>
                      obtain rfl:j=n:=by omega
                      have t8:=dF (p:=(j:Int)<(j:Int));have n8:¬ j<j:=by omega
                      go_upto_region 30 with fail;clear t8 n8;obtain⟨M,hM⟩:=nmE ((tks0++Inf.tksOf tr).length);have HM:=Hd hM;have hMb:M<=5000000:=by rw[<- hM,qaa];have:=Inf.zbC tr;omega
                      have hrt:=H_0.out.trow;rw[hM] at hrt;obtain⟨xt,ct,rfl⟩:=zam hrt;clear hM hrt;have hrt:=H_0.out.trow;rw[HM.out] at hrt;have HRT:=Hd hrt;clear hrt;have c11:wr.cell? ⟨Q,11,none⟩=some (.slice xt M ct):=H_0.out.bk.cell 11;go_wp2_with (at_builtin;refine apA (HRT.out.alloc _) [.int .u8 0,.int .i64 (j:Int),.int .i64 (bk:Int)] ?_);intro v7 w7 hown hgrow _ hat;obtain⟨x7,c7,rfl⟩:=zam hown;have P:=H_0.out.tok (t:=⟨0,(j:Int),(bk:Int)⟩) HM.out ((Ext.refl _).alloc _) hgrow (by exact hown) (by rcases hat with q | q;exact .inl q;exact .inr (by rw[q];simp));have b1:w7.cell? ⟨Q,11,none⟩=some (.slice xt M ct):=P.1.cell 11;have fb:=P.1.frozen 11;have HP:=Hd P.2;clear P hown hgrow hat c11 HRT;go_wp2_with fail;obtain⟨F2,hF2,HR2⟩:=HQ.out;have HR3:=Hd HR2;have HF3:Hid (F=F2+1):=Hd hF2;clear HR2 HQ hF2;go_roundg F2
                      case measure=>have:=HF3.out;have:=HK.out;omega
                      case rel=>exact⟨a4,0,F2,_,_,_,tr ++ [⟨kk+257,d,j,bk⟩],_,_,_,HP,Hd (.inl ⟨rfl,HR3.out,⟨hal4,by have:=HF3.out;have:=HB.out;have:=HA1.out;have:=HA2.out;have:=HA3.out;have:=HA4.out;omega,by rw[za1,HL.out];exact HBd.out.1,by rw[qaa];have:=HB.out;have:=HA1.out;have:=HA2.out;have:=HA3.out;have:=HA4.out;simp;omega⟩,by rw[Inf.zdL,qat];simp[Inf.tkOf,show ¬ kk+257<256 by omega],by rw[Inf.zd3,<- HZ.out],by rw[Inf.zlI _ _ (by show 256<kk+257;omega),<- HU.out]⟩),Hd rfl⟩
  subst he;have HQ:=Hd hq;clear HST;go_wp2_with fail;refine rokF H_0.out.bk ?_;go_wp2_with fail;go_end0;exact zbM HQ.out rfl H_0.out
end Go.Proofs.YthlibiocadimhaaGreatDoor
