/-
  the document's reader: a dynamic block's lengths.
  The document's reader of a block's words: its memory on its way.
-/
import Derived.Test.YthlibiocadimhaaGreatDoorPngReadsG24
set_option linter.all false
set_option maxRecDepth 100000
namespace Go.Proofs.YthlibiocadimhaaGreatDoor
open Go.RowKit
theorem Ygk16 {p:Prop} (h:p:=by
 go_wp2_with fail;refine rokF H_0.out.bk ?_;go_wp2_with fail;go_roundg 0
 case measure=>have:=HKK.out;omega
 case rel=>exact⟨a1,l,1,F,by omega,H_0,Hd (by rw[HN.out];exact HLR3.out),Hd (StE.bad HQ.out),Hd ⟨HK.out.1,HK.out.2.1,HK.out.2.2.1,by simp⟩,HB1⟩):p:=h
theorem Ygk17 {p:Prop} (h:p:=by
 obtain⟨rfl,rfl,H_0,HLR3,HB1⟩:=hrel;have t8:=dT (p:=(0:Int)<(t:Int));have n8:0<t:=by omega
 go_wp2_with fail;refine rokF H_0.out.bk ?_;go_wp2_with fail;go_roundg 0
 case measure=>have:=HKK.out;omega
 case rel=>exact⟨a2,l,1,F,by omega,H_0,Hd (by rw[HN.out];exact HLR3.out),Hd (StE.bad HQ.out),Hd ⟨HK.out.1,HK.out.2.1,HK.out.2.2.1,by simp⟩,HB1⟩):p:=h
theorem Ygk11 {p:Prop} (h:p:=by
 obtain⟨rfl,rfl,H_0,HLR3,HB1⟩:=hrel;have t8:=dT (p:=(0:Int)<3);have n8:0<3:=by omega
 exact Ygk16):p:=h
theorem Ygk12 {p:Prop} (h:p:=by
 clear H_3 HLR3 HB1;exact Ygk17):p:=h
theorem Ygk13 {p:Prop} (h:p:=by
 have KG:Keeps (λ k=>(Value.slice xq M cq).ownBlock=some k) wr w8:=(Keeps.alloc (Keeps.refl _ _) _).trans (Keeps.grown hgrow) (λ _ _ q=>q);have HN8:=Hd (H_0.out.off KG (λ k q=>by have:=(HRO.out.lt k q).1;have:=HLb.out;omega) (λ q=>by have:=(HRO.out.lt _ q).1;have:=HLb.out;omega) (λ k q e=>by have:=(HRO.out.lt _ e).1;have:=HLb.out.2.2 k q;omega));have HC8:=Hd (HC1.out.1.keep KG (λ C q e=>by obtain⟨l9,c9,q⟩:=q;have:=(HRO.out.lt _ e).1;have:=HC1.out.2 C l9 c9 q;omega));have HB8:=Hd (qam HB1.out KG.size);have HCL8:=Hd HC1.out.2;have wi:∀z,z=(i:Int)+1->IntKind.i64.wrap z=z:=λ z hz=>wr64 hz (by omega) (by omega);clear hown hgrow KG;go_wp2_with fail;go_roundw
 case rel=>exact⟨i+1,by omega,by go_num,HN8,HO8,Hd ⟨HC8.out,HCL8.out⟩,HB8⟩
 case measure=>simp[intOf];omega):p:=h
theorem Ygk14 {p:Prop} (h:p:=by
 clear hG2 hF2;go_wp2_with fail;go_roundg (W+1-M)
 case measure=>have:=HKK.out;have:=HMN.out;have:=HM9.out;omega
 case rel=>exact⟨a2,_,0,F2,hbl,H_0,Hd (by rw[HM.out];exact HRO.out),Hd (StE.good ⟨HC1.out,HG2.out⟩),Hd ⟨HBD2.out,by rw[HM.out];have:=HMN.out;have:=HM9.out;omega,by rw[HM.out];have h1:=HK.out.2.2.1;rw[HN.out] at h1;have:=HMN.out;have:=HM9.out;have:=HF2.out;omega,by rw[HM.out];simp⟩,HB1⟩):p:=h
theorem Ygk15 {p:Prop} (h:p:=by
 exact Ygk16):p:=h
theorem Ygk0 {p:Prop} (h:p:=by
 obtain⟨rfl,hB⟩:=hP;have H_1:=Hd (H_0.out.quiet hK hB);clear H_0;clear hK hB;(try go_wp2_with fail);go_meet
 exact⟨1,a1,1,by first | rfl | simp,by omega,by omega,by omega,H_1,Hd (StE.bad HQ.out)⟩):p:=h
theorem Ygk1 {p:Prop} (h:p:=by
 obtain⟨rfl,hB⟩:=hP;have H_1:=Hd (H_0.out.quiet hK hB);clear H_0;clear hK hB;(try go_wp2_with fail);go_meet
 exact⟨4,a2,1,by first | rfl | simp,by omega,by omega,by omega,H_1,Hd (StE.bad HQ.out)⟩):p:=h
theorem Ygk2 {p:Prop} (h:p:=by
 obtain⟨rfl,rfl,H_0,HLR3,HB1⟩:=hrel;have t8:=dT (p:=(0:Int)<1);have n8:0<1:=by omega
 go_wp2_with fail;refine rokF H_0.out.bk ?_;go_wp2_with fail;go_roundg 0
 case measure=>have:=HKK.out;omega
 case rel=>exact⟨a,l,1,F,by omega,H_0,Hd (by rw[HN.out];exact HLR3.out),Hd (StE.bad HQ.out),Hd ⟨HK.out.1,HK.out.2.1,HK.out.2.2.1,by simp⟩,HB1⟩):p:=h
theorem Ygk3 {p:Prop} (h:p:=by
 exact Ygk11):p:=h
theorem Ygk4 {p:Prop} (h:p:=by
 go_loopw [11,15] (λ y z wr=>y=(.slice xo n co)/\z=.int .i64 0/\Hid (QGo w wr Q (bs (Bts.allB L)) a1 1 x vo vo out)/\Hid (wr.ownsRow b0 3 1 (.slice xo n co) n (intsV n (Inf.fn l)))/\Hid (b0<=wr.heap.size)) (λ _ _ _=>0)
 case atStart=>exact⟨rfl,rfl,H_3,HLR3,HB1⟩
 case round=>
  clear H_3 HLR3 HB1;exact Ygk11):p:=h
theorem Ygk5 {p:Prop} (h:p:=by
 clear H_2 HLR3 HB1;exact Ygk11):p:=h
theorem Ygk6 {p:Prop} (h:p:=by
 exact Ygk12):p:=h
theorem Ygk7 {p:Prop} (h:p:=by
 exact Ygk13):p:=h
theorem Ygk8 {p:Prop} (h:p:=by
 have htb:1<=t/\t<=138:=by omega
 have wt:∀z,z=(t:Int)->IntKind.i64.wrap z=z:=λ z hz=>wr64 hz (by omega) (by omega);have h018:(0:Nat)<=18:=by omega
 clear hg ht;obtain⟨m9,hm9⟩:=nmE (n+t);have hm9I:(n:Int)+(t:Int)=(m9:Int):=by omega
 have wm9:∀z,z=(m9:Int)->IntKind.i64.wrap z=z:=λ z hz=>wr64 hz (by omega) (by omega);have HM9:=Hd hm9;by_cases hov:W<m9
 ·have t9:=dT (p:=(W:Int)<(m9:Int));have n9:W<m9:=hov;have HQ:=Hd (Inf.zaV HG.out (Inf.zbU HF0.out rfl HNW.out HX.out HRP.out (by rw[HN.out];omega)));go_wp2_with fail;refine (zap Q a2 0 1 (bs (Bts.allB L)) x _ H_2.out.bk).mono ?_;rintro r w_2 ⟨rfl,hB,hK⟩;have HLR4:=Hd (zaa HLR3.out hK (λ k q e=>by have:=(HLR3.out.lt k q).1;have:=HLb.out;omega));have HB2:=Hd (qam HB1.out hK.size);clear HLR3 HB1;have HLR3:=HLR4;have HB1:=HB2;clear HLR4 HB2;rw[show fl 0 1=1 from rfl] at hB;have H_3:=Hd (H_2.out.quiet hK hB);clear H_2;clear hK hB;clear t9 n9 hov hm9 hm9I;go_wp2_with fail;go_loopw [11,15] (λ y z wr=>y=(.slice xo n co)/\z=.int .i64 0/\Hid (QGo w wr Q (bs (Bts.allB L)) a2 1 x vo vo out)/\Hid (wr.ownsRow b0 3 1 (.slice xo n co) n (intsV n (Inf.fn l)))/\Hid (b0<=wr.heap.size)) (λ _ _ _=>0)
  case atStart=>exact⟨rfl,rfl,H_3,HLR3,HB1⟩
  case round=>
   exact Ygk12
 have t9:=dF (p:=(W:Int)<(m9:Int));have n9:¬ W<m9:=hov;have HLG:=Hd (Inf.zcK HF0.out rfl HNW.out HX.out HRP.out (by rw[HN.out];omega));go_wp2_with fail;clear t9 n9 hm9 hm9I;go_loopw [11,15] (λ y z wr=>∃i:Nat,i<=t/\z=.int .i64 i/\Hid (QGo w wr Q (bs (Bts.allB L)) a2 0 x vo vo out)/\Hid (wr.ownsRow b0 3 1 y (l++List.replicate i 0).length (intsV (l++List.replicate i 0).length (Inf.fn (l++List.replicate i 0))))/\Hid (Cw wr Q vc f 19/\∀C l c,vc=.slice (some ⟨C,0,none⟩) l c->C<b0)/\Hid (b0<=wr.heap.size)) (λ _ z _=>t-(intOf z).toNat)
 case atStart=>exact⟨0,by omega,rfl,H_2,Hd (by rw[List.replicate_zero,qbW,HN.out];exact HLR3.out),Hd ⟨HC1.out,HCL.out⟩,HB1⟩
 case round=>
  clear H_2 HLR3 HB1 HC1 HCL;obtain⟨i,hit,rfl,H_0,HLR3,HC1,HB1⟩:=hrel;obtain⟨M,hM⟩:=nmE ((l++List.replicate i 0).length);have hMn:M=n+i:=by rw[<- hM,qaa,qaT,HN.out]
  have hro:=HLR3.out;rw[hM] at hro;obtain⟨xq,cq,rfl⟩:=zam hro;have HRO:=Hd hro;have HM:=Hd hM;have HMN:=Hd hMn;have hMb:M<=400:=by have:=HM9.out;omega
  clear hro hM hMn;by_cases hil:i<t
  ·have t8:=dT (p:=(i:Int)<(t:Int));have n8:i<t:=hil;go_wp2_with fail;refine rokT H_0.out.bk ?_;clear t8 n8;have hzz:=HB1.out;go_wp2_with (at_builtin;refine apA (HRO.out.alloc _) [.int .i64 (0:Int)] ?_);intro v' w8 hown hgrow _ _;have HO8:Hid (w8.ownsRow b0 3 1 v' (l++List.replicate (i+1) 0).length (intsV (l++List.replicate (i+1) 0).length (Inf.fn (l++List.replicate (i+1) 0)))):=Hd (by
    have e1:l++List.replicate (i+1) 0=(l++List.replicate i 0) ++ [0]:=by rw[List.replicate_succ',qat]
    rw[e1,zb6,qaa,HM.out];exact hown)
   exact Ygk13
  obtain rfl:i=t:=by omega
  have t8:=dF (p:=(i:Int)<(i:Int));obtain⟨F2,hF2,hG2⟩:=HLG.out;have HG2:Hid (Inf.za3 mm ff (Inf.lens L f W F2 a2 (l++List.replicate i 0))=rr):=Hd (by have h:=HG.out;rw[<- hG2] at h;exact h);have HF2:=Hd hF2;have HBD2:Hid (∀z∈l++List.replicate i 0,z<=18):=Hd (λ z hz=>by
   rcases qa3.1 hz with q | q
   ·exact HK.out.1 z q
   rw[qb0 q];exact h018)
  exact Ygk14):p:=h
theorem Ygk9 {p:Prop} (h:p:=by
 obtain⟨rfl,rfl,H_0,HLR3,HB1⟩:=hrel;have t8:=dT (p:=(0:Int)<11);have n8:0<11:=by omega
 exact Ygk15):p:=h
theorem Ygk10 {p:Prop} (h:p:=by
 go_wp2_with fail;refine rokF H_3.out.bk ?_;go_wp2_with fail;go_ret2;rw[<- HQ.out];exact⟨_,_,a5,_,rfl,H_3.out,λ i h5 h6=>by simp[xset,h5,h6]⟩):p:=h
def ordA:Array Value:=#[.int .i64 16,.int .i64 17,.int .i64 18,.int .i64 0,.int .i64 8,.int .i64 7,.int .i64 9,.int .i64 6,.int .i64 10,.int .i64 5,.int .i64 11,.int .i64 4,.int .i64 12,.int .i64 3,.int .i64 13,.int .i64 2,.int .i64 14,.int .i64 1,.int .i64 15]
theorem zjc (i:Nat) (hi:i<19):ordA[i]? =some (.int .i64 ((Inf.zaK.getD i 0:Nat):Int)):=by
 have e:ordA=(Inf.zaK.map λ z=>Value.int .i64 ((z:Nat):Int)).toArray:=rfl;have hl:i<Inf.zaK.length:=hi;rw[e];simp[List.getD,hl]
theorem QGo.off {w wr w':World} {Q a e:Nat} {T:ByteArray} {x:Nat->Value} {v0 vo:Value} {out:List UInt8} {S:Nat->Prop} (h:QGo w wr Q T a e x v0 vo out) (hk:Keeps S wr w') (hS:∀k,S k->w.heap.size<=k) (hQ:¬ S Q) (hv:∀k,vo.ownBlock=some k->¬ S k):QGo w w' Q T a e x v0 vo out:=
 ⟨h.bk.keeps hk hQ,h.x2,zaa h.row hk hv,h.nq,⟨h.step.keeps.trans hk (λ i hi q=>by have:=hS i q;omega),h.step.new⟩⟩
theorem QGo.set56 {w wr:World} {Q a e:Nat} {T:ByteArray} {x:Nat->Value} {v0 vo:Value} {out:List UInt8} (h:QGo w wr Q T a e x v0 vo out) (v1 v2:Value):QGo w ((wr.setCell ⟨Q,5,none⟩ v1).setCell ⟨Q,6,none⟩ v2) Q T a e (xset (xset x 5 v1) 6 v2) v0 vo out/\Keeps (λ k=>k=Q) wr ((wr.setCell ⟨Q,5,none⟩ v1).setCell ⟨Q,6,none⟩ v2):=by
 have hk:Keeps (λ k=>k=Q) wr ((wr.setCell ⟨Q,5,none⟩ v1).setCell ⟨Q,6,none⟩ v2):=((Keeps.refl (λ k=>k=Q) _).setCell (p:=⟨Q,5,none⟩) (.inl rfl) _).setCell (p:=⟨Q,6,none⟩) (.inl rfl) _;have hb:=(h.bk.putx 5 (by simp) v1).putx 6 (by simp) v2;exact⟨⟨hb,by simp[xset];exact h.x2,zaa h.row hk (λ k q e=>h.nq (by rw[q,e])),h.nq,h.step.trans ⟨hk.mono (λ _ _ q=>.inl q),λ _ q=>.inl q⟩⟩,hk⟩
theorem zea {w:World} {b g n c:Nat} {l:List Nat} (h:w.ownsRow b 3 1 (.slice (some ⟨g,0,none⟩) n c) n (intsV n (Inf.fn l))) (_:l.length=n) (hb:∀x∈l,x<=18) (m:Nat) (hm:m<=n):Ints w (some ⟨g,0,none⟩) m (Inf.fn (l.take m)):=by
 refine⟨λ e=>(by cases e),λ p hp i hi=>?_⟩;injection hp with hp;subst hp;rw[zae];have e:Inf.fn (l.take m) i=Inf.fn l i:=by unfold Inf.fn;simp[List.getD,hi]
 have:=zdB hb i;rw[e];exact⟨by rw[h.cellAt i (by omega),zbc _ _ i (by omega)],by omega,by omega⟩
theorem zc4 {w:World} {b g n c:Nat} {l:List Nat} (h:w.ownsRow b 3 1 (.slice (some ⟨g,0,none⟩) n c) n (intsV n (Inf.fn l))) (_:l.length=n) (hb:∀x∈l,x<=18) (m k:Nat) (hm:m+k=n):Ints w (some ⟨g,m,none⟩) k (Inf.fn (l.drop m)):=by
 refine⟨λ e=>(by cases e),λ p hp i hi=>?_⟩;injection hp with hp;subst hp;have e:Inf.fn (l.drop m) i=Inf.fn l (m+i):=by unfold Inf.fn;simp[List.getD,List.getElem?_drop]
 have:=zdB hb (m+i);rw[e,show (⟨g,m,none⟩:Addr).add i=⟨g,m+i,none⟩ by unfold Addr.add;split <;> simp_all];exact⟨by rw[h.cellAt (m+i) (by omega),zbc _ _ (m+i) (by omega)],by omega,by omega⟩
def StE {α:Type} (e:Nat) (rr:Except Nat α) (P:Prop):Prop:=(e=0/\P)\/(e=1/\.error 0=rr)
theorem StE.bad {α:Type} {rr:Except Nat α} {P:Prop} (h:.error 0=rr):StE 1 rr P:=.inr ⟨rfl,h⟩
theorem StE.good {α:Type} {rr:Except Nat α} {P:Prop} (h:P):StE 0 rr P:=.inl ⟨rfl,h⟩
theorem wr64 {z v:Int} (h:z=v) (h0:0<=v) (h1:v<=1000000000000):IntKind.i64.wrap z=z:=by subst h;rw[qal];omega
def zqZ (w:World) (Q:Nat) (T:ByteArray) (x:Nat->Value) (vo:Value) (out:List UInt8) (r:Except Nat (List Nat × List Nat × Nat)) (e:Ending) (w':World):Prop:=
 match r with
 | .ok (l,d,a)=>∃vs vd x' p c q b,e=.returned (.tuple #[vs,vd])/\QGo w w' Q T a 0 x' vo vo out/\(∀i,i≠5->i≠6->x' i=x i)/\Cw w' Q vs (Inf.fn l) l.length/\Cw w' Q vd (Inf.fn d) d.length/\(∀C l' c',vs=.slice (some ⟨C,0,none⟩) l' c'->w.heap.size<=C)/\(∀C l' c',vd=.slice (some ⟨C,0,none⟩) l' c'->w.heap.size<=C)/\x' 5=.slice (some p) l.length c/\x' 6=.slice (some q) d.length b/\Ints w' (some p) l.length (Inf.fn l)/\Ints w' (some q) d.length (Inf.fn d)/\w.heap.size<=p.block/\w.heap.size<=q.block
 | .error c=>∃vs vd a x',e=.returned (.tuple #[vs,vd])/\QGo w w' Q T a (c+1) x' vo vo out/\∀i,i≠5->i≠6->x' i=x i
set_option maxHeartbeats 8000000 in
theorem zoy (Q a:Nat) (L:List UInt8) (x:Nat->Value) (vo:Value) (out:List UInt8) (w:World) (hG:QGo w w Q (bs (Bts.allB L)) a 0 x vo vo out) (ha:a<=8*L.length) (hL:L.length<=300000):
  Calls Tryz.prog 79 #[.pointer (some ⟨Q,0,none⟩)] w λ r w'=>zqZ w Q (bs (Bts.allB L)) x vo out (Inf.dyn L a) r w':=by
 have H_0:=Hd hG;obtain⟨rr,hr⟩:=nmE (Inf.dyn L a);rw[hr];rw[Inf.zlQ] at hr;have HR:=Hd hr;clear hG hr;go_enter Tryz.func79,Tryz.ntmps79
 go_upto_region 1 with fail;go_cut [4] (λ s4 wx=>∃(mm a1 e:Nat),s4=.int .i64 (mm:Int)/\257<=mm/\mm<=288/\a1<=8*L.length/\Hid (QGo w wx Q (bs (Bts.allB L)) a1 e x vo vo out)/\Hid (StE e rr (∃m,m+257=mm/\Inf.get L 5 a=.ok (m,a1))))
 case first=>
  as_aux_lemma=>
   go_wp2_with fail;cases hg:Inf.get L 5 a with
   | error c=>
    obtain rfl:=(Inf.zaL hg).1;have HQ:Hid (.error 0=rr):=Hd (by have h:=HR.out;simp only[hg] at h;exact h);refine (zao Q a 0 5 L x _ H_0.out.bk (by omega) (by omega) hL).mono ?_;rintro r w_1 ⟨hK,hP⟩;rw[qad rfl,hg] at hP;obtain⟨rfl,hB⟩:=hP;have H_1:=Hd (H_0.out.quiet hK hB);clear H_0;clear hK hB;(try go_wp2_with fail);go_meet
    exact⟨257,a,1,by first | rfl | simp,by omega,by omega,by omega,H_1,Hd (StE.bad HQ.out)⟩
   | ok q=>
    obtain⟨n,b⟩:=q;obtain⟨z1,z2,z3,z4⟩:=Inf.zax hg;clear z4;have hnb:n<32:=z3;have hbl:b<=8*L.length:=by omega
    clear z1 z2 z3;have HG:=Hd hg;refine (zao Q a 0 5 L x _ H_0.out.bk (by omega) (by omega) hL).mono ?_;rintro r w_1 ⟨hK,hP⟩;rw[qad rfl,hg] at hP;obtain⟨rfl,hB⟩:=hP;have H_1:=Hd (H_0.out.quiet hK hB);clear H_0;clear hK hB;obtain⟨nn,hnn⟩:=nmE (n+257);have hnI:(n:Int)+257=(nn:Int):=by omega
    have wn:∀z,z=(nn:Int)->IntKind.i64.wrap z=z:=λ z hz=>wr64 hz (by omega) (by omega);have HNN:=Hd hnn;clear hg hnn;(try go_wp2_with fail);go_meet
    exact⟨nn,b,0,rfl,by have:=HNN.out;omega,by have:=HNN.out;omega,hbl,H_1,Hd (StE.good ⟨n,HNN.out,HG.out⟩)⟩
 clear H_0;obtain⟨mm,a1,e,rfl,hm1,hm2,hal1,H_0,HS⟩:=hcut;go_upto_region 2 with fail;go_cut [5] (λ s5 wx=>∃(ff a2 e:Nat),s5=.int .i64 (ff:Int)/\1<=ff/\ff<=32/\a2<=8*L.length/\Hid (QGo w wx Q (bs (Bts.allB L)) a2 e x vo vo out)/\Hid (StE e rr (∃m q,m+257=mm/\q+1=ff/\Inf.get L 5 a=.ok (m,a1)/\Inf.get L 5 a1=.ok (q,a2))))
 case first=>
  as_aux_lemma=>
   rcases HS.out with⟨he,m,hmm,hg1⟩ | ⟨he,hbad⟩
   ·subst he;clear HS;have HMM:=Hd hmm;have HG1:=Hd hg1;go_wp2_with fail;cases hg:Inf.get L 5 a1 with
    | error c=>
     obtain rfl:=(Inf.zaL hg).1;have HQ:Hid (.error 0=rr):=Hd (by have h:=HR.out;simp only[hg1,hg] at h;exact h);refine (zao Q a1 0 5 L x _ H_0.out.bk (by omega) (by omega) hL).mono ?_;rintro r w_1 ⟨hK,hP⟩;rw[qad rfl,hg] at hP;exact Ygk0
    | ok q=>
     obtain⟨n,b⟩:=q;obtain⟨z1,z2,z3,z4⟩:=Inf.zax hg;clear z4;have hnb:n<32:=z3;have hbl:b<=8*L.length:=by omega
     clear z1 z2 z3;have HG:=Hd hg;refine (zao Q a1 0 5 L x _ H_0.out.bk (by omega) (by omega) hL).mono ?_;rintro r w_1 ⟨hK,hP⟩;rw[qad rfl,hg] at hP;obtain⟨rfl,hB⟩:=hP;have H_1:=Hd (H_0.out.quiet hK hB);clear H_0;clear hK hB;obtain⟨nn,hnn⟩:=nmE (n+1);have hnI:(n:Int)+1=(nn:Int):=by omega
     have wn:∀z,z=(nn:Int)->IntKind.i64.wrap z=z:=λ z hz=>wr64 hz (by omega) (by omega);have HNN:=Hd hnn;clear hg hnn;(try go_wp2_with fail);go_meet
     exact⟨nn,b,0,rfl,by have:=HNN.out;omega,by have:=HNN.out;omega,hbl,H_1,Hd (StE.good ⟨m,n,HMM.out,HNN.out,HG1.out,HG.out⟩)⟩
   subst he;have HQ:=Hd hbad;clear hbad HS;go_wp2_with fail;refine (zao Q a1 1 5 L x _ H_0.out.bk (by omega) (by omega) hL).mono ?_;rintro r w_1 ⟨hK,hP⟩;rw[qac (by omega)] at hP;exact Ygk0
 clear H_0;obtain⟨ff,a2,e2,rfl,hf1,hf2,hal2,H_0,HS2⟩:=hcut;clear HS;have HS:=HS2;clear HS2;go_upto_region 3 with fail;go_cut [6] (λ s6 wx=>∃(few a3 e:Nat),s6=.int .i64 (few:Int)/\4<=few/\few<=19/\a3<=8*L.length/\Hid (QGo w wx Q (bs (Bts.allB L)) a3 e x vo vo out)/\Hid (StE e rr ((if 286<mm\/30<ff then .error 0 else Inf.zbo L mm ff (Inf.zaW L few 0 a3 (λ _=>0)))=rr)))
 case first=>
  as_aux_lemma=>
   rcases HS.out with⟨he,m,q,hmm,hff,hg1,hg2⟩ | ⟨he,hbad⟩
   ·subst he;clear HS;have HMM:=Hd hmm;have HFF:=Hd hff;have HG1:=Hd hg1;have HG2:=Hd hg2;go_wp2_with fail;cases hg:Inf.get L 4 a2 with
    | error c=>
     obtain rfl:=(Inf.zaL hg).1;have HQ:Hid (.error 0=rr):=Hd (by have h:=HR.out;simp only[hg1,hg2,hg] at h;exact h);refine (zao Q a2 0 4 L x _ H_0.out.bk (by omega) (by omega) hL).mono ?_;rintro r w_1 ⟨hK,hP⟩;rw[qad rfl,hg] at hP;exact Ygk1
    | ok q=>
     obtain⟨n,b⟩:=q;obtain⟨z1,z2,z3,z4⟩:=Inf.zax hg;clear z4;have hnb:n<16:=z3;have hbl:b<=8*L.length:=by omega
     clear z1 z2 z3;have HG:=Hd hg;refine (zao Q a2 0 4 L x _ H_0.out.bk (by omega) (by omega) hL).mono ?_;rintro r w_1 ⟨hK,hP⟩;rw[qad rfl,hg] at hP;obtain⟨rfl,hB⟩:=hP;have H_1:=Hd (H_0.out.quiet hK hB);clear H_0;clear hK hB;obtain⟨nn,hnn⟩:=nmE (n+4);have hnI:(n:Int)+4=(nn:Int):=by omega
     have wn:∀z,z=(nn:Int)->IntKind.i64.wrap z=z:=λ z hz=>wr64 hz (by omega) (by omega);have HNN:=Hd hnn;clear hg hnn;(try go_wp2_with fail);go_meet
     exact⟨nn,b,0,rfl,by have:=HNN.out;omega,by have:=HNN.out;omega,hbl,H_1,Hd (StE.good (by have h:=HR.out;simp only[HG1.out,HG2.out,HG.out,HMM.out,HFF.out,HNN.out] at h;exact h))⟩
   subst he;have HQ:=Hd hbad;clear hbad HS;go_wp2_with fail;refine (zao Q a2 1 4 L x _ H_0.out.bk (by omega) (by omega) hL).mono ?_;rintro r w_1 ⟨hK,hP⟩;rw[qac (by omega)] at hP;exact Ygk1
 clear H_0;obtain⟨few,a3,e3,rfl,hw1,hw2,hal3,H_0,HS3⟩:=hcut;clear HS HR;have HS:=HS3;clear HS3;go_upto_region 4 with fail;go_cut [32] (λ s32 wx=>∃(bb:Bool),s32=.bool bb/\bb=decide (286<mm\/30<ff)/\Hid (QGo w wx Q (bs (Bts.allB L)) a3 e3 x vo vo out))
 case first=>
  as_aux_lemma=>
   by_cases hb1:286<mm
   ·have t1:=dT (p:=(286:Int)<(mm:Int));(try go_wp2_with fail);go_meet
    exact⟨true,rfl,(qae (.inl hb1)).symm,H_0⟩
   have t1:=dF (p:=(286:Int)<(mm:Int));by_cases hb2:30<ff
   ·have t2:=dT (p:=(30:Int)<(ff:Int));(try go_wp2_with fail);go_meet
    exact⟨true,rfl,(qae (.inr hb2)).symm,H_0⟩
   have t2:=dF (p:=(30:Int)<(ff:Int));(try go_wp2_with fail);go_meet
   exact⟨false,rfl,(qaf (by omega)).symm,H_0⟩
 clear H_0;obtain⟨bb,rfl,hbb,H_0⟩:=hcut;go_upto_if 32 with fail
 go_cut [] (λ wx=>∃(e:Nat),Hid (QGo w wx Q (bs (Bts.allB L)) a3 e x vo vo out)/\Hid (StE e rr (Inf.zbo L mm ff (Inf.zaW L few 0 a3 (λ _=>0))=rr)))
 case first=>
  as_aux_lemma=>
   rcases HS.out with⟨he,hg⟩ | ⟨he,hbad⟩
   ·subst he;clear HS;have HG:=Hd hg;clear hg;cases bb with
    | true=>
     have HBB:=Hd (qaU hbb.symm);clear hbb;go_wp2_with fail;refine (zap Q a3 0 1 (bs (Bts.allB L)) x _ H_0.out.bk).mono ?_;rintro r w_1 ⟨rfl,hB,hK⟩;rw[show fl 0 1=1 from rfl] at hB;have H_1:=Hd (H_0.out.quiet hK hB);clear H_0;clear hK hB;(try go_wp2_with fail);go_meet
     exact⟨1,H_1,Hd (StE.bad (by have h:=HG.out;rw[qad HBB.out] at h;exact h))⟩
    | false=>
     have HBB:=Hd (qa4 hbb.symm);clear hbb;(try go_wp2_with fail);go_meet
     exact⟨0,H_0,Hd (StE.good (by have h:=HG.out;rw[qac HBB.out] at h;exact h))⟩
   subst he;have HQ:=Hd hbad;clear hbad HS;clear hbb;cases bb with
   | true=>
    go_wp2_with fail;refine (zap Q a3 1 1 (bs (Bts.allB L)) x _ H_0.out.bk).mono ?_;rintro r w_1 ⟨rfl,hB,hK⟩;rw[show fl 1 1=1 from qac (by omega)] at hB;have H_1:=Hd (H_0.out.quiet hK hB);clear H_0;clear hK hB;(try go_wp2_with fail);go_meet
    exact⟨1,H_1,Hd (StE.bad HQ.out)⟩
   | false=>
    (try go_wp2_with fail);go_meet
    exact⟨1,H_0,Hd (StE.bad HQ.out)⟩
 clear H_0;obtain⟨e4,H_0,HS4⟩:=hcut;clear HS;have HS:=HS4;clear HS4;have hmk:=λ w=>qbR (P:=Tryz.prog) 88 3 (.int .i64 0) 8 Tryz.underlying88 zaX rfl .i64 .i64 19 (by omega) (by omega) w;simp only[show ((19:Nat):Int)=19 from rfl] at hmk;go_upto_block 0 with fail;clear hmk hbb;obtain⟨O,hO⟩:=nmE (wc.heap.size);have HLo:Hid (w.heap.size<=O/\Q<O/\∀k,vo.ownBlock=some k->k<O):=Hd (by rw[<- hO];exact⟨H_0.out.step.keeps.size,H_0.out.bk.lt,λ k q=>zaA H_0.out.row q⟩);refine zac (λ wz=>Ext wc wz/\Cs wz O 19 .i64 (λ i=>((Inf.zaK.getD i 0:Nat):Int))/\Cs wz (O+1) 19 .i64 (λ _=>0)) ⟨((Ext.refl wc).alloc _).alloc _,?_,?_⟩ ?_
 ·intro i hi;subst hO;rw[World.cell?_alloc_past _ _ _ (by simp),World.frozen?_alloc_past _ _ _ (by simp),qaV _ _ _ _ rfl,qbE _ _ _ _ rfl];exact⟨zjc i hi,rfl⟩
 ·rw[zaY,show O+1=(wc.alloc (.cells ordA 3)).heap.size by simp[hO]];exact Cs.born _ _ _ _ _
 rintro w_s ⟨hX,hc1,hc2⟩;rw[hO];have H_1:=Hd (H_0.out.ext hX);clear H_0;have CO_0:=Hd hc1;have CS_0:=Hd hc2;clear hX hc1 hc2 hO;go_cut [] (λ wx=>∃(a e:Nat) (f:Nat->Int),a<=8*L.length/\Hid (QGo w wx Q (bs (Bts.allB L)) a e x vo vo out)/\Hid (Cs wx (O+1) 19 .i64 f)/\Hid (StE e rr (Inf.zbo L mm ff (.ok (f,a))=rr))/\Hid (∀j,0<=f j/\f j<=7))
 case first=>
  as_aux_lemma=>
   go_wp2_with fail;go_loopw [9] (λ z wr=>∃(i a e:Nat) (f:Nat->Int),i<=few/\z=.int .i64 i/\a<=8*L.length/\Hid (QGo w wr Q (bs (Bts.allB L)) a e x vo vo out)/\Hid (Cs wr O 19 .i64 (λ i=>((Inf.zaK.getD i 0:Nat):Int)))/\Hid (Cs wr (O+1) 19 .i64 f)/\Hid (StE e rr (Inf.zbo L mm ff (Inf.zaW L (few-i) i a f)=rr))/\Hid (∀j,0<=f j/\f j<=7)) (λ z _=>few-(intOf z).toNat)
   case atStart=>exact⟨0,a3,e4,_,by omega,rfl,hal3,H_1,CO_0,CS_0,HS,Hd (λ _=>⟨by omega,by omega⟩)⟩
   case round=>
    clear H_1 CO_0 CS_0 HS;obtain⟨i,a,e,f,hi,rfl,hal,H_0,CO_0,CS_0,HS,HBD⟩:=hrel;by_cases hlt:i<few
    ·have t1:=dT (p:=(i:Int)<(few:Int));have n1:i<few:=hlt;rcases HS.out with⟨he,hg⟩ | ⟨he,hbad⟩
     ·subst he;clear HS;go_wp2_with fail;refine rokT H_0.out.bk ?_;go_wp2_with fail;clear t1 n1;obtain⟨pz,hpz⟩:=nmE (Inf.zaK.getD i 0);have hpz19:pz<19:=by rw[<- hpz];exact Inf.zgs i (by omega)
      have HPZ:=Hd hpz;have HG:=Hd hg;rw[show few-i=(few-(i+1))+1 by omega] at HG;clear hg hpz;have hi19:i<19:=by omega
      have hi0:(0:Int)<=(i:Int):=by omega
      have hiI:(i:Int)<19:=by omega
      have hit:((i:Nat):Int).toNat=i:=by omega
      have hp0:(0:Int)<=(pz:Int):=by omega
      have hpI:(pz:Int)<19:=by omega
      have hpt:((pz:Nat):Int).toNat=pz:=by omega
      have wi:∀z,z=(i:Int)+1->IntKind.i64.wrap z=z:=λ z hz=>wr64 hz (by omega) (by omega);cases hg:Inf.get L 3 a with
      | error c=>
       obtain rfl:=(Inf.zaL hg).1;have HQ:=Hd (Inf.zjo HG.out (Inf.zfW rfl hg));have HGT:=Hd hg;clear hg;refine qar (S:=λ w'=>w'.cell? ⟨O,i,none⟩=some (.int .i64 (pz:Int))) (by kernel_rfl) ((by have hc:=(CO_0.out i hi19).1;simp only[HPZ.out] at hc;exact hc)) (λ hHeld=>?_);clear hHeld;refine zab (λ wz=>Ext wr wz) (show Ext wr wr.drew from qag (Ext.refl wr)) ?_;rintro w1 h;have H_1:=Hd (H_0.out.ext h);have CO_1:=Hd (CO_0.out.ext h);have CS_1:=Hd (CS_0.out.ext h);clear h H_0 CO_0 CS_0;have hHeld:w1.cell? ⟨O,i,none⟩=some (.int .i64 (pz:Int)):=((by have hc:=(CO_1.out i hi19).1;simp only[HPZ.out] at hc;exact hc));refine tk5 0 1 2 3 4 ?_;refine tkH 5 ?_;refine rdH 6 rfl λ KK hK=>?_;clear hHeld;go_simp;refine (zao Q a 0 3 L x _ H_1.out.bk (by omega) hal hL).mono ?_;rintro r w2 ⟨hK,hP⟩;rw[qad rfl,HGT.out] at hP;obtain⟨rfl,hB⟩:=hP;have H_2:=Hd (H_1.out.quiet hK hB);have CO_2:=Hd (zaz CO_1.out hK (by have:=HLo.out;omega));have CS_2:=Hd (zaz CS_1.out hK (by have:=HLo.out;omega));clear hK hB H_1 CO_1 CS_1;go_simp;refine oS hK ((by have hc:=(CO_2.out i hi19).1;simp only[HPZ.out] at hc;exact hc)) λ hHeld=>?_;clear hK KK;refine tkH 7 ?_;refine rdH 8 rfl λ KK hK=>?_;clear hHeld;have q1:=(CS_2.out pz hpz19).1;have q2:=(CS_2.out pz hpz19).2;have KS:=(Keeps.refl (λ k=>k=O+1) w2).setCell (p:=⟨O+1,pz,none⟩) (.inl rfl) (.int .i64 (0:Int))
       have HN:=Hd (H_2.out.off KS (λ k q=>by have:=HLo.out;omega) (λ q=>by have:=HLo.out;omega) (λ k q e=>by have:=HLo.out.2.2 k q;omega));have CN:=Hd (zaz CO_2.out KS (by omega));have CM:=Hd (CS_2.out.put pz (0:Int) (Inf.upd f pz (0:Int)) hpz19 (λ i _=>rfl));clear KS;go_simp;refine oS hK (by have hc:=(CN.out i hi19).1;simp only[HPZ.out] at hc;exact hc) λ hHeld=>?_;clear hK KK q1 q2;refine dnT ?_;clear hHeld;go_wp2_with fail;go_roundw
       case rel=>exact⟨i+1,a,1,_,by omega,by go_num,hal,HN,CN,CM,Hd (StE.bad HQ.out),Hd (λ j=>by have:=HBD.out j;unfold Inf.upd;split <;> omega)⟩
       case measure=>simp[intOf];omega
      | ok q=>
       obtain⟨y,b⟩:=q;obtain⟨z1,z2,z3,z4⟩:=Inf.zax hg;have hy8:y<8:=z3;have hbl:b<=8*L.length:=by omega
       clear z1 z2 z3 z4;have HG2:Hid (Inf.zbo L mm ff (Inf.zaW L (few-(i+1)) (i+1) b (Inf.upd f pz (y:Int)))=rr):=Hd (by have h:=HG.out;rw[<- Inf.zgq rfl hg,HPZ.out] at h;exact h);have HGT:=Hd hg;clear hg;refine qar (S:=λ w'=>w'.cell? ⟨O,i,none⟩=some (.int .i64 (pz:Int))) (by kernel_rfl) ((by have hc:=(CO_0.out i hi19).1;simp only[HPZ.out] at hc;exact hc)) (λ hHeld=>?_);clear hHeld;refine zab (λ wz=>Ext wr wz) (show Ext wr wr.drew from qag (Ext.refl wr)) ?_;rintro w1 h;have H_1:=Hd (H_0.out.ext h);have CO_1:=Hd (CO_0.out.ext h);have CS_1:=Hd (CS_0.out.ext h);clear h H_0 CO_0 CS_0;have hHeld:w1.cell? ⟨O,i,none⟩=some (.int .i64 (pz:Int)):=((by have hc:=(CO_1.out i hi19).1;simp only[HPZ.out] at hc;exact hc));refine tk5 0 1 2 3 4 ?_;refine tkH 5 ?_;refine rdH 6 rfl λ KK hK=>?_;clear hHeld;go_simp;refine (zao Q a 0 3 L x _ H_1.out.bk (by omega) hal hL).mono ?_;rintro r w2 ⟨hK,hP⟩;rw[qad rfl,HGT.out] at hP;obtain⟨rfl,hB⟩:=hP;have H_2:=Hd (H_1.out.quiet hK hB);have CO_2:=Hd (zaz CO_1.out hK (by have:=HLo.out;omega));have CS_2:=Hd (zaz CS_1.out hK (by have:=HLo.out;omega));clear hK hB H_1 CO_1 CS_1;go_simp;refine oS hK ((by have hc:=(CO_2.out i hi19).1;simp only[HPZ.out] at hc;exact hc)) λ hHeld=>?_;clear hK KK;refine tkH 7 ?_;refine rdH 8 rfl λ KK hK=>?_;clear hHeld;have q1:=(CS_2.out pz hpz19).1;have q2:=(CS_2.out pz hpz19).2
       have KS:=(Keeps.refl (λ k=>k=O+1) w2).setCell (p:=⟨O+1,pz,none⟩) (.inl rfl) (.int .i64 (y:Int));have HN:=Hd (H_2.out.off KS (λ k q=>by have:=HLo.out;omega) (λ q=>by have:=HLo.out;omega) (λ k q e=>by have:=HLo.out.2.2 k q;omega));have CN:=Hd (zaz CO_2.out KS (by omega));have CM:=Hd (CS_2.out.put pz (y:Int) (Inf.upd f pz (y:Int)) hpz19 (λ i _=>rfl));clear KS;go_simp;refine oS hK (by have hc:=(CN.out i hi19).1;simp only[HPZ.out] at hc;exact hc) λ hHeld=>?_;clear hK KK q1 q2;refine dnT ?_;clear hHeld;go_wp2_with fail;go_roundw
       case rel=>exact⟨i+1,b,0,_,by omega,by go_num,hbl,HN,CN,CM,Hd (StE.good HG2.out),Hd (λ j=>by have:=HBD.out j;unfold Inf.upd;split <;> omega)⟩
       case measure=>simp[intOf];omega
     subst he;have HQ:=Hd hbad;clear hbad HS;go_wp2_with fail;refine rokF H_0.out.bk ?_;go_wp2_with fail;clear t1 n1;have HS:Hid (StE 1 rr (Inf.zbo L mm ff (.ok (f,a))=rr)):=Hd (StE.bad HQ.out);skip
     (try go_wp2_with fail);go_meet
     exact⟨a,1,f,hal,H_0,CS_0,HS,HBD⟩
    obtain rfl:i=few:=by omega
    have t1:=dF (p:=(i:Int)<(i:Int));go_wp2_with fail;clear t1;have HS2:Hid (StE e rr (Inf.zbo L mm ff (.ok (f,a))=rr)):=Hd (by have h:=HS.out;rw[qcp] at h;exact h);clear HS;have HS:=HS2;clear HS2;(try go_wp2_with fail);go_meet
    exact⟨a,e,f,hal,H_0,CS_0,HS,HBD⟩
 clear H_1;obtain⟨a4,e5,f,hal4,H_0,CS,HS5,HBD⟩:=hcut;clear HS CO_0 CS_0;have HS:=HS5;clear HS5;skip
 go_upto_region 12 with fail;go_cut [10] (λ s10 wx=>∃(vc:Value) (e:Nat),vc=s10/\Hid (QGo w wx Q (bs (Bts.allB L)) a4 e x vo vo out)/\Hid (StE e rr (Cw wx Q vc f 19/\Inf.za3 mm ff (Inf.lens L f (mm+ff) (mm+ff+1) a4 [])=rr)))
 case first=>
  as_aux_lemma=>
   rcases HS.out with⟨he,hg⟩ | ⟨he,hbad⟩
   ·subst he;clear HS;have HI:Ints wc (some ⟨O+1,0,none⟩) 19 f:=by
     refine⟨λ e=>(by cases e),λ q hq i hi=>?_⟩;injection hq with hq;subst hq;rw[zae];have:=HBD.out i;exact⟨(CS.out i hi).1,by omega,by omega⟩
    have HP:=zbt Q a4 0 19 19 (some ⟨O+1,0,none⟩) f (bs (Bts.allB L)) x _ H_0.out.bk HI (by omega);have HG:=Hd hg;clear HI hg;by_cases hgood:Inf.good f 19
    ·have HR2:=Hd (Inf.zmP HG.out rfl hgood);go_wp2_with fail;refine HP.mono ?_;rintro r w_c ⟨hK,hP⟩;rw[qad rfl,qad hgood] at hP;obtain⟨vc,rfl,hC,hB,hN⟩:=hP;have HC:=Hd hC;have H_1:=Hd (H_0.out.quiet hK hB);clear H_0;clear hK hB;clear hC hN;(try go_wp2_with fail);go_meet
     exact⟨vc,0,rfl,H_1,Hd (StE.good ⟨HC.out,HR2.out⟩)⟩
    have HR2:=Hd (Inf.zjH HG.out rfl hgood);go_wp2_with fail;refine HP.mono ?_;rintro r w_c ⟨hK,hP⟩;rw[qad rfl,qac hgood] at hP;obtain⟨rfl,hB⟩:=hP;have H_1:=Hd (H_0.out.quiet hK hB);clear H_0;clear hK hB;(try go_wp2_with fail);go_meet
    exact⟨_,1,rfl,H_1,Hd (StE.bad HR2.out)⟩
   subst he;have HQ:=Hd hbad;clear hbad HS;have HI:Ints wc (some ⟨O+1,0,none⟩) 19 f:=by
    refine⟨λ e=>(by cases e),λ q hq i hi=>?_⟩;injection hq with hq;subst hq;rw[zae];have:=HBD.out i;exact⟨(CS.out i hi).1,by omega,by omega⟩
   have HP:=zbt Q a4 1 19 19 (some ⟨O+1,0,none⟩) f (bs (Bts.allB L)) x _ H_0.out.bk HI (by omega);clear HI;go_wp2_with fail;refine HP.mono ?_;rintro r w_c ⟨hK,hP⟩;rw[qac (by omega)] at hP;obtain⟨rfl,hB⟩:=hP;have H_1:=Hd (H_0.out.quiet hK hB);clear H_0;clear hK hB;(try go_wp2_with fail);go_meet
   exact⟨_,1,rfl,H_1,Hd (StE.bad HQ.out)⟩
 clear H_0;obtain⟨vc,e6,rfl,H_0,HS6⟩:=hcut;clear HS CS HBD;have HS:=HS6;clear HS6;obtain⟨W,hW⟩:=nmE (mm+ff);rw[hW] at HS;have hWI:(mm:Int)+(ff:Int)=(W:Int):=by omega
 have hWb:W<=320:=by omega
 have hW1:258<=W:=by omega
 have wW:∀z,z=(W:Int)->IntKind.i64.wrap z=z:=λ z hz=>wr64 hz (by omega) (by omega);obtain⟨b0,hb0⟩:=nmE (wc.heap.size);have HLb:Hid (w.heap.size<=b0/\Q<b0/\∀k,vo.ownBlock=some k->k<b0):=Hd (by rw[<- hb0];exact⟨H_0.out.step.keeps.size,H_0.out.bk.lt,λ k q=>zaA H_0.out.row q⟩);obtain⟨i0,hi0,hz0,hz1,hz2⟩:=qbb zaX;have HS2:Hid (StE e6 rr ((Cw wc Q vc f 19/\∀C l c,vc=.slice (some ⟨C,0,none⟩) l c->C<b0)/\Inf.za3 mm ff (Inf.lens L f W (W+1) a4 [])=rr)):=Hd (by
  rcases HS.out with⟨q1,q2,q3⟩ | q
  ·refine .inl ⟨q1,⟨q2,λ C l c q=>?_⟩,q3⟩;obtain⟨-,C2,c2,e1,-,e3⟩:=q2;rw[e1] at q;injection q with q;injection q with q;injection q with q;rw[<- q,<- hb0];exact qab wc _ (e3 0 (by omega)).1
  exact .inr q)
 clear HS hW;have HS:=HS2;clear HS2;go_upto_block 2 with fail;go_cut [11] (λ s11 wx=>∃(vl:Value) (l:List Nat) (a e:Nat),vl=s11/\a<=8*L.length/\Hid (QGo w wx Q (bs (Bts.allB L)) a e x vo vo out)/\Hid (wx.ownsRow b0 3 1 vl (l).length (intsV (l).length (Inf.fn (l))))/\Hid (∀x∈l,x<=18)/\Hid (StE e rr (l.length=W/\Inf.za3 mm ff (.ok (l,a))=rr)))
 case first=>
  as_aux_lemma=>
   go_wp2_with fail;go_loopg [11] (W+1) (λ k vl wr=>∃(a:Nat) (l:List Nat) (e F:Nat),a<=8*L.length/\Hid (QGo w wr Q (bs (Bts.allB L)) a e x vo vo out)/\Hid (wr.ownsRow b0 3 1 vl (l).length (intsV (l).length (Inf.fn (l))))/\Hid (StE e rr ((Cw wr Q vc f 19/\∀C l c,vc=.slice (some ⟨C,0,none⟩) l c->C<b0)/\Inf.za3 mm ff (Inf.lens L f W F a l)=rr))/\Hid ((∀x∈l,x<=18)/\l.length<=W/\W-l.length<F/\(if e=0 then W+1-l.length else 0)<=k)/\Hid (b0<=wr.heap.size))
   case atStart=>exact⟨a4,[],e6,W+1,hal4,H_0,Hd (qaK _ _ _ _),HS,Hd ⟨(λ x hx=>by cases hx),by simp,by simp,by split <;> simp⟩,Hd (by omega)⟩
   case round=>
    clear H_0 HS;obtain⟨a,l,e,F,hal,H_0,HLR,HS,HK,HB0⟩:=hrel;obtain⟨n,hn⟩:=nmE (l.length);have hro:=HLR.out;rw[hn] at hro;obtain⟨xo,co,rfl⟩:=zam hro;have HLR2:=Hd hro;have HN:=Hd hn;have hnW:n<=W:=by rw[<- hn];exact HK.out.2.1
    clear hro hn HLR;rcases HS.out with⟨he,⟨hcw,hcl⟩,hrl⟩ | ⟨he,hbad⟩
    ·subst he;clear HS;have HC:=Hd hcw;have HCL:=Hd hcl;have HG:=Hd hrl;have HF0:Hid (0<F):=Hd (by have:=HK.out;omega);have hkk:=HK.out.2.2.2;rw[HN.out,qad rfl] at hkk;have HKK:=Hd hkk;clear hkk;clear hcw hcl hrl;by_cases hle:W<=n
     ·obtain rfl:n=W:=by omega
      have t1:=dF (p:=(n:Int)<(n:Int));have HG2:Hid (Inf.za3 mm ff (.ok (l,a))=rr):=Hd (by have h:=HG.out;rw[Inf.zgM HF0.out rfl (by rw[HN.out];exact qaj _)] at h;exact h);go_wp2_with fail;refine rokT H_0.out.bk ?_;go_wp2_with fail;(try go_wp2_with fail);go_meet
      exact⟨_,l,a,0,rfl,hal,H_0,Hd (by rw[HN.out];exact HLR2.out),Hd HK.out.1,Hd (StE.good ⟨HN.out,HG2.out⟩)⟩
     have hlt:n<W:=by omega
     have t1:=dT (p:=(n:Int)<(W:Int));have HNW:Hid (¬ W<=l.length):=Hd (by rw[HN.out];exact hle);clear hle;go_wp2_with fail;refine rokT H_0.out.bk ?_;go_wp2_with fail;clear t1;have HP:=zbV Q a 0 19 f vc L x _ H_0.out.bk HC.out hal hL;cases hx:Inf.nxt L f 19 a with
     | error c=>
      obtain rfl:=Inf.zb0 hx;have HQ:=Hd (Inf.zaV HG.out (Inf.zj1 HF0.out rfl HNW.out hx));refine HP.mono ?_;rintro r w_k ⟨hK,hP⟩;rw[qad rfl,hx] at hP;obtain⟨rfl,hB⟩:=hP;have HLR3:=Hd (zaa HLR2.out hK (λ k q e=>by have:=(HLR2.out.lt k q).1;have:=HLb.out;omega));have HB1:=Hd (qam HB0.out hK.size);have H_1:=Hd (H_0.out.quiet hK hB);clear H_0;clear hK hB;clear hx HP HLR2 HB0;obtain⟨m9,hm9⟩:=nmE (n+1);have hm9I:(n:Int)+1=(m9:Int):=by omega
      have wm9:∀z,z=(m9:Int)->IntKind.i64.wrap z=z:=λ z hz=>wr64 hz (by omega) (by omega);have HM9:=Hd hm9;by_cases hov:W<m9
      ·have t9:=dT (p:=(W:Int)<(m9:Int));have n9:W<m9:=hov;go_wp2_with fail;refine (zap Q a 1 1 (bs (Bts.allB L)) x _ H_1.out.bk).mono ?_;rintro r w_1 ⟨rfl,hB,hK⟩;have HLR4:=Hd (zaa HLR3.out hK (λ k q e=>by have:=(HLR3.out.lt k q).1;have:=HLb.out;omega));have HB2:=Hd (qam HB1.out hK.size);clear HLR3 HB1;have HLR3:=HLR4;have HB1:=HB2;clear HLR4 HB2;rw[show fl 1 1=1 from qac (by omega)] at hB;have H_2:=Hd (H_1.out.quiet hK hB);clear H_1;clear hK hB;clear t9 n9 hov hm9 hm9I;go_wp2_with fail;go_loopw [11,15] (λ y z wr=>y=(.slice xo n co)/\z=.int .i64 0/\Hid (QGo w wr Q (bs (Bts.allB L)) a 1 x vo vo out)/\Hid (wr.ownsRow b0 3 1 (.slice xo n co) n (intsV n (Inf.fn l)))/\Hid (b0<=wr.heap.size)) (λ _ _ _=>0)
       case atStart=>exact⟨rfl,rfl,H_2,HLR3,HB1⟩
       case round=>
        clear H_2 HLR3 HB1;exact Ygk2
      have t9:=dF (p:=(W:Int)<(m9:Int));have n9:¬ W<m9:=hov;go_wp2_with fail;clear t9 n9 hov hm9 hm9I;go_loopw [11,15] (λ y z wr=>y=(.slice xo n co)/\z=.int .i64 0/\Hid (QGo w wr Q (bs (Bts.allB L)) a 1 x vo vo out)/\Hid (wr.ownsRow b0 3 1 (.slice xo n co) n (intsV n (Inf.fn l)))/\Hid (b0<=wr.heap.size)) (λ _ _ _=>0)
      case atStart=>exact⟨rfl,rfl,H_1,HLR3,HB1⟩
      case round=>
       clear H_1 HLR3 HB1;exact Ygk2
     | ok q=>
      obtain⟨k,a1⟩:=q;have hal1:=Inf.zbn hx;obtain⟨-,hal2,hk19⟩:=hal1;have HX:=Hd hx;refine HP.mono ?_;rintro r w_k ⟨hK,hP⟩;rw[qad rfl,hx] at hP;obtain⟨rfl,hB⟩:=hP;have HLR3:=Hd (zaa HLR2.out hK (λ k q e=>by have:=(HLR2.out.lt k q).1;have:=HLb.out;omega));have HB1:=Hd (qam HB0.out hK.size);have HC1:=Hd (HC.out.quiet hK);have H_1:=Hd (H_0.out.quiet hK hB);clear H_0;clear hK hB;clear hx HP HLR2 HB0 HC;by_cases hk16:k=16
      ·subst hk16;go_wp2_with fail;cases hg:Inf.get L 2 a1 with
       | error c=>
        obtain rfl:=(Inf.zaL hg).1;refine (zao Q a1 0 2 L x _ H_1.out.bk (by omega) (by omega) hL).mono ?_;rintro r w_1 ⟨hK,hP⟩;rw[qad rfl,hg] at hP;obtain⟨rfl,hB⟩:=hP;have HLR4:=Hd (zaa HLR3.out hK (λ k q e=>by have:=(HLR3.out.lt k q).1;have:=HLb.out;omega));have HB2:=Hd (qam HB1.out hK.size);have HC2:=Hd (HC1.out.quiet hK);clear HLR3 HB1 HC1;have HLR3:=HLR4;have HB1:=HB2;have HC1:=HC2;clear HLR4 HB2 HC2;have H_2:=Hd (H_1.out.quiet hK hB);clear H_1;clear hK hB;by_cases hn0:n=0
        ·have hl0:l=[]:=qav (by rw[HN.out];exact hn0);have HQ:=Hd (Inf.zaV HG.out (Inf.zbs HF0.out rfl HNW.out HX.out (by rw[hl0];exact Inf.zgc)));clear hg hl0;have t2:((n:Int) ==0)=true:=qbl.2 (by omega);clear hn0;go_wp2_with fail;refine (zap Q a1 1 1 (bs (Bts.allB L)) x _ H_2.out.bk).mono ?_;rintro r w_2 ⟨rfl,hB,hK⟩;have HLR4:=Hd (zaa HLR3.out hK (λ k q e=>by have:=(HLR3.out.lt k q).1;have:=HLb.out;omega));have HB2:=Hd (qam HB1.out hK.size);clear HLR3 HB1;have HLR3:=HLR4;have HB1:=HB2;clear HLR4 HB2;rw[show fl 1 1=1 from qac (by omega)] at hB;have H_3:=Hd (H_2.out.quiet hK hB);clear H_2;clear hK hB;clear t2;obtain⟨m9,hm9⟩:=nmE (n+3);have hm9I:(n:Int)+3=(m9:Int):=by omega
         have wm9:∀z,z=(m9:Int)->IntKind.i64.wrap z=z:=λ z hz=>wr64 hz (by omega) (by omega);have HM9:=Hd hm9;by_cases hov:W<m9
         ·have t9:=dT (p:=(W:Int)<(m9:Int));have n9:W<m9:=hov;go_wp2_with fail;refine (zap Q a1 1 1 (bs (Bts.allB L)) x _ H_3.out.bk).mono ?_;rintro r w_3 ⟨rfl,hB,hK⟩;have HLR4:=Hd (zaa HLR3.out hK (λ k q e=>by have:=(HLR3.out.lt k q).1;have:=HLb.out;omega));have HB2:=Hd (qam HB1.out hK.size);clear HLR3 HB1;have HLR3:=HLR4;have HB1:=HB2;clear HLR4 HB2;rw[show fl 1 1=1 from qac (by omega)] at hB;have H_4:=Hd (H_3.out.quiet hK hB);clear H_3;clear hK hB;clear t9 n9 hov hm9 hm9I;go_wp2_with fail;go_loopw [11,15] (λ y z wr=>y=(.slice xo n co)/\z=.int .i64 0/\Hid (QGo w wr Q (bs (Bts.allB L)) a1 1 x vo vo out)/\Hid (wr.ownsRow b0 3 1 (.slice xo n co) n (intsV n (Inf.fn l)))/\Hid (b0<=wr.heap.size)) (λ _ _ _=>0)
          case atStart=>exact⟨rfl,rfl,H_4,HLR3,HB1⟩
          case round=>
           clear H_4 HLR3 HB1;exact Ygk3
         have t9:=dF (p:=(W:Int)<(m9:Int));have n9:¬ W<m9:=hov;go_wp2_with fail;clear t9 n9 hov hm9 hm9I;exact Ygk4
        have HNE:Hid (l≠[]):=Hd (λ e=>by have:=HN.out;rw[e] at this;simp at this;omega);have HQ:=Hd (Inf.zaV HG.out (Inf.zbs HF0.out rfl HNW.out HX.out (Inf.zj0 HNE.out hg)));clear hg;have t2:((n:Int) ==0)=false:=qak.2 (by omega);have n2:¬ n=0:=hn0;obtain⟨gb,cp,e1,_,_⟩:=zaw HLR3.out (by omega);injection e1 with e1 _ e2;subst e1 e2;obtain⟨j,hj⟩:=nmE (n-1);obtain⟨la,hla⟩:=nmE (l.getD j 0);have hlc:w_1.cell? ⟨gb,j,none⟩=some (.int .i64 (la:Int)):=by
         rw[HLR3.out.cellAt j (by omega),zbc _ _ j (by omega)];unfold Inf.fn;rw[hla]
        have HLA:=Hd hla;have hla18:la<=18:=by
         have:=(zdB HK.out.1 j).2;unfold Inf.fn at this;rw[hla] at this;omega
        have hjI:(n:Int)-1=(j:Int):=by omega
        have wj:∀z,z=(j:Int)->IntKind.i64.wrap z=z:=λ z hz=>wr64 hz (by omega) (by omega);have hj0:(0:Int)<=(j:Int):=by omega
        have hj1:(j:Int)<(n:Int):=by omega
        have hjn:j<n:=by omega
        have hjt:((j:Nat):Int).toNat=j:=by omega
        clear hla;obtain⟨m9,hm9⟩:=nmE (n+3);have hm9I:(n:Int)+3=(m9:Int):=by omega
        have wm9:∀z,z=(m9:Int)->IntKind.i64.wrap z=z:=λ z hz=>wr64 hz (by omega) (by omega);have HM9:=Hd hm9;by_cases hov:W<m9
        ·have t9:=dT (p:=(W:Int)<(m9:Int));have n9:W<m9:=hov;go_wp2_with fail;refine (zap Q a1 1 1 (bs (Bts.allB L)) x _ H_2.out.bk).mono ?_;rintro r w_2 ⟨rfl,hB,hK⟩;have HLR4:=Hd (zaa HLR3.out hK (λ k q e=>by have:=(HLR3.out.lt k q).1;have:=HLb.out;omega));have HB2:=Hd (qam HB1.out hK.size);clear HLR3 HB1;have HLR3:=HLR4;have HB1:=HB2;clear HLR4 HB2;rw[show fl 1 1=1 from qac (by omega)] at hB;have H_3:=Hd (H_2.out.quiet hK hB);clear H_2;clear hK hB;clear t9 n9 hov hm9 hm9I;go_wp2_with fail;go_loopw [11,15] (λ y z wr=>y=(.slice (some ⟨gb,0,none⟩) n co)/\z=.int .i64 0/\Hid (QGo w wr Q (bs (Bts.allB L)) a1 1 x vo vo out)/\Hid (wr.ownsRow b0 3 1 (.slice (some ⟨gb,0,none⟩) n co) n (intsV n (Inf.fn l)))/\Hid (b0<=wr.heap.size)) (λ _ _ _=>0)
         case atStart=>exact⟨rfl,rfl,H_3,HLR3,HB1⟩
         case round=>
          clear H_3 HLR3 HB1;exact Ygk3
        have t9:=dF (p:=(W:Int)<(m9:Int));have n9:¬ W<m9:=hov;go_wp2_with fail;clear t9 n9 hov hm9 hm9I;go_loopw [11,15] (λ y z wr=>y=(.slice (some ⟨gb,0,none⟩) n co)/\z=.int .i64 0/\Hid (QGo w wr Q (bs (Bts.allB L)) a1 1 x vo vo out)/\Hid (wr.ownsRow b0 3 1 (.slice (some ⟨gb,0,none⟩) n co) n (intsV n (Inf.fn l)))/\Hid (b0<=wr.heap.size)) (λ _ _ _=>0)
        case atStart=>exact⟨rfl,rfl,H_2,HLR3,HB1⟩
        case round=>
         exact Ygk5
       | ok q=>
        obtain⟨y,a2⟩:=q;obtain⟨z1,z2,z3,z4⟩:=Inf.zax hg;have hbl:a2<=8*L.length:=by omega
        have hyb:y<4:=z3;clear z1 z2 z3 z4;refine (zao Q a1 0 2 L x _ H_1.out.bk (by omega) (by omega) hL).mono ?_;rintro r w_1 ⟨hK,hP⟩;rw[qad rfl,hg] at hP;obtain⟨rfl,hB⟩:=hP;have HLR4:=Hd (zaa HLR3.out hK (λ k q e=>by have:=(HLR3.out.lt k q).1;have:=HLb.out;omega));have HB2:=Hd (qam HB1.out hK.size);have HC2:=Hd (HC1.out.quiet hK);clear HLR3 HB1 HC1;have HLR3:=HLR4;have HB1:=HB2;have HC1:=HC2;clear HLR4 HB2 HC2;have H_2:=Hd (H_1.out.quiet hK hB);clear H_1;clear hK hB;obtain⟨t,ht⟩:=nmE (3+y);have htI:(3:Int)+(y:Int)=(t:Int):=by omega
        have htb:1<=t/\t<=138:=by omega
        have wt:∀z,z=(t:Int)->IntKind.i64.wrap z=z:=λ z hz=>wr64 hz (by omega) (by omega);by_cases hn0:n=0
        ·have hl0:l=[]:=qav (by rw[HN.out];exact hn0);have HQ:=Hd (Inf.zaV HG.out (Inf.zbs HF0.out rfl HNW.out HX.out (by rw[hl0];exact Inf.zgc)));clear hg hl0 ht;have t2:((n:Int) ==0)=true:=qbl.2 (by omega);clear hn0;go_wp2_with fail;refine (zap Q a2 0 1 (bs (Bts.allB L)) x _ H_2.out.bk).mono ?_;rintro r w_2 ⟨rfl,hB,hK⟩;have HLR4:=Hd (zaa HLR3.out hK (λ k q e=>by have:=(HLR3.out.lt k q).1;have:=HLb.out;omega));have HB2:=Hd (qam HB1.out hK.size);clear HLR3 HB1;have HLR3:=HLR4;have HB1:=HB2;clear HLR4 HB2;rw[show fl 0 1=1 from rfl] at hB;have H_3:=Hd (H_2.out.quiet hK hB);clear H_2;clear hK hB;clear t2;obtain⟨m9,hm9⟩:=nmE (n+t);have hm9I:(n:Int)+(t:Int)=(m9:Int):=by omega
         have wm9:∀z,z=(m9:Int)->IntKind.i64.wrap z=z:=λ z hz=>wr64 hz (by omega) (by omega);have HM9:=Hd hm9;by_cases hov:W<m9
         ·have t9:=dT (p:=(W:Int)<(m9:Int));have n9:W<m9:=hov;go_wp2_with fail;refine (zap Q a2 1 1 (bs (Bts.allB L)) x _ H_3.out.bk).mono ?_;rintro r w_3 ⟨rfl,hB,hK⟩;have HLR4:=Hd (zaa HLR3.out hK (λ k q e=>by have:=(HLR3.out.lt k q).1;have:=HLb.out;omega));have HB2:=Hd (qam HB1.out hK.size);clear HLR3 HB1;have HLR3:=HLR4;have HB1:=HB2;clear HLR4 HB2;rw[show fl 1 1=1 from qac (by omega)] at hB;have H_4:=Hd (H_3.out.quiet hK hB);clear H_3;clear hK hB;clear t9 n9 hov hm9 hm9I;go_wp2_with fail;go_loopw [11,15] (λ y z wr=>y=(.slice xo n co)/\z=.int .i64 0/\Hid (QGo w wr Q (bs (Bts.allB L)) a2 1 x vo vo out)/\Hid (wr.ownsRow b0 3 1 (.slice xo n co) n (intsV n (Inf.fn l)))/\Hid (b0<=wr.heap.size)) (λ _ _ _=>0)
          case atStart=>exact⟨rfl,rfl,H_4,HLR3,HB1⟩
          case round=>
           clear H_4 HLR3 HB1;exact Ygk17
         have t9:=dF (p:=(W:Int)<(m9:Int));have n9:¬ W<m9:=hov;go_wp2_with fail;clear t9 n9 hov hm9 hm9I;go_loopw [11,15] (λ y z wr=>y=(.slice xo n co)/\z=.int .i64 0/\Hid (QGo w wr Q (bs (Bts.allB L)) a2 1 x vo vo out)/\Hid (wr.ownsRow b0 3 1 (.slice xo n co) n (intsV n (Inf.fn l)))/\Hid (b0<=wr.heap.size)) (λ _ _ _=>0)
         case atStart=>exact⟨rfl,rfl,H_3,HLR3,HB1⟩
         case round=>
          exact Ygk6
        have HNE:Hid (l≠[]):=Hd (λ e=>by have:=HN.out;rw[e] at this;simp at this;omega);have HRP:=Hd (Inf.rep_16 HNE.out hg);rw[ht] at HRP;clear hg ht;have t2:((n:Int) ==0)=false:=qak.2 (by omega);have n2:¬ n=0:=hn0;obtain⟨gb,cp,e1,_,_⟩:=zaw HLR3.out (by omega);injection e1 with e1 _ e2;subst e1 e2;obtain⟨j,hj⟩:=nmE (n-1);obtain⟨la,hla⟩:=nmE (l.getD j 0);have hlc:w_1.cell? ⟨gb,j,none⟩=some (.int .i64 (la:Int)):=by
         rw[HLR3.out.cellAt j (by omega),zbc _ _ j (by omega)];unfold Inf.fn;rw[hla]
        have HLA:=Hd hla;have hla18:la<=18:=by
         have:=(zdB HK.out.1 j).2;unfold Inf.fn at this;rw[hla] at this;omega
        have hjI:(n:Int)-1=(j:Int):=by omega
        have wj:∀z,z=(j:Int)->IntKind.i64.wrap z=z:=λ z hz=>wr64 hz (by omega) (by omega);have hj0:(0:Int)<=(j:Int):=by omega
        have hj1:(j:Int)<(n:Int):=by omega
        have hjn:j<n:=by omega
        have hjt:((j:Nat):Int).toNat=j:=by omega
        clear hla;rw[HN.out,hj,HLA.out] at HRP;obtain⟨m9,hm9⟩:=nmE (n+t);have hm9I:(n:Int)+(t:Int)=(m9:Int):=by omega
        have wm9:∀z,z=(m9:Int)->IntKind.i64.wrap z=z:=λ z hz=>wr64 hz (by omega) (by omega);have HM9:=Hd hm9;by_cases hov:W<m9
        ·have t9:=dT (p:=(W:Int)<(m9:Int));have n9:W<m9:=hov;have HQ:=Hd (Inf.zaV HG.out (Inf.zbU HF0.out rfl HNW.out HX.out HRP.out (by rw[HN.out];omega)));go_wp2_with fail;refine (zap Q a2 0 1 (bs (Bts.allB L)) x _ H_2.out.bk).mono ?_;rintro r w_2 ⟨rfl,hB,hK⟩;have HLR4:=Hd (zaa HLR3.out hK (λ k q e=>by have:=(HLR3.out.lt k q).1;have:=HLb.out;omega));have HB2:=Hd (qam HB1.out hK.size);clear HLR3 HB1;have HLR3:=HLR4;have HB1:=HB2;clear HLR4 HB2;rw[show fl 0 1=1 from rfl] at hB;have H_3:=Hd (H_2.out.quiet hK hB);clear H_2;clear hK hB;clear t9 n9 hov hm9 hm9I;go_wp2_with fail;go_loopw [11,15] (λ y z wr=>y=(.slice (some ⟨gb,0,none⟩) n co)/\z=.int .i64 0/\Hid (QGo w wr Q (bs (Bts.allB L)) a2 1 x vo vo out)/\Hid (wr.ownsRow b0 3 1 (.slice (some ⟨gb,0,none⟩) n co) n (intsV n (Inf.fn l)))/\Hid (b0<=wr.heap.size)) (λ _ _ _=>0)
         case atStart=>exact⟨rfl,rfl,H_3,HLR3,HB1⟩
         case round=>
          exact Ygk6
        have t9:=dF (p:=(W:Int)<(m9:Int));have n9:¬ W<m9:=hov;have HLG:=Hd (Inf.zcK HF0.out rfl HNW.out HX.out HRP.out (by rw[HN.out];omega));go_wp2_with fail;clear t9 n9 hm9 hm9I;go_loopw [11,15] (λ y z wr=>∃i:Nat,i<=t/\z=.int .i64 i/\Hid (QGo w wr Q (bs (Bts.allB L)) a2 0 x vo vo out)/\Hid (wr.ownsRow b0 3 1 y (l++List.replicate i la).length (intsV (l++List.replicate i la).length (Inf.fn (l++List.replicate i la))))/\Hid (Cw wr Q vc f 19/\∀C l c,vc=.slice (some ⟨C,0,none⟩) l c->C<b0)/\Hid (b0<=wr.heap.size)) (λ _ z _=>t-(intOf z).toNat)
        case atStart=>exact⟨0,by omega,rfl,H_2,Hd (by rw[List.replicate_zero,qbW,HN.out];exact HLR3.out),Hd ⟨HC1.out,HCL.out⟩,HB1⟩
        case round=>
         clear H_2 HLR3 HB1 HC1 HCL;obtain⟨i,hit,rfl,H_0,HLR3,HC1,HB1⟩:=hrel;obtain⟨M,hM⟩:=nmE ((l++List.replicate i la).length);have hMn:M=n+i:=by rw[<- hM,qaa,qaT,HN.out]
         have hro:=HLR3.out;rw[hM] at hro;obtain⟨xq,cq,rfl⟩:=zam hro;have HRO:=Hd hro;have HM:=Hd hM;have HMN:=Hd hMn;have hMb:M<=400:=by have:=HM9.out;omega
         clear hro hM hMn;by_cases hil:i<t
         ·have t8:=dT (p:=(i:Int)<(t:Int));have n8:i<t:=hil;go_wp2_with fail;refine rokT H_0.out.bk ?_;clear t8 n8;have hzz:=HB1.out;go_wp2_with (at_builtin;refine apA (HRO.out.alloc _) [.int .i64 (la:Int)] ?_);intro v' w8 hown hgrow _ _;have HO8:Hid (w8.ownsRow b0 3 1 v' (l++List.replicate (i+1) la).length (intsV (l++List.replicate (i+1) la).length (Inf.fn (l++List.replicate (i+1) la)))):=Hd (by
           have e1:l++List.replicate (i+1) la=(l++List.replicate i la) ++ [la]:=by rw[List.replicate_succ',qat]
           rw[e1,zb6,qaa,HM.out];exact hown)
          exact Ygk7
         obtain rfl:i=t:=by omega
         have t8:=dF (p:=(i:Int)<(i:Int));obtain⟨F2,hF2,hG2⟩:=HLG.out;have HG2:Hid (Inf.za3 mm ff (Inf.lens L f W F2 a2 (l++List.replicate i la))=rr):=Hd (by have h:=HG.out;rw[<- hG2] at h;exact h);have HF2:=Hd hF2;have HBD2:Hid (∀z∈l++List.replicate i la,z<=18):=Hd (λ z hz=>by
          rcases qa3.1 hz with q | q
          ·exact HK.out.1 z q
          rw[qb0 q];exact hla18)
         exact Ygk14
      have t2:((k:Int) ==16)=false:=qak.2 (by omega);by_cases hk17:k=17
      ·subst hk17;go_wp2_with fail;cases hg:Inf.get L 3 a1 with
       | error c=>
        obtain rfl:=(Inf.zaL hg).1;have HQ:=Hd (Inf.zaV HG.out (Inf.zbs HF0.out rfl HNW.out HX.out (Inf.zjl hg)));refine (zao Q a1 0 3 L x _ H_1.out.bk (by omega) (by omega) hL).mono ?_;rintro r w_1 ⟨hK,hP⟩;rw[qad rfl,hg] at hP;obtain⟨rfl,hB⟩:=hP;have HLR4:=Hd (zaa HLR3.out hK (λ k q e=>by have:=(HLR3.out.lt k q).1;have:=HLb.out;omega));have HB2:=Hd (qam HB1.out hK.size);have HC2:=Hd (HC1.out.quiet hK);clear HLR3 HB1 HC1;have HLR3:=HLR4;have HB1:=HB2;have HC1:=HC2;clear HLR4 HB2 HC2;have H_2:=Hd (H_1.out.quiet hK hB);clear H_1;clear hK hB;clear hg;obtain⟨m9,hm9⟩:=nmE (n+3);have hm9I:(n:Int)+3=(m9:Int):=by omega
        have wm9:∀z,z=(m9:Int)->IntKind.i64.wrap z=z:=λ z hz=>wr64 hz (by omega) (by omega);have HM9:=Hd hm9;by_cases hov:W<m9
        ·have t9:=dT (p:=(W:Int)<(m9:Int));have n9:W<m9:=hov;go_wp2_with fail;refine (zap Q a1 1 1 (bs (Bts.allB L)) x _ H_2.out.bk).mono ?_;rintro r w_2 ⟨rfl,hB,hK⟩;have HLR4:=Hd (zaa HLR3.out hK (λ k q e=>by have:=(HLR3.out.lt k q).1;have:=HLb.out;omega));have HB2:=Hd (qam HB1.out hK.size);clear HLR3 HB1;have HLR3:=HLR4;have HB1:=HB2;clear HLR4 HB2;rw[show fl 1 1=1 from qac (by omega)] at hB;have H_3:=Hd (H_2.out.quiet hK hB);clear H_2;clear hK hB;clear t9 n9 hov hm9 hm9I;go_wp2_with fail;exact Ygk4
        have t9:=dF (p:=(W:Int)<(m9:Int));have n9:¬ W<m9:=hov;go_wp2_with fail;clear t9 n9 hov hm9 hm9I;go_loopw [11,15] (λ y z wr=>y=(.slice xo n co)/\z=.int .i64 0/\Hid (QGo w wr Q (bs (Bts.allB L)) a1 1 x vo vo out)/\Hid (wr.ownsRow b0 3 1 (.slice xo n co) n (intsV n (Inf.fn l)))/\Hid (b0<=wr.heap.size)) (λ _ _ _=>0)
        case atStart=>exact⟨rfl,rfl,H_2,HLR3,HB1⟩
        case round=>
         exact Ygk5
       | ok q=>
        obtain⟨y,a2⟩:=q;obtain⟨z1,z2,z3,z4⟩:=Inf.zax hg;have hbl:a2<=8*L.length:=by omega
        have hyb:y<8:=z3;clear z1 z2 z3 z4;have HRP:=Hd (Inf.rep_17 (l:=l) hg);refine (zao Q a1 0 3 L x _ H_1.out.bk (by omega) (by omega) hL).mono ?_;rintro r w_1 ⟨hK,hP⟩;rw[qad rfl,hg] at hP;obtain⟨rfl,hB⟩:=hP;have HLR4:=Hd (zaa HLR3.out hK (λ k q e=>by have:=(HLR3.out.lt k q).1;have:=HLb.out;omega));have HB2:=Hd (qam HB1.out hK.size);have HC2:=Hd (HC1.out.quiet hK);clear HLR3 HB1 HC1;have HLR3:=HLR4;have HB1:=HB2;have HC1:=HC2;clear HLR4 HB2 HC2;have H_2:=Hd (H_1.out.quiet hK hB);clear H_1;clear hK hB;obtain⟨t,ht⟩:=nmE (3+y);rw[ht] at HRP;have htI:(3:Int)+(y:Int)=(t:Int):=by omega
        exact Ygk8
      have t3:((k:Int) ==17)=false:=qak.2 (by omega);by_cases hk18:k=18
      ·subst hk18;go_wp2_with fail;cases hg:Inf.get L 7 a1 with
       | error c=>
        obtain rfl:=(Inf.zaL hg).1;have HQ:=Hd (Inf.zaV HG.out (Inf.zbs HF0.out rfl HNW.out HX.out (Inf.zj9 hg)));refine (zao Q a1 0 7 L x _ H_1.out.bk (by omega) (by omega) hL).mono ?_;rintro r w_1 ⟨hK,hP⟩;rw[qad rfl,hg] at hP;obtain⟨rfl,hB⟩:=hP;have HLR4:=Hd (zaa HLR3.out hK (λ k q e=>by have:=(HLR3.out.lt k q).1;have:=HLb.out;omega));have HB2:=Hd (qam HB1.out hK.size);have HC2:=Hd (HC1.out.quiet hK);clear HLR3 HB1 HC1;have HLR3:=HLR4;have HB1:=HB2;have HC1:=HC2;clear HLR4 HB2 HC2;have H_2:=Hd (H_1.out.quiet hK hB);clear H_1;clear hK hB;clear hg;obtain⟨m9,hm9⟩:=nmE (n+11);have hm9I:(n:Int)+11=(m9:Int):=by omega
        have wm9:∀z,z=(m9:Int)->IntKind.i64.wrap z=z:=λ z hz=>wr64 hz (by omega) (by omega);have HM9:=Hd hm9;by_cases hov:W<m9
        ·have t9:=dT (p:=(W:Int)<(m9:Int));have n9:W<m9:=hov;go_wp2_with fail;refine (zap Q a1 1 1 (bs (Bts.allB L)) x _ H_2.out.bk).mono ?_;rintro r w_2 ⟨rfl,hB,hK⟩;have HLR4:=Hd (zaa HLR3.out hK (λ k q e=>by have:=(HLR3.out.lt k q).1;have:=HLb.out;omega));have HB2:=Hd (qam HB1.out hK.size);clear HLR3 HB1;have HLR3:=HLR4;have HB1:=HB2;clear HLR4 HB2;rw[show fl 1 1=1 from qac (by omega)] at hB;have H_3:=Hd (H_2.out.quiet hK hB);clear H_2;clear hK hB;clear t9 n9 hov hm9 hm9I;go_wp2_with fail;go_loopw [11,15] (λ y z wr=>y=(.slice xo n co)/\z=.int .i64 0/\Hid (QGo w wr Q (bs (Bts.allB L)) a1 1 x vo vo out)/\Hid (wr.ownsRow b0 3 1 (.slice xo n co) n (intsV n (Inf.fn l)))/\Hid (b0<=wr.heap.size)) (λ _ _ _=>0)
         case atStart=>exact⟨rfl,rfl,H_3,HLR3,HB1⟩
         case round=>
          clear H_3 HLR3 HB1;exact Ygk9
        have t9:=dF (p:=(W:Int)<(m9:Int));have n9:¬ W<m9:=hov;go_wp2_with fail;clear t9 n9 hov hm9 hm9I;go_loopw [11,15] (λ y z wr=>y=(.slice xo n co)/\z=.int .i64 0/\Hid (QGo w wr Q (bs (Bts.allB L)) a1 1 x vo vo out)/\Hid (wr.ownsRow b0 3 1 (.slice xo n co) n (intsV n (Inf.fn l)))/\Hid (b0<=wr.heap.size)) (λ _ _ _=>0)
        case atStart=>exact⟨rfl,rfl,H_2,HLR3,HB1⟩
        case round=>
         clear H_2 HLR3 HB1;exact Ygk9
       | ok q=>
        obtain⟨y,a2⟩:=q;obtain⟨z1,z2,z3,z4⟩:=Inf.zax hg;have hbl:a2<=8*L.length:=by omega
        have hyb:y<128:=z3;clear z1 z2 z3 z4;have HRP:=Hd (Inf.rep_18 (l:=l) hg);refine (zao Q a1 0 7 L x _ H_1.out.bk (by omega) (by omega) hL).mono ?_;rintro r w_1 ⟨hK,hP⟩;rw[qad rfl,hg] at hP;obtain⟨rfl,hB⟩:=hP;have HLR4:=Hd (zaa HLR3.out hK (λ k q e=>by have:=(HLR3.out.lt k q).1;have:=HLb.out;omega));have HB2:=Hd (qam HB1.out hK.size);have HC2:=Hd (HC1.out.quiet hK);clear HLR3 HB1 HC1;have HLR3:=HLR4;have HB1:=HB2;have HC1:=HC2;clear HLR4 HB2 HC2;have H_2:=Hd (H_1.out.quiet hK hB);clear H_1;clear hK hB;obtain⟨t,ht⟩:=nmE (11+y);rw[ht] at HRP;have htI:(11:Int)+(y:Int)=(t:Int):=by omega
        exact Ygk8
      have t4:((k:Int) ==18)=false:=qak.2 (by omega);have HRP:=Hd (Inf.zhG (L:=L) (a:=a1) (l:=l) hk16 hk17 hk18);have hk18b:k<=18:=by omega
      have htb:1<=(1:Nat)/\(1:Nat)<=138:=by omega
      have hbl:a1<=8*L.length:=hal2;obtain⟨m9,hm9⟩:=nmE (n+1);have hm9I:(n:Int)+1=(m9:Int):=by omega
      have wm9:∀z,z=(m9:Int)->IntKind.i64.wrap z=z:=λ z hz=>wr64 hz (by omega) (by omega);have HM9:=Hd hm9;by_cases hov:W<m9
      ·have t9:=dT (p:=(W:Int)<(m9:Int));have n9:W<m9:=hov;have HQ:=Hd (Inf.zaV HG.out (Inf.zbU HF0.out rfl HNW.out HX.out HRP.out (by rw[HN.out];omega)));go_wp2_with fail;refine (zap Q a1 0 1 (bs (Bts.allB L)) x _ H_1.out.bk).mono ?_;rintro r w_1 ⟨rfl,hB,hK⟩;have HLR4:=Hd (zaa HLR3.out hK (λ k q e=>by have:=(HLR3.out.lt k q).1;have:=HLb.out;omega));have HB2:=Hd (qam HB1.out hK.size);clear HLR3 HB1;have HLR3:=HLR4;have HB1:=HB2;clear HLR4 HB2;rw[show fl 0 1=1 from rfl] at hB;have H_2:=Hd (H_1.out.quiet hK hB);clear H_1;clear hK hB;clear t9 n9 hov hm9 hm9I;go_wp2_with fail;go_loopw [11,15] (λ y z wr=>y=(.slice xo n co)/\z=.int .i64 0/\Hid (QGo w wr Q (bs (Bts.allB L)) a1 1 x vo vo out)/\Hid (wr.ownsRow b0 3 1 (.slice xo n co) n (intsV n (Inf.fn l)))/\Hid (b0<=wr.heap.size)) (λ _ _ _=>0)
       case atStart=>exact⟨rfl,rfl,H_2,HLR3,HB1⟩
       case round=>
        clear H_2 HLR3 HB1;obtain⟨rfl,rfl,H_0,HLR3,HB1⟩:=hrel;have t8:=dT (p:=(0:Int)<1);have n8:0<1:=by omega
        exact Ygk15
      have t9:=dF (p:=(W:Int)<(m9:Int));have n9:¬ W<m9:=hov;have HLG:=Hd (Inf.zcK HF0.out rfl HNW.out HX.out HRP.out (by rw[HN.out];omega));go_wp2_with fail;clear t9 n9 hm9 hm9I;go_loopw [11,15] (λ y z wr=>∃i:Nat,i<=1/\z=.int .i64 i/\Hid (QGo w wr Q (bs (Bts.allB L)) a1 0 x vo vo out)/\Hid (wr.ownsRow b0 3 1 y (l++List.replicate i k).length (intsV (l++List.replicate i k).length (Inf.fn (l++List.replicate i k))))/\Hid (Cw wr Q vc f 19/\∀C l c,vc=.slice (some ⟨C,0,none⟩) l c->C<b0)/\Hid (b0<=wr.heap.size)) (λ _ z _=>1-(intOf z).toNat)
      case atStart=>exact⟨0,by omega,rfl,H_1,Hd (by rw[List.replicate_zero,qbW,HN.out];exact HLR3.out),Hd ⟨HC1.out,HCL.out⟩,HB1⟩
      case round=>
       clear H_1 HLR3 HB1 HC1 HCL;obtain⟨i,hit,rfl,H_0,HLR3,HC1,HB1⟩:=hrel;obtain⟨M,hM⟩:=nmE ((l++List.replicate i k).length);have hMn:M=n+i:=by rw[<- hM,qaa,qaT,HN.out]
       have hro:=HLR3.out;rw[hM] at hro;obtain⟨xq,cq,rfl⟩:=zam hro;have HRO:=Hd hro;have HM:=Hd hM;have HMN:=Hd hMn;have hMb:M<=400:=by have:=HM9.out;omega
       clear hro hM hMn;by_cases hil:i<1
       ·have t8:=dT (p:=(i:Int)<1);have n8:i<1:=hil;go_wp2_with fail;refine rokT H_0.out.bk ?_;clear t8 n8;have hzz:=HB1.out;go_wp2_with (at_builtin;refine apA (HRO.out.alloc _) [.int .i64 (k:Int)] ?_);intro v' w8 hown hgrow _ _;have HO8:Hid (w8.ownsRow b0 3 1 v' (l++List.replicate (i+1) k).length (intsV (l++List.replicate (i+1) k).length (Inf.fn (l++List.replicate (i+1) k)))):=Hd (by
         have e1:l++List.replicate (i+1) k=(l++List.replicate i k) ++ [k]:=by rw[List.replicate_succ',qat]
         rw[e1,zb6,qaa,HM.out];exact hown)
        exact Ygk7
       obtain rfl:i=1:=by omega
       have t8:decide ((1:Int)<1)=false:=rfl;obtain⟨F2,hF2,hG2⟩:=HLG.out;have HG2:Hid (Inf.za3 mm ff (Inf.lens L f W F2 a1 (l++List.replicate 1 k))=rr):=Hd (by have h:=HG.out;rw[<- hG2] at h;exact h);have HF2:=Hd hF2;have HBD2:Hid (∀z∈l++List.replicate 1 k,z<=18):=Hd (λ z hz=>by
        rcases qa3.1 hz with q | q
        ·exact HK.out.1 z q
        rw[qb0 q];exact hk18b)
       clear hG2 hF2;go_wp2_with fail;go_roundg (W+1-M)
       case measure=>have:=HKK.out;have:=HMN.out;have:=HM9.out;omega
       case rel=>exact⟨a1,_,0,F2,hbl,H_0,Hd (by rw[HM.out];exact HRO.out),Hd (StE.good ⟨HC1.out,HG2.out⟩),Hd ⟨HBD2.out,by rw[HM.out];have:=HMN.out;have:=HM9.out;omega,by rw[HM.out];have h1:=HK.out.2.2.1;rw[HN.out] at h1;have:=HMN.out;have:=HM9.out;have:=HF2.out;omega,by rw[HM.out];simp⟩,HB1⟩
    subst he;have HQ:=Hd hbad;clear hbad HS;go_wp2_with fail;refine rokF H_0.out.bk ?_;go_wp2_with fail;(try go_wp2_with fail);go_meet
    exact⟨_,l,a,1,rfl,hal,H_0,Hd (by rw[HN.out];exact HLR2.out),Hd HK.out.1,Hd (StE.bad HQ.out)⟩
 clear H_0;obtain⟨vl,l,a5,e7,rfl,hal5,H_0,HLR,HBD,HS7⟩:=hcut;clear HS;have HS:=HS7;clear HS7;have hff:ff<=32:=hf2;rcases HS.out with⟨he,hlW,hg⟩ | ⟨he,hbad⟩
 ·subst he;clear HS;have HG:=Hd hg;have hro:=HLR.out;rw[hlW] at hro;obtain⟨xo,co,rfl⟩:=zam hro;obtain⟨gb,cp,e1,hcw,hgl⟩:=zaw hro (by omega);injection e1 with e1 _ e2;subst e1 e2;have HRW:=Hd hro;have HLW:=Hd hlW;clear hro hg hlW HLR;have hcI:(mm:Int)<=(W:Int):=by omega
  have hcI2:(mm:Int)<=(co:Int):=by omega
  have hm0:(0:Int)<=(mm:Int):=by omega
  have hmt:((mm:Nat):Int).toNat=mm:=by omega
  have hnf:W-mm=ff:=by omega
  have hne:¬ co=mm:=by omega
  go_wp2_with fail;refine rokT H_0.out.bk ?_;have c5:=H_0.out.bk.cell 5;have c6:=H_0.out.bk.cell 6;simp only[qc] at c5 c6;have f5:=H_0.out.bk.frozen 5;have f6:=H_0.out.bk.frozen 6;go_wp2_with fail;have H5:=H_0.out.set56 (.slice (some ⟨gb,0,none⟩) mm co) (.slice (some ⟨gb,mm,none⟩) ff (co-mm));have H_1:=Hd H5.1;have HRW2:=Hd (zaa HRW.out H5.2 (λ k q e=>by have:=(HRW.out.lt k q).1;have:=HLb.out;omega));clear H5 HRW;have HRW:=HRW2;clear HRW2 H_0 c5 c6 f5 f6;by_cases hg1:Inf.good (Inf.fn (l.take mm)) mm
  ·have HG1:=Hd hg1;refine (zbt Q a5 0 mm co (some ⟨gb,0,none⟩) (Inf.fn (l.take mm)) (bs (Bts.allB L)) (xset (xset x 5 (.slice (some ⟨gb,0,none⟩) mm co)) 6 (.slice (some ⟨gb,mm,none⟩) ff (co-mm))) _ H_1.out.bk (zea HRW.out HLW.out HBD.out mm (by omega)) (by omega)).mono ?_;rintro r w_1 ⟨hK,hP⟩;rw[qad rfl,qad hg1] at hP;obtain⟨vs,rfl,hC,hB,hN⟩:=hP;have HCS:=Hd hC;have HNS:=Hd (λ C l c q=>qam H_1.out.step.keeps.size (hN C l c q));have HRW2:=Hd (zaa HRW.out hK (λ k q e=>by have:=(HRW.out.lt k q).1;have:=HLb.out;omega));clear HRW;have HRW:=HRW2;clear HRW2;have H_2:=Hd (H_1.out.quiet hK hB);clear H_1;clear hK hB;clear hg1 hC hN;have c6:=H_2.out.bk.cell 6;simp[qc,xset] at c6;go_wp2_with fail;clear c6;by_cases hg2:Inf.good (Inf.fn (l.drop mm)) ff
   ·have HG2:=Hd hg2;refine (zbt Q a5 0 ff (co-mm) (some ⟨gb,mm,none⟩) (Inf.fn (l.drop mm)) (bs (Bts.allB L)) (xset (xset x 5 (.slice (some ⟨gb,0,none⟩) mm co)) 6 (.slice (some ⟨gb,mm,none⟩) ff (co-mm))) _ H_2.out.bk (zc4 HRW.out HLW.out HBD.out mm ff (by omega)) (by omega)).mono ?_;rintro r w_2 ⟨hK,hP⟩;rw[qad rfl,qad hg2] at hP;obtain⟨vd,rfl,hC,hB,hN⟩:=hP;have HCD:=Hd hC;have HND:=Hd (λ C l c q=>qam H_2.out.step.keeps.size (hN C l c q));have HCS2:=Hd (HCS.out.quiet hK);clear HCS;have HCS:=HCS2;clear HCS2;have HRW2:=Hd (zaa HRW.out hK (λ k q e=>by have:=(HRW.out.lt k q).1;have:=HLb.out;omega));clear HRW;have HRW:=HRW2;clear HRW2;have H_3:=Hd (H_2.out.quiet hK hB);clear H_2;clear hK hB;clear hg2 hC hN;obtain⟨z,hz⟩:=nmE (l.getD 256 0);have hlc:w_2.cell? ⟨gb,256,none⟩=some (.int .i64 (z:Int)):=by
     rw[HRW.out.cellAt 256 (by omega),zbc _ _ 256 (by omega)];unfold Inf.fn;rw[hz]
    have HZ:=Hd hz;have c5:=H_3.out.bk.cell 5;simp[qc,xset] at c5;have h256:(256:Int)<(mm:Int):=by omega
    have n256:256<mm:=by omega
    clear hz;by_cases hz0:z=0
    ·have HQ:=Hd (Inf.zik HG.out rfl HG1.out HG2.out (HZ.out.trans hz0));have t1:((z:Int) ==0)=true:=qbl.2 (by omega);go_wp2_with fail;refine rokT H_3.out.bk ?_;go_wp2_with fail;refine (zap Q a5 0 1 (bs (Bts.allB L)) (xset (xset x 5 (.slice (some ⟨gb,0,none⟩) mm co)) 6 (.slice (some ⟨gb,mm,none⟩) ff (co-mm))) _ H_3.out.bk).mono ?_;rintro r w_3 ⟨rfl,hB,hK⟩;rw[show fl 0 1=1 from rfl] at hB;have H_4:=Hd (H_3.out.quiet hK hB);clear H_3;clear hK hB;go_wp2_with fail;go_ret2;rw[<- HQ.out];exact⟨_,_,a5,_,rfl,H_4.out,λ i h5 h6=>by simp[xset,h5,h6]⟩
    have HQ:=Hd (Inf.zli HG.out rfl HG1.out HG2.out (by rw[HZ.out];exact hz0));have t1:((z:Int) ==0)=false:=qak.2 (by omega);go_wp2_with fail;refine rokT H_3.out.bk ?_;go_wp2_with fail;go_ret2;rw[<- HQ.out];have e1:(l.take mm).length=mm:=by rw[qax,HLW.out];omega
    have e2:(l.drop mm).length=ff:=by rw[qbh,HLW.out];omega
    have hge:w.heap.size<=gb:=by have:=(HRW.out.lt gb rfl).1;have:=HLb.out;omega
    exact⟨vs,vd,_,⟨gb,0,none⟩,co,⟨gb,mm,none⟩,co-mm,rfl,H_3.out,λ i h5 h6=>by simp[xset,h5,h6],by rw[e1];exact HCS.out,by rw[e2];exact HCD.out,HNS.out,HND.out,by rw[e1];simp[xset],by rw[e2];simp[xset],by rw[e1];exact zea HRW.out HLW.out HBD.out mm (by omega),by rw[e2];exact zc4 HRW.out HLW.out HBD.out mm ff (by omega),hge,hge⟩
   have HQ:=Hd (Inf.zio HG.out rfl HG1.out hg2);refine (zbt Q a5 0 ff (co-mm) (some ⟨gb,mm,none⟩) (Inf.fn (l.drop mm)) (bs (Bts.allB L)) (xset (xset x 5 (.slice (some ⟨gb,0,none⟩) mm co)) 6 (.slice (some ⟨gb,mm,none⟩) ff (co-mm))) _ H_2.out.bk (zc4 HRW.out HLW.out HBD.out mm ff (by omega)) (by omega)).mono ?_;rintro r w_2 ⟨hK,hP⟩;rw[qad rfl,qac hg2] at hP;obtain⟨rfl,hB⟩:=hP;have HRW2:=Hd (zaa HRW.out hK (λ k q e=>by have:=(HRW.out.lt k q).1;have:=HLb.out;omega));clear HRW;have HRW:=HRW2;clear HRW2;have H_3:=Hd (H_2.out.quiet hK hB);clear H_2;clear hK hB;clear hg2;exact Ygk10
  have HQ:=Hd (Inf.zhU HG.out rfl hg1);refine (zbt Q a5 0 mm co (some ⟨gb,0,none⟩) (Inf.fn (l.take mm)) (bs (Bts.allB L)) (xset (xset x 5 (.slice (some ⟨gb,0,none⟩) mm co)) 6 (.slice (some ⟨gb,mm,none⟩) ff (co-mm))) _ H_1.out.bk (zea HRW.out HLW.out HBD.out mm (by omega)) (by omega)).mono ?_;rintro r w_1 ⟨hK,hP⟩;rw[qad rfl,qac hg1] at hP;obtain⟨rfl,hB⟩:=hP;have HRW2:=Hd (zaa HRW.out hK (λ k q e=>by have:=(HRW.out.lt k q).1;have:=HLb.out;omega));clear HRW;have HRW:=HRW2;clear HRW2;have H_2:=Hd (H_1.out.quiet hK hB);clear H_1;clear hK hB;clear hg1;have c6:=H_2.out.bk.cell 6;simp[qc,xset] at c6;go_wp2_with fail;clear c6;refine (zbt Q a5 1 ff (co-mm) (some ⟨gb,mm,none⟩) (Inf.fn (l.drop mm)) (bs (Bts.allB L)) (xset (xset x 5 (.slice (some ⟨gb,0,none⟩) mm co)) 6 (.slice (some ⟨gb,mm,none⟩) ff (co-mm))) _ H_2.out.bk (zc4 HRW.out HLW.out HBD.out mm ff (by omega)) (by omega)).mono ?_;rintro r w_2 ⟨hK,hP⟩;rw[qac (by omega)] at hP;obtain⟨rfl,hB⟩:=hP;have HRW2:=Hd (zaa HRW.out hK (λ k q e=>by have:=(HRW.out.lt k q).1;have:=HLb.out;omega));clear HRW;have HRW:=HRW2;clear HRW2;have H_3:=Hd (H_2.out.quiet hK hB);clear H_2;clear hK hB;exact Ygk10
 subst he;have HQ:=Hd hbad;clear hbad HS;go_wp2_with fail;refine rokF H_0.out.bk ?_;go_wp2_with fail;go_ret2;rw[<- HQ.out];exact⟨_,_,a5,x,rfl,H_0.out,λ _ _ _=>rfl⟩
end Go.Proofs.YthlibiocadimhaaGreatDoor
namespace Go.Proofs.YthlibiocadimhaaGreatDoor
open Go.RowKit
def tokV (l:List Tk):List Value:=l.flatMap λ t=> [.int .u8 (t.b.toNat:Int),.int .i64 t.l,.int .i64 t.d]
theorem zmv (l:List Tk) (t:Tk):tokV (l ++ [t])=tokV l ++ [.int .u8 (t.b.toNat:Int),.int .i64 t.l,.int .i64 t.d]:=by simp[tokV]
theorem zpd:(Tryz.prog.info? 165).map (λ i=>(i.zero,i.size,i.bytes))=some (some (.agg #[.int .u8 0,.int .i64 0,.int .i64 0]),3,24):=by kernel_rfl
def qx (x:Nat->Value) (B7 B8:Nat) (vo vt:Value):Nat->Value:=λ i=>if i=2 then vo else if i=7 then .slice (some ⟨B7,0,none⟩) 300 300 else if i=8 then .slice (some ⟨B8,0,none⟩) 40 40 else if i=11 then vt else x i
structure WGo (w wr:World) (Q B7 B8:Nat) (T:ByteArray) (a e:Nat) (x:Nat->Value) (v0 t0 vo vt:Value) (out:List UInt8) (tks:List Tk) (f7 f8:Nat->Int):Prop where
 bk:Bk wr Q (qc T a e (qx x B7 B8 vo vt))
 row:wr.ownsRow 0 5 1 vo out.length (zad out)
 trow:wr.ownsRow 0 165 3 vt tks.length (tokV tks)
 c7:Cs wr B7 300 .i64 f7
 c8:Cs wr B8 40 .i64 f8
 voQ:vo.ownBlock≠some Q
 vtQ:vt.ownBlock≠some Q
 vot:∀k,vo.ownBlock=some k->vt.ownBlock≠some k
 b78:B7≠Q/\B8≠Q/\B7≠B8
 vo78:vo.ownBlock≠some B7/\vo.ownBlock≠some B8
 vt78:vt.ownBlock≠some B7/\vt.ownBlock≠some B8
 keeps:Keeps (λ k=>k=Q\/v0.ownBlock=some k\/t0.ownBlock=some k) w wr
 new:∀k,vo.ownBlock=some k->v0.ownBlock=some k\/w.heap.size<=k
 newt:∀k,vt.ownBlock=some k->t0.ownBlock=some k\/w.heap.size<=k
 n78:w.heap.size<=B7/\w.heap.size<=B8
section
variable {w wr w':World} {Q B7 B8 a a' e e':Nat} {T:ByteArray} {x:Nat->Value} {v0 t0 vo vt vo' vt':Value} {out:List UInt8} {tks:List Tk} {f7 f8:Nat->Int}
theorem WGo.b7lt (h:WGo w wr Q B7 B8 T a e x v0 t0 vo vt out tks f7 f8):B7<wr.heap.size:=qab wr _ (h.c7 0 (by decide)).1
theorem WGo.b8lt (h:WGo w wr Q B7 B8 T a e x v0 t0 vo vt out tks f7 f8):B8<wr.heap.size:=qab wr _ (h.c8 0 (by decide)).1
theorem WGo.kt {S:Nat->Prop} (h:WGo w wr Q B7 B8 T a e x v0 t0 vo vt out tks f7 f8) (hk:Keeps S wr w') (hS:∀k,k<wr.heap.size->S k->k=Q\/vo.ownBlock=some k\/vt.ownBlock=some k\/k=B7\/k=B8):Keeps (λ k=>k=Q\/v0.ownBlock=some k\/t0.ownBlock=some k) w w':=
 h.keeps.trans hk (λ i hi q=>by
  have h1:=h.keeps.size;rcases hS i (by omega) q with q | q | q | q | q
  ·exact .inl q
  ·rcases h.new i q with r | r
   ·exact .inr (.inl r)
   omega
  ·rcases h.newt i q with r | r
   ·exact .inr (.inr r)
   omega
  ·have:=h.n78;omega
  have:=h.n78;omega)
theorem WGo.quiet (h:WGo w wr Q B7 B8 T a e x v0 t0 vo vt out tks f7 f8) (hk:Keeps (λ k=>k=Q) wr w') (hb:Bk w' Q (qc T a' e' (qx x B7 B8 vo vt))):WGo w w' Q B7 B8 T a' e' x v0 t0 vo vt out tks f7 f8:=
 ⟨hb,zaa h.row hk (λ k q e=>h.voQ (by rw[q,e])),zaa h.trow hk (λ k q e=>h.vtQ (by rw[q,e])),zaz h.c7 hk h.b78.1,zaz h.c8 hk h.b78.2.1,h.voQ,h.vtQ,h.vot,h.b78,h.vo78,h.vt78,h.kt hk (λ _ _ q=>.inl q),h.new,h.newt,h.n78⟩
theorem WGo.ext (h:WGo w wr Q B7 B8 T a e x v0 t0 vo vt out tks f7 f8) (hE:Ext wr w'):WGo w w' Q B7 B8 T a e x v0 t0 vo vt out tks f7 f8:=h.quiet hE.keeps (h.bk.ext hE)
theorem WGo.use7 (h:WGo w wr Q B7 B8 T a e x v0 t0 vo vt out tks f7 f8) (k:Nat) (z:Int) (hk:k<300):WGo w (wr.setCell ⟨B7,k,none⟩ (.int .i64 z)) Q B7 B8 T a e x v0 t0 vo vt out tks (Inf.upd f7 k z) f8:=by
 have hK:Keeps (λ k=>k=B7) wr (wr.setCell ⟨B7,k,none⟩ (.int .i64 z)):=(Keeps.refl (λ k=>k=B7) wr).setCell (p:=⟨B7,k,none⟩) (.inl rfl) _;exact⟨h.bk.keeps hK (λ q=>h.b78.1 q.symm),zaa h.row hK (λ k q e=>h.vo78.1 (by rw[q,e])),zaa h.trow hK (λ k q e=>h.vt78.1 (by rw[q,e])),h.c7.put k z _ hk (λ i _=>rfl),zaz h.c8 hK (λ q=>h.b78.2.2 q.symm),h.voQ,h.vtQ,h.vot,h.b78,h.vo78,h.vt78,h.kt hK (λ _ _ q=>.inr (.inr (.inr (.inl q)))),h.new,h.newt,h.n78⟩
theorem WGo.use8 (h:WGo w wr Q B7 B8 T a e x v0 t0 vo vt out tks f7 f8) (k:Nat) (z:Int) (hk:k<40):WGo w (wr.setCell ⟨B8,k,none⟩ (.int .i64 z)) Q B7 B8 T a e x v0 t0 vo vt out tks f7 (Inf.upd f8 k z):=by
 have hK:Keeps (λ k=>k=B8) wr (wr.setCell ⟨B8,k,none⟩ (.int .i64 z)):=(Keeps.refl (λ k=>k=B8) wr).setCell (p:=⟨B8,k,none⟩) (.inl rfl) _;exact⟨h.bk.keeps hK (λ q=>h.b78.2.1 q.symm),zaa h.row hK (λ k q e=>h.vo78.2 (by rw[q,e])),zaa h.trow hK (λ k q e=>h.vt78.2 (by rw[q,e])),zaz h.c7 hK (λ q=>h.b78.2.2 q),h.c8.put k z _ hk (λ i _=>rfl),h.voQ,h.vtQ,h.vot,h.b78,h.vo78,h.vt78,h.kt hK (λ _ _ q=>.inr (.inr (.inr (.inr q)))),h.new,h.newt,h.n78⟩
theorem WGo.byte {L:Nat} {wb:World} {y:UInt8} (h:WGo w wr Q B7 B8 T a e x v0 t0 vo vt out tks f7 f8) (hL:out.length=L) (hE:Ext wr wb) (hg:wb.grownBy w' vo.ownBlock) (ho:w'.ownsRow 0 5 1 vo' (L+1) (zad out ++ [.int .u8 (y.toNat:Int)]))
  (hat:vo'.ownBlock=vo.ownBlock\/vo'.ownBlock=some wb.heap.size):Bk w' Q (qc T a e (qx x B7 B8 vo vt))/\WGo w (w'.setCell ⟨Q,2,none⟩ vo') Q B7 B8 T a e x v0 t0 vo' vt (out ++ [y]) tks f7 f8:=by
 have hQl:Q<wr.heap.size:=h.bk.lt;have h7l:=h.b7lt;have h8l:=h.b8lt;have hs:=hE.size;have hv:∀k,vo'.ownBlock=some k->vo.ownBlock=some k\/wr.heap.size<=k:=by
  intro k hk;rcases hat with q | q
  ·rw[q] at hk;exact .inl hk
  rw[q] at hk;injection hk with hk;exact .inr (by omega)
 have hvn:∀k,k<wr.heap.size->vo.ownBlock≠some k->vo'.ownBlock≠some k:=λ k hk hn q=>by
  rcases hv k q with r | r
  ·exact hn r
  omega
 have hbk:=(h.bk.ext hE).keeps (Keeps.grown hg) h.voQ;have hK0:Keeps (λ k=>vo.ownBlock=some k) wr w':=(hE.keeps (S:=λ k=>vo.ownBlock=some k)).trans (Keeps.grown hg) (λ _ _ q=>q);have hK:Keeps (λ k=>k=Q\/vo.ownBlock=some k) wr (w'.setCell ⟨Q,2,none⟩ vo'):=(hK0.mono (λ _ _ q=>.inr q)).setCell (p:=⟨Q,2,none⟩) (.inl (.inl rfl)) _;refine⟨hbk,?_,?_,zaa h.trow hK ?_,zaz h.c7 hK ?_,zaz h.c8 hK ?_,hvn Q hQl h.voQ,h.vtQ,?_,h.b78,⟨hvn B7 h7l h.vo78.1,hvn B8 h8l h.vo78.2⟩,h.vt78,h.kt hK ?_,?_,h.newt,h.n78⟩
 ·have:=hbk.putx 2 (.inl rfl) vo';rwa [zeS (y:=qx x B7 B8 vo' vt) (λ i _=>by unfold xset qx;split <;> rfl)] at this
 ·have e:zad (out ++ [y])=zad out ++ [.int .u8 (y.toNat:Int)]:=by simp[zad]
  rw[e,qaa,hL];exact qaI ho (hvn Q hQl h.voQ) _
 ·intro k q r;rcases r with r | r
  ·exact h.vtQ (by rw[q,r])
  exact h.vot k r q
 ·rintro (r | r)
  ·exact h.b78.1 r
  exact h.vo78.1 r
 ·rintro (r | r)
  ·exact h.b78.2.1 r
  exact h.vo78.2 r
 ·intro k q r;have:=zaA h.trow r;exact hvn k this (λ s=>h.vot k s r) q
 ·intro k _ r;rcases r with r | r
  ·exact .inl r
  exact .inr (.inl r)
 intro k q;rcases hv k q with r | r
 ·exact h.new k r
 exact .inr (qam h.keeps.size r)
theorem WGo.tok {M:Nat} {wb:World} {t:Tk} (h:WGo w wr Q B7 B8 T a e x v0 t0 vo vt out tks f7 f8) (hM:tks.length=M) (hE:Ext wr wb) (hg:wb.grownBy w' vt.ownBlock) (ho:w'.ownsRow 0 165 3 vt' (M+1) (tokV tks ++ [.int .u8 (t.b.toNat:Int),.int .i64 t.l,.int .i64 t.d]))
  (hat:vt'.ownBlock=vt.ownBlock\/vt'.ownBlock=some wb.heap.size):Bk w' Q (qc T a e (qx x B7 B8 vo vt))/\WGo w (w'.setCell ⟨Q,11,none⟩ vt') Q B7 B8 T a e x v0 t0 vo vt' out (tks ++ [t]) f7 f8:=by
 have hQl:Q<wr.heap.size:=h.bk.lt;have h7l:=h.b7lt;have h8l:=h.b8lt;have hs:=hE.size;have hv:∀k,vt'.ownBlock=some k->vt.ownBlock=some k\/wr.heap.size<=k:=by
  intro k hk;rcases hat with q | q
  ·rw[q] at hk;exact .inl hk
  rw[q] at hk;injection hk with hk;exact .inr (by omega)
 have hvn:∀k,k<wr.heap.size->vt.ownBlock≠some k->vt'.ownBlock≠some k:=λ k hk hn q=>by
  rcases hv k q with r | r
  ·exact hn r
  omega
 have hbk:=(h.bk.ext hE).keeps (Keeps.grown hg) h.vtQ;have hK0:Keeps (λ k=>vt.ownBlock=some k) wr w':=(hE.keeps (S:=λ k=>vt.ownBlock=some k)).trans (Keeps.grown hg) (λ _ _ q=>q);have hK:Keeps (λ k=>k=Q\/vt.ownBlock=some k) wr (w'.setCell ⟨Q,11,none⟩ vt'):=(hK0.mono (λ _ _ q=>.inr q)).setCell (p:=⟨Q,11,none⟩) (.inl (.inl rfl)) _;refine⟨hbk,?_,zaa h.row hK ?_,?_,zaz h.c7 hK ?_,zaz h.c8 hK ?_,h.voQ,hvn Q hQl h.vtQ,?_,h.b78,h.vo78,⟨hvn B7 h7l h.vt78.1,hvn B8 h8l h.vt78.2⟩,h.kt hK ?_,h.new,?_,h.n78⟩
 ·have:=hbk.putx 11 (by simp) vt';rwa [zeS (y:=qx x B7 B8 vo vt') (λ i _=>by
   unfold xset qx;by_cases h11:i=11
   ·subst h11;rfl
   rw[qac h11];simp only[qac h11])] at this
 ·intro k q r;rcases r with r | r
  ·exact h.voQ (by rw[q,r])
  exact h.vot k q r
 ·rw[zmv,qaa,hM];exact qaI ho (hvn Q hQl h.vtQ) _
 ·rintro (r | r)
  ·exact h.b78.1 r
  exact h.vt78.1 r
 ·rintro (r | r)
  ·exact h.b78.2.1 r
  exact h.vt78.2 r
 ·intro k q;have:=zaA h.row q;exact hvn k this (h.vot k q)
 ·intro k _ r;rcases r with r | r
  ·exact .inl r
  exact .inr (.inr (.inl r))
 intro k q;rcases hv k q with r | r
 ·exact h.newt k r
 exact .inr (qam h.keeps.size r)
end
structure WIn (w:World) (Q:Nat) (T:ByteArray) (a:Nat) (x:Nat->Value) (vo vt:Value) (out:List UInt8) (tks:List Tk):Prop where
 bk:Bk w Q (qc T a 0 x)
 x2:x 2=vo
 x11:x 11=vt
 row:w.ownsRow 0 5 1 vo out.length (zad out)
 trow:w.ownsRow 0 165 3 vt tks.length (tokV tks)
 voQ:vo.ownBlock≠some Q
 vtQ:vt.ownBlock≠some Q
 vot:∀k,vo.ownBlock=some k->vt.ownBlock≠some k
theorem WIn.start {w wr:World} {Q B7 B8 a:Nat} {T:ByteArray} {x:Nat->Value} {vo vt:Value} {out:List UInt8} {tks:List Tk} (h:WIn w Q T a x vo vt out tks) (hb:Bk wr Q (qc T a 0 (qx x B7 B8 vo vt))) (hk:Keeps (λ k=>k=Q) w wr)
  (c7:Cs wr B7 300 .i64 (λ _=>0)) (c8:Cs wr B8 40 .i64 (λ _=>0)) (h7:w.heap.size<=B7) (h8:B7<B8):WGo w wr Q B7 B8 T a 0 x vo vt vo vt out tks (λ _=>0) (λ _=>0):=by
 have hQl:Q<w.heap.size:=h.bk.lt;refine⟨hb,zaa h.row hk (λ k q e=>h.voQ (by rw[q,e])),zaa h.trow hk (λ k q e=>h.vtQ (by rw[q,e])),c7,c8,h.voQ,h.vtQ,h.vot,⟨by omega,by omega,by omega⟩,⟨λ q=>?_,λ q=>?_⟩,⟨λ q=>?_,λ q=>?_⟩,hk.mono (λ _ _ q=>.inl q),λ _ q=>.inl q,λ _ q=>.inl q,⟨h7,by omega⟩⟩
 ·have:=zaA h.row q;omega
 ·have:=zaA h.row q;omega
 ·have:=zaA h.trow q;omega
 have:=zaA h.trow q;omega
namespace Inf
def use7 (tr:List Ev) (i:Nat):Int:=((tr.countP λ e=>e.k=i:Nat):Int)
def use8 (tr:List Ev) (i:Nat):Int:=((tr.countP λ e=>256<e.k/\e.d=i:Nat):Int)
def tkOf (e:Ev):List Tk:=if e.k<256 then [⟨UInt8.ofNat e.k,0,0⟩] else if e.k=256 then [] else [⟨0,e.n,e.back⟩]
def tksOf (tr:List Ev):List Tk:=tr.flatMap tkOf
theorem zd3 (tr:List Ev) (e:Ev):use7 (tr ++ [e])=upd (use7 tr) e.k (use7 tr e.k+1):=by
 funext i;unfold use7 upd;rw[qcu]
 by_cases h:i=e.k
 ·subst h;simp
 rw[qac h];simp[Ne.symm h]
theorem zhm (tr:List Ev) (e:Ev) (h:e.k<=256):use8 (tr ++ [e])=use8 tr:=by
 funext i;unfold use8;rw[qcu];simp[show ¬ 256<e.k by omega]
theorem zlI (tr:List Ev) (e:Ev) (h:256<e.k):use8 (tr ++ [e])=upd (use8 tr) e.d (use8 tr e.d+1):=by
 funext i;unfold use8 upd;rw[qcu]
 by_cases q:i=e.d
 ·subst q;simp[h]
 rw[qac q];simp[Ne.symm q]
theorem zp6 (tr:List Ev) (i:Nat):0<=use7 tr i/\use7 tr i<=(tr.length:Int):=by
 unfold use7;have:=List.countP_le_length (p:=λ e:Ev=>decide (e.k=i)) (l:=tr);omega
theorem zoO (tr:List Ev) (i:Nat):0<=use8 tr i/\use8 tr i<=(tr.length:Int):=by
 unfold use8;have:=List.countP_le_length (p:=λ e:Ev=>decide (256<e.k/\e.d=i)) (l:=tr);omega
theorem zdL (tr:List Ev) (e:Ev):tksOf (tr ++ [e])=tksOf tr++tkOf e:=by simp[tksOf]
theorem zbC (tr:List Ev):(tksOf tr).length<=tr.length:=by
 induction tr with
 | nil=>simp[tksOf]
 | cons e tr ih=>
  have h1:(tkOf e).length<=1:=by unfold tkOf;split;(simp);split <;> simp
  simp only[tksOf,qcJ,qaa,qaR] at ih⊢;omega
end Inf
end Go.Proofs.YthlibiocadimhaaGreatDoor
