/-
  PictureOf's variables in memory; a picture that grows in a variable of its own.
  The document's PictureOf.
-/
import Derived.Test.YthlibiocadimhaaGreatDoorPngReadsG37
import Derived.Test.YthlibiocadimhaaGreatDoorPngReadsG13
import Derived.Test.YthlibiocadimhaaGreatDoorPngReadsG38
set_option linter.all false
set_option maxRecDepth 100000
namespace Go.Proofs.YthlibiocadimhaaGreatDoor
open Go.RowKit
structure PoZ (w wr:World) (a b:Int) (T6:Nat) (c d:Int):Prop where
 X:Ext w wr
 Q:Bk wr w.heap.size #[.int .i64 0,.int .i64 0,.slice none 0 0]
 F:Bk wr (w.heap.size+1) #[.int .i64 a,.int .i64 b]
 B:Bk wr T6 #[.int .i64 c,.int .i64 d]
 l:w.heap.size+1<T6
theorem PoZ.ext {w wr wz:World} {a b:Int} {T6:Nat} {c d:Int} (h:PoZ w wr a b T6 c d) (hE:Ext wr wz):PoZ w wz a b T6 c d:=⟨h.X.trans hE,h.Q.ext hE,h.F.ext hE,h.B.ext hE,h.l⟩
theorem PoZ.setQ {w wr:World} {a b:Int} {T6:Nat} {c d:Int} (h:PoZ w wr a b T6 c d):PoZ w (((wr.setCell ⟨w.heap.size,0,none⟩ (.int .i64 0)).setCell ⟨w.heap.size,1,none⟩ (.int .i64 0)).setCell ⟨w.heap.size,2,none⟩ (.slice none 0 0)) a b T6 c d:=by
 have hl:=h.l;refine⟨h.X.set3 (qaj _) _ _ _,((h.Q.set_ 0 _).set_ 1 _).set_ 2 _,?_,?_,h.l⟩
 ·exact ((h.F.far (by show w.heap.size+1≠w.heap.size;omega) _).far (by show w.heap.size+1≠w.heap.size;omega) _).far (by show w.heap.size+1≠w.heap.size;omega) _
 exact ((h.B.far (by show T6≠w.heap.size;omega) _).far (by show T6≠w.heap.size;omega) _).far (by show T6≠w.heap.size;omega) _
theorem PoZ.setF {w wr:World} {a b:Int} {T6:Nat} {c d:Int} (h:PoZ w wr a b T6 c d) (a' b':Int):PoZ w ((wr.setCell ⟨w.heap.size+1,0,none⟩ (.int .i64 a')).setCell ⟨w.heap.size+1,1,none⟩ (.int .i64 b')) a' b' T6 c d:=by
 have hl:=h.l;refine⟨(h.X.setCell (by show w.heap.size<=w.heap.size+1;omega) _).setCell (by show w.heap.size<=w.heap.size+1;omega) _,?_,(h.F.set_ 0 _).set_ 1 _,?_,h.l⟩
 ·exact (h.Q.far (by show w.heap.size≠w.heap.size+1;omega) _).far (by show w.heap.size≠w.heap.size+1;omega) _
 exact (h.B.far (by show T6≠w.heap.size+1;omega) _).far (by show T6≠w.heap.size+1;omega) _
structure PoS (w wr:World) (x:Option Addr) (L:List Ck) (T6:Nat):Prop where
 Z:PoZ w wr 0 0 T6 1 (-1)
 C:Cks wr x L
theorem PoS.ext {w wr wz:World} {x:Option Addr} {L:List Ck} {T6:Nat} (h:PoS w wr x L T6) (hE:Ext wr wz):PoS w wz x L T6:=⟨h.Z.ext hE,h.C.ext hE⟩
def zmF (w w':World) (r:Png.PcR) (e:Ending):Prop:=
 Ext w w'/\match r with
 | .fault c i=>c<9/\e=.returned (.tuple #[zaH,.agg #[.int .i64 ((c:Int)+1),.int .i64 (i:Int)]])
 | .bad c=>c<9/\e=.returned (.tuple #[zaH,.agg #[.int .i64 ((c:Int)+1),.int .i64 (-1)]])
 | .ok W H px=>∃x c,e=.returned (.tuple #[.agg #[.int .i64 (W:Int),.int .i64 (H:Int),.slice x (H*W) c],.agg #[.int .i64 0,.int .i64 (-1)]])/\Pxs w' x (H*W) px
theorem ze2 (c:Int) (w:World):Calls Tryz.prog 35 #[.int .i64 c] w λ e w'=>e=.returned (.agg #[.int .i64 c,.int .i64 (-1)])/\Ext w w':=by
 go_enter Tryz.func35,Tryz.ntmps35
 go_wp2_with fail;exact qaZ (v:=.agg #[.int .i64 c,.int .i64 (-1)]) (by simp[results,Tryz.results35,go_sem]) rfl ⟨rfl,by repeat (first | exact Ext.refl _ | refine Ext.alloc ?_ _ | refine qaL ?_ (by simp <;> omega) _)⟩
theorem ziH (x:Option Addr) (cap:Nat) (L:List Ck) (k:ByteArray) (w:World) (hx:Cks w x L) (hn:L.length<=1000000):
  Calls Tryz.prog 49 #[.slice x L.length cap,.string k] w λ e w'=>e=.returned (.bool (decide (∃c∈L,c.k=k)))/\w=w':=by
 have HX:=Hd hx;obtain⟨n,hN⟩:=nmE (L.length);have HN:=Hd hN;rw[hN] at hn⊢;obtain⟨bb,hbb⟩:∃b:Bool,decide (∃c∈L,c.k=k)=b:=⟨_,rfl⟩;rw[hbb];have HBB:=Hd hbb;clear hx hN hbb;go_enter Tryz.func49,Tryz.ntmps49
 go_wp2_with fail;go_loopw [5] (λ iv wr=>wr=w/\∃i:Nat,iv=.int .i64 (i:Int)/\i<=n/\Hid (∀c∈L.take i,c.k≠k)) (λ iv _=>n-(intOf iv).toNat)
 case atStart=>exact⟨by first | trivial | rfl,0,rfl,by omega,Hd (λ c hc=>by simp at hc)⟩
 case round=>
  obtain⟨rfl,i,rfl,hi,HI⟩:=hrel;by_cases hlt:i<n
  ·have t0:=dT (p:=(i:Int)<(n:Int));have hiL:i<L.length:=by rw[HN.out];exact hlt
   obtain⟨a,rfl⟩:=HX.out.isSome hiL;obtain⟨c,hc⟩:∃c,L[i]? =some c:=⟨_,qai hiL⟩;obtain⟨c0,_⟩:=HX.out.2 a rfl i c hc;have HC:=Hd hc;have i0:(0:Int)<=(i:Int):=by omega
   have i1:(i:Int)<(n:Int):=by omega
   by_cases hk:c.k=k
   ·have hcond:(c.k.toList ==k.toList)=true:=by rw[hk];simp
    have HV:Hid (bb=true):=Hd (HBB.out.symm.trans (qae ⟨c,qa5 hc,hk⟩));clear hk hc hiL;go_wp2_with fail;go_ret;exact⟨by rw[HV.out];rfl,rfl⟩
   have hcond:(c.k.toList ==k.toList)=false:=qak.2 (λ e=>hk (by
    apply bext;rw[<- qbp,<- qbp,e]))
   have HK:=Hd hk;clear hk hc hiL;go_wp2_with fail;go_roundw
   case rel=>exact⟨by first | trivial | rfl,i+1,by go_num,by omega,Hd (λ q hq=>by
    rw[qbS,HC.out] at hq;rcases qa3.1 hq with hq | hq
    ·exact HI.out q hq
    have:q=c:=by simpa using hq
    rw[this];exact HK.out)⟩
   case measure=>simp[intOf];omega
  obtain rfl:i=n:=by omega
  have t0:=dF (p:=(i:Int)<(i:Int));have HV:Hid (bb=false):=Hd (HBB.out.symm.trans (qaf (λ⟨c,hc,e⟩=>HI.out c (by rw[qan (by rw[HN.out];exact qaj _)];exact hc) e)));go_wp2_with fail;go_ret;exact⟨by rw[HV.out];rfl,rfl⟩
theorem Cks.take {w:World} {x:Option Addr} {L:List Ck} (h:Cks w x L) (k:Nat):Cks w x (L.take k):=by
 refine⟨λ e=>by rw[h.1 e];simp,λ a ha i c hi=>h.2 a ha i c ?_⟩;have hlt:i<(L.take k).length:=(qa7.1 hi).1;rw[qax] at hlt;rw[qcn (by omega)] at hi;exact hi
theorem Ygt15 {p:Prop} (h:p:=by
 rintro e w9 ⟨rfl,rfl⟩;go_wp2_with fail;go_meet
 exact⟨by rw[HV.out],rfl⟩):p:=h
theorem Ygt12 {p:Prop} (h:p:=by
 have FIN:=Hd (((ZB.out.setQ).setF (1) ((-1))).ext (qag (Ext.refl _)));have d0:=ZB.out.Q.cell 0;have f0:=ZB.out.Q.frozen 0;have d1:=ZB.out.Q.cell 1;have f1:=ZB.out.Q.frozen 1;have d2:=ZB.out.Q.cell 2;have f2:=ZB.out.Q.frozen 2;have d3:=ZB.out.F.cell 0;have f3:=ZB.out.F.frozen 0;have d4:=ZB.out.F.cell 1;have f4:=ZB.out.F.frozen 1;have d5:=ZB.out.B.cell 0;have d6:=ZB.out.B.cell 1;have hl6:=ZB.out.l;go_region;clear d0 d1 d2 d3 d4 d5 d6 f0 f1 f2 f3 f4 hl6;refine zib (λ wz=>PoZ w wz 1 (-1) T6 1 (-1)) FIN.out ?_;rintro tz hz;clear FIN ZB;have k0:=hz.Q.cell 0;have k1:=hz.Q.cell 1;have k2:=hz.Q.cell 2;have k3:=hz.F.cell 0;have k4:=hz.F.cell 1;go_wp2_with fail;exact qaZ (v:=.tuple #[zaH,.agg #[.int .i64 1,.int .i64 (-1)]]) (by simp[results,Tryz.results17,go_sem,k0,k1,k2,k3,k4,zaH]) rfl ⟨hz.X,⟨by decide,rfl⟩⟩):p:=h
theorem Ygt13 {p:Prop} (h:p:=by
 rintro e w9 ⟨rfl,rfl⟩;go_wp2_with fail;refine (HB2.out _).mono ?_;exact Ygt15):p:=h
theorem Ygt14 {p:Prop} (h:p:=by
 go_wp2_with fail;refine (HHK.out _).mono ?_;exact Ygt15):p:=h
theorem Ygt0 {p:Prop} (h:p:=by
 go_upto_region 6 with fail;have ZB:=Hd (S4.out.Z);exact Ygt12):p:=h
theorem Ygt1 {p:Prop} (h:p:=by
 go_wp2_with fail;refine (HB1.out _).mono ?_;exact Ygt15):p:=h
theorem Ygt2 {p:Prop} (h:p:=by
 clear x_a x_b x_c x_d;go_wp2_with fail;refine (HB1.out _).mono ?_;rintro e w9 ⟨rfl,rfl⟩;go_wp2_with fail;refine (HB1.out _).mono ?_;rintro e w9 ⟨rfl,rfl⟩;go_wp2_with fail;refine (HB2.out _).mono ?_;exact Ygt13):p:=h
theorem Ygt3 {p:Prop} (h:p:=by
 have HV:=Hd hv;clear hv hfb d_8 k_3 d_1 d_2 d_4;go_wp2_with fail;go_meet
 exact⟨by rw[HV.out],rfl⟩):p:=h
theorem Ygt4 {p:Prop} (h:p:=by
 go_wp2_with fail;go_meet
 exact⟨by rw[HV.out],by first | rfl | rw[y_f],rfl⟩):p:=h
theorem Ygt5 {p:Prop} (h:p:=by
 clear x_m x_f x_a x_b x_c;go_wp2_with fail;go_meet
 exact⟨by rw[HV.out],by first | rfl | rw[y_f],rfl⟩):p:=h
theorem Ygt6 {p:Prop} (h:p:=by
 have ZB:=Hd (S1.out.Z);exact Ygt12):p:=h
theorem Ygt7 {p:Prop} (h:p:=by
 go_wp2_with fail;go_roundw
 case rel=>exact⟨ip,fi,en,Png.onR rr ck,by rw[HON.out],by rw[HON.out],by rw[HON.out],rfl,rfl,by first | rfl | go_num,by omega,by omega,Hd (HNX.out _ _ (HGO2.out) (HDC.out)),S1⟩
 case measure=>simp[intOf];omega):p:=h
theorem Ygt8 {p:Prop} (h:p:=by
 exact Ygt14):p:=h
theorem Ygt9 {p:Prop} (h:p:=by
 clear x_h x_c x_f x_k x_q;exact Ygt14):p:=h
theorem Ygt10 {p:Prop} (h:p:=by
 go_region;go_wp2_with fail;go_meet
 rw[HPE.out];exact⟨Hd SFH.out.1,Hd SFH.out.2.1,HGD⟩):p:=h
theorem Ygt11 {p:Prop} (h:p:=by
 exact Ygt12):p:=h
theorem PoZ.box {w v wz:World} {a b c d:Int} (hX:Ext w v) (hQ:Bk v w.heap.size #[.int .i64 0,.int .i64 0,.slice none 0 0]) (hF:Bk v (w.heap.size+1) #[.int .i64 a,.int .i64 b]) (hl:w.heap.size+1<v.heap.size) (hE:Ext v wz) (hB:Bk wz v.heap.size #[.int .i64 c,.int .i64 d]):PoZ w wz a b v.heap.size c d:=
 ⟨hX.trans hE,hQ.ext hE,hF.ext hE,hB,hl⟩
theorem zh9 {P:Program} {fn:Func} {R:Ending->World->Prop} {x:Exit} {a:Act} {W:World} (F:World->Prop) (h1:F W) (h2:∀wz,F wz->bodyPost P fn R x a wz):bodyPost P fn R x a W:=h2 W h1
theorem zib {Q:Exit->Act->World->Prop} {x:Exit} {a:Act} {W:World} (F:World->Prop) (h1:F W) (h2:∀wz,F wz->Q x a wz):Q x a W:=h2 W h1
structure PoE (w wr:World) (qa qb:Int) (qv:Value) (a b:Int) (T:Nat) (W H:Int) (v:Value) (x:Option Addr) (n:Nat) (px:Nat->P4):Prop where
 X:Ext w wr
 Q:Bk wr w.heap.size #[.int .i64 qa,.int .i64 qb,qv]
 F:Bk wr (w.heap.size+1) #[.int .i64 a,.int .i64 b]
 P:Bk wr T #[.int .i64 W,.int .i64 H,v]
 R:Pxs wr x n px
 l:w.heap.size+1<T
 lx:∀a,x=some a->w.heap.size+1<a.block
theorem PoE.ext {w wr wz:World} {qa qb:Int} {qv:Value} {a b:Int} {T:Nat} {W H:Int} {v:Value} {x:Option Addr} {n:Nat} {px:Nat->P4} (h:PoE w wr qa qb qv a b T W H v x n px) (hE:Ext wr wz):PoE w wz qa qb qv a b T W H v x n px:=
 ⟨h.X.trans hE,h.Q.ext hE,h.F.ext hE,h.P.ext hE,h.R.keeps (S:=λ _=>False) hE.keeps (λ _ _=>id),h.l,h.lx⟩
theorem PoE.setQ {w wr:World} {qa qb:Int} {qv:Value} {a b:Int} {T:Nat} {W H:Int} {v:Value} {x:Option Addr} {n:Nat} {px:Nat->P4} (h:PoE w wr qa qb qv a b T W H v x n px) (qa' qb':Int) (qv':Value):PoE w (((wr.setCell ⟨w.heap.size,0,none⟩ (.int .i64 qa')).setCell ⟨w.heap.size,1,none⟩ (.int .i64 qb')).setCell ⟨w.heap.size,2,none⟩ qv') qa' qb' qv' a b T W H v x n px:=by
 have hl:=h.l;have hk:Keeps (λ k=>k=w.heap.size) wr (((wr.setCell ⟨w.heap.size,0,none⟩ (.int .i64 qa')).setCell ⟨w.heap.size,1,none⟩ (.int .i64 qb')).setCell ⟨w.heap.size,2,none⟩ qv'):=(((Keeps.refl (λ k=>k=w.heap.size) wr).setCell (.inl rfl) _).setCell (.inl rfl) _).setCell (.inl rfl) _;exact⟨h.X.set3 (qaj _) _ _ _,((h.Q.set_ 0 _).set_ 1 _).set_ 2 _,h.F.keeps hk (by omega),h.P.keeps hk (by omega),h.R.keeps hk (λ a e q=>by have:=h.lx a e;omega),h.l,h.lx⟩
theorem PoE.setF {w wr:World} {qa qb:Int} {qv:Value} {a b:Int} {T:Nat} {W H:Int} {v:Value} {x:Option Addr} {n:Nat} {px:Nat->P4} (h:PoE w wr qa qb qv a b T W H v x n px) (a' b':Int):PoE w ((wr.setCell ⟨w.heap.size+1,0,none⟩ (.int .i64 a')).setCell ⟨w.heap.size+1,1,none⟩ (.int .i64 b')) qa qb qv a' b' T W H v x n px:=by
 have hl:=h.l;have hk:Keeps (λ k=>k=w.heap.size+1) wr ((wr.setCell ⟨w.heap.size+1,0,none⟩ (.int .i64 a')).setCell ⟨w.heap.size+1,1,none⟩ (.int .i64 b')):=((Keeps.refl (λ k=>k=w.heap.size+1) wr).setCell (.inl rfl) _).setCell (.inl rfl) _;exact⟨(h.X.setCell (by show w.heap.size<=w.heap.size+1;omega) _).setCell (by show w.heap.size<=w.heap.size+1;omega) _,h.Q.keeps hk (by omega),(h.F.set_ 0 _).set_ 1 _,h.P.keeps hk (by omega),h.R.keeps hk (λ a e q=>by have:=h.lx a e;omega),h.l,h.lx⟩
theorem znH (b j:Nat):b/2^j/2=b/2^(j+1):=by rw[qbF,qa1]
namespace Png
theorem znJ {c:Ck} (h:¬ (c.k=ihdr/\c.d.size=13)):headR c=.bad 0:=by unfold headR;rw[qac h]
theorem zm7 {c:Ck} {W H:Nat} (h:c.k=ihdr/\c.d.size=13) (hW:valN (c.d.data.toList.take 4)=W) (hH:valN ((c.d.data.toList.drop 4).take 4)=H) (hn:¬ (1<=W/\W<=256/\1<=H/\H<=256)):headR c=.bad 1:=by
 unfold headR;rw[qad h];simp only[hW,hH];rw[qac hn]
theorem zoe {l:List UInt8} (hl:l.length=13):l.drop 10=[0,0,0]↔(l.getD 10 0=0/\l.getD 11 0=0/\l.getD 12 0=0):=by
 rw[List.drop_eq_getElem_cons (by omega),List.drop_eq_getElem_cons (by omega),List.drop_eq_getElem_cons (by omega),List.drop_of_length_le (by omega)];simp[qaY,hl]
theorem zqk {c:Ck} {W H d k:Nat} {z0 z1 z2:UInt8} (h:c.k=ihdr/\c.d.size=13) (hW:valN (c.d.data.toList.take 4)=W) (hH:valN ((c.d.data.toList.drop 4).take 4)=H) (hn:1<=W/\W<=256/\1<=H/\H<=256) (hd:(c.d.data.toList.getD 8 0).toNat=d) (hk:(c.d.data.toList.getD 9 0).toNat=k)
  (h0:c.d.data.toList.getD 10 0=z0) (h1:c.d.data.toList.getD 11 0=z1) (h2:c.d.data.toList.getD 12 0=z2):
  headR c=if byN k≠0/\depOk k d/\(z0.toNat=0/\z1.toNat=0/\z2.toNat=0) then .ok W H d k else .bad 0:=by
 have e:c.d.data.toList.drop 10=[0,0,0]↔(z0.toNat=0/\z1.toNat=0/\z2.toNat=0):=by
  rw[zoe h.2,h0,h1,h2];exact⟨λ q=>⟨by rw[q.1];rfl,by rw[q.2.1];rfl,by rw[q.2.2];rfl⟩,λ q=>⟨UInt8.toNat_inj.1 q.1,UInt8.toNat_inj.1 q.2.1,UInt8.toNat_inj.1 q.2.2⟩⟩
 unfold headR;rw[qad h];simp only[hW,hH];rw[qad hn];simp only[hd,hk];by_cases q:byN k≠0/\depOk k d/\(z0.toNat=0/\z1.toNat=0/\z2.toNat=0)
 ·rw[qad q,qad ⟨q.1,q.2.1,e.2 q.2.2⟩]
 rw[qac q,qac (λ x=>q ⟨x.1,x.2.1,e.1 x.2.2⟩)]
theorem zoq {r:Rd} {c:Ck} (hk:c.k=Png.idat):onR r c= { r with data:=r.data++c.d.data.toList,st:=1 }:=by
 unfold onR;rw[hk,qac zb4,qad rfl]
theorem zor {r:Rd} {c:Ck} (hk:c.k=Png.plte):onR r c= { r with colors:=c.d,hc:=true,st:=stN r c }:=by
 unfold onR;rw[hk,qac zbG.1,qac zbG.2,qad rfl]
theorem zok {r:Rd} {c:Ck} (hk:c.k=Png.trns):onR r c= { r with alphas:=c.d,ha:=true,st:=stN r c }:=by
 unfold onR;rw[hk,qac zbb.1,qac zbb.2.1,qac zbb.2.2,qad rfl]
theorem zqb (r:Rd) (A B:List Ck):runB r (A++B)=(runB r A&&runB (runR r A) B):=by
 induction A generalizing r with
 | nil=>simp[runB,runR]
 | cons x A ih=>simp only[qa2,runB,runR,ih,Bool.and_assoc]
theorem zpw {r rr:Rd} {M:List Ck} {k:Nat} {c:Ck} (hk:M[k]? =some c) (hr:runR r (M.take k)=rr) (h:onB rr c=false):runB r M=false:=by
 have e:M=M.take (k+1)++M.drop (k+1):=(List.take_append_drop _ _).symm;rw[e,zqb,qbS,hk];show (runB r (M.take k ++ [c])&&_)=false;rw[zd9,hr,h];simp
end Png
set_option maxHeartbeats 40000000 in
theorem zgZ (s:ByteArray) (w:World) (hs:s.size<=300000):
  Calls Tryz.prog 17 #[.string s] w λ e w'=>zmF w w' (Png.picR s) e:=by
 obtain⟨res,hres⟩:=nmE (Png.picR s);rw[hres];unfold Png.picR at hres;have HS:=Hd hs;go_enter Tryz.func17,Tryz.ntmps17
 go_upto_region 1 with fail;refine zac (λ wz=>Ext w wz/\Bk wz w.heap.size #[.int .i64 0,.int .i64 0,.slice none 0 0]/\Bk wz (w.heap.size+1) #[.int .i64 0,.int .i64 0]/\wz.heap.size=w.heap.size+2) ?hw ?_
 case hw=>exact⟨((Ext.refl w).alloc _).alloc _,(show Bk (w.alloc _) w.heap.size _ from Bk.at rfl).ext ((Ext.refl _).alloc _),Bk.at (by simp),by simp⟩
 rintro v0 ⟨hX,hQ,hF,hz⟩;have X0:=Hd hX;have Q0:=Hd hQ;have F0:=Hd hF;have Z0:=Hd hz;clear hX hQ hF hz;have HCO:=Hd (zif s v0 hs);clear hs;go_wp2_with fail;refine HCO.out.mono ?_;rintro e v1 ⟨hX,hr⟩;have X1:=Hd (X0.out.trans hX);have Q1:=Hd (Q0.out.ext hX);have F1:=Hd (F0.out.ext hX);have Z1:=Hd (show w.heap.size+1<v1.heap.size from by have:=hX.size;have:=Z0.out;omega);clear hX HCO X0 Q0 F0 Z0;rcases hr with⟨L0,x,c,hrl,rfl,hC,hcap⟩ | ⟨ce,ie,hce,hrl,rfl⟩
 ·as_aux_lemma=>
   rw[hrl] at hres;(try simp only at hres);have HCAP:=Hd hcap;clear hcap;obtain⟨hok,hsum,hlen⟩:=Png.zfL HS.out hrl;have HOK:=Hd hok;have HSUM:=Hd hsum;clear hok hrl hsum;have HC1:=Hd hC;clear hC;go_upto_region 4 with fail;refine zac (λ wz=>Ext v1 wz) ?hw ?_
   case hw=>repeat (first | exact Ext.refl _ | refine Ext.alloc ?_ _ | refine qaL ?_ (by simp <;> omega) _)
   rintro v2 hX;have X2:=Hd (X1.out.trans hX);have Q2:=Hd (Q1.out.ext hX);have F2:=Hd (F1.out.ext hX);have C2:=Hd (HC1.out.ext hX);have Z2:=Hd (qaA Z1.out hX.size);clear hX X1 Q1 F1 HC1 Z1;go_wp2_with fail;refine (ze2 1 v2).mono ?_;rintro e v3 ⟨rfl,hX⟩;have X3:=Hd (X2.out.trans hX);have Q3:=Hd (Q2.out.ext hX);have F3:=Hd (F2.out.ext hX);have C3:=Hd (C2.out.ext hX);have Z3:=Hd (qaA Z2.out hX.size);clear hX X2 Q2 F2 C2 Z2;go_upto_region 5 with fail;refine zac (λ wz=>PoS w wz x L0 v3.heap.size) ?hw ?_
   case hw=>exact⟨PoZ.box X3.out Q3.out F3.out Z3.out (by repeat (first | exact Ext.refl _ | refine Ext.alloc ?_ _ | refine qaL ?_ (by simp <;> omega) _)) (Bk.at (by simp)),C3.out.ext (by repeat (first | exact Ext.refl _ | refine Ext.alloc ?_ _ | refine qaL ?_ (by simp <;> omega) _))⟩
   rintro v4 hS;obtain⟨T6,hT6⟩:=nmE (v3.heap.size);rw[hT6] at hS⊢;have S4:=Hd hS;clear hS hT6 X3 Q3 F3 C3 Z3;cases L0 with
   | nil=>
    (try simp only at hres);subst hres
    ·as_aux_lemma=>
      exact Ygt0
   | cons h L=>
    (try simp only at hres);obtain⟨n,hn⟩:=nmE ((h ::L).length);have HN:=Hd hn;have hn1:1<=n:=by rw[<- hn];simp
    have hnb:n<=300000:=by rw[<- hn];exact hlen
    rw[hn];have t0:(((n:Nat):Int) ==0)=false:=zal (by omega);obtain⟨a,rfl⟩:=S4.out.C.isSome (i:=0) (by rw[hn];omega);obtain⟨c0,c1⟩:=S4.out.C.2 a rfl 0 h rfl;have c0:v4.cell? a=some (.string h.k):=c0;have c1:v4.cell? ⟨a.block,a.off+1,none⟩=some (.string h.d):=c1;clear hn hlen;have hi0:(0:Int)<(n:Int):=by omega
    have hi1:0<n:=by omega
    obtain⟨D,hD⟩:=nmE (h.d);have HD:=Hd hD;rw[hD] at c1;have HKS:=Hd (HOK.out h (qbc ..)).1.k;clear hD;obtain⟨bb,hbb⟩:∃b:Bool,decide ((h.k≠Png.ihdr)\/(D.size≠13))=b:=⟨_,rfl⟩;have HBB:=Hd hbb;clear hbb;go_cut [63] from 46 to 62 (λ sx wx=>sx=.bool bb/\wx=v4)
    case first=>
     by_cases x_k:h.k≠Png.ihdr
     ·have e1:=pkno x_k;have HV:Hid (bb=true):=Hd (by rw[<- HBB.out];exact qae (.inl x_k));clear x_k;go_wp2_with fail;go_meet
      exact⟨by rw[HV.out],rfl⟩
     have e1:=pkyes (qb1.1 x_k);by_cases x_d:D.size≠13
     ·have e2:(((D.size:Nat):Int) !=13)=true:=zbp (by omega);have HV:Hid (bb=true):=Hd (by rw[<- HBB.out];exact qae (.inr x_d));clear x_k x_d;go_wp2_with fail;go_meet
      exact⟨by rw[HV.out],rfl⟩
     have e2:(((D.size:Nat):Int) !=13)=false:=zbm (by omega);have HV:Hid (bb=false):=Hd (by
      rw[<- HBB.out];refine qaf ?_;rintro (h | h)
      ·exact x_k h
      exact x_d h)
     clear x_k x_d;go_wp2_with fail;go_meet
     exact⟨by rw[HV.out],rfl⟩
    obtain⟨rfl,hwx⟩:=hcut;have hwx:=hwx.symm;subst hwx;cases bb
    ·as_aux_lemma=>
      have HH:Hid (h.k=Png.ihdr/\D.size=13):=Hd (by have q:=qa4 HBB.out;exact⟨Decidable.byContradiction λ x=>q (.inl x),Decidable.byContradiction λ x=>q (.inr x)⟩);clear HBB t0;have HDS:Hid (10<D.size/\11<D.size/\12<D.size/\D.size=13):=Hd (by have:=HH.out.2;omega);obtain⟨W,hW⟩:=nmE (valN (D.data.toList.take 4));obtain⟨H,hH⟩:=nmE (valN ((D.data.toList.drop 4).take 4));have HW:=Hd hW;have HHI:=Hd hH;obtain⟨zW,hzW⟩:∃z:Int,(W:Int)=z:=⟨_,rfl⟩;obtain⟨zH,hzH⟩:∃z:Int,(H:Int)=z:=⟨_,rfl⟩;have HZW:=Hd hzW;have HZH:=Hd hzH;have HB1:=Hd (λ w=>by have q:=zcu D w (by unfold maxLen;have:=HDS.out;omega) (by have:=HDS.out;omega);rw[hW,hzW] at q;exact q);have HB2:=Hd (λ w=>by have q:=zcu (D.extract 4 D.size) w (by unfold maxLen;have:=HDS.out;rw[qau];omega) (by have:=HDS.out;rw[qau];omega);rw[show (D.extract 4 D.size).data.toList.take 4=(D.data.toList.drop 4).take 4 from by rw[qb4,qca,List.extract_eq_take_drop,List.take_take];congr 1;have:=HDS.out;omega,hH,hzH] at q;exact q);clear hW hH hzW hzH;have i4:(4:Int)<=(D.size:Int):=by have:=HDS.out;omega
      have i5:4<=D.size:=by have:=HDS.out;omega
      go_upto_region 8 with fail;obtain⟨bb,hbb⟩:∃b:Bool,decide ((zW<1)\/(256<zW)\/(zH<1)\/(256<zH))=b:=⟨_,rfl⟩;have HBB:=Hd hbb;clear hbb;go_cut [89] from 70 to 88 (λ sx wx=>sx=.bool bb/\wx=v4)
      case first=>
       by_cases x_a:zW<1
       ·have t_a:decide (zW<1)=true:=qae x_a;have HV:Hid (bb=true):=Hd (by rw[<- HBB.out];exact qae (.inl x_a));clear x_a;exact Ygt1
       have t_a:decide (zW<1)=false:=qaf x_a;by_cases x_b:256<zW
       ·have t_b:decide (256<zW)=true:=qae x_b;have HV:Hid (bb=true):=Hd (by rw[<- HBB.out];exact qae (.inr (.inl x_b)));clear x_a x_b;go_wp2_with fail;refine (HB1.out _).mono ?_;rintro e w9 ⟨rfl,rfl⟩;exact Ygt1
       have t_b:decide (256<zW)=false:=qaf x_b;by_cases x_c:zH<1
       ·have t_c:decide (zH<1)=true:=qae x_c;have HV:Hid (bb=true):=Hd (by rw[<- HBB.out];exact qae (.inr (.inr (.inl x_c))));clear x_a x_b x_c;go_wp2_with fail;refine (HB1.out _).mono ?_;rintro e w9 ⟨rfl,rfl⟩;go_wp2_with fail;refine (HB1.out _).mono ?_;exact Ygt13
       have t_c:decide (zH<1)=false:=qaf x_c;by_cases x_d:256<zH
       ·have t_d:decide (256<zH)=true:=qae x_d;have HV:Hid (bb=true):=Hd (by rw[<- HBB.out];exact qae (.inr (.inr (.inr x_d))));exact Ygt2
       have t_d:decide (256<zH)=false:=qaf x_d;have HV:Hid (bb=false):=Hd (by
        rw[<- HBB.out];refine qaf ?_;rintro (h | h | h | h)
        ·exact x_a h
        ·exact x_b h
        ·exact x_c h
        exact x_d h)
       exact Ygt2
      obtain⟨rfl,hwx⟩:=hcut;have hwx:=hwx.symm;subst hwx;cases bb
      ·as_aux_lemma=>
        have HSZ:Hid (1<=W/\W<=256/\1<=H/\H<=256):=Hd (by have q:=qa4 HBB.out;have q1:=HZW.out;have q2:=HZH.out;omega);clear HBB;have n8:8<D.size:=by have:=HDS.out;omega
        have n9:9<D.size:=by have:=HDS.out;omega
        have n10:10<D.size:=HDS.out.1;have n11:11<D.size:=HDS.out.2.1;have n12:12<D.size:=HDS.out.2.2.1;have n8i:(8:Int)<(D.size:Int):=by omega
        have n9i:(9:Int)<(D.size:Int):=by omega
        have n10i:(10:Int)<(D.size:Int):=by omega
        have n11i:(11:Int)<(D.size:Int):=by omega
        have n12i:(12:Int)<(D.size:Int):=by omega
        obtain⟨bd,hbd⟩:∃q:UInt8,D[8]=q:=⟨_,rfl⟩;obtain⟨bk,hbk⟩:∃q:UInt8,D[9]=q:=⟨_,rfl⟩;obtain⟨e0,he0⟩:∃q:UInt8,D[10]=q:=⟨_,rfl⟩;obtain⟨e1,he1⟩:∃q:UInt8,D[11]=q:=⟨_,rfl⟩;obtain⟨e2,he2⟩:∃q:UInt8,D[12]=q:=⟨_,rfl⟩;obtain⟨dp,hdp⟩:=nmE (bd.toNat);obtain⟨kd,hkd⟩:=nmE (bk.toNat);obtain⟨x0,hx0⟩:=nmE (e0.toNat);obtain⟨x1,hx1⟩:=nmE (e1.toNat);obtain⟨x2,hx2⟩:=nmE (e2.toNat);have hdl:dp<256:=by rw[<- hdp];exact bd.toNat_lt
        have hkl:kd<256:=by rw[<- hkd];exact bk.toNat_lt
        have HGO:Hid (Png.headR h=if Png.byN kd≠0/\Png.depOk kd dp/\(x0=0/\x1=0/\x2=0) then .ok W H dp kd else .bad 0):=Hd (by
         rw[Png.zqk (W:=W) (H:=H) (d:=dp) (k:=kd) (z0:=e0) (z1:=e1) (z2:=e2) ⟨HH.out.1,by rw[HD.out];exact HH.out.2⟩ (by rw[HD.out];exact HW.out) (by rw[HD.out];exact HHI.out) HSZ.out (by rw[HD.out,<- zar D 8 n8,hbd];exact hdp) (by rw[HD.out,<- zar D 9 n9,hbk];exact hkd) (by rw[HD.out,<- zar D 10 n10];exact he0) (by rw[HD.out,<- zar D 11 n11];exact he1) (by rw[HD.out,<- zar D 12 n12];exact he2),hx0,hx1,hx2])
        have q8:((D[8]:UInt8).toNat:Int)=(dp:Int):=by rw[hbd,hdp]
        have q9:((D[9]:UInt8).toNat:Int)=(kd:Int):=by rw[hbk,hkd]
        have q10:((D[10]:UInt8).toNat:Int)=(x0:Int):=by rw[he0,hx0]
        have q11:((D[11]:UInt8).toNat:Int)=(x1:Int):=by rw[he1,hx1]
        have q12:((D[12]:UInt8).toNat:Int)=(x2:Int):=by rw[he2,hx2]
        clear hbd hbk he0 he1 he2 hdp hkd hx0 hx1 hx2 bd bk e0 e1 e2;have wZW:∀z,z=zW->IntKind.i64.wrap z=z:=by rintro _ rfl;rw[qal];have:=HZW.out;have:=HSZ.out;omega
        have wZH:∀z,z=zH->IntKind.i64.wrap z=z:=by rintro _ rfl;rw[qal];have:=HZH.out;have:=HSZ.out;omega
        have wdp:=wqz (x:=(dp:Int));have wkd:=wqz (x:=(kd:Int));go_wp2_with fail;refine (HB1.out _).mono ?_;rintro e w9 ⟨rfl,rfl⟩;go_wp2_with fail;refine (HB2.out _).mono ?_;rintro e w9 ⟨rfl,rfl⟩;go_upto_region 14 with fail;repeat ((fail_if_success (refine wp_seq_k ?_));first | go_values | go_skip | go_guarded | go_step | go_upon | go_back)
        refine wp_seq_k (λ K1 hK1=>?_);obtain⟨m,hm⟩:=nmE (Png.byN kd);have HM:=Hd hm;go_cut [12] from 105 to 112 (λ s12 wx=>s12=.int .i64 (m:Int)/\wx=v4)
        case first=>
         unfold Png.byN at hm;by_cases k_0:kd=0
         ·have t_0:(((kd:Nat):Int) ==0)=true:=zav (by omega);have t_3:(((kd:Nat):Int) ==3)=false:=zal (by omega);have t_2:(((kd:Nat):Int) ==2)=false:=zal (by omega);have t_6:(((kd:Nat):Int) ==6)=false:=zal (by omega);subst k_0;simp at hm;have HMM:=Hd hm;clear hm;go_wp2_with fail;go_meet
          exact⟨by rw[<- HMM.out];rfl,rfl⟩
         have n_0:(((kd:Nat):Int) ==0)=false:=zal (by omega);by_cases k_3:kd=3
         ·have t_0:(((kd:Nat):Int) ==0)=false:=zal (by omega);have t_3:(((kd:Nat):Int) ==3)=true:=zav (by omega);have t_2:(((kd:Nat):Int) ==2)=false:=zal (by omega);have t_6:(((kd:Nat):Int) ==6)=false:=zal (by omega);subst k_3;simp at hm;have HMM:=Hd hm;clear hm k_0;go_wp2_with fail;go_meet
          exact⟨by rw[<- HMM.out];rfl,rfl⟩
         have n_3:(((kd:Nat):Int) ==3)=false:=zal (by omega);by_cases k_2:kd=2
         ·have t_0:(((kd:Nat):Int) ==0)=false:=zal (by omega);have t_3:(((kd:Nat):Int) ==3)=false:=zal (by omega);have t_2:(((kd:Nat):Int) ==2)=true:=zav (by omega);have t_6:(((kd:Nat):Int) ==6)=false:=zal (by omega);subst k_2;simp at hm;have HMM:=Hd hm;clear hm k_0 k_3;go_wp2_with fail;go_meet
          exact⟨by rw[<- HMM.out];rfl,rfl⟩
         have n_2:(((kd:Nat):Int) ==2)=false:=zal (by omega);by_cases k_6:kd=6
         ·have t_0:(((kd:Nat):Int) ==0)=false:=zal (by omega);have t_3:(((kd:Nat):Int) ==3)=false:=zal (by omega);have t_2:(((kd:Nat):Int) ==2)=false:=zal (by omega);have t_6:(((kd:Nat):Int) ==6)=true:=zav (by omega);subst k_6;simp at hm;have HMM:=Hd hm;clear hm k_0 k_3 k_2;go_wp2_with fail;go_meet
          exact⟨by rw[<- HMM.out];rfl,rfl⟩
         have n_6:(((kd:Nat):Int) ==6)=false:=zal (by omega);rw[qac k_0,qac k_2,qac k_3,qac k_6] at hm;clear k_0 k_2 k_3 k_6;have HMM:=Hd hm;clear hm;go_wp2_with fail;go_meet
         exact⟨by rw[<- HMM.out];rfl,rfl⟩
        obtain⟨rfl,hwx⟩:=hcut;have hwx:=hwx.symm;subst hwx;clear hm;obtain⟨fb,hfb⟩:∃b:Bool,decide (Png.depOk kd dp)=b:=⟨_,rfl⟩;have HFB:=Hd hfb;go_upto_region 23 with fail;go_cut [13] from 113 to 130 (λ s13 wx=>s13=.bool fb/\wx=v4)
        case first=>
         by_cases d_8:dp=8
         ·have t_8:(((dp:Nat):Int) ==8)=true:=zav (by omega);have hv:fb=true:=by rw[<- hfb];exact qae (.inl d_8)
          have HV:=Hd hv;clear hv hfb d_8;go_wp2_with fail;go_meet
          exact⟨by rw[HV.out],rfl⟩
         have t_8:(((dp:Nat):Int) ==8)=false:=zal (by omega);by_cases k_3:kd=3
         ·have t_3:(((kd:Nat):Int) ==3)=true:=zav (by omega);by_cases d_1:dp=1
          ·have t_1:(((dp:Nat):Int) ==1)=true:=zav (by omega);have hv:fb=true:=by rw[<- hfb];exact qae (.inr ⟨k_3,by omega⟩)
           have HV:=Hd hv;clear hv hfb d_8 k_3 d_1;go_wp2_with fail;go_meet
           exact⟨by rw[HV.out],rfl⟩
          have t_1:(((dp:Nat):Int) ==1)=false:=zal (by omega);by_cases d_2:dp=2
          ·have t_2:(((dp:Nat):Int) ==2)=true:=zav (by omega);have hv:fb=true:=by rw[<- hfb];exact qae (.inr ⟨k_3,by omega⟩)
           have HV:=Hd hv;clear hv hfb d_8 k_3 d_1 d_2;go_wp2_with fail;go_meet
           exact⟨by rw[HV.out],rfl⟩
          have t_2:(((dp:Nat):Int) ==2)=false:=zal (by omega);by_cases d_4:dp=4
          ·have t_4:(((dp:Nat):Int) ==4)=true:=zav (by omega);have hv:fb=true:=by rw[<- hfb];exact qae (.inr ⟨k_3,by omega⟩)
           exact Ygt3
          have t_4:(((dp:Nat):Int) ==4)=false:=zal (by omega);have hv:fb=false:=by rw[<- hfb];exact qaf (by rintro (h | ⟨_,h | h | h⟩) <;> omega)
          exact Ygt3
         have t_3:(((kd:Nat):Int) ==3)=false:=zal (by omega);have hv:fb=false:=by rw[<- hfb];exact qaf (by rintro (h | ⟨h,_⟩) <;> omega)
         have HV:=Hd hv;clear hv hfb d_8 k_3;go_wp2_with fail;go_meet
         exact⟨by rw[HV.out],rfl⟩
        obtain⟨rfl,hwx⟩:=hcut;have hwx:=hwx.symm;subst hwx;clear hfb;go_upto_region 24 with fail;obtain⟨bb,hbb⟩:∃b:Bool,decide ((m=0)\/(fb=false)\/(x0≠0)\/(x1≠0)\/(x2≠0))=b:=⟨_,rfl⟩;have HBB:=Hd hbb;clear hbb;go_cut [151,13] from 131 to 150 (λ sx s13 wx=>sx=.bool bb/\s13=.bool fb/\wx=v4)
        case first=>
         by_cases x_m:m=0
         ·have t_m:(((m:Nat):Int) ==0)=true:=zav (by omega);have HV:Hid (bb=true):=Hd (by rw[<- HBB.out];exact qae (.inl x_m));clear x_m;exact Ygt4
         have t_m:(((m:Nat):Int) ==0)=false:=zal (by omega);by_cases x_f:fb=false
         ·have y_f:fb=false:=x_f;have HV:Hid (bb=true):=Hd (by rw[<- HBB.out];exact qae (.inr (.inl x_f)));clear x_m x_f;exact Ygt4
         have y_f:fb=true:=by cases h:fb;exact absurd h x_f;rfl
         by_cases x_a:x0≠0
         ·have t_a:(((x0:Nat):Int) !=0)=true:=zbp (by omega);have HV:Hid (bb=true):=Hd (by rw[<- HBB.out];exact qae (.inr (.inr (.inl x_a))));clear x_m x_f x_a;exact Ygt4
         have t_a:(((x0:Nat):Int) !=0)=false:=zbm (by omega);by_cases x_b:x1≠0
         ·have t_b:(((x1:Nat):Int) !=0)=true:=zbp (by omega);have HV:Hid (bb=true):=Hd (by rw[<- HBB.out];exact qae (.inr (.inr (.inr (.inl x_b)))));clear x_m x_f x_a x_b;exact Ygt4
         have t_b:(((x1:Nat):Int) !=0)=false:=zbm (by omega);by_cases x_c:x2≠0
         ·have t_c:(((x2:Nat):Int) !=0)=true:=zbp (by omega);have HV:Hid (bb=true):=Hd (by rw[<- HBB.out];exact qae (.inr (.inr (.inr (.inr x_c)))));exact Ygt5
         have t_c:(((x2:Nat):Int) !=0)=false:=zbm (by omega);have HV:Hid (bb=false):=Hd (by
          rw[<- HBB.out];refine qaf ?_;rintro (h | h | h | h | h)
          ·exact x_m h
          ·exact x_f h
          ·exact x_a h
          ·exact x_b h
          exact x_c h)
         exact Ygt5
        obtain⟨rfl,rfl,hwx⟩:=hcut;have hwx:=hwx.symm;subst hwx;cases bb
        ·as_aux_lemma=>
          have HFT:Hid (m≠0/\Png.depOk kd dp):=Hd (by
           have q:=qa4 HBB.out;refine⟨λ x=>q (.inl x),?_⟩;have h2:fb=true:=by cases h:fb;exact absurd (.inr (.inl h)) q;rfl
           rw[<- HFB.out] at h2;exact qaU h2)
          rw[HGO.out,HM.out,qad (by
           have q:=qa4 HBB.out;exact⟨HFT.out.1,HFT.out.2,by omega,by omega,by omega⟩)] at hres
          (try simp only at hres);clear HBB HFB HGO q8 q9 q10 q11 q12 n8 n9 n10 n11 n12 n8i n9i n10i n11i n12i wZW wZH HDS HB1 HB2 HKS x0 x1 x2;have t_m:True:=trivial;obtain⟨l,hl⟩:=nmE (n-1);have hli:(n:Int)-1=(l:Int):=by omega
          have hln:l<(h ::L).length:=by rw[HN.out];omega
          obtain⟨lc,hlc⟩:∃c,(h ::L)[l]? =some c:=⟨_,qai hln⟩;obtain⟨c0,c1⟩:=S4.out.C.2 a rfl l lc hlc;have HLC:=Hd hlc;have HLL:=Hd hl;obtain⟨wa,wb⟩:=pwq (x:=(l:Int)) ⟨by omega,by omega⟩;have i0:(0:Int)<=(l:Int):=by omega
          have i1:(l:Int)<(n:Int):=by omega
          clear hlc hl hln;go_upto_region 27 with fail;refine zac (λ wz=>PoS w wz (some a) (h ::L) T6/\Ext v4 wz/\Bk wz v4.heap.size #[.string lc.k,.string lc.d]) ?hw ?_
          case hw=>exact⟨S4.out.ext ((Ext.refl _).alloc _),(Ext.refl _).alloc _,Bk.at rfl⟩
          rintro v5 ⟨hS,hO,hB⟩;obtain⟨T14,hT⟩:=nmE (v4.heap.size);rw[hT] at hB⊢;have S5:=Hd hS;have B5:=Hd hB;clear hS hO hB hT S4 c0 c1 wa wb i0 i1 hli;have y0:=B5.out.cell 0;have y1:=B5.out.cell 1;obtain⟨bb,hbb⟩:∃b:Bool,decide ((n<2)\/(lc.k≠Png.iend)\/(lc.d≠⟨#[]⟩))=b:=⟨_,rfl⟩;have HBB:=Hd hbb;clear hbb;go_cut [172] from 160 to 171 (λ sx wx=>sx=.bool bb/\wx=v5)
          case first=>
           by_cases x_n:n<2
           ·have t_n:=dT (p:=(n:Int)<(2:Int));have HV:Hid (bb=true):=Hd (by rw[<- HBB.out];exact qae (.inl x_n));clear x_n;go_wp2_with fail;go_meet
            exact⟨by rw[HV.out],rfl⟩
           have t_n:=dF (p:=(n:Int)<(2:Int));by_cases x_k:lc.k≠Png.iend
           ·have e1:=pkno x_k;have HV:Hid (bb=true):=Hd (by rw[<- HBB.out];exact qae (.inr (.inl x_k)));clear x_n x_k;go_wp2_with fail;go_meet
            exact⟨by rw[HV.out],rfl⟩
           have e1:=pkyes (qb1.1 x_k);by_cases x_d:lc.d≠⟨#[]⟩
           ·have e2:(lc.d.toList ==[])=false:=pkno x_d;have e3:lc.d.toList.isEmpty=false:=zcg _ (λ e=>x_d (bext (qav e)));have HV:Hid (bb=true):=Hd (by rw[<- HBB.out];exact qae (.inr (.inr x_d)));clear x_n x_k x_d;go_wp2_with fail;go_meet
            exact⟨by rw[HV.out],rfl⟩
           have e2:(lc.d.toList ==[])=true:=pkyes (qb1.1 x_d);have e3:lc.d.toList.isEmpty=true:=zbW _ (by rw[qb1.1 x_d];rfl);have HV:Hid (bb=false):=Hd (by
            rw[<- HBB.out];refine qaf ?_;rintro (h | h | h)
            ·exact x_n h
            ·exact x_k h
            exact x_d h)
           clear x_n x_k x_d;go_wp2_with fail;go_meet
           exact⟨by rw[HV.out],rfl⟩
          obtain⟨rfl,hwx⟩:=hcut;have hwx:=hwx.symm;subst hwx;clear y0 y1 B5;cases bb
          ·as_aux_lemma=>
            have HLO:Hid (Png.zcq L):=Hd (by
             have q:=qa4 HBB.out;refine (zf0 HN.out (by rw[HLL.out];exact HLC.out)).2 ⟨by omega,Decidable.byContradiction λ x=>q (.inr (.inl x)),Decidable.byContradiction λ x=>q (.inr (.inr x))⟩)
            have hn2:2<=n:=by have q:=qa4 HBB.out;omega
            clear HBB HLL HLC;obtain⟨ms,hms⟩:=nmE (L.dropLast);have HMS:=Hd hms;have hml:ms.length=n-2:=by rw[<- hms,List.length_dropLast,<- HN.out,qaR];omega
            clear hms;have HMO:Hid (∀c∈ms,c.Ok/\kindB c.k.data.toList=true):=Hd (λ q hq=>HOK.out q (qaQ _ (by rw[<- HMS.out] at hq;exact List.dropLast_subset _ hq)));have HMU:Hid (Png.sumC ms<=300000):=Hd (by have h1:=Png.zhW L;rw[HMS.out] at h1;have h2:=HSUM.out;have h3:Png.sumC (h ::L)=12+h.d.size+Png.sumC L:=rfl;have h4:=HS.out;omega);obtain⟨r0,hr0⟩:=nmE (Png.rd0 W H dp kd);have HR0:=Hd hr0;rw[hr0] at hres;have HFH:Hid (h.k≠Png.trns):=Hd (by rw[HH.out.1];decide);clear hr0;go_wp2_with fail;go_loopw [15,16,17,18,19,20] (λ cv av dv fv ev iv wr=>∃(i:Nat) (fi en:Int) (rr:Rd),cv=.string rr.colors/\av=.string rr.alphas/\dv=.string ⟨rr.data.toArray⟩/\fv=.int .i64 fi/\ev=.int .i64 en/\iv=.int .i64 (i:Int)/\1<=i/\i<=ms.length+1/\Hid (Png.runR r0 (ms.take (i-1))=rr/\Png.runB r0 (ms.take (i-1))=true/\Png.Doc rr i fi en (ms.take (i-1)))/\Hid (PoS w wr (some a) (h ::L) T6)) (λ _ _ _ _ _ iv _=>n-(intOf iv).toNat)
            case atStart=>exact⟨1,-1,-1,r0,by rw[<- HR0.out];rfl,by rw[<- HR0.out];rfl,by rw[<- HR0.out];rfl,rfl,rfl,rfl,by omega,by omega,Hd (by rw[<- HR0.out];exact⟨rfl,rfl,Png.Doc.start W H dp kd⟩),S5⟩
            case round=>
             clear S5;obtain⟨i,fi,en,rr,rfl,rfl,rfl,rfl,rfl,rfl,hi1,hi2,HRR,SI⟩:=hrel;have hi3:(i:Int)+1=((i+1:Nat):Int):=by omega
             obtain⟨ip,hip⟩:∃q:Nat,i+1=q:=⟨_,rfl⟩;rw[hip] at hi3;obtain⟨wa,wb⟩:=pwq (x:=(ip:Int)) ⟨by omega,by omega⟩;by_cases hlt:ip<n
             ·as_aux_lemma=>
               have t1:=dT (p:=(ip:Int)<(n:Int));have hmk:i-1<ms.length:=by omega
               obtain⟨ck,hck⟩:=nmE (ms[i-1]);have hci:(h ::L)[i]? =some ck:=by
                have hq:i-1<L.dropLast.length:=by rw[HMS.out];exact hmk
                rw[zjt hi1 hq,<- hck];congr 1
                exact getElem_congr_coll HMS.out
               obtain⟨c0,c1⟩:=SI.out.C.2 a rfl i ck hci;have hmg:ms[i-1]? =some ck:=by rw[qai hmk,hck]
               have hmem:ck∈ms:=qa5 hmg;have HMG:=Hd hmg;have HCO:=Hd (HMO.out ck hmem).1;have HCK:=Hd (HMO.out ck hmem).2;clear hmem hmg hci;have HTK:Hid (ms.take (ip-1)=ms.take (i-1) ++ [ck]):=Hd (by rw[show ip-1=i-1+1 by omega,qbS,HMG.out];rfl);clear hck;have HNX:Hid (∀(fi2 en2:Int),Png.onB rr ck=true->Png.Doc (Png.onR rr ck) (i+1) fi2 en2 (ms.take (i-1) ++ [ck])->Png.runR r0 (ms.take (ip-1))=Png.onR rr ck/\Png.runB r0 (ms.take (ip-1))=true/\Png.Doc (Png.onR rr ck) ip fi2 en2 (ms.take (ip-1))):=Hd (λ f2 e2 hb hd=>by
                rw[HTK.out,Png.zgY,Png.zd9,HRR.out.1,HRR.out.2.1,hb];rw[hip] at hd;exact⟨rfl,rfl,hd⟩)
               have HBAD:Hid (Png.onB rr ck=false->res=.bad 0):=Hd (λ q=>by
                rw[<- hres];refine Png.zga (λ q2=>?_);have q3:=q2.2;rw[HMS.out,Png.zpw HMG.out HRR.out.1 q] at q3;cases q3)
               have HLN:Hid (rr.data.length<=300000):=Hd (by rw[<- HRR.out.1];have q:=Png.zev r0 (ms.take (i-1));have q2:=Png.zfd ms (i-1);have q3:=HMU.out;have q4:r0.data.length=0:=(by rw[<- HR0.out];rfl);omega);have HCL:Hid (rr.colors.size<=300000/\rr.alphas.size<=300000/\rr.kind=kd/\rr.depth=dp):=Hd (by
                have q2:=Png.zcx r0 (ms.take (i-1));rw[HRR.out.1] at q2;have q:=Png.zes r0 (ms.take (i-1)) (by rw[<- HR0.out];exact⟨by show (0:Nat)<=_;omega,by show (0:Nat)<=_;omega⟩) (λ q hq=>(HMO.out q (List.mem_of_mem_take hq)).1);rw[HRR.out.1] at q;exact⟨q.1,q.2,by rw[q2.2.2.2,<- HR0.out];rfl,by rw[q2.2.2.1,<- HR0.out];rfl⟩)
               have i0:(0:Int)<=(i:Int):=by omega
               have i1:(i:Int)<(n:Int):=by omega
               go_upto_region 38 with fail;refine zac (λ wz=>PoS w wz (some a) (h ::L) T6/\Bk wz wr.heap.size #[.string ck.k,.string ck.d]) ?hw ?_
               case hw=>exact⟨SI.out.ext ((Ext.refl _).alloc _),Bk.at rfl⟩
               rintro z1 ⟨hS,hB⟩;obtain⟨T21,hT⟩:=nmE (wr.heap.size);rw[hT] at hB⊢;have S1:=Hd hS;have B1:=Hd hB;clear hS hB hT SI c0 c1 i0 i1;have y0:=B1.out.cell 0;have y1:=B1.out.cell 1;by_cases h_i:ck.k=Png.idat
               ·as_aux_lemma=>
                 have e_i:=pkyes h_i;have H_i:=Hd h_i;clear h_i;obtain⟨im,him⟩:∃q:Int,(i:Int)-1=q:=⟨_,rfl⟩;have HIM:=Hd him;obtain⟨wc_,wd_⟩:=pwq (x:=im) ⟨by omega,by omega⟩;have HB:Hid (Png.onB rr ck=true↔¬ (0<=en/\en≠im)):=Hd (by rw[<- HIM.out];exact Png.zox HRR.out.2.2 H_i.out);have HON:=Hd (Png.zoq (r:=rr) H_i.out);have HDC:=Hd (HRR.out.2.2.idat hi1 H_i.out);obtain⟨f2,hf2⟩:∃q:Int,(if fi<0 then (i:Int) else fi)=q:=⟨_,rfl⟩;rw[hf2] at HDC;go_upto_if 191 with fail
                 go_cut [18] from 175 to 192 (λ s18 wx=>s18=.int .i64 f2/\wx=z1)
                 case first=>
                  by_cases x:fi<0
                  ·have t_f:decide (fi<(0:Int))=true:=qae x;rw[qad x] at hf2;have HF:=Hd hf2;clear hf2;go_wp2_with fail;go_meet
                   exact⟨by rw[HF.out],rfl⟩
                  have t_f:decide (fi<(0:Int))=false:=qaf x;rw[qac x] at hf2;have HF:=Hd hf2;clear hf2;go_wp2_with fail;go_meet
                  exact⟨by rw[HF.out],rfl⟩
                 obtain⟨rfl,hwx⟩:=hcut;have hwx:=hwx.symm;subst hwx;clear hf2;obtain⟨bb,hbb⟩:∃b:Bool,decide (0<=en/\en≠im)=b:=⟨_,rfl⟩;have HBB:=Hd hbb;clear hbb;go_upto_region 41 with fail;go_cut [200] from 193 to 199 (λ sx wx=>sx=.bool bb/\wx=z1)
                 case first=>
                  by_cases x:0<=en
                  ·have t_e:decide ((0:Int)<=en)=true:=qae x;by_cases x2:en=im
                   ·have t_n:(en !=im)=false:=zbm x2;have HV:Hid (bb=false):=Hd (by rw[<- HBB.out];exact qaf (λ q=>q.2 x2));clear x x2;go_wp2_with fail;go_meet
                    exact⟨by rw[HV.out],rfl⟩
                   have t_n:(en !=im)=true:=zbp x2;have HV:Hid (bb=true):=Hd (by rw[<- HBB.out];exact qae ⟨x,x2⟩);clear x x2;go_wp2_with fail;go_meet
                   exact⟨by rw[HV.out],rfl⟩
                  have t_e:decide ((0:Int)<=en)=false:=qaf x;have HV:Hid (bb=false):=Hd (by rw[<- HBB.out];exact qaf (λ q=>x q.1));clear x;go_wp2_with fail;go_meet
                  exact⟨by rw[HV.out],rfl⟩
                 obtain⟨rfl,hwx⟩:=hcut;have hwx:=hwx.symm;subst hwx;clear him;cases bb
                 ·as_aux_lemma=>
                   have hsz:¬ 9223372036854775807<rr.data.toArray.size+ck.d.size:=by have:=HLN.out;have:=HCO.out.d;rw[qb5];omega
                   obtain⟨A,hA⟩:∃q:ByteArray,⟨rr.data.toArray⟩=q:=⟨_,rfl⟩;have HA:=Hd hA;have hsz:¬ 9223372036854775807<A.size+ck.d.size:=by rw[<- hA];exact hsz
                   rw[hA];clear hA;have HCAT:Hid (A++ck.d=⟨(Png.onR rr ck).data.toArray⟩):=Hd (by rw[HON.out,<- HA.out];apply bext;simp);go_wp2_with fail;go_roundw
                   case rel=>exact⟨ip,f2,(i:Int),Png.onR rr ck,by rw[HON.out],by rw[HON.out],by rw[HCAT.out],rfl,rfl,by first | rfl | go_num,by omega,by omega,Hd (HNX.out _ _ (HB.out.2 (qa4 HBB.out)) (HDC.out)),S1⟩
                   case measure=>simp[intOf];omega
                 ·as_aux_lemma=>
                   have hbad:=HBAD.out (by cases q:Png.onB rr ck;rfl;exact absurd (qaU HBB.out) (HB.out.1 q));clear hres HBAD HNX;subst hbad;go_upto_region 42 with fail;exact Ygt6
               ·as_aux_lemma=>
                 by_cases h_p:ck.k=Png.plte
                 ·as_aux_lemma=>
                   have e_i:=pkno h_i;have e_p:=pkyes h_p;have H_i:=Hd h_i;have H_p:=Hd h_p;clear h_i h_p;have HON:=Hd (Png.zor (r:=rr) H_p.out);obtain⟨mo,hmo⟩:=nmE (Png.mostN rr);have HMOST:=Hd hmo;obtain⟨N,hN⟩:=nmE (ck.d.size);obtain⟨m3,hm3⟩:=nmE (N%3);obtain⟨q3,hq3⟩:=nmE (N/3);have HB:Hid (Png.onB rr ck=true↔¬ (rr.colors.size≠0\/rr.alphas.size≠0\/0<=fi\/kd=0\/N=0\/m3≠0\/mo<q3)):=Hd (by
                    have q:=Png.znQ HRR.out.2.2 H_p.out;rw[HCL.out.2.2.1,HMOST.out,hN,hm3,hq3] at q;exact q)
                   have hNb:N<=300000:=by rw[<- hN];exact HCO.out.d
                   have hrem:(N:Int).tmod 3=(m3:Int):=by rw[<- hm3];rfl
                   have hquo:(N:Int).tdiv 3=(q3:Int):=by rw[<- hq3];rfl
                   have hq3b:q3<=300000:=by omega
                   have hm3b:m3<3:=by omega
                   have HNN:=Hd hN;clear hm3 hq3;obtain⟨wc_,wd_⟩:=pwq (x:=(q3:Int)) ⟨by omega,by omega⟩;obtain⟨we_,wf_⟩:=pwq (x:=(m3:Int)) ⟨by omega,by omega⟩;go_upto_if 216 with fail
                   clear hN;go_cut [23] from 208 to 218 (λ s23 wx=>s23=.int .i64 (mo:Int)/\wx=z1)
                   case first=>
                    by_cases k3:kd=3
                    ·have e3:(((kd:Nat):Int) ==3)=true:=zav (by omega);have HM2:Hid (mo=2^dp):=Hd (by rw[<- HMOST.out];unfold Png.mostN;rw[qad (by rw[HCL.out.2.2.1];exact k3),HCL.out.2.2.2]);have hI:dp=1\/dp=2\/dp=4\/dp=8:=by rcases HFT.out.2 with q | ⟨_,q | q | q⟩ <;> omega
                     clear hmo;rcases hI with rfl | rfl | rfl | rfl
                     ·go_wp2_with fail;go_meet
                      exact⟨by rw[HM2.out];rfl,rfl⟩
                     ·go_wp2_with fail;go_meet
                      exact⟨by rw[HM2.out];rfl,rfl⟩
                     ·go_wp2_with fail;go_meet
                      exact⟨by rw[HM2.out];rfl,rfl⟩
                     go_wp2_with fail;go_meet
                     exact⟨by rw[HM2.out];rfl,rfl⟩
                    have e3:(((kd:Nat):Int) ==3)=false:=zal (by omega);have HM2:Hid (mo=256):=Hd (by rw[<- HMOST.out];unfold Png.mostN;rw[qac (by rw[HCL.out.2.2.1];exact k3)]);clear hmo;go_wp2_with fail;go_meet
                    exact⟨by rw[HM2.out];rfl,rfl⟩
                   obtain⟨rfl,hwx⟩:=hcut;have hwx:=hwx.symm;subst hwx;clear hmo;go_upto_region 50 with fail;obtain⟨bb,hbb⟩:∃b:Bool,decide ((rr.colors.size≠0)\/(rr.alphas.size≠0)\/(0<=fi)\/(kd=0)\/(N=0)\/(m3≠0)\/(mo<q3))=b:=⟨_,rfl⟩;have HBB:=Hd hbb;clear hbb;go_cut [247] from 219 to 246 (λ sx wx=>sx=.bool bb/\wx=z1)
                   case first=>
                    by_cases x_c:rr.colors.size≠0
                    ·have v_c:(rr.colors.toList ==[])=false:=pkno (λ e=>x_c (by rw[e];rfl));have u_c:rr.colors.toList.isEmpty=false:=zcg _ x_c;have HV:Hid (bb=true):=Hd (by rw[<- HBB.out];exact qae (.inl x_c));clear x_c;go_wp2_with fail;go_meet
                     exact⟨by rw[HV.out],rfl⟩
                    have v_c:(rr.colors.toList ==[])=true:=pkyes (s:=rr.colors) (l:=[]) (bext (qav (qb1.1 x_c)));have u_c:rr.colors.toList.isEmpty=true:=zbW _ (qb1.1 x_c);by_cases x_a:rr.alphas.size≠0
                    ·have v_a:(rr.alphas.toList ==[])=false:=pkno (λ e=>x_a (by rw[e];rfl));have u_a:rr.alphas.toList.isEmpty=false:=zcg _ x_a;have HV:Hid (bb=true):=Hd (by rw[<- HBB.out];exact qae (.inr (.inl x_a)));clear x_c x_a;go_wp2_with fail;go_meet
                     exact⟨by rw[HV.out],rfl⟩
                    have v_a:(rr.alphas.toList ==[])=true:=pkyes (s:=rr.alphas) (l:=[]) (bext (qav (qb1.1 x_a)));have u_a:rr.alphas.toList.isEmpty=true:=zbW _ (qb1.1 x_a);by_cases x_f:0<=fi
                    ·have t_f:=dT (p:=(0:Int)<=fi);have HV:Hid (bb=true):=Hd (by rw[<- HBB.out];exact qae (.inr (.inr (.inl x_f))));clear x_c x_a x_f;go_wp2_with fail;go_meet
                     exact⟨by rw[HV.out],rfl⟩
                    have t_f:=dF (p:=(0:Int)<=fi);by_cases x_k:kd=0
                    ·have t_k:(((kd:Nat):Int) ==0)=true:=zav (by omega);have HV:Hid (bb=true):=Hd (by rw[<- HBB.out];exact qae (.inr (.inr (.inr (.inl x_k)))));clear x_c x_a x_f x_k;go_wp2_with fail;go_meet
                     exact⟨by rw[HV.out],rfl⟩
                    have t_k:(((kd:Nat):Int) ==0)=false:=zal (by omega);by_cases x_n:N=0
                    ·have t_n:(((N:Nat):Int) ==0)=true:=zav (by omega);have HV:Hid (bb=true):=Hd (by rw[<- HBB.out];exact qae (.inr (.inr (.inr (.inr (.inl x_n))))));clear x_c x_a x_f x_k x_n;go_wp2_with fail;go_meet
                     exact⟨by rw[HV.out],rfl⟩
                    have t_n:(((N:Nat):Int) ==0)=false:=zal (by omega);by_cases x_m:m3≠0
                    ·have t_m:(((m3:Nat):Int) !=0)=true:=zbp (by omega);have HV:Hid (bb=true):=Hd (by rw[<- HBB.out];exact qae (.inr (.inr (.inr (.inr (.inr (.inl x_m)))))));clear x_c x_a x_f x_k x_n x_m;go_wp2_with fail;go_meet
                     exact⟨by rw[HV.out],rfl⟩
                    have t_m:(((m3:Nat):Int) !=0)=false:=zbm (by omega);by_cases x_q:mo<q3
                    ·have t_q:=dT (p:=(mo:Int)<(q3:Int));have n_q:mo<q3:=x_q;have HV:Hid (bb=true):=Hd (by rw[<- HBB.out];exact qae (.inr (.inr (.inr (.inr (.inr (.inr x_q)))))));clear x_c x_a x_f x_k x_n x_m x_q;go_wp2_with fail;go_meet
                     exact⟨by rw[HV.out],rfl⟩
                    have t_q:=dF (p:=(mo:Int)<(q3:Int));have n_q:¬ mo<q3:=x_q;have HV:Hid (bb=false):=Hd (by
                     rw[<- HBB.out];refine qaf ?_;rintro (h | h | h | h | h | h | h)
                     ·exact x_c h
                     ·exact x_a h
                     ·exact x_f h
                     ·exact x_k h
                     ·exact x_n h
                     ·exact x_m h
                     exact x_q h)
                    clear x_c x_a x_f x_k x_n x_m x_q;go_wp2_with fail;go_meet
                    exact⟨by rw[HV.out],rfl⟩
                   obtain⟨rfl,hwx⟩:=hcut;have hwx:=hwx.symm;subst hwx;cases bb
                   ·as_aux_lemma=>
                     have HGO2:=Hd (HB.out.2 (qa4 HBB.out));have HDC:=Hd (HRR.out.2.2.plte H_p.out (by have q:=qa4 HBB.out;rw[HNN.out];exact λ x=>q (.inr (.inr (.inr (.inr (.inl x)))))));exact Ygt7
                   ·as_aux_lemma=>
                     have hbad:=HBAD.out (by cases q:Png.onB rr ck;rfl;exact absurd (qaU HBB.out) (HB.out.1 q));clear hres HBAD HNX;subst hbad;go_upto_region 51 with fail;exact Ygt6
                 ·as_aux_lemma=>
                   by_cases h_t:ck.k=Png.trns
                   ·as_aux_lemma=>
                     have e_i:=pkno h_i;have e_p:=pkno h_p;have e_t:=pkyes h_t;have H_i:=Hd h_i;have H_p:=Hd h_p;have H_t:=Hd h_t;clear h_i h_p h_t;have HON:=Hd (Png.zok (r:=rr) H_t.out);obtain⟨N,hN⟩:=nmE (ck.d.size);obtain⟨cs,hcs⟩:=nmE (rr.colors.size);obtain⟨q3,hq3⟩:=nmE (cs/3);have HB:Hid (Png.onB rr ck=true↔¬ (rr.ha=true\/cs=0\/0<=fi\/kd≠3\/q3<N)):=Hd (by
                      have q:=Png.zov HRR.out.2.2 H_t.out;rw[HCL.out.2.2.1,hN,hcs,hq3] at q;exact q)
                     have hNb:N<=300000:=by rw[<- hN];exact HCO.out.d
                     have hcb:cs<=300000:=by rw[<- hcs];exact HCL.out.1
                     have hquo:(cs:Int).tdiv 3=(q3:Int):=by rw[<- hq3];rfl
                     have hq3b:q3<=300000:=by omega
                     have HNN:=Hd hN;have HCS:=Hd hcs;clear hq3;obtain⟨wc_,wd_⟩:=pwq (x:=(q3:Int)) ⟨by omega,by omega⟩;obtain⟨T,hTT⟩:=nmE ((h ::L).take i);have hTl:T.length=i:=by rw[<- hTT,qax,HN.out];omega
                     obtain⟨hb_,hhb⟩:∃b:Bool,decide (∃c∈T,c.k=Png.trns)=b:=⟨_,rfl⟩;have HHB:Hid (hb_=true↔rr.ha=true):=Hd (by
                      rw[<- hhb,qaP,HRR.out.2.2.tr];have e:T=h ::ms.take (i-1):=by
                       rw[<- hTT];obtain⟨j,rfl⟩:∃j,i=j+1:=⟨i-1,by omega⟩;rw[qao];congr 1
                       show L.take j=ms.take j;rw[<- HMS.out,List.dropLast_eq_take,List.take_take];congr 1
                       have q1:=HN.out;rw[qaR] at q1;omega
                      rw[e];constructor
                      ·rintro⟨c,hc,q⟩;rcases qbd.1 hc with rfl | hc
                       ·exact absurd q HFH.out
                       exact⟨c,hc,q⟩
                      rintro⟨c,hc,q⟩;exact⟨c,qaQ _ hc,q⟩)
                     have HHK:Hid (∀cp,Calls Tryz.prog 49 #[.slice (some a) i cp,.string Png.trns] z1 λ e w'=>e=.returned (.bool hb_)/\z1=w'):=Hd (λ cp=>by have q:=ziH (some a) cp T Png.trns z1 (by rw[<- hTT];exact S1.out.C.take i) (by rw[hTl];omega);rw[hTl,hhb] at q;exact q);clear hhb hTT hTl;unfold Png.trns at HHK;have hic:i<=c:=by have:=HCAP.out;have:=HN.out;omega
                     have hic2:(i:Int)<=(c:Int):=by omega
                     have i0:(0:Int)<=(i:Int):=by omega
                     go_upto_region 54 with fail;obtain⟨bb,hbb⟩:∃b:Bool,decide ((hb_=true)\/(cs=0)\/(0<=fi)\/(kd≠3)\/(q3<N))=b:=⟨_,rfl⟩;have HBB:=Hd hbb;clear hbb;go_cut [280] from 256 to 279 (λ sx wx=>sx=.bool bb/\wx=z1)
                     case first=>
                      by_cases x_h:hb_=true
                      ·have y_h:hb_=true:=x_h;have HV:Hid (bb=true):=Hd (by rw[<- HBB.out];exact qae (.inl x_h));clear x_h;exact Ygt8
                      have y_h:hb_=false:=by cases q:hb_;rfl;exact absurd q x_h
                      by_cases x_c:cs=0
                      ·have v_c:(rr.colors.toList ==[])=true:=pkyes (s:=rr.colors) (l:=[]) (bext (qav (hcs.trans x_c)));have u_c:rr.colors.toList.isEmpty=true:=zbW _ (hcs.trans x_c);have HV:Hid (bb=true):=Hd (by rw[<- HBB.out];exact qae (.inr (.inl x_c)));clear x_h x_c;exact Ygt8
                      have v_c:(rr.colors.toList ==[])=false:=pkno (λ e=>x_c (hcs.symm.trans (by rw[e];rfl)));have u_c:rr.colors.toList.isEmpty=false:=zcg _ (λ e=>x_c (hcs.symm.trans e));by_cases x_f:0<=fi
                      ·have t_f:=dT (p:=(0:Int)<=fi);have HV:Hid (bb=true):=Hd (by rw[<- HBB.out];exact qae (.inr (.inr (.inl x_f))));clear x_h x_c x_f;exact Ygt8
                      have t_f:=dF (p:=(0:Int)<=fi);by_cases x_k:kd≠3
                      ·have t_k:(((kd:Nat):Int) !=3)=true:=zbp (by omega);have HV:Hid (bb=true):=Hd (by rw[<- HBB.out];exact qae (.inr (.inr (.inr (.inl x_k)))));clear x_h x_c x_f x_k;exact Ygt8
                      have t_k:(((kd:Nat):Int) !=3)=false:=zbm (by omega);by_cases x_q:q3<N
                      ·have t_q:=dT (p:=(q3:Int)<(N:Int));have n_q:q3<N:=x_q;have HV:Hid (bb=true):=Hd (by rw[<- HBB.out];exact qae (.inr (.inr (.inr (.inr x_q)))));exact Ygt9
                      have t_q:=dF (p:=(q3:Int)<(N:Int));have n_q:¬ q3<N:=x_q;have HV:Hid (bb=false):=Hd (by
                       rw[<- HBB.out];refine qaf ?_;rintro (h | h | h | h | h)
                       ·exact x_h h
                       ·exact x_c h
                       ·exact x_f h
                       ·exact x_k h
                       exact x_q h)
                      exact Ygt9
                     obtain⟨rfl,hwx⟩:=hcut;have hwx:=hwx.symm;subst hwx;clear hN hcs;cases bb
                     ·as_aux_lemma=>
                       have HGO2:=Hd (HB.out.2 (λ q=>qa4 HBB.out (by
                        rcases q with x | x | x | x | x
                        ·exact .inl (HHB.out.2 x)
                        ·exact .inr (.inl x)
                        ·exact .inr (.inr (.inl x))
                        ·exact .inr (.inr (.inr (.inl x)))
                        exact .inr (.inr (.inr (.inr x))))))
                       have HDC:=Hd (HRR.out.2.2.trns H_t.out (HRR.out.2.2.hc.2 (λ x=>qa4 HBB.out (.inr (.inl (HCS.out.symm.trans x))))));exact Ygt7
                     ·as_aux_lemma=>
                       have hbad:=HBAD.out (by cases q:Png.onB rr ck;rfl;refine absurd ?_ (HB.out.1 q);rcases qaU HBB.out with x | x | x | x | x;exact .inl (HHB.out.1 x);exact .inr (.inl x);exact .inr (.inr (.inl x));exact .inr (.inr (.inr (.inl x)));exact .inr (.inr (.inr (.inr x))));clear hres HBAD HNX;subst hbad;go_upto_region 55 with fail;exact Ygt6
                   ·as_aux_lemma=>
                     have e_i:=pkno h_i;have H_i:=Hd h_i;have e_p:=pkno h_p;have H_p:=Hd h_p;have e_t:=pkno h_t;have H_t:=Hd h_t;clear h_i h_p h_t;have HON:=Hd (Png.znO (r:=rr) H_i.out H_p.out H_t.out);have HDC:=Hd (HRR.out.2.2.same H_t.out H_i.out);have HKZ:Hid (ck.k.size=4):=Hd (by have q:=HCK.out;unfold kindB at q;rw[Bool.and_eq_true,qaP] at q;exact q.1);have k0:0<ck.k.size:=by have:=HKZ.out;omega
                     have k0i:(0:Int)<(ck.k.size:Int):=by omega
                     obtain⟨u,hu⟩:=nmE ((ck.k.data.toList.getD 0 0).toNat);have HB:Hid (Png.onB rr ck=true↔¬ (u<=90)):=Hd (by rw[<- hu];exact Png.zmJ HCK.out H_i.out H_p.out H_t.out);have q0:((ck.k[0]:UInt8).toNat:Int)=(u:Int):=by rw[<- hu,<- zar ck.k 0 k0]
                     clear hu;have HDC2:Hid (Png.Doc (Png.onR rr ck) (i+1) fi en (ms.take (i-1) ++ [ck])):=Hd (by rw[HON.out];exact HDC.out);by_cases x:u<=90
                     ·as_aux_lemma=>
                       have t_u:=dT (p:=(u:Int)<=(90:Int));have HX:=Hd x;have hbad:=HBAD.out (by cases q:Png.onB rr ck;rfl;exact absurd HX.out (HB.out.1 q));clear hres HBAD HNX;subst hbad;go_upto_region 58 with fail;exact Ygt6
                     ·as_aux_lemma=>
                       have t_u:=dF (p:=(u:Int)<=(90:Int));have HGO2:=Hd (HB.out.2 x);go_wp2_with fail;go_roundw
                       case rel=>exact⟨ip,fi,en,Png.onR rr ck,by rw[HON.out],by rw[HON.out],by rw[HON.out],rfl,rfl,by first | rfl | go_num,by omega,by omega,Hd (HNX.out _ _ (HGO2.out) (HDC2.out)),S1⟩
                       case measure=>simp[intOf];omega
             ·as_aux_lemma=>
               have t1:=dF (p:=(ip:Int)<(n:Int));have hie:i-1=ms.length:=by omega
               rw[hie,List.take_length] at HRR;have HSM:Hid (rr.wide=W/\rr.high=H/\rr.depth=dp/\rr.kind=kd):=Hd (by
                have q:=Png.zcx r0 ms;rw[HRR.out.1,<- HR0.out] at q;exact q)
               have HLN:Hid (rr.data.length<=300000):=Hd (by rw[<- HRR.out.1];have q:=Png.zev r0 ms;have q3:=HMU.out;have q4:r0.data.length=0:=(by rw[<- HR0.out];rfl);omega);have HCL:Hid (rr.colors.size<=300000/\rr.alphas.size<=300000):=Hd (by rw[<- HRR.out.1];exact Png.zes r0 ms (by rw[<- HR0.out];exact⟨by show (0:Nat)<=_;omega,by show (0:Nat)<=_;omega⟩) (λ q hq=>(HMO.out q hq).1));have H3:Hid (rr.colors.size%3=0):=Hd (by rw[<- HRR.out.1];exact Png.zgw r0 ms (by rw[<- HR0.out];rfl) HRR.out.2.1);have HRL:Hid (Png.runR r0 L.dropLast=rr):=Hd (by rw[HMS.out];exact HRR.out.1);have HBL:Hid (Png.zcq L/\Png.runB r0 L.dropLast=true):=Hd ⟨HLO.out,by rw[HMS.out];exact HRR.out.2.1⟩;have HDO:=Hd HRR.out.2.2;clear HRR HMU HMO hie hi3 wa wb;obtain⟨bb,hbb⟩:∃b:Bool,decide (fi<0\/(kd=3/\rr.colors.size=0))=b:=⟨_,rfl⟩;have HBB:=Hd hbb;clear hbb;go_upto_region 59 with fail;go_cut [301] from 292 to 300 (λ sx wx=>sx=.bool bb/\wx=wr)
               case first=>
                by_cases x_f:fi<0
                ·have t_f:decide (fi<(0:Int))=true:=qae x_f;have HV:Hid (bb=true):=Hd (by rw[<- HBB.out];exact qae (.inl x_f));clear x_f;go_wp2_with fail;go_meet
                 exact⟨by rw[HV.out],rfl⟩
                have t_f:decide (fi<(0:Int))=false:=qaf x_f;by_cases k3:kd=3
                ·have t_k:(((kd:Nat):Int) ==3)=true:=zav (by omega);by_cases x_c:rr.colors.size≠0
                 ·have v_c:(rr.colors.toList ==[])=false:=pkno (λ e=>x_c (by rw[e];rfl));have u_c:rr.colors.toList.isEmpty=false:=zcg _ x_c;have HV:Hid (bb=false):=Hd (by rw[<- HBB.out];exact qaf (by rintro (q | q);exact x_f q;exact x_c q.2));clear x_f x_c k3;go_wp2_with fail;go_meet
                  exact⟨by rw[HV.out],rfl⟩
                 have v_c:(rr.colors.toList ==[])=true:=pkyes (s:=rr.colors) (l:=[]) (bext (qav (qb1.1 x_c)));have u_c:rr.colors.toList.isEmpty=true:=zbW _ (qb1.1 x_c);have HV:Hid (bb=true):=Hd (by rw[<- HBB.out];exact qae (.inr ⟨k3,qb1.1 x_c⟩));clear x_f x_c k3;go_wp2_with fail;go_meet
                 exact⟨by rw[HV.out],rfl⟩
                have t_k:(((kd:Nat):Int) ==3)=false:=zal (by omega);have HV:Hid (bb=false):=Hd (by rw[<- HBB.out];exact qaf (by rintro (q | q);exact x_f q;exact k3 q.1));clear x_f k3;go_wp2_with fail;go_meet
                exact⟨by rw[HV.out],rfl⟩
               obtain⟨rfl,hwx⟩:=hcut;have hwx:=hwx.symm;subst hwx;cases bb
               ·as_aux_lemma=>
                 have hgo:=Png.zkb HBL.out HRL.out (by
                  have q:=qa4 HBB.out;rintro (x | x)
                  ·exact q (.inl (HDO.out.ff.2 x))
                  exact q (.inr ⟨by rw[<- HSM.out.2.2.2];exact x.1,by
                   have q2:=x.2;by_cases z:rr.colors.size=0
                   ·exact z
                   rw[HDO.out.hc.2 z] at q2;cases q2⟩))
                 rw[hgo] at hres;clear hgo HBB HDO HRL HBL HLO;obtain rfl:(W:Int)=zW:=HZW.out;obtain rfl:(H:Int)=zH:=HZH.out;clear HZW HZH;obtain⟨wd,hwd⟩:=nmE (Png.rowN rr);have HWD:=Hd hwd;have HBY:Hid (Png.byN rr.kind=m):=Hd (by rw[HSM.out.2.2.2];exact HM.out);rw[hwd,HBY.out,HSM.out.1,HSM.out.2.1] at hres;have hw1:1<=W/\W<=256:=⟨HSZ.out.1,HSZ.out.2.1⟩;have hh1:1<=H/\H<=256:=HSZ.out.2.2;have hm4:m<=4/\1<=m:=by rw[<- HM.out];exact⟨Png.zfh _,by have q:=HFT.out.1;rw[<- HM.out] at q;omega⟩
                 have hd8:dp<=8/\1<=dp:=by rcases HFT.out.2 with h | ⟨_,h | h | h⟩ <;> omega
                 obtain⟨p1,hp1⟩:∃q:Nat,W*m=q:=⟨_,rfl⟩;obtain⟨p2,hp2⟩:∃q:Nat,p1*dp=q:=⟨_,rfl⟩;have hp1b:1<=p1/\p1<=1024:=by rw[<- hp1];exact⟨qaE hw1.1 hm4.2,qaE hw1.2 hm4.1⟩
                 have hp2b:1<=p2/\p2<=8192:=by rw[<- hp2];exact⟨qaE hp1b.1 hd8.2,qaE hp1b.2 hd8.1⟩
                 have hwv:(p2+7)/8=wd:=by rw[<- hwd];unfold Png.rowN;rw[HSM.out.1,HBY.out,HSM.out.2.2.1,hp1,hp2]
                 have HP8:Hid (dp=8->p1=wd):=Hd (λ e=>by subst e;omega);have m1:(W:Int)*(m:Int)=(p1:Int):=by rw[<- hp1];push_cast;rfl
                 have m2:(p1:Int)*(dp:Int)=(p2:Int):=by rw[<- hp2];push_cast;rfl
                 have m3:((p2:Int)+7).tdiv 8=(wd:Int):=by rw[<- hwv];rfl
                 have hwdb:1<=wd/\wd<=1100:=by omega
                 obtain⟨wa1,wb1⟩:=pwq (x:=(p1:Int)) ⟨by omega,by omega⟩;obtain⟨wa2,wb2⟩:=pwq (x:=(p2:Int)) ⟨by omega,by omega⟩;obtain⟨wa3,wb3⟩:=pwq (x:=(p2:Int)+7) ⟨by omega,by omega⟩;obtain⟨wa4,wb4⟩:=pwq (x:=(wd:Int)) ⟨by omega,by omega⟩;have HPP:=Hd (qaB hp1 hp2);clear hp1 hp2 hwv hwd;go_upto_if 312 with fail
                 go_cut [24] from 304 to 315 (λ s24 wx=>s24=.int .i64 (wd:Int)/\wx=wr)
                 case first=>
                  by_cases k3:kd=3
                  ·have t_k:(((kd:Nat):Int) ==3)=true:=zav (by omega);have t_k2:(((kd:Nat):Int) !=3)=false:=zbm (by omega);have k3a:kd<=3:=by omega
                   have k3b:3<=kd:=by omega
                   clear k3;go_wp2_with fail;go_meet
                   exact⟨rfl,rfl⟩
                  have t_k:(((kd:Nat):Int) ==3)=false:=zal (by omega);have t_k2:(((kd:Nat):Int) !=3)=true:=zbp (by omega);have HPE:Hid (p1=wd):=Hd (HP8.out (by rcases HFT.out.2 with h | ⟨h,_⟩;exact h;exact absurd h k3));go_wp2_with fail;go_meet
                  exact⟨by rw[HPE.out],rfl⟩
                 obtain⟨rfl,hwx⟩:=hcut;have hwx:=hwx.symm;subst hwx;clear m1 m2 m3 wa1 wb1 wa2 wb2 wa3 wb3 wa4 wb4;obtain⟨u1,hu1⟩:∃q:Nat,wd+1=q:=⟨_,rfl⟩;obtain⟨P4n,hP4⟩:∃q:Nat,H*u1=q:=⟨_,rfl⟩;have m1:(wd:Int)+1=(u1:Int):=by omega
                 have m2:(H:Int)*(u1:Int)=(P4n:Int):=by rw[<- hP4];push_cast;rfl
                 have hP4b:P4n<=256*1101:=by rw[<- hP4];exact qaE hh1.2 (by omega)
                 obtain⟨wa1,wb1⟩:=pwq (x:=(u1:Int)) ⟨by omega,by omega⟩;obtain⟨wa2,wb2⟩:=pwq (x:=(P4n:Int)) ⟨by omega,by omega⟩;have HP4:Hid (H*(wd+1)=P4n):=Hd (by rw[hu1];exact hP4);obtain⟨DT,hDT⟩:∃q:ByteArray,⟨rr.data.toArray⟩=q:=⟨_,rfl⟩;have HUZ:=Hd (λ w=>ziD DT (P4n:Int) w (by rw[<- hDT];show rr.data.toArray.size<=_;have:=HLN.out;rw[qb5];unfold maxLen;omega));rw[hDT] at hres⊢;have HDT:=Hd hDT;clear hu1 hP4 hDT;obtain⟨ru,hru⟩:=nmE (Png.unp DT H wd m);have HRU:=Hd hru;rw[hru] at hres;clear hru;go_wp2_with fail;refine (HUZ.out _).mono ?_;rintro e x1 ⟨hpost,hX⟩;have Z1:=Hd (SI.out.Z.ext hX);clear hX SI HUZ;cases hz:Inf.unz DT (P4n:Int) with
                 | error ce=>
                  rw[hz] at hpost;have hpost:e=.returned (.tuple #[.string ⟨#[]⟩,.int .i64 ((ce+1:Nat):Int)]):=hpost;subst hpost;have hrx:ru=.error ce:=by rw[<- HRU.out];unfold Png.unp;rw[HP4.out,hz]
                  have hce:=Png.zjM hz;rw[hrx] at hres;(try simp only at hres);subst hres;clear hz hrx;obtain⟨c1,hc1⟩:∃c1:Int,((ce+1:Nat):Int)=c1:=⟨_,rfl⟩;have HC1:=Hd hc1;have HCE:=Hd hce;have t_c:=dT (p:=(0:Int)<c1);rw[hc1];clear hc1 hce;go_wp2_with fail;refine (ze2 c1 _).mono ?_;rintro e t1 ⟨rfl,hX⟩;have SB:=Hd ((Z1.out).ext hX);clear hX;have FIN:=Hd (SB.out.setQ.setF (c1) (-1));have d0:=SB.out.Q.cell 0;have f0:=SB.out.Q.frozen 0;have d1:=SB.out.Q.cell 1;have f1:=SB.out.Q.frozen 1;have d2:=SB.out.Q.cell 2;have f2:=SB.out.Q.frozen 2;have d3:=SB.out.setQ.F.cell 0;have f3:=SB.out.setQ.F.frozen 0;have d4:=SB.out.setQ.F.cell 1;have f4:=SB.out.setQ.F.frozen 1;go_wp2_with fail;refine zh9 (λ wz=>PoZ w wz c1 (-1) T6 1 (-1)) FIN.out ?_;rintro tz hz;clear FIN SB;have k0:=hz.Q.cell 0;have k1:=hz.Q.cell 1;have k2:=hz.Q.cell 2;have k3:=hz.F.cell 0;have k4:=hz.F.cell 1;exact qaZ (v:=.tuple #[zaH,.agg #[.int .i64 c1,.int .i64 (-1)]]) (by simp[results,Tryz.results17,go_sem,k0,k1,k2,k3,k4,zaH]) rfl ⟨hz.X,by have:=HCE.out;omega,by rw[<- HC1.out];push_cast;rfl⟩
                 | ok out=>
                  rw[hz] at hpost;have hpost:e=.returned (.tuple #[.string (tb out),.int .i64 0]):=hpost;subst hpost;have HZU:=Hd hz;clear hz;obtain⟨t,ht⟩:=nmE (tb out);have HT:Hid (tx out=t):=Hd (by rw[<- ht];unfold tx tb;rfl);have HTS:Hid (t.size=out.length):=Hd (by rw[<- ht];unfold tb;show out.toArray.size=_;simp);rw[ht];clear ht;have HUN:Hid (ru=if t.size=P4n/\(∀j,j<H->kdT t wd j<=4) then .ok (unS t wd m H) else .error 0):=Hd (by
                   rw[<- HRU.out];unfold Png.unp;rw[HP4.out,HZU.out];simp only;rw[HT.out,HTS.out])
                  by_cases hts:t.size=P4n
                  ·as_aux_lemma=>
                    have t_n:((t.size:Int) !=(P4n:Int))=false:=zbm (by omega);have HBK:=Hd (λ w=>zkG t wd m H w (by rw[hts,HP4.out]) ⟨hwdb.1,by omega⟩ ⟨hm4.2,by omega⟩ (by omega));have HTL:=Hd hts;clear hts;have hts:t.size=P4n:=HTL.out;go_wp2_with fail;refine (HBK.out _).mono ?_;rintro e x2 ⟨hX,hpost⟩;have Z2:=Hd (Z1.out.ext hX);clear hX Z1 HBK t_n hts m1 m2 wa1 wb1 wa2 wb2;rcases hpost with⟨hal,rfl⟩ | ⟨ib,hib,_,hbad,rfl⟩
                    ·as_aux_lemma=>
                      have hrx:ru=.ok (unS t wd m H):=by rw[HUN.out,qad ⟨HTL.out,hal⟩]
                      have hus:=Png.zie (HRU.out.trans hrx);rw[hrx] at hres;(try simp only at hres);obtain⟨u,hu⟩:=nmE (unS t wd m H);rw[hu] at hres hus⊢;have HUS:=Hd hus;clear hrx hal hu hus HUN HRU;obtain⟨l,hl⟩:=nmE (u.data.toList);rw[hl] at hres;have HL:=Hd hl;clear hl;obtain⟨pf,hpf⟩:=nmE (Png.pxAt rr l wd);rw[hpf] at hres;have HPF:=Hd hpf;clear hpf;go_upto_region 73 with fail;refine zac (λ wz=>Ext x2 wz/\Bk wz x2.heap.size #[.int .i64 (W:Int),.int .i64 (H:Int),.slice none 0 0]) ⟨(Ext.refl _).alloc _,Bk.at rfl⟩ ?_;rintro x3 ⟨hX,hP⟩;have HP:Hid (PgE x2 x3 (W:Int) (H:Int) (.slice none 0 0) 0 pf):=Hd (PgE.start hX hP);clear hX hP;go_wp2_with fail;skip
                      go_loopw [29] (λ iv wr=>∃y:Nat,iv=.int .i64 (y:Int)/\y<=H/\Hid ((∃x c,PgE x2 wr (W:Int) (H:Int) (.slice x (y*W) c) (y*W) pf)/\∀i,i<y*W->Png.zaO rr l wd i)) (λ iv _=>H-(intOf iv).toNat)
                      case atStart=>exact⟨0,rfl,by omega,Hd ⟨⟨none,0,by rw[Nat.zero_mul];exact HP.out⟩,λ i hi=>by rw[Nat.zero_mul] at hi;omega⟩⟩
                      case round=>
                       skip
                       clear HP;obtain⟨y,rfl,hy,HP⟩:=hrel;by_cases hlt:y<H
                       ·as_aux_lemma=>
                         have t1:=dT (p:=(y:Int)<(H:Int));obtain⟨Y1,hY1⟩:∃q:Nat,y*wd=q:=⟨_,rfl⟩;obtain⟨Yp,hYp⟩:∃q:Nat,y+1=q:=⟨_,rfl⟩;obtain⟨Y2,hY2⟩:∃q:Nat,Yp*wd=q:=⟨_,rfl⟩;have hY12:Y2=Y1+wd:=by rw[<- hY2,<- hYp,qcc,hY1]
                         have hY2s:Y2<=u.size:=by rw[HUS.out,<- hY2];exact qaW _ (by omega)
                         have hY2b:Y2<=281600:=by rw[<- hY2];exact qaE (show Yp<=256 by omega) hwdb.2
                         have m1:(y:Int)*(wd:Int)=(Y1:Int):=by rw[<- hY1];push_cast;rfl
                         have m2:(y:Int)+1=(Yp:Int):=by omega
                         have m3:(Yp:Int)*(wd:Int)=(Y2:Int):=by rw[<- hY2];push_cast;rfl
                         obtain⟨wa1,wb1⟩:=pwq (x:=(Y1:Int)) ⟨by omega,by omega⟩;obtain⟨wa2,wb2⟩:=pwq (x:=(Yp:Int)) ⟨by omega,by omega⟩;obtain⟨wa3,wb3⟩:=pwq (x:=(Y2:Int)) ⟨by omega,by omega⟩;obtain⟨R,hR⟩:=nmE (u.extract Y1 Y2);have hRs:R.size=wd:=by rw[<- hR,qau];omega
                         have HRG:Hid (∀j,j<wd->R.data.toList.getD j 0=l.getD (y*wd+j) 0):=Hd (λ j hj=>by rw[<- hR,zjE (by omega),HL.out,hY1]);have HRS:=Hd hRs;have i1:(0:Int)<=(Y1:Int):=by omega
                         have i2:(Y1:Int)<=(Y2:Int):=by omega
                         have i3:(Y2:Int)<=(u.size:Int):=by omega
                         have i4:Y1<=Y2:=by omega
                         clear hY1 hYp hY2 hY12 hRs;have HP0:=HP;go_wp2_with fail;clear m1 m2 m3 wa1 wb1 wa2 wb2 wa3 wb3 i1 i2 i3 i4 hR;go_loopw [31] (λ iv wr=>∃x:Nat,iv=.int .i64 (x:Int)/\x<=W/\Hid ((∃xa c,PgE x2 wr (W:Int) (H:Int) (.slice xa (y*W+x) c) (y*W+x) pf)/\∀i,i<y*W+x->Png.zaO rr l wd i)) (λ iv _=>W-(intOf iv).toNat)
                         case atStart=>exact⟨0,rfl,by omega,HP0⟩
                         case round=>
                          clear HP HP0;obtain⟨x,rfl,hx,HP⟩:=hrel;by_cases hlx:x<W
                          ·as_aux_lemma=>
                            have t2:=dT (p:=(x:Int)<(W:Int));obtain⟨⟨xa,cc,hP⟩,hG⟩:=HP.out;have HPX:=Hd hP;have HG:=Hd hG;clear hP hG HP;obtain⟨N,hN⟩:=nmE (y*W+x);have HN:=Hd hN;rw[hN] at HPX HG;have hNb:N<=70000:=by rw[<- hN];have:y*W<=256*256:=qaE (by omega) hw1.2;omega
                            have hNlt:N<H*W:=by have:(y+1)*W<=H*W:=qaW _ (by omega);rw[qcc] at this;omega
                            clear hN;obtain⟨pq,hpq⟩:∃q:P4,pf N=q:=⟨_,rfl⟩;have HPQ:Hid (Png.pxAt rr l wd (y*rr.wide+x)=pq):=Hd (by rw[HSM.out.1,HN.out,HPF.out];exact hpq);have HQN:=Hd hpq;clear hpq;go_upto_region 80 with fail;repeat ((fail_if_success (refine wp_seq_k ?_));first | go_values | go_skip | go_guarded | go_step | go_upon | go_back)
                            refine zac (λ wz=>Ext wr wz/\Bk wz wr.heap.size #[.int .u8 0,.int .u8 0,.int .u8 0,.int .u8 255]) ?hw ?_
                            case hw=>exact⟨by repeat (first | exact Ext.refl _ | refine Ext.alloc ?_ _ | refine qaL ?_ (by simp <;> omega) _),Bk.at (by simp)⟩
                            rintro z1 ⟨hE,hB⟩;obtain⟨T,hT⟩:=nmE (wr.heap.size);rw[hT] at hB⊢;have E1:=Hd hE;have B1:=Hd hB;have HT:=Hd hT;clear hE hB hT;refine wp_seq_k (λ K1 hK1=>?_);go_cut [33,34] from 373 to 479 (λ s33 s34 wx=>Hid (Ext wr wx)/\Hid (Bk wx T #[.int .u8 pq.r,.int .u8 pq.g,.int .u8 pq.b,.int .u8 pq.a])/\Hid (Png.zaO rr l wd N))
                            case first=>
                             have HKD:Hid (kd=0\/kd=2\/kd=3\/kd=6):=Hd (Png.kinds (by rw[HM.out];omega));have D1:=Hd (B1.out.ext (qag (Ext.refl z1)));have ED1:=Hd (E1.out.trans (qag (Ext.refl z1)));by_cases q0:kd=0
                             ·as_aux_lemma=>
                               have e0:(((kd:Nat):Int) ==0)=true:=zav (by omega);have HKK:Hid (rr.kind=0):=Hd (by rw[HSM.out.2.2.2];exact q0);have hd8_:dp=8:=by rcases HFT.out.2 with h | ⟨h,_⟩;exact h;omega
                               have hwv:wd=W*1:=by rw[<- HWD.out];unfold Png.rowN;rw[HSM.out.1,HKK.out,HSM.out.2.2.1,show Png.byN 0=1 from rfl,hd8_];omega
                               have s0:(0:Int)<=(x:Int):=by omega
                               have n0:x<R.size:=by rw[HRS.out];omega
                               have o0:((x:Nat):Int)<(R.size:Int):=by omega
                               obtain⟨b0,hb0⟩:∃q:UInt8,R[x]=q:=⟨_,rfl⟩;have g0:=Hd (show R.data.toList.getD x 0=b0 from by rw[<- zar R x n0,hb0]);have HPX2:=Hd (Png.px_0 (b:=b0) (r:=rr) (l:=l) (wide:=wd) (y:=y) HKK.out (by rw[HSM.out.1];exact hlx) (by rw[<- HRG.out x (by omega)];exact g0.out));have HPE:Hid (pq=⟨(b0.toNat:Int),(b0.toNat:Int),(b0.toNat:Int),255⟩):=Hd (HPQ.out.symm.trans HPX2.out);have HGD:Hid (Png.zaO rr l wd N):=Hd (λ h=>absurd h (by rw[HKK.out];omega));clear hwv hd8_ HPX2 q0;go_upto_region 83 with fail;skip
                               have y0:=B1.out.cell 0;have f0:=B1.out.frozen 0;have y1:=B1.out.cell 1;have f1:=B1.out.frozen 1;have y2:=B1.out.cell 2;have f2:=B1.out.frozen 2;have y3:=B1.out.cell 3;have f3:=B1.out.frozen 3;have SFH:=Hd (zcU (x':=.int .u8 (b0.toNat:Int)) (y':=.int .u8 (b0.toNat:Int)) (z':=.int .u8 (b0.toNat:Int)) (u':=.int .u8 255) ED1.out (qcx HT.out) D1.out);exact Ygt10
                             skip
                             by_cases q2:kd=2
                             ·as_aux_lemma=>
                               have e0:(((kd:Nat):Int) ==0)=false:=zal (by omega);have e2:(((kd:Nat):Int) ==2)=true:=zav (by omega);have HKK:Hid (rr.kind=2):=Hd (by rw[HSM.out.2.2.2];exact q2);have hd8_:dp=8:=by rcases HFT.out.2 with h | ⟨h,_⟩;exact h;omega
                               have hwv:wd=W*3:=by rw[<- HWD.out];unfold Png.rowN;rw[HSM.out.1,HKK.out,HSM.out.2.2.1,show Png.byN 2=3 from rfl,hd8_];omega
                               obtain⟨a0,ha0⟩:∃q:Nat,3*x=q:=⟨_,rfl⟩;have mm:(3:Int)*(x:Int)=(a0:Int):=by omega
                               obtain⟨wc0,wd0⟩:=pwq (x:=(a0:Int)) ⟨by omega,by omega⟩;have s0:(0:Int)<=(a0:Int):=by omega
                               obtain⟨a1,ha1⟩:∃q:Nat,a0+1=q:=⟨_,rfl⟩;have u1:(a0:Int)+1=(a1:Int):=by omega
                               obtain⟨wc1,wd1⟩:=pwq (x:=(a1:Int)) ⟨by omega,by omega⟩;have s1:(0:Int)<=(a1:Int):=by omega
                               obtain⟨a2,ha2⟩:∃q:Nat,a0+2=q:=⟨_,rfl⟩;have u2:(a0:Int)+2=(a2:Int):=by omega
                               obtain⟨wc2,wd2⟩:=pwq (x:=(a2:Int)) ⟨by omega,by omega⟩;have s2:(0:Int)<=(a2:Int):=by omega
                               have n0:a0<R.size:=by rw[HRS.out];omega
                               have o0:((a0:Nat):Int)<(R.size:Int):=by omega
                               obtain⟨b0,hb0⟩:∃q:UInt8,R[a0]=q:=⟨_,rfl⟩;have g0:=Hd (show R.data.toList.getD a0 0=b0 from by rw[<- zar R a0 n0,hb0]);have n1:a1<R.size:=by rw[HRS.out];omega
                               have o1:((a1:Nat):Int)<(R.size:Int):=by omega
                               obtain⟨b1,hb1⟩:∃q:UInt8,R[a1]=q:=⟨_,rfl⟩;have g1:=Hd (show R.data.toList.getD a1 0=b1 from by rw[<- zar R a1 n1,hb1]);have n2:a2<R.size:=by rw[HRS.out];omega
                               have o2:((a2:Nat):Int)<(R.size:Int):=by omega
                               obtain⟨b2,hb2⟩:∃q:UInt8,R[a2]=q:=⟨_,rfl⟩;have g2:=Hd (show R.data.toList.getD a2 0=b2 from by rw[<- zar R a2 n2,hb2]);have HPX2:=Hd (Png.px_2 (b0:=b0) (b1:=b1) (b2:=b2) (r:=rr) (l:=l) (wide:=wd) (y:=y) HKK.out (by rw[HSM.out.1];exact hlx) (by rw[<- HRG.out (3*x) (by omega),ha0];exact g0.out) (by rw[qa6,<- HRG.out (3*x+1) (by omega),ha0,ha1];exact g1.out) (by rw[qa6,<- HRG.out (3*x+2) (by omega),ha0,ha2];exact g2.out));have HPE:Hid (pq=⟨(b0.toNat:Int),(b1.toNat:Int),(b2.toNat:Int),255⟩):=Hd (HPQ.out.symm.trans HPX2.out);have HGD:Hid (Png.zaO rr l wd N):=Hd (λ h=>absurd h (by rw[HKK.out];omega));clear hwv hd8_ HPX2 q0 q2 ha0 ha1 ha2;go_upto_region 85 with fail;skip
                               have y0:=B1.out.cell 0;have f0:=B1.out.frozen 0;have y1:=B1.out.cell 1;have f1:=B1.out.frozen 1;have y2:=B1.out.cell 2;have f2:=B1.out.frozen 2;have y3:=B1.out.cell 3;have f3:=B1.out.frozen 3;have SFH:=Hd (zcU (x':=.int .u8 (b0.toNat:Int)) (y':=.int .u8 (b1.toNat:Int)) (z':=.int .u8 (b2.toNat:Int)) (u':=.int .u8 255) ED1.out (qcx HT.out) D1.out);exact Ygt10
                             skip
                             by_cases q6:kd=6
                             ·as_aux_lemma=>
                               have e0:(((kd:Nat):Int) ==0)=false:=zal (by omega);have e2:(((kd:Nat):Int) ==2)=false:=zal (by omega);have e6:(((kd:Nat):Int) ==6)=true:=zav (by omega);have HKK:Hid (rr.kind=6):=Hd (by rw[HSM.out.2.2.2];exact q6);have hd8_:dp=8:=by rcases HFT.out.2 with h | ⟨h,_⟩;exact h;omega
                               have hwv:wd=W*4:=by rw[<- HWD.out];unfold Png.rowN;rw[HSM.out.1,HKK.out,HSM.out.2.2.1,show Png.byN 6=4 from rfl,hd8_];omega
                               obtain⟨a0,ha0⟩:∃q:Nat,4*x=q:=⟨_,rfl⟩;have mm:(4:Int)*(x:Int)=(a0:Int):=by omega
                               obtain⟨wc0,wd0⟩:=pwq (x:=(a0:Int)) ⟨by omega,by omega⟩;have s0:(0:Int)<=(a0:Int):=by omega
                               obtain⟨a1,ha1⟩:∃q:Nat,a0+1=q:=⟨_,rfl⟩;have u1:(a0:Int)+1=(a1:Int):=by omega
                               obtain⟨wc1,wd1⟩:=pwq (x:=(a1:Int)) ⟨by omega,by omega⟩;have s1:(0:Int)<=(a1:Int):=by omega
                               obtain⟨a2,ha2⟩:∃q:Nat,a0+2=q:=⟨_,rfl⟩;have u2:(a0:Int)+2=(a2:Int):=by omega
                               obtain⟨wc2,wd2⟩:=pwq (x:=(a2:Int)) ⟨by omega,by omega⟩;have s2:(0:Int)<=(a2:Int):=by omega
                               obtain⟨a3,ha3⟩:∃q:Nat,a0+3=q:=⟨_,rfl⟩;have u3:(a0:Int)+3=(a3:Int):=by omega
                               obtain⟨wc3,wd3⟩:=pwq (x:=(a3:Int)) ⟨by omega,by omega⟩;have s3:(0:Int)<=(a3:Int):=by omega
                               have n0:a0<R.size:=by rw[HRS.out];omega
                               have o0:((a0:Nat):Int)<(R.size:Int):=by omega
                               obtain⟨b0,hb0⟩:∃q:UInt8,R[a0]=q:=⟨_,rfl⟩;have g0:=Hd (show R.data.toList.getD a0 0=b0 from by rw[<- zar R a0 n0,hb0]);have n1:a1<R.size:=by rw[HRS.out];omega
                               have o1:((a1:Nat):Int)<(R.size:Int):=by omega
                               obtain⟨b1,hb1⟩:∃q:UInt8,R[a1]=q:=⟨_,rfl⟩;have g1:=Hd (show R.data.toList.getD a1 0=b1 from by rw[<- zar R a1 n1,hb1]);have n2:a2<R.size:=by rw[HRS.out];omega
                               have o2:((a2:Nat):Int)<(R.size:Int):=by omega
                               obtain⟨b2,hb2⟩:∃q:UInt8,R[a2]=q:=⟨_,rfl⟩;have g2:=Hd (show R.data.toList.getD a2 0=b2 from by rw[<- zar R a2 n2,hb2]);have n3:a3<R.size:=by rw[HRS.out];omega
                               have o3:((a3:Nat):Int)<(R.size:Int):=by omega
                               obtain⟨b3,hb3⟩:∃q:UInt8,R[a3]=q:=⟨_,rfl⟩;have g3:=Hd (show R.data.toList.getD a3 0=b3 from by rw[<- zar R a3 n3,hb3]);have HPX2:=Hd (Png.px_6 (b0:=b0) (b1:=b1) (b2:=b2) (b3:=b3) (r:=rr) (l:=l) (wide:=wd) (y:=y) HKK.out (by rw[HSM.out.1];exact hlx) (by rw[<- HRG.out (4*x) (by omega),ha0];exact g0.out) (by rw[qa6,<- HRG.out (4*x+1) (by omega),ha0,ha1];exact g1.out) (by rw[qa6,<- HRG.out (4*x+2) (by omega),ha0,ha2];exact g2.out) (by rw[qa6,<- HRG.out (4*x+3) (by omega),ha0,ha3];exact g3.out));have HPE:Hid (pq=⟨(b0.toNat:Int),(b1.toNat:Int),(b2.toNat:Int),(b3.toNat:Int)⟩):=Hd (HPQ.out.symm.trans HPX2.out);have HGD:Hid (Png.zaO rr l wd N):=Hd (λ h=>absurd h (by rw[HKK.out];omega));clear hwv hd8_ HPX2 q0 q2 q6 ha0 ha1 ha2 ha3;go_upto_region 87 with fail;skip
                               have y0:=B1.out.cell 0;have f0:=B1.out.frozen 0;have y1:=B1.out.cell 1;have f1:=B1.out.frozen 1;have y2:=B1.out.cell 2;have f2:=B1.out.frozen 2;have y3:=B1.out.cell 3;have f3:=B1.out.frozen 3;have SFH:=Hd (zcU (x':=.int .u8 (b0.toNat:Int)) (y':=.int .u8 (b1.toNat:Int)) (z':=.int .u8 (b2.toNat:Int)) (u':=.int .u8 (b3.toNat:Int)) ED1.out (qcx HT.out) D1.out);exact Ygt10
                             skip
                             by_cases q3:kd=3
                             ·as_aux_lemma=>
                               have e0:(((kd:Nat):Int) ==0)=false:=zal (by omega);have e2:(((kd:Nat):Int) ==2)=false:=zal (by omega);have e6:(((kd:Nat):Int) ==6)=false:=zal (by omega);have e3:(((kd:Nat):Int) ==3)=true:=zav (by omega);have HKK:Hid (rr.kind=3):=Hd (by rw[HSM.out.2.2.2];exact q3);have HDI:Hid (Png.IsDep dp):=Hd (by rcases HFT.out.2 with h | ⟨_,h | h | h⟩;exact .inr (.inr (.inr h));exact .inl h;exact .inr (.inl h);exact .inr (.inr (.inl h)));have hwv:wd=(W*dp+7)/8:=by rw[<- HWD.out];unfold Png.rowN;rw[HSM.out.1,HKK.out,HSM.out.2.2.1,show Png.byN 3=1 from rfl,Nat.mul_one]
                               obtain⟨xd,hxd⟩:∃q:Nat,x*dp=q:=⟨_,rfl⟩;have hxd1:xd<=2048:=by rw[<- hxd];exact qam (qaE (show x<=256 by omega) hd8.1) (by decide)
                               have hxm:(x:Int)*(dp:Int)=(xd:Int):=by rw[<- hxd];push_cast;rfl
                               have hji:=Png.ze3 (x:=x) HDI.out hlx;obtain⟨sh,hsh⟩:=nmE (Png.sft dp x);have HSH:=Hd hsh;unfold Png.sft at hsh;rw[hxd] at hji hsh;rw[<- hwv] at hji;have hms:xd%8+dp<=8:=by rw[<- hxd];rcases HDI.out with h | h | h | h <;> rw[h] <;> omega
                               obtain⟨jj,hjj⟩:=nmE (xd/8);obtain⟨m8,hm8⟩:=nmE (xd%8);obtain⟨kk,hkk⟩:=nmE (m8+dp);have hq8:(xd:Int).tdiv 8=(jj:Int):=by rw[<- hjj];rfl
                               have hr8:(xd:Int).tmod 8=(m8:Int):=by rw[<- hm8];rfl
                               rw[hjj] at hji;rw[hm8] at hms hsh;have hkki:(m8:Int)+(dp:Int)=(kk:Int):=by omega
                               have hshk:sh=8-kk:=by omega
                               have hkk8:kk<=8:=by omega
                               have s0:(0:Int)<=(jj:Int):=by omega
                               have n0:jj<R.size:=by rw[HRS.out];omega
                               have o0:((jj:Nat):Int)<(R.size:Int):=by omega
                               obtain⟨b0,hb0⟩:∃q:UInt8,R[jj]=q:=⟨_,rfl⟩;have g0:=Hd (show R.data.toList.getD jj 0=b0 from by rw[<- zar R jj n0,hb0]);have HNU:=Hd (Png.zlx (r:=rr) (l:=l) (wide:=wd) (y:=y) (x:=x) (b:=b0) (by rw[HSM.out.1];exact hlx) (by rw[HSM.out.2.2.1,hxd,hjj,<- HRG.out jj (by omega)];exact g0.out));obtain⟨wa0,wb0⟩:=pwq (x:=(xd:Int)) ⟨by omega,by omega⟩;obtain⟨wa1,wb1⟩:=pwq (x:=(jj:Int)) ⟨by omega,by omega⟩;obtain⟨wa2,wb2⟩:=pwq (x:=(m8:Int)) ⟨by omega,by omega⟩;obtain⟨wa3,wb3⟩:=pwq (x:=(kk:Int)) ⟨by omega,by omega⟩;have hb0l:=b0.toNat_lt;obtain⟨wa5,wb5⟩:=pwq (x:=(b0.toNat:Int)) ⟨by omega,by omega⟩;obtain⟨B,hB⟩:=nmE (b0.toNat);rw[hB] at HNU hb0l wa5 wb5;have hrb:((R[jj]:UInt8).toNat:Int)=(B:Int):=by rw[hb0,hB]
                               clear hxd hjj hm8 hsh hwv hb0 hB;have HKB:Hid (kk<=8/\B<256/\sh=8-kk):=Hd ⟨hkk8,hb0l,hshk⟩;clear q0 q2 q6 q3;go_wp2_with fail;clear hxm hq8 hr8 hkki s0 n0 o0 g0 hrb wa0 wb0 wa1 wb1 wa2 wb2 wa3 wb3 wa5 wb5 hji hms hxd1;go_loop [33,34] (λ nv kv=>∃k v:Nat,kk<=k/\k<=8/\nv=.int .i64 (v:Int)/\kv=.int .i64 (k:Int)/\Hid (B/2^(k-kk)=v)) (λ _ kv=>8-(intOf kv).toNat)
                               case atStart=>exact⟨kk,B,qaj _,hkk8,rfl,rfl,Hd (by rw[qcp,Nat.pow_zero,Nat.div_one])⟩
                               case round=>
                                obtain⟨k,v,hk1,hk2,rfl,rfl,HV⟩:=hrel;have hvb:v<256:=by rw[<- HV.out];exact qct (qcy _ _) HKB.out.2.1
                                by_cases hk8:k<8
                                ·as_aux_lemma=>
                                  have t5:=dT (p:=(k:Int)<(8:Int));have n5:k<8:=hk8;obtain⟨v2,hv2⟩:=nmE (v/2);have hq2:(v:Int).tdiv 2=(v2:Int):=by rw[<- hv2];rfl
                                  obtain⟨k2,hk2e⟩:=nmE (k+1);have hki:(k:Int)+1=(k2:Int):=by omega
                                  obtain⟨wa0,wb0⟩:=pwq (x:=(v2:Int)) ⟨by omega,by omega⟩;obtain⟨wa1,wb1⟩:=pwq (x:=(k2:Int)) ⟨by omega,by omega⟩;have HV2:Hid (B/2^(k2-kk)=v2):=Hd (by rw[<- hv2,<- HV.out,znH,<- hk2e,show k+1-kk=k-kk+1 by omega]);have HK2:=Hd hk2e;clear hv2 hk2e;go_wp2_with fail;go_round
                                  case rel=>exact⟨k2,v2,by have:=HK2.out;omega,by have:=HK2.out;omega,by first | rfl | go_num,by first | rfl | go_num,HV2⟩
                                  case measure=>have:=HK2.out;simp[intOf];omega
                                ·as_aux_lemma=>
                                  have t5:=dF (p:=(k:Int)<(8:Int));have n5:¬ k<8:=hk8;have HK8:Hid (k=8):=Hd (by omega);obtain⟨n,hn⟩:=nmE (v%2^dp);have HNM:Hid (Png.numAt rr l wd N=n):=Hd (by rw[<- HN.out,<- HSM.out.1,HNU.out,HSM.out.2.2.1,HSH.out,HKB.out.2.2,<- HK8.out,HV.out];exact hn);have hnb:n<=300:=by rw[<- hn];have:=Nat.mod_le v (2^dp);omega
                                  obtain⟨wa0,wb0⟩:=pwq (x:=(n:Int)) ⟨by omega,by omega⟩;go_upto_region 94 with fail;go_cut [33] from 446 to 449 (λ s33 wx=>s33=.int .i64 (n:Int)/\Hid (Ext wr wx)/\Hid (Bk wx T #[.int .u8 0,.int .u8 0,.int .u8 0,.int .u8 255]))
                                  case first=>
                                   as_aux_lemma=>
                                    have hI:dp=1\/dp=2\/dp=4\/dp=8:=HDI.out;clear HDI HNU HNM;rcases hI with rfl | rfl | rfl | rfl
                                    ·have hmo:(v:Int).tmod 2=(n:Int):=by rw[<- hn];rfl
                                     go_wp2_with fail;go_meet
                                     exact⟨rfl,E1,B1⟩
                                    ·have hmo:(v:Int).tmod 4=(n:Int):=by rw[<- hn];rfl
                                     go_wp2_with fail;go_meet
                                     exact⟨rfl,E1,B1⟩
                                    ·have hmo:(v:Int).tmod 16=(n:Int):=by rw[<- hn];rfl
                                     go_wp2_with fail;go_meet
                                     exact⟨rfl,E1,B1⟩
                                    have hmo:(v:Int).tmod 256=(n:Int):=by rw[<- hn];rfl
                                    go_wp2_with fail;go_meet
                                    exact⟨rfl,E1,B1⟩
                                  obtain⟨rfl,E2,B2⟩:=hcut;clear E1 B1 hn hvb;rename World=>z2;have E1:=E2;have B1:=B2;clear E2 B2;obtain⟨cs,hcs⟩:=nmE (rr.colors.size);obtain⟨q3,hq3⟩:=nmE (cs/3);have HCZ:=Hd hcs;have hcm:cs%3=0:=by rw[<- hcs];exact H3.out
                                  have hcb:cs<=300000:=by rw[<- hcs];exact HCL.out.1
                                  have hquo:(cs:Int).tdiv 3=(q3:Int):=by rw[<- hq3];rfl
                                  have hq3b:cs=3*q3:=by omega
                                  clear hq3;obtain⟨wa1,wb1⟩:=pwq (x:=(q3:Int)) ⟨by omega,by omega⟩;by_cases hgd:n<q3
                                  ·as_aux_lemma=>
                                    have t6:=dF (p:=(q3:Int)<=(n:Int));have n6:¬ q3<=n:=by omega
                                    have HGD:Hid (Png.zaO rr l wd N):=Hd (λ _=>by rw[HNM.out,HCZ.out];omega);go_upto_region 97 with fail;obtain⟨n3,hn3⟩:∃q:Nat,3*n=q:=⟨_,rfl⟩;have h3n:(3:Int)*(n:Int)=(n3:Int):=by omega
                                    obtain⟨wc0,wd0⟩:=pwq (x:=(n3:Int)) ⟨by omega,by omega⟩;obtain⟨n31,hn31⟩:∃q:Nat,n3+1=q:=⟨_,rfl⟩;have u1:(n3:Int)+1=(n31:Int):=by omega
                                    obtain⟨wc1,wd1⟩:=pwq (x:=(n31:Int)) ⟨by omega,by omega⟩;obtain⟨n32,hn32⟩:∃q:Nat,n3+2=q:=⟨_,rfl⟩;have u2:(n3:Int)+2=(n32:Int):=by omega
                                    obtain⟨wc2,wd2⟩:=pwq (x:=(n32:Int)) ⟨by omega,by omega⟩;have s0:(0:Int)<=(n3:Int):=by omega
                                    have n0:n3<rr.colors.size:=by rw[HCZ.out];omega
                                    have o0:((n3:Nat):Int)<(rr.colors.size:Int):=by omega
                                    obtain⟨c0,hc0⟩:∃q:UInt8,rr.colors[n3]=q:=⟨_,rfl⟩;have g0:=Hd (show rr.colors.data.toList.getD n3 0=c0 from by rw[<- zar rr.colors n3 n0,hc0]);have s1:(0:Int)<=(n31:Int):=by omega
                                    have n1:n31<rr.colors.size:=by rw[HCZ.out];omega
                                    have o1:((n31:Nat):Int)<(rr.colors.size:Int):=by omega
                                    obtain⟨c1,hc1⟩:∃q:UInt8,rr.colors[n31]=q:=⟨_,rfl⟩;have g1:=Hd (show rr.colors.data.toList.getD n31 0=c1 from by rw[<- zar rr.colors n31 n1,hc1]);have s2:(0:Int)<=(n32:Int):=by omega
                                    have n2:n32<rr.colors.size:=by rw[HCZ.out];omega
                                    have o2:((n32:Nat):Int)<(rr.colors.size:Int):=by omega
                                    obtain⟨c2,hc2⟩:∃q:UInt8,rr.colors[n32]=q:=⟨_,rfl⟩;have g2:=Hd (show rr.colors.data.toList.getD n32 0=c2 from by rw[<- zar rr.colors n32 n2,hc2]);have HP3:=Hd (λ (a:Int) (ha:(if n<rr.alphas.size then Png.bI rr.alphas.data.toList n else 255)=a)=>Png.px_3 (l:=l) (wide:=wd) (i:=N) HKK.out HNM.out (b0:=c0) (b1:=c1) (b2:=c2) (by rw[hn3];exact g0.out) (by rw[hn3,hn31];exact g1.out) (by rw[hn3,hn32];exact g2.out) ha);have HPQ2:Hid (pf N=pq):=HQN;clear hn3 hn31 hn32 hcs hquo t6 n6 wa1 wb1;have ED1:=Hd (E1.out.trans (qag (Ext.refl z2)));have D1:=Hd (B1.out.ext (qag (Ext.refl z2)));skip
                                    have y0:=B1.out.cell 0;have f0:=B1.out.frozen 0;have y1:=B1.out.cell 1;have f1:=B1.out.frozen 1;have y2:=B1.out.cell 2;have f2:=B1.out.frozen 2;have y3:=B1.out.cell 3;have f3:=B1.out.frozen 3;have SFH:=Hd (zcU (x':=.int .u8 (c0.toNat:Int)) (y':=.int .u8 (c1.toNat:Int)) (z':=.int .u8 (c2.toNat:Int)) (u':=.int .u8 255) ED1.out (qcx HT.out) D1.out);go_region;clear y0 y1 y2 y3 f0 f1 f2 f3 s0 s1 s2 n0 n1 n2 o0 o1 o2 u1 u2 wc0 wd0 wc1 wd1 wc2 wd2 h3n g0 g1 g2 hc0 hc1 hc2;go_upto_region 98 with fail;refine zac (λ wz=>Ext wr wz/\Bk wz T #[.int .u8 (c0.toNat:Int),.int .u8 (c1.toNat:Int),.int .u8 (c2.toNat:Int),.int .u8 255]) ⟨SFH.out.1,SFH.out.2.1⟩ ?_;rintro z3 ⟨hE,hB⟩;have E3:=Hd hE;have B3:=Hd hB;clear hE hB SFH ED1 D1;obtain⟨asz,has⟩:=nmE (rr.alphas.size);have HAS:=Hd has;by_cases hal:n<asz
                                    ·have t7:=dT (p:=(n:Int)<(asz:Int));have s0:(0:Int)<=(n:Int):=by omega
                                     have n0:n<rr.alphas.size:=by rw[has];exact hal
                                     have o0:((n:Nat):Int)<(rr.alphas.size:Int):=by omega
                                     obtain⟨a3,ha3⟩:∃q:UInt8,rr.alphas[n]=q:=⟨_,rfl⟩;have g0:=Hd (show rr.alphas.data.toList.getD n 0=a3 from by rw[<- zar rr.alphas n n0,ha3]);have HQ:=Hd (HP3.out (a3.toNat:Int) (by rw[HAS.out,qad hal];unfold Png.bI;rw[g0.out]));have y3:=B3.out.cell 3;have f3:=B3.out.frozen 3;have HF3:=Hd (qaB (E3.out.setCell (p:=⟨T,3,none⟩) (by show wr.heap.size<=T;rw[HT.out];exact qaj _) (.int .u8 (a3.toNat:Int))) (B3.out.set_ 3 (.int .u8 (a3.toNat:Int))));have HPE:Hid (pq=⟨(c0.toNat:Int),(c1.toNat:Int),(c2.toNat:Int),(a3.toNat:Int)⟩):=Hd (by rw[<- HPQ2.out,<- HPF.out];exact HQ.out);clear hal;go_wp2_with fail;go_meet
                                     rw[HPE.out];exact⟨Hd HF3.out.1,Hd HF3.out.2,HGD⟩
                                    have t7:=dF (p:=(n:Int)<(asz:Int));have HQ:=Hd (HP3.out 255 (by rw[HAS.out,qac hal]));have HPE:Hid (pq=⟨(c0.toNat:Int),(c1.toNat:Int),(c2.toNat:Int),255⟩):=Hd (by rw[<- HPQ2.out,<- HPF.out];exact HQ.out);have n7:¬ n<asz:=hal;go_wp2_with fail;go_meet
                                    rw[HPE.out];exact⟨E3,B3,HGD⟩
                                  ·as_aux_lemma=>
                                    have t6:=dT (p:=(q3:Int)<=(n:Int));have n6:q3<=n:=by omega
                                    have hbad:res=.bad 0:=by
                                     rw[<- hres];refine qac (λ q=>?_);have q4:=q N hNlt HKK.out;rw[HNM.out,HCZ.out] at q4;omega
                                    clear hres;subst hbad;go_upto_region 96 with fail;have ZB:=Hd (Z2.out.ext (HPX.out.ext.trans E1.out));exact Ygt11
                             exfalso
                             rcases HKD.out with h | h | h | h
                             ·exact q0 h
                             ·exact q2 h
                             ·exact q3 h
                             exact q6 h
                            obtain⟨E2,B2,HGD⟩:=hcut;clear E1 B1;rename World=>z2;have P9:=Hd (HPX.out.go E2.out);have y0:=B2.out.cell 0;have y1:=B2.out.cell 1;have y2:=B2.out.cell 2;have y3:=B2.out.cell 3;have cq2:=P9.out.pic.cell 2;obtain⟨i0,hi0,hz0,hz1,hz2⟩:=qbb zdw;have hzb:=P9.out.ext.size;have fq2:=P9.out.pic.frozen 2;have HRow:=Hd P9.out.own;go_wp2_with (at_builtin;refine apA (HRow.out.alloc _) [.int .u8 pq.r,.int .u8 pq.g,.int .u8 pq.b,.int .u8 pq.a] ?_);intro v7 w7 hown hgrow _ hat;obtain⟨s1,s2,s3⟩:=(P9.out.go ((Ext.refl z2).alloc (.cells #[.int .u8 pq.r,.int .u8 pq.g,.int .u8 pq.b,.int .u8 pq.a] 53))).grown (by rw[HQN.out];exact hown) hgrow (by rw[qb8];exact hat);obtain⟨g9,d9,rfl,_,_⟩:=zaw hown (by omega);have HPN:=Hd s3;clear hown hgrow hat HRow s3 cq2 fq2 y0 y1 y2 y3 hzb P9 B2;obtain⟨xp,hxp⟩:∃q:Nat,x+1=q:=⟨_,rfl⟩;have i6:(x:Int)+1=(xp:Int):=by omega
                            obtain⟨wa2,wb2⟩:=pwq (x:=(xp:Int)) ⟨by omega,by omega⟩;have HXP:=Hd hxp;clear hxp;go_wp2_with fail;go_roundw
                            case rel=>
                             refine⟨xp,by first | rfl | go_num,by have:=HXP.out;omega,Hd ⟨⟨_,_,by rw[<- HXP.out,<- qa6,HN.out];exact HPN.out⟩,λ i hi=>?_⟩⟩;rw[<- HXP.out,<- qa6,HN.out] at hi;by_cases hiN:i=N
                             ·rw[hiN];exact HGD.out
                             exact HG.out i (by omega)
                            case measure=>have:=HXP.out;simp[intOf];omega
                          ·as_aux_lemma=>
                            have hxe:x=W:=by omega
                            have t2:=dF (p:=(x:Int)<(W:Int));obtain⟨yp,hyp⟩:∃q:Nat,y+1=q:=⟨_,rfl⟩;have m2:(y:Int)+1=(yp:Int):=by omega
                            obtain⟨wa2,wb2⟩:=pwq (x:=(yp:Int)) ⟨by omega,by omega⟩;have HPE:Hid ((∃xa c,PgE x2 wr (W:Int) (H:Int) (.slice xa (yp*W) c) (yp*W) pf)/\∀i,i<yp*W->Png.zaO rr l wd i):=Hd (by rw[<- hyp,qcc,<- hxe];rw[<- hxe] at HP;exact HP.out);clear hxe hyp;go_wp2_with fail;go_roundw
                            case rel=>exact⟨yp,by first | rfl | go_num,by omega,HPE⟩
                            case measure=>simp[intOf];omega
                       ·as_aux_lemma=>
                         have hye:y=H:=by omega
                         have t1:=dF (p:=(y:Int)<(H:Int));obtain⟨⟨xa,cc,hP⟩,hG⟩:=HP.out;rw[hye] at hP hG;have hRES:res=.ok W H pf:=by rw[<- hres];exact qad hG
                         clear hres;subst hRES;obtain⟨xb,cb,hv,hPX,hPb⟩:=Pxs.of_own hP.own (λ i _=>by rw[<- HPF.out];exact Png.zgh rr l wd i);injection hv with hv1 hv2 hv3;subst hv1;subst hv3;obtain⟨T28,hT28⟩:=nmE (x2.heap.size);have hP2:=hP.pic;have hlt:=Z2.out.F.lt;rw[hT28] at hP2 hPb hlt;have SE:=Hd (show PoE w wr 0 0 (.slice none 0 0) 0 0 T28 (W:Int) (H:Int) (.slice xa (H*W) cc) xa (H*W) pf from⟨Z2.out.X.trans hP.ext,Z2.out.Q.ext hP.ext,Z2.out.F.ext hP.ext,hP2,hPX,hlt,λ a ha=>by have:=hPb a ha;omega⟩);clear hP hG hP2 hPX hPb hlt HP;go_upto_region 101 with fail;(try rw[hT28]);clear hT28;have E_0:=SE;clear SE;refine qar (S:=λ w'=>w'.cell? ⟨T28,0,none⟩=some (.int .i64 (W:Int))/\w'.cell? ⟨T28,1,none⟩=some (.int .i64 (H:Int))/\w'.cell? ⟨T28,2,none⟩=some (.slice xa (H*W) cc)) (by kernel_rfl) ⟨E_0.out.P.cell 0,E_0.out.P.cell 1,E_0.out.P.cell 2⟩ (λ hHeld=>?_);clear hHeld;refine zab (λ wz=>Ext wr wz) (show Ext wr wr.drew from qag (Ext.refl wr)) ?_;rintro q1 h;have E_1:=Hd (E_0.out.ext h);clear h E_0;have hHeld:q1.cell? ⟨T28,0,none⟩=some (.int .i64 (W:Int))/\q1.cell? ⟨T28,1,none⟩=some (.int .i64 (H:Int))/\q1.cell? ⟨T28,2,none⟩=some (.slice xa (H*W) cc):=⟨E_1.out.P.cell 0,E_1.out.P.cell 1,E_1.out.P.cell 2⟩;refine tkH 0 ?_;refine rdH 1 rfl λ KK hK=>?_;clear hHeld;go_simp;refine (zhl q1).mono ?_;rintro e q2 ⟨rfl,h⟩;have E_2:=Hd (E_1.out.ext h);clear h E_1
                         go_simp;refine oS hK ⟨E_2.out.P.cell 0,E_2.out.P.cell 1,E_2.out.P.cell 2⟩ λ hHeld=>?_;clear hK KK;refine rdH 2 rfl λ KK hK=>?_;clear hHeld;have d0:=E_2.out.Q.cell 0;have f0:=E_2.out.Q.frozen 0;have d1:=E_2.out.Q.cell 1;have f1:=E_2.out.Q.frozen 1;have d2:=E_2.out.Q.cell 2;have f2:=E_2.out.Q.frozen 2;have HZ2:=Hd (E_2.out.setQ (W:Int) (H:Int) (.slice xa (H*W) cc));go_simp;clear d0 f0 d1 f1 d2 f2;refine oS hK ⟨HZ2.out.P.cell 0,HZ2.out.P.cell 1,HZ2.out.P.cell 2⟩ λ hHeld=>?_;clear hK KK hHeld;refine zab (λ wz=>PoE w wz (W:Int) (H:Int) (.slice xa (H*W) cc) 0 0 T28 (W:Int) (H:Int) (.slice xa (H*W) cc) xa (H*W) pf) HZ2.out ?_;rintro q3 hz;clear HZ2 E_2;have E_3:=Hd hz;clear hz;have hHeld:q3.cell? ⟨T28,0,none⟩=some (.int .i64 (W:Int))/\q3.cell? ⟨T28,1,none⟩=some (.int .i64 (H:Int))/\q3.cell? ⟨T28,2,none⟩=some (.slice xa (H*W) cc):=⟨E_3.out.P.cell 0,E_3.out.P.cell 1,E_3.out.P.cell 2⟩;refine rdH 3 rfl λ KK hK=>?_;clear hHeld;have d0:=E_3.out.F.cell 0;have f0:=E_3.out.F.frozen 0;have d1:=E_3.out.F.cell 1;have f1:=E_3.out.F.frozen 1;have HZ2:=Hd (E_3.out.setF 0 (-1));go_simp;clear d0 f0 d1 f1;refine oS hK ⟨HZ2.out.P.cell 0,HZ2.out.P.cell 1,HZ2.out.P.cell 2⟩ λ hHeld=>?_;clear hK KK hHeld;refine zab (λ wz=>PoE w wz (W:Int) (H:Int) (.slice xa (H*W) cc) 0 (-1) T28 (W:Int) (H:Int) (.slice xa (H*W) cc) xa (H*W) pf) HZ2.out ?_;rintro q4 hz;clear HZ2 E_3;have E_4:=Hd hz
                         clear hz;have hHeld:q4.cell? ⟨T28,0,none⟩=some (.int .i64 (W:Int))/\q4.cell? ⟨T28,1,none⟩=some (.int .i64 (H:Int))/\q4.cell? ⟨T28,2,none⟩=some (.slice xa (H*W) cc):=⟨E_4.out.P.cell 0,E_4.out.P.cell 1,E_4.out.P.cell 2⟩;refine dnT ?_;clear hHeld;go_wp2_with fail;have k0:=E_4.out.Q.cell 0;have k1:=E_4.out.Q.cell 1;have k2:=E_4.out.Q.cell 2;have k3:=E_4.out.F.cell 0;have k4:=E_4.out.F.cell 1;exact qaZ (v:=.tuple #[.agg #[.int .i64 (W:Int),.int .i64 (H:Int),.slice xa (H*W) cc],.agg #[.int .i64 0,.int .i64 (-1)]]) (by simp[results,Tryz.results17,go_sem,k0,k1,k2,k3,k4]) rfl ⟨E_4.out.X,xa,cc,rfl,E_4.out.R⟩
                    ·as_aux_lemma=>
                      have t_b:=dT (p:=(0:Int)<=(ib:Int));have hrx:ru=.error 0:=by rw[HUN.out,qac (λ q=>by have:=q.2 ib hib;omega)]
                      rw[hrx] at hres;(try simp only at hres);subst hres;clear hrx hib hbad;go_upto_region 71 with fail;have ZB:=Hd (Z2.out);exact Ygt11
                  ·as_aux_lemma=>
                    have t_n:((t.size:Int) !=(P4n:Int))=true:=zbp (by omega);have n_n:¬ t.size=P4n:=hts;have hrx:ru=.error 0:=by rw[HUN.out,qac (λ q=>hts q.1)]
                    rw[hrx] at hres;(try simp only at hres);subst hres;clear hrx;go_upto_region 68 with fail;have ZB:=Hd (Z1.out);exact Ygt11
               ·as_aux_lemma=>
                 have hbad:res=.bad 0:=by
                  rw[<- hres];refine Png.zjh HRL.out ?_;rcases qaU HBB.out with x | x
                  ·exact .inl (HDO.out.ff.1 x)
                  exact .inr ⟨by rw[HSM.out.2.2.2];exact x.1,by cases q:rr.hc;rfl;exact absurd x.2 (HDO.out.hc.1 q)⟩
                 clear hres;subst hbad;go_upto_region 60 with fail;have ZB:=Hd (SI.out.Z);exact Ygt11
          ·as_aux_lemma=>
            have hbad:res=.bad 0:=by
             rw[<- hres];refine Png.zga (λ q=>?_);have q2:=(zf0 HN.out (by rw[HLL.out];exact HLC.out)).1 q.1;rcases qaU HBB.out with x | x | x
             ·omega
             ·exact x q2.2.1
             exact x q2.2.2
            clear hres;subst hbad;go_upto_region 28 with fail;have ZB:=Hd (S5.out.Z);exact Ygt11
        ·as_aux_lemma=>
          have hbad:res=.bad 0:=by
           rw[<- hres,HGO.out,HM.out,qac (λ q=>?_)];rcases qaU HBB.out with x | x | x | x | x
           ·exact q.1 x
           ·rw[<- HFB.out] at x;exact (qa4 x) q.2.1
           ·exact x q.2.2.1
           ·exact x q.2.2.2.1
           exact x q.2.2.2.2
          clear hres;subst hbad;go_upto_region 25 with fail;have ZB:=Hd (S4.out.Z);exact Ygt11
      ·as_aux_lemma=>
        have hbad:res=.bad 1:=by
         rw[<- hres,Png.zm7 (W:=W) (H:=H) ⟨HH.out.1,by rw[HD.out];exact HH.out.2⟩ (by rw[HD.out];exact HW.out) (by rw[HD.out];exact HHI.out) (λ q=>?_)];have q1:=HZW.out;have q2:=HZH.out;rcases qaU HBB.out with x | x | x | x <;> omega
        clear hres;subst hbad;go_wp2_with fail;refine (ze2 2 _).mono ?_;rintro e t1 ⟨rfl,hX⟩;have SB:=Hd ((S4.out.Z).ext hX);clear hX;have FIN:=Hd (SB.out.setQ.setF (2) (-1));have d0:=SB.out.Q.cell 0;have f0:=SB.out.Q.frozen 0;have d1:=SB.out.Q.cell 1;have f1:=SB.out.Q.frozen 1;have d2:=SB.out.Q.cell 2;have f2:=SB.out.Q.frozen 2;have d3:=SB.out.setQ.F.cell 0;have f3:=SB.out.setQ.F.frozen 0;have d4:=SB.out.setQ.F.cell 1;have f4:=SB.out.setQ.F.frozen 1;go_wp2_with fail;refine zh9 (λ wz=>PoZ w wz 2 (-1) T6 1 (-1)) FIN.out ?_;rintro tz hz;clear FIN SB;have k0:=hz.Q.cell 0;have k1:=hz.Q.cell 1;have k2:=hz.Q.cell 2;have k3:=hz.F.cell 0;have k4:=hz.F.cell 1;exact qaZ (v:=.tuple #[zaH,.agg #[.int .i64 2,.int .i64 (-1)]]) (by simp[results,Tryz.results17,go_sem,k0,k1,k2,k3,k4,zaH]) rfl ⟨hz.X,by decide,rfl⟩
    ·as_aux_lemma=>
      have hbad:res=.bad 0:=by
       rw[<- hres,Png.znJ (λ q=>?_)];rcases qaU HBB.out with x | x
       ·exact x q.1
       exact x (by rw[<- HD.out];exact q.2)
      clear hres;subst hbad;exact Ygt0
 ·as_aux_lemma=>
   rw[hrl] at hres;(try simp only at hres);subst hres;obtain⟨c1,hc1⟩:∃c1:Int,(ce:Int)+1=c1:=⟨_,rfl⟩;obtain⟨i1,hi1⟩:∃i1:Int,(ie:Int)=i1:=⟨_,rfl⟩;have HC1:=Hd hc1;have HI1:=Hd hi1;have HCE:=Hd hce;rw[hc1,hi1];have t0:=dT (p:=0<c1);clear hc1 hi1 hce hrl;go_upto_region 3 with fail;refine zac (λ wz=>PoZ w wz 0 0 v1.heap.size c1 i1) ?hw ?_
   case hw=>exact PoZ.box X1.out Q1.out F1.out Z1.out (by repeat (first | exact Ext.refl _ | refine Ext.alloc ?_ _ | refine qaL ?_ (by simp <;> omega) _)) (Bk.at (by simp))
   rintro v2 hZ;obtain⟨T6,hT6⟩:=nmE (v1.heap.size);rw[hT6] at hZ⊢;have SZ:=Hd hZ;clear hZ hT6;have ZB:=SZ;have FIN:=Hd (((ZB.out.setQ).setF (c1) (i1)).ext (qag (Ext.refl _)));have d0:=ZB.out.Q.cell 0;have f0:=ZB.out.Q.frozen 0;have d1:=ZB.out.Q.cell 1;have f1:=ZB.out.Q.frozen 1;have d2:=ZB.out.Q.cell 2;have f2:=ZB.out.Q.frozen 2;have d3:=ZB.out.F.cell 0;have f3:=ZB.out.F.frozen 0;have d4:=ZB.out.F.cell 1;have f4:=ZB.out.F.frozen 1;have d5:=ZB.out.B.cell 0;have d6:=ZB.out.B.cell 1;have hl6:=ZB.out.l;go_region;clear d0 d1 d2 d3 d4 d5 d6 f0 f1 f2 f3 f4 hl6;refine zib (λ wz=>PoZ w wz c1 i1 T6 c1 i1) FIN.out ?_;rintro tz hz;clear FIN ZB;have k0:=hz.Q.cell 0;have k1:=hz.Q.cell 1;have k2:=hz.Q.cell 2;have k3:=hz.F.cell 0;have k4:=hz.F.cell 1;go_wp2_with fail;exact qaZ (v:=.tuple #[zaH,.agg #[.int .i64 c1,.int .i64 i1]]) (by simp[results,Tryz.results17,go_sem,k0,k1,k2,k3,k4,zaH]) rfl ⟨hz.X,⟨HCE.out,by rw[<- HC1.out,<- HI1.out]⟩⟩
end Go.Proofs.YthlibiocadimhaaGreatDoor
