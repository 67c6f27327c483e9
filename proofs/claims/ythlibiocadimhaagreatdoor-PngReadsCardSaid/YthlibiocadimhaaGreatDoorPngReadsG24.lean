/-
  The document's reader: codes; what stands beside it.
  the document's reader: a stored block.
-/
import Derived.Test.YthlibiocadimhaaGreatDoorPngReadsG19
set_option linter.all false
set_option maxRecDepth 100000
namespace Go.Proofs.YthlibiocadimhaaGreatDoor
open Go.RowKit
theorem zkP {f:Nat->Int} {len:Nat} (h:Inf.good f len):vcode f len=0:=by unfold vcode;rw[qad h.1,qad h.2]
theorem zlr {f:Nat->Int} {len:Nat} (h:¬ Inf.good f len):0<vcode f len/\vcode f len<=3:=by
 unfold vcode;by_cases h1:zaT f len
 ·rw[qad h1];rw[qac (λ h2=>h ⟨h1,h2⟩)];omega
 rw[qac h1];omega
open Classical in
def CPost (Q:Nat) (T:ByteArray) (a e:Nat) (x:Nat->Value) (w:World) (f:Nat->Int) (len:Nat) (r:Ending) (w':World):Prop:=
 Keeps (λ k=>k=Q) w w'/\if e=0 then
  if Inf.good f len then ∃v,r=.returned v/\Cw w' Q v f len/\Bk w' Q (qc T a 0 x)/\(∀C l c,v=.slice (some ⟨C,0,none⟩) l c->w.heap.size<=C)
  else r=.returned (.slice none 0 0)/\Bk w' Q (qc T a 1 x)
 else r=.returned (.slice none 0 0)/\Bk w' Q (qc T a e x)
set_option maxHeartbeats 2000000 in
theorem zbt (Q a e len cap:Nat) (xp:Option Addr) (f:Nat->Int) (T:ByteArray) (x:Nat->Value) (w:World) (hB:Bk w Q (qc T a e x)) (hI:Ints w xp len f) (hl:len<=400):
  Calls Tryz.prog 112 #[.pointer (some ⟨Q,0,none⟩),.slice xp len cap] w λ r w'=>CPost Q T a e x w f len r w':=by
 have HO:=Hd (λ (w:World) (h:Bk w Q (qc T a e x))=>zaI Q a e T x w h);have HO1:=Hd (λ (w:World) (h:Bk w Q (qc T a 1 x))=>zaI Q a 1 T x w h);have HF:=Hd (λ (w:World) (h:Bk w Q (qc T a e x))=>zap Q a e 1 T x w h);have HB:=Hd hB;have HI:=Hd hI;have HQl:=Hd hB.lt;clear hB hI;by_cases he:e=0
 ·subst he;by_cases hg:Inf.good f len
  ·have hv:=zkP hg;have HG:=Hd hg;have HV:=Hd (zdY xp len cap f w HI.out (by unfold maxLen;omega));rw[hv] at HV;have HCo:=Hd (zeI xp len cap f w HI.out hg.1 hg.2);clear hg hv;go_enter Tryz.func112,Tryz.ntmps112
   go_wp2_with fail;refine (HO.out _ HB.out).mono ?_;rintro r _ ⟨rfl,rfl⟩;go_wp2_with fail;refine HV.out.mono ?_;rintro r _ ⟨rfl,rfl⟩;go_wp2_with fail;refine (HO.out _ HB.out).mono ?_;rintro r _ ⟨rfl,rfl⟩;go_wp2_with fail;refine HCo.out.mono ?_;rintro r w1 ⟨⟨C,hC,rfl,hcv⟩,hX⟩;have H1:=Hd (qaB hC hcv);have HX:=Hd hX;clear hC hcv hX;go_wp2_with fail;go_ret;refine⟨HX.out.keeps,?_⟩;rw[qad rfl,qad HG.out];exact⟨_,rfl,⟨HG.out,C,_,rfl,by have:=H1.out.1;have:=HQl.out;omega,H1.out.2⟩,HB.out.ext HX.out,λ C' l c q=>by injection q with q;injection q with q;injection q with q;have:=H1.out.1;omega⟩
  have hv:=zlr hg;obtain⟨vc,hvc⟩:=nmE (vcode f len);rw[hvc] at hv;have HG:=Hd hg;have HV:=Hd (zdY xp len cap f w HI.out (by unfold maxLen;omega));rw[hvc] at HV;have t1:decide (0<vc)=true:=qae hv.1;clear hg hvc hv;go_enter Tryz.func112,Tryz.ntmps112
  go_wp2_with fail;refine (HO.out _ HB.out).mono ?_;rintro r _ ⟨rfl,rfl⟩;go_wp2_with fail;refine HV.out.mono ?_;rintro r _ ⟨rfl,rfl⟩;go_wp2_with fail;refine (HF.out _ HB.out).mono ?_;rintro r w1 ⟨rfl,hB1,hK1⟩;rw[show fl 0 1=1 from rfl] at hB1;have HB1:=Hd hB1;have HK1:=Hd hK1;clear hB1 hK1;go_wp2_with fail;refine (HO1.out w1 HB1.out).mono ?_;rintro r _ ⟨rfl,rfl⟩;go_wp2_with fail;go_ret;refine⟨HK1.out,?_⟩;rw[qad rfl,qac HG.out];exact⟨rfl,HB1.out⟩
 have hd:decide (e=0)=false:=qaf he;go_enter Tryz.func112,Tryz.ntmps112
 go_wp2_with fail;refine (HO.out _ HB.out).mono ?_;rintro r _ ⟨rfl,rfl⟩;rw[hd];go_wp2_with fail;refine (HO.out _ HB.out).mono ?_;rintro r _ ⟨rfl,rfl⟩;rw[hd];go_wp2_with fail;go_ret;refine⟨Keeps.refl _ _,?_⟩;rw[qac he];exact⟨rfl,HB.out⟩
structure QGo (w wr:World) (Q:Nat) (T:ByteArray) (a e:Nat) (x:Nat->Value) (v0 vo:Value) (out:List UInt8):Prop where
 bk:Bk wr Q (qc T a e x)
 x2:x 2=vo
 row:wr.ownsRow 0 5 1 vo out.length (zad out)
 nq:vo.ownBlock≠some Q
 step:IStep w wr Q Q v0 vo
section
variable {w wr w':World} {Q a a' e e':Nat} {T:ByteArray} {x x':Nat->Value} {v0 vo vo':Value} {out out':List UInt8}
theorem QGo.quiet (h:QGo w wr Q T a e x v0 vo out) (hk:Keeps (λ k=>k=Q) wr w') (hb:Bk w' Q (qc T a' e' x)):QGo w w' Q T a' e' x v0 vo out:=
 ⟨hb,h.x2,zaa h.row hk (λ k q e=>h.nq (by rw[q,e])),h.nq,h.step.trans ⟨hk.mono (λ _ _ q=>.inl q),λ _ q=>.inl q⟩⟩
theorem QGo.ext (h:QGo w wr Q T a e x v0 vo out) (hE:Ext wr w'):QGo w w' Q T a e x v0 vo out:=h.quiet hE.keeps (h.bk.ext hE)
theorem QGo.push {L:Nat} {wb:World} {y:UInt8} (h:QGo w wr Q T a e x v0 vo out) (hL:out.length=L) (hE:Ext wr wb) (hg:wb.grownBy w' vo.ownBlock) (ho:w'.ownsRow 0 5 1 vo' (L+1) (zad out ++ [.int .u8 (y.toNat:Int)]))
  (hat:vo'.ownBlock=vo.ownBlock\/vo'.ownBlock=some wb.heap.size):Bk w' Q (qc T a e x)/\QGo w (w'.setCell ⟨Q,2,none⟩ vo') Q T a e (xset x 2 vo') v0 vo' (out ++ [y]):=by
 have hQl:Q<wr.heap.size:=h.bk.lt;have hs:=hE.size;have hbk:=(h.bk.ext hE).keeps (Keeps.grown hg) h.nq;have hv:∀k,vo'.ownBlock=some k->vo.ownBlock=some k\/wr.heap.size<=k:=by
  intro k hk;rcases hat with q | q
  ·rw[q] at hk;exact .inl hk
  rw[q] at hk;injection hk with hk;exact .inr (by omega)
 have hvQ:vo'.ownBlock≠some Q:=by
  intro e;rcases hv Q e with q | q
  ·exact h.nq q
  omega
 have hK0:Keeps (λ k=>vo.ownBlock=some k) wr w':=(hE.keeps (S:=λ k=>vo.ownBlock=some k)).trans (Keeps.grown hg) (λ _ _ q=>q);refine⟨hbk,hbk.putx 2 (.inl rfl) vo',by simp[xset],?_,hvQ,h.step.trans ⟨(hK0.mono (λ _ _ q=>.inr (.inr q))).setCell (p:=⟨Q,2,none⟩) (.inl (.inl rfl)) _,hv⟩⟩;have e:zad (out ++ [y])=zad out ++ [.int .u8 (y.toNat:Int)]:=by simp[zad]
 rw[e,qaa,hL];exact qaI ho hvQ _
end
end Go.Proofs.YthlibiocadimhaaGreatDoor
namespace Go.Proofs.YthlibiocadimhaaGreatDoor
open Go.RowKit
theorem Ygj2 {p:Prop} (h:p:=by
 clear H_7;obtain⟨rfl,H_7⟩:=hrel;by_cases hn0:0<n
 ·have t8:=dT (p:=(0:Int)<(n:Int));go_wp2_with fail;refine rokF H_7.out.bk ?_;go_wp2_with fail;go_end0;exact zdl HQ.out rfl H_7.out (λ i _=>rfl)
 have t8:=dF (p:=(0:Int)<(n:Int));go_wp2_with fail;go_end0;exact zdl HQ.out rfl H_7.out (λ i _=>rfl)):p:=h
theorem Ygj0 {p:Prop} (h:p:=by
 go_wp2_with fail;go_end0;exact zdl HQ.out rfl H_6.out (λ i _=>rfl)):p:=h
theorem Ygj1 {p:Prop} (h:p:=by
 rintro w_5 hX;have H_6:=Hd (H_5.out.ext hX);clear H_5;clear hX;refine rgQ ?_;have hdk:=dF (p:=1=0);refine qY ?_;refine zau (by kernel_rfl) λ K hK=>?_;go_simp;refine⟨_,(zaI Q a3 1 (bs (Bts.allB L)) x _ H_6.out.bk.drew),hK _ ?_⟩;clear hK K;refine qY ?_;refine qN ?_;refine qN ?_;refine qN ?_;refine qN ?_;refine qN ?_;refine qN ?_;refine qN ?_;refine qN ?_;refine qN ?_;refine qN ?_;refine qN ?_;refine qN ?_;refine qY ?_;refine zaf ?_;clear hdk;have H_7:=Hd (H_6.out.ext (show Ext w_5 w_5.drew from qag (Ext.refl _)));clear H_6;go_wp2_with fail;go_loopw [4] (λ z wr=>z=.int .i64 0/\Hid (QGo w wr Q (bs (Bts.allB L)) a3 1 x vo vo out)) (λ _ _=>0)
 case atStart=>exact⟨rfl,H_7⟩
 case round=>
  exact Ygj2):p:=h
def SPost (w:World) (Q:Nat) (T:ByteArray) (x:Nat->Value) (vo:Value) (r:Except Nat (Nat × List UInt8)) (e:Ending) (w':World):Prop:=
 e=.returned (.tuple #[])/\match r with
 | .ok (a,out)=>∃x' vo',QGo w w' Q T a 0 x' vo vo' out/\∀i,i≠2->x' i=x i
 | .error c=>∃a x' vo' out,QGo w w' Q T a (c+1) x' vo vo' out/\∀i,i≠2->x' i=x i
theorem znl {w w':World} {Q a:Nat} {T:ByteArray} {x x':Nat->Value} {vo vo':Value} {out:List UInt8} {r:Except Nat (Nat × List UInt8)} (hr:.ok (a,out)=r) (h:QGo w w' Q T a 0 x' vo vo' out) (hx:∀i,i≠2->x' i=x i):SPost w Q T x vo r (.returned (.tuple #[])) w':=by
 subst hr;exact⟨rfl,x',vo',h,hx⟩
theorem zdl {w w':World} {Q a c e:Nat} {T:ByteArray} {x x':Nat->Value} {vo vo':Value} {out:List UInt8} {r:Except Nat (Nat × List UInt8)} (hr:.error c=r) (he:e=c+1) (h:QGo w w' Q T a e x' vo vo' out) (hx:∀i,i≠2->x' i=x i):SPost w Q T x vo r (.returned (.tuple #[])) w':=by
 subst hr he;exact⟨rfl,a,x',vo',out,h,hx⟩
theorem zm5 (L:List UInt8) (j:Nat) (h:j<L.length):Inf.get L 8 (8*j)=.ok (L[j].toNat,8*j+8):=by
 unfold Inf.get;rw[qad (by omega),ze9 L j h,show (256:Nat)^j=2^(8*j) by rw[Nat.pow_mul]]
theorem zoj (L:List UInt8) (q i:Nat) (h:q+i<L.length):(L.drop q).take (i+1)=(L.drop q).take i ++ [L[q+i]]:=by
 rw[qbS,List.getElem?_drop,qai h];rfl
set_option maxHeartbeats 8000000 in
theorem ziA (Q a most:Nat) (L:List UInt8) (x:Nat->Value) (vo:Value) (out:List UInt8) (w:World) (hG:QGo w w Q (bs (Bts.allB L)) a 0 x vo vo out) (hx3:x 3=.int .i64 (most:Int)) (ha:a<=8*L.length) (hL:L.length<=300000) (hmost:most<=300000) (hout:out.length<=most):
  Calls Tryz.prog 75 #[.pointer (some ⟨Q,0,none⟩)] w λ r w'=>SPost w Q (bs (Bts.allB L)) x vo (Inf.stored L most a out) r w':=by
 have H_0:=Hd hG;obtain⟨rr,hr⟩:=nmE (Inf.stored L most a out);rw[hr];unfold Inf.stored at hr;have hsz:(bs (Bts.allB L)).size=8*L.length:=by rw[zb2,Bts.zbK]
 have hx3v:=hx3;obtain⟨a1,ha1⟩:=nmE ((a+7)/8*8);rw[ha1] at hr;have HR:=Hd hr;have h1:a1<=8*L.length:=by omega
 have h18:a1%8=0:=by omega
 obtain⟨i0,hi0,hz0,hz1,hz2⟩:=qbb u8inf;clear hG hr;go_enter Tryz.func75,Tryz.ntmps75
 go_wp2_with fail;refine (zgz Q a 0 (bs (Bts.allB L)) x _ H_0.out.bk (by omega)).mono ?_;rintro r w_1 ⟨rfl,hB,hK⟩;rw[ha1] at hB;have H_1:=Hd (H_0.out.quiet hK hB);clear H_0;clear hK hB;go_wp2_with fail;cases hg1:Inf.get L 16 a1 with
 | error c=>
  obtain rfl:=(Inf.zaL hg1).1;have HQ:Hid (.error 0=rr):=Hd (by have h:=HR.out;simp only[hg1] at h;exact h);refine (zao Q a1 0 16 L x _ H_1.out.bk (by omega) (by omega) hL).mono ?_;rintro r w_2 ⟨hK,hP⟩;rw[qad rfl,hg1] at hP;obtain⟨rfl,hB⟩:=hP;have H_2:=Hd (H_1.out.quiet hK hB);clear H_1;clear hK hB;go_wp2_with fail;refine (zao Q a1 (0+1) 16 L x _ H_2.out.bk (by omega) (by omega) hL).mono ?_;rintro r w_3 ⟨hK,hP⟩;rw[qac (by omega)] at hP;obtain⟨rfl,hB⟩:=hP;have H_3:=Hd (H_2.out.quiet hK hB);clear H_2;clear hK hB;go_wp2_with fail;refine rokF H_3.out.bk ?_;go_wp2_with fail;refine rgQ ?_;have hdk:=dF (p:=(0+1)=0);refine qY ?_;refine zau (by kernel_rfl) λ K hK=>?_;go_simp;refine⟨_,(zaI Q a1 (0+1) (bs (Bts.allB L)) x _ H_3.out.bk.drew),hK _ ?_⟩;clear hK K;refine qY ?_;refine qN ?_;refine qN ?_;refine qN ?_;refine qN ?_;refine qN ?_;refine qN ?_;refine qN ?_;refine qN ?_;refine qN ?_;refine qN ?_;refine qN ?_;refine qN ?_;refine qN ?_;refine qY ?_;refine zaf ?_;clear hdk;have H_4:=Hd (H_3.out.ext (show Ext w_3 w_3.drew from qag (Ext.refl _)));clear H_3;go_wp2_with fail;refine zac (λ wz=>Ext w_3.drew wz) (Ext.refl _) ?_;rintro w_4 hX;have H_5:=Hd (H_4.out.ext hX);clear H_4;clear hX;refine rgQ ?_;have hdk:=dF (p:=(0+1)=0);refine qY ?_;refine zau (by kernel_rfl) λ K hK=>?_;go_simp;refine⟨_,(zaI Q a1 (0+1) (bs (Bts.allB L)) x _ H_5.out.bk.drew),hK _ ?_⟩;clear hK K
  refine qY ?_;refine qN ?_;refine qN ?_;refine qN ?_;refine qN ?_;refine qN ?_;refine qN ?_;refine qN ?_;refine qN ?_;refine qN ?_;refine qN ?_;refine qN ?_;refine qN ?_;refine qY ?_;refine zaf ?_;clear hdk;have H_6:=Hd (H_5.out.ext (show Ext w_4 w_4.drew from qag (Ext.refl _)));clear H_5;go_wp2_with fail;go_loopw [4] (λ z wr=>z=.int .i64 0/\Hid (QGo w wr Q (bs (Bts.allB L)) a1 (0+1) x vo vo out)) (λ _ _=>0)
  case atStart=>exact⟨rfl,H_6⟩
  case round=>
   clear H_6;obtain⟨rfl,H_6⟩:=hrel;exact Ygj0
 | ok q=>
  obtain⟨n,a2⟩:=q;have HR1:=HR.out;simp only[hg1] at HR1;clear HR;have HR:=Hd HR1;clear HR1;obtain⟨q1,q2,q3,q4⟩:=Inf.zax hg1;clear q4;have hq65:n<65536:=q3;have hq2:a2<=8*L.length:=by omega
  have hq8:a2%8=0:=by omega
  clear q3 q1 q2;refine (zao Q a1 0 16 L x _ H_1.out.bk (by omega) (by omega) hL).mono ?_;rintro r w_2 ⟨hK,hP⟩;rw[qad rfl,hg1] at hP;obtain⟨rfl,hB⟩:=hP;have H_2:=Hd (H_1.out.quiet hK hB);clear H_1;clear hK hB;clear hg1;go_wp2_with fail;cases hg2:Inf.get L 16 a2 with
  | error c=>
   obtain rfl:=(Inf.zaL hg2).1;have HQ:Hid (.error 0=rr):=Hd (by have h:=HR.out;simp only[hg2] at h;exact h);refine (zao Q a2 0 16 L x _ H_2.out.bk (by omega) (by omega) hL).mono ?_;rintro r w_3 ⟨hK,hP⟩;rw[qad rfl,hg2] at hP;obtain⟨rfl,hB⟩:=hP;have H_3:=Hd (H_2.out.quiet hK hB);clear H_2;clear hK hB;go_wp2_with fail;refine rokF H_3.out.bk ?_;go_wp2_with fail;refine rgQ ?_;have hdk:=dF (p:=(0+1)=0);refine qY ?_;refine zau (by kernel_rfl) λ K hK=>?_;go_simp;refine⟨_,(zaI Q a2 (0+1) (bs (Bts.allB L)) x _ H_3.out.bk.drew),hK _ ?_⟩;clear hK K;refine qY ?_;refine qN ?_;refine qN ?_;refine qN ?_;refine qN ?_;refine qN ?_;refine qN ?_;refine qN ?_;refine qN ?_;refine qN ?_;refine qN ?_;refine qN ?_;refine qN ?_;refine qN ?_;refine qY ?_;refine zaf ?_;clear hdk;have H_4:=Hd (H_3.out.ext (show Ext w_3 w_3.drew from qag (Ext.refl _)));clear H_3;go_wp2_with fail;refine zac (λ wz=>Ext w_3.drew wz) (Ext.refl _) ?_;rintro w_4 hX;have H_5:=Hd (H_4.out.ext hX);clear H_4;clear hX;refine rgQ ?_;have hdk:=dF (p:=(0+1)=0);refine qY ?_;refine zau (by kernel_rfl) λ K hK=>?_;go_simp;refine⟨_,(zaI Q a2 (0+1) (bs (Bts.allB L)) x _ H_5.out.bk.drew),hK _ ?_⟩;clear hK K;refine qY ?_;refine qN ?_;refine qN ?_;refine qN ?_;refine qN ?_;refine qN ?_;refine qN ?_;refine qN ?_;refine qN ?_;refine qN ?_;refine qN ?_;refine qN ?_;refine qN ?_;refine qY ?_;refine zaf ?_;clear hdk;have H_6:=Hd (H_5.out.ext (show Ext w_4 w_4.drew from qag (Ext.refl _)))
   clear H_5;go_wp2_with fail;go_loopw [4] (λ z wr=>z=.int .i64 0/\Hid (QGo w wr Q (bs (Bts.allB L)) a2 (0+1) x vo vo out)) (λ _ _=>0)
   case atStart=>exact⟨rfl,H_6⟩
   case round=>
    clear H_6;obtain⟨rfl,H_6⟩:=hrel;by_cases hn0:0<n
    ·have t8:=dT (p:=(0:Int)<(n:Int));go_wp2_with fail;refine rokF H_6.out.bk ?_;exact Ygj0
    have t8:=dF (p:=(0:Int)<(n:Int));exact Ygj0
  | ok q=>
   obtain⟨m,a3⟩:=q;have HR1:=HR.out;simp only[hg2] at HR1;clear HR;have HR:=Hd HR1;clear HR1;obtain⟨p1,p2,p3,p4⟩:=Inf.zax hg2;clear p4;have hp65:m<65536:=p3;have hp2:a3<=8*L.length:=by omega
   have hp8:a3%8=0:=by omega
   clear p3 p1 p2;refine (zao Q a2 0 16 L x _ H_2.out.bk (by omega) (by omega) hL).mono ?_;rintro r w_3 ⟨hK,hP⟩;rw[qad rfl,hg2] at hP;obtain⟨rfl,hB⟩:=hP;have H_3:=Hd (H_2.out.quiet hK hB);clear H_2;clear hK hB;clear hg2;go_wp2_with fail;refine rokT H_3.out.bk ?_;have wnm:=wqz (x:=(n:Int)+(m:Int));by_cases hx:n+m=65535
   ·have t1:((n:Int)+(m:Int) !=65535)=false:=by rw[qbL];omega
    have HR1:=HR.out;rw[qac (λ q=>q hx)] at HR1;clear HR;have HR:=Hd HR1;clear HR1;go_wp2_with fail;clear t1 wnm;have c0:=H_3.out.bk.cell 0;have c1:=H_3.out.bk.cell 1;simp only[qc] at c0 c1;obtain⟨A,hA⟩:=nmE (a3+8*n);have hAI:(a3:Int)+8*(n:Int)=(A:Int):=by omega
    have wA:=wqz (x:=(A:Int));have w8:=wqz (x:=8*(n:Int));obtain⟨Z,hZ⟩:=nmE (8*L.length);rw[hZ] at hsz;by_cases hov:Z<A
    ·have t2:=dT (p:=(Z:Int)<(A:Int));have n2:Z<A:=hov;have HQ:Hid (.error 0=rr):=Hd (by have h:=HR.out;rw[qad (by omega)] at h;exact h);refine rgQ ?_;have hdk:decide (0=0)=true:=rfl;refine qY ?_;refine zau (by kernel_rfl) λ K hK=>?_;go_simp;refine⟨_,(zaI Q a3 0 (bs (Bts.allB L)) x _ H_3.out.bk.drew),hK _ ?_⟩;clear hK K;refine qY ?_;refine qY ?_;refine qY ?_;refine qY ?_;refine qY ?_;refine qY ?_;refine qY ?_;refine qY ?_;refine qY ?_;refine qY ?_;refine qY ?_;refine qY ?_;refine qY ?_;refine qY ?_;refine qY ?_;refine zaf ?_;clear hdk;have H_4:=Hd (H_3.out.ext (show Ext w_3 w_3.drew from qag (Ext.refl _)));clear H_3;go_wp2_with fail;refine (zap Q a3 0 1 (bs (Bts.allB L)) x _ H_4.out.bk).mono ?_;rintro r w_4 ⟨rfl,hB,hK⟩;rw[show fl 0 1=1 from rfl] at hB;have H_5:=Hd (H_4.out.quiet hK hB);clear H_4;clear hK hB;clear t2 n2 c0 c1 hsz;go_wp2_with fail;refine zac (λ wz=>Ext w_4 wz) (Ext.refl _) ?_;exact Ygj1
    have t2:=dF (p:=(Z:Int)<(A:Int));have n2:¬ Z<A:=hov;have HR1:=HR.out;rw[qac (by omega)] at HR1;clear HR;have HR:=Hd HR1;clear HR1;refine rgQ ?_;have hdk:decide (0=0)=true:=rfl;refine qY ?_;refine zau (by kernel_rfl) λ K hK=>?_;go_simp;refine⟨_,(zaI Q a3 0 (bs (Bts.allB L)) x _ H_3.out.bk.drew),hK _ ?_⟩;clear hK K;refine qY ?_;refine qY ?_;refine qY ?_;refine qY ?_;refine qY ?_;refine qY ?_;refine qY ?_;refine qY ?_;refine qY ?_;refine qY ?_;refine qY ?_;refine qY ?_;refine qY ?_;refine qY ?_;refine qY ?_;refine zaf ?_;clear hdk;have H_4:=Hd (H_3.out.ext (show Ext w_3 w_3.drew from qag (Ext.refl _)));clear H_3;go_wp2_with fail;clear t2 n2 c0 c1;refine zac (λ wz=>Ext w_3.drew wz) (Ext.refl _) ?_;rintro w_4 hX;have H_5:=Hd (H_4.out.ext hX);clear H_4;clear hX;obtain⟨Lo,hLo⟩:=nmE (out.length);have HL:=Hd hLo;have hro:=H_5.out.row;rw[hLo] at hro hout;obtain⟨xo,co,hvo⟩:=zam hro;have hx2v:=(H_5.out.x2).trans hvo;clear hLo hro;have c2:=H_5.out.bk.cell 2;have c3:=H_5.out.bk.cell 3;simp only[qc] at c2 c3;rw[hx2v] at c2;rw[hx3v] at c3;have wl:=wqz (x:=(Lo:Int)+(n:Int));by_cases hmo:most<Lo+n
    ·have t3:=dT (p:=(most:Int)<(Lo:Int)+(n:Int));have HQ:Hid (.error 1=rr):=Hd (by have h:=HR.out;rw[HL.out,qad hmo] at h;exact h);refine rgQ ?_;have hdk:decide (0=0)=true:=rfl;refine qY ?_;refine zau (by kernel_rfl) λ K hK=>?_;go_simp;refine⟨_,(zaI Q a3 0 (bs (Bts.allB L)) x _ H_5.out.bk.drew),hK _ ?_⟩;clear hK K;refine qY ?_;refine qY ?_;refine qY ?_;refine qY ?_;refine qY ?_;refine qY ?_;refine qY ?_;refine qY ?_;refine qY ?_;refine qY ?_;refine qY ?_;refine qY ?_;refine qY ?_;refine qY ?_;refine zaf ?_;clear hdk;have H_6:=Hd (H_5.out.ext (show Ext w_4 w_4.drew from qag (Ext.refl _)));clear H_5;go_wp2_with fail;refine (zap Q a3 0 2 (bs (Bts.allB L)) x _ H_6.out.bk).mono ?_;rintro r w_5 ⟨rfl,hB,hK⟩;rw[show fl 0 2=2 from rfl] at hB;have H_7:=Hd (H_6.out.quiet hK hB);clear H_6;clear hK hB;clear t3 wl c2 c3;go_wp2_with fail;go_loopw [4] (λ z wr=>z=.int .i64 0/\Hid (QGo w wr Q (bs (Bts.allB L)) a3 2 x vo vo out)) (λ _ _=>0)
     case atStart=>exact⟨rfl,H_7⟩
     case round=>
      exact Ygj2
    have t3:=dF (p:=(most:Int)<(Lo:Int)+(n:Int));have HQ:Hid (.ok (A,out++(L.drop (a3/8)).take n)=rr):=Hd (by have h:=HR.out;rw[HL.out,qac hmo,hA] at h;exact h);refine rgQ ?_;have hdk:decide (0=0)=true:=rfl;refine qY ?_;refine zau (by kernel_rfl) λ K hK=>?_;go_simp;refine⟨_,(zaI Q a3 0 (bs (Bts.allB L)) x _ H_5.out.bk.drew),hK _ ?_⟩;clear hK K;refine qY ?_;refine qY ?_;refine qY ?_;refine qY ?_;refine qY ?_;refine qY ?_;refine qY ?_;refine qY ?_;refine qY ?_;refine qY ?_;refine qY ?_;refine qY ?_;refine qY ?_;refine qY ?_;refine zaf ?_;clear hdk;have H_6:=Hd (H_5.out.ext (show Ext w_4 w_4.drew from qag (Ext.refl _)));clear H_5;go_wp2_with fail;clear t3 wl c2 c3 HR;obtain⟨q,hq⟩:=nmE (a3/8);have hq8:a3=8*q:=by omega
    rw[hq] at HQ;have hqn:q+n<=L.length:=by omega
    have hqA:8*q+8*n=A:=by omega
    have HQ8:=Hd hq8;have HQA:=Hd hqA;clear hq8 hqA hA hAI hq;have HLo:Hid (Lo+n<=300000):=Hd (by omega);go_loopw [4] (λ z wr=>∃(i:Nat) (x2:Nat->Value) (v2:Value),i<=n/\z=.int .i64 i/\Hid (QGo w wr Q (bs (Bts.allB L)) (8*q+8*i) 0 x2 vo v2 (out++(L.drop q).take i))/\Hid (∀j,j≠2->x2 j=x j)) (λ z _=>n-(intOf z).toNat)
    case atStart=>exact⟨0,x,vo,by omega,rfl,Hd (by rw[qaH,qbW,Nat.mul_zero,qcd,<- HQ8.out];exact H_6.out),Hd (λ _ _=>rfl)⟩
    case round=>
     clear H_6;obtain⟨i,x2,v2,hi,rfl,H_0,HXX⟩:=hrel;by_cases hin:i<n
     ·have t8:=dT (p:=(i:Int)<(n:Int));have hqi:q+i<L.length:=by omega
      have hgb:=zm5 L (q+i) hqi;rw[Nat.mul_add] at hgb;obtain⟨y,hy⟩:=nmE (L[q+i]);rw[hy] at hgb;have HY:Hid ((L.drop q).take (i+1)=(L.drop q).take i ++ [y]):=Hd (by rw[zoj L q i hqi,hy]);have hyb:=qcj y;have HGB:=Hd hgb;clear hgb hy;go_wp2_with fail;refine rokT H_0.out.bk ?_;go_wp2_with fail;clear t8;refine (zao Q (8*q+8*i) 0 8 L x2 _ H_0.out.bk (by omega) (by omega) hL).mono ?_;rintro r w_5 ⟨hK,hP⟩;rw[qad rfl,HGB.out] at hP;obtain⟨rfl,hB⟩:=hP;have H_1:=Hd (H_0.out.quiet hK hB);clear H_0;clear hK hB;obtain⟨M,hM⟩:=nmE ((out++(L.drop q).take i).length);have HM:=Hd hM;have hMl:M=Lo+i:=by rw[<- hM,qaa,HL.out,qax,qbh];omega
      have hMb:M<=300000:=by have:=HLo.out;omega
      have hro:=H_1.out.row;rw[hM] at hro;obtain⟨xq,cq,rfl⟩:=zam hro;have HO:=Hd hro;have hx2w:=H_1.out.x2;clear hM hro hMl;have c2:=H_1.out.bk.cell 2;simp only[qc] at c2;rw[hx2w] at c2;have hky:((y.toNat:Nat):Int)%256=(y.toNat:Int):=by omega
      have wk:∀z,z=(y.toNat:Int)->IntKind.u8.wrap z=z:=by rintro _ rfl;unfold IntKind.wrap;simp[IntKind.bits,IntKind.signed];omega
      go_wp2_with (at_builtin;refine apA (HO.out.alloc _) [.int .u8 (y.toNat:Int)] ?_);intro v' w4 hown hgrow _ hat;obtain⟨x4,c4,rfl⟩:=zam hown;have P:=H_1.out.push (y:=y) HM.out ((Ext.refl _).alloc _) hgrow hown (by rcases hat with q | q;exact .inl q;exact .inr (by rw[q];simp));have b2:=P.1.cell 2;have f2:=P.1.frozen 2;have HP:=Hd P.2;have wi:=wqz (x:=(i:Int)+1);clear P hown hgrow hat c2 wk;go_wp2_with fail;go_roundw
      case rel=>exact⟨i+1,_,_,by omega,by go_num,Hd (by rw[HY.out,<- qat,Nat.mul_succ,<- qa6];exact HP.out),Hd (λ j hj=>by rw[<- HXX.out j hj];simp[xset,hj])⟩
      case measure=>simp[intOf];omega
     obtain rfl:i=n:=by omega
     have t8:=dF (p:=(i:Int)<(i:Int));go_wp2_with fail;go_end0;exact znl HQ.out (by rw[<- HQA.out];exact H_0.out) HXX.out
   have t1:((n:Int)+(m:Int) !=65535)=true:=by rw[qce];omega
   have HQ:Hid (.error 0=rr):=Hd (by have h:=HR.out;rw[qad hx] at h;exact h);go_wp2_with fail;refine (zap Q a3 0 1 (bs (Bts.allB L)) x _ H_3.out.bk).mono ?_;rintro r w_4 ⟨rfl,hB,hK⟩;rw[show fl 0 1=1 from rfl] at hB;have H_4:=Hd (H_3.out.quiet hK hB);clear H_3;clear hK hB;clear t1 wnm;go_wp2_with fail;refine rgQ ?_;have hdk:=dF (p:=1=0);refine qY ?_;refine zau (by kernel_rfl) λ K hK=>?_;go_simp;refine⟨_,(zaI Q a3 1 (bs (Bts.allB L)) x _ H_4.out.bk.drew),hK _ ?_⟩;clear hK K;refine qY ?_;refine qN ?_;refine qN ?_;refine qN ?_;refine qN ?_;refine qN ?_;refine qN ?_;refine qN ?_;refine qN ?_;refine qN ?_;refine qN ?_;refine qN ?_;refine qN ?_;refine qN ?_;refine qY ?_;refine zaf ?_;clear hdk;have H_5:=Hd (H_4.out.ext (show Ext w_4 w_4.drew from qag (Ext.refl _)));clear H_4;go_wp2_with fail;refine zac (λ wz=>Ext w_4.drew wz) (Ext.refl _) ?_;exact Ygj1
end Go.Proofs.YthlibiocadimhaaGreatDoor
