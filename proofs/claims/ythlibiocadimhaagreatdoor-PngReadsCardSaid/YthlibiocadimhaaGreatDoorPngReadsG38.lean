/-
  the document's UnzipOf.
-/
import Derived.Test.YthlibiocadimhaaGreatDoorPngReadsG36
set_option linter.all false
set_option maxRecDepth 100000
namespace Go.Proofs.YthlibiocadimhaaGreatDoor
open Go.RowKit
theorem Ygp0 {p:Prop} (h:p:=by
 go_meet
 exact⟨by rw[show decide (¬ Inf.zaB s)=true from qae HQ.out],rfl⟩):p:=h
set_option maxHeartbeats 4000000 in
theorem ziD (s:ByteArray) (most:Int) (w:World) (hs:s.size<=maxLen):
  Calls Tryz.prog 16 #[.string s,.int .i64 most] w λ e w'=>zqH (Inf.unz s most) e/\Ext w w':=by
 have HO:=Hd (λ (t:ByteArray) (w:World) (h:t.size<=maxLen)=>zg1 t most w h);have HAd:=Hd (λ (t:ByteArray) (w:World) (h:t.size<=maxLen)=>zho t w h);have HBo:=Hd (λ (t:ByteArray) (w:World) (h:t.size<=maxLen) (h4:4<=t.size)=>zcu t w h h4);unfold maxLen at hs;obtain⟨r,hr⟩:=nmE (Inf.unz s most);rw[hr];unfold Inf.unz at hr;by_cases hb:most<0\/300000<most\/300000<s.size
 ·rw[qad hb] at hr;subst hr;go_enter Tryz.func16,Tryz.ntmps16
  by_cases h0:most<0
  ·have t0:decide (most<0)=true:=qae h0;go_wp2_with fail;go_ret2;exact⟨rfl,Ext.refl _⟩
  have t0:decide (most<0)=false:=qaf h0;by_cases h1:300000<most
  ·have t1:decide (300000<most)=true:=qae h1;go_wp2_with fail;go_ret2;exact⟨rfl,Ext.refl _⟩
  have h2:300000<s.size:=by omega
  have h2I:(300000:Int)<(s.size:Int):=by omega
  have t1:decide (300000<most)=false:=qaf h1;have t2:decide ((300000:Int)<(s.size:Int))=true:=qae h2I;clear hb;go_wp2_with fail;go_ret2;exact⟨rfl,Ext.refl _⟩
 rw[qac hb] at hr;have HR:=Hd hr;have hsz:s.size<=300000:=by omega
 obtain⟨m,rfl⟩:∃m:Nat,most=m:=⟨most.toNat,by omega⟩;have t0:=dF (p:=(m:Int)<0);have t1:=dF (p:=300000<(m:Int));have t2:=dF (p:=(300000:Int)<(s.size:Int));have n1:¬ 300000<m:=by omega
 have n2:¬ 300000<s.size:=by omega
 clear hb hr;go_enter Tryz.func16,Tryz.ntmps16
 go_upto_region 3 with fail;clear t0 t1 t2 n1 n2;go_cut [51] (λ s51 wx=>s51=.bool (decide (¬ Inf.zaB s))/\w.drew=wx)
 case first=>
  by_cases h2:s.size<2
  ·have f0:=dT (p:=(s.size:Int)<2);have HQ:Hid (¬ Inf.zaB s):=Hd (λ h=>by have:=h.1;omega);refine rgQ ?_;refine qY ?_;refine qY ?_;refine qY ?_;refine qY ?_;refine qN ?_;refine qN ?_;refine qN ?_;refine qN ?_;refine qY ?_;refine qY ?_;refine qN ?_;refine qN ?_;refine qN ?_;refine qN ?_;refine qY ?_;refine qY ?_;refine qN ?_;refine qN ?_;refine qN ?_;refine qN ?_;refine qN ?_;refine qN ?_;refine qN ?_;refine qN ?_;refine qN ?_;refine qN ?_;refine qY ?_;refine qY ?_;refine qN ?_;refine qN ?_;refine qN ?_;refine qN ?_;refine qN ?_;refine qY ?_;refine zaf ?_;(try go_wp2_with fail);clear f0;exact Ygp0
  have f0:=dF (p:=(s.size:Int)<2);have h0:0<s.size:=by omega
  have h1:1<s.size:=by omega
  have h0I:(0:Int)<(s.size:Int):=by omega
  have h1I:(1:Int)<(s.size:Int):=by omega
  have HH:Hid (Inf.zaB s↔(s[0].toNat%16=8/\s[0].toNat/16<=7/\(s[0].toNat*256+s[1].toNat)%31=0/\s[1].toNat/32%2=0)):=Hd (zjA s h1);have ha:=s[0].toNat_lt;have hb:=s[1].toNat_lt;obtain⟨K,hK⟩:∃K:Nat,s[0].toNat*256+s[1].toNat=K:=⟨_,rfl⟩;obtain⟨r31,hr31⟩:∃q:Nat,K%31=q:=⟨_,rfl⟩;have mC:(K:Int).tmod 31=(r31:Int):=by rw[qcg (by omega)];omega
  have wa:=wqz (x:=(s[0].toNat:Int));have wb:=wqz (x:=(s[1].toNat:Int));have wr:=wqz (x:=(r31:Int));rw[hK,hr31] at HH;have wq16:∀z,z=(s[0].toNat:Int)/16->IntKind.u8.wrap z=z:=by rintro _ rfl;rw[IntKind.wrap_u8'];omega
  have wq32:∀z,z=(s[1].toNat:Int)/32->IntKind.u8.wrap z=z:=by rintro _ rfl;rw[IntKind.wrap_u8'];omega
  have wKK:∀z,z=(s[0].toNat:Int)*256+(s[1].toNat:Int)->IntKind.i64.wrap z=(K:Int):=by rintro _ rfl;rw[qal];omega
  have wK:=wqz (x:=(K:Int));have wL:=wqz (x:=(s[0].toNat:Int)*256);by_cases hA:s[0].toNat%16=8
  ·have fA:((s[0].toNat:Int).tmod 16 !=8)=false:=by rw[qcg (by omega),qbL];omega
   by_cases hB:s[0].toNat/16<=7
   ·have fB:=dF (p:=(7:Int)<(s[0].toNat:Int)/16);by_cases hC:r31=0
    ·have fC:((r31:Int) !=0)=false:=by rw[qbL];omega
     by_cases hD:s[1].toNat/32%2=0
     ·have fD:(((s[1].toNat:Int)/32).tmod 2 !=0)=false:=by rw[qcg (by omega),qbL];omega
      have HQ:Hid (Inf.zaB s):=Hd (HH.out.2 ⟨hA,hB,hC,hD⟩);refine rgQ ?_;refine qY ?_;refine qY ?_;refine qY ?_;refine qY ?_;refine qY ?_;refine qY ?_;refine qY ?_;refine qY ?_;refine qY ?_;refine qY ?_;refine qY ?_;refine qY ?_;refine qY ?_;refine qY ?_;refine qY ?_;refine qY ?_;refine qY ?_;refine qY ?_;refine qY ?_;refine qY ?_;refine qY ?_;refine qY ?_;refine qY ?_;refine qY ?_;refine qY ?_;refine qY ?_;refine qY ?_;refine qY ?_;refine qY ?_;refine qY ?_;refine qY ?_;refine qY ?_;refine qY ?_;refine qY ?_;refine zaf ?_;(try go_wp2_with fail);clear fA fB fC fD;go_meet
      exact⟨by rw[show decide (¬ Inf.zaB s)=false from qaf (λ h=>h HQ.out)],rfl⟩
     have fD:(((s[1].toNat:Int)/32).tmod 2 !=0)=true:=by rw[qcg (by omega),qce];omega
     have HQ:Hid (¬ Inf.zaB s):=Hd (λ h=>hD (HH.out.1 h).2.2.2);refine rgQ ?_;refine qY ?_;refine qY ?_;refine qY ?_;refine qY ?_;refine qY ?_;refine qY ?_;refine qY ?_;refine qY ?_;refine qY ?_;refine qY ?_;refine qY ?_;refine qY ?_;refine qY ?_;refine qY ?_;refine qY ?_;refine qY ?_;refine qY ?_;refine qY ?_;refine qY ?_;refine qY ?_;refine qY ?_;refine qY ?_;refine qY ?_;refine qY ?_;refine qY ?_;refine qY ?_;refine qY ?_;refine qY ?_;refine qY ?_;refine qY ?_;refine qY ?_;refine qY ?_;refine qY ?_;refine qY ?_;refine zaf ?_;(try go_wp2_with fail);clear fA fB fC fD;exact Ygp0
    have fC:((r31:Int) !=0)=true:=by rw[qce];omega
    have HQ:Hid (¬ Inf.zaB s):=Hd (λ h=>hC (HH.out.1 h).2.2.1);refine rgQ ?_;refine qY ?_;refine qY ?_;refine qY ?_;refine qY ?_;refine qY ?_;refine qY ?_;refine qY ?_;refine qY ?_;refine qY ?_;refine qY ?_;refine qY ?_;refine qY ?_;refine qY ?_;refine qY ?_;refine qY ?_;refine qY ?_;refine qY ?_;refine qY ?_;refine qY ?_;refine qY ?_;refine qY ?_;refine qY ?_;refine qY ?_;refine qY ?_;refine qY ?_;refine qY ?_;refine qY ?_;refine qY ?_;refine qN ?_;refine qN ?_;refine qN ?_;refine qN ?_;refine qN ?_;refine qY ?_;refine zaf ?_;(try go_wp2_with fail);clear fA fB fC;exact Ygp0
   have fB:=dT (p:=(7:Int)<(s[0].toNat:Int)/16);have HQ:Hid (¬ Inf.zaB s):=Hd (λ h=>hB (HH.out.1 h).2.1);refine rgQ ?_;refine qY ?_;refine qY ?_;refine qY ?_;refine qY ?_;refine qY ?_;refine qY ?_;refine qY ?_;refine qY ?_;refine qY ?_;refine qY ?_;refine qY ?_;refine qY ?_;refine qY ?_;refine qY ?_;refine qY ?_;refine qY ?_;refine qN ?_;refine qN ?_;refine qN ?_;refine qN ?_;refine qN ?_;refine qN ?_;refine qN ?_;refine qN ?_;refine qN ?_;refine qN ?_;refine qY ?_;refine qY ?_;refine qN ?_;refine qN ?_;refine qN ?_;refine qN ?_;refine qN ?_;refine qY ?_;refine zaf ?_;(try go_wp2_with fail);clear fA fB;exact Ygp0
  have fA:((s[0].toNat:Int).tmod 16 !=8)=true:=by rw[qcg (by omega),qce];omega
  have HQ:Hid (¬ Inf.zaB s):=Hd (λ h=>hA (HH.out.1 h).1);refine rgQ ?_;refine qY ?_;refine qY ?_;refine qY ?_;refine qY ?_;refine qY ?_;refine qY ?_;refine qY ?_;refine qY ?_;refine qY ?_;refine qY ?_;refine qN ?_;refine qN ?_;refine qN ?_;refine qN ?_;refine qY ?_;refine qY ?_;refine qN ?_;refine qN ?_;refine qN ?_;refine qN ?_;refine qN ?_;refine qN ?_;refine qN ?_;refine qN ?_;refine qN ?_;refine qN ?_;refine qY ?_;refine qY ?_;refine qN ?_;refine qN ?_;refine qN ?_;refine qN ?_;refine qN ?_;refine qY ?_;refine zaf ?_;(try go_wp2_with fail);clear fA;exact Ygp0
 obtain⟨rfl,rfl⟩:=hcut;by_cases hh:Inf.zaB s
 ·have HQ:=Hd hh;rw[qaf (λ h=>h hh)];have h2:=hh.1;clear hh;have hr:=HR.out;rw[qac (λ h=>h HQ.out)] at hr;have HR2:=Hd hr;clear hr HR;obtain⟨S,hS⟩:=nmE (s.extract 2 s.size);have hSs:S.size=s.size-2:=by rw[<- hS];simp
  have h2n:2<=s.size:=by omega
  have h2I:(2:Int)<=(s.size:Int):=by omega
  go_wp2_with fail;(try rw[hS]);refine (HO.out S _ (by rw[hSs];unfold maxLen;omega)).mono ?_;rintro e w3 ⟨⟨v,rfl,hv⟩,h3⟩;have X3:Hid (Ext w w3):=Hd (Ext.trans (qag (Ext.refl _)) h3);clear h3;rw[hS] at HR2;cases hi:Inf.infl S (m:Int) with
  | error c=>
   rw[hi] at hv HR2;simp only at HR2;unfold zfK at hv;simp only at hv;obtain⟨cc,hcc⟩:∃cc:Nat,c+1=cc:=⟨_,rfl⟩;rw[hcc] at hv;subst hv;have HCC:=Hd hcc;have hc0:(0:Int)<(cc:Int):=by omega
   have hc1:0<cc:=by omega
   clear hi hcc hS;go_wp2_with fail;refine rgQ ?_;refine qY ?_;refine qY ?_;refine qY ?_;refine qY ?_;refine zaf ?_;go_wp2_with fail;go_ret2;rw[<- HR2.out];exact⟨by show _=Ending.returned (.tuple #[.string ⟨#[]⟩,.int .i64 ((c+1:Nat):Int)]);rw[HCC.out];rfl,qag (X3.out.alloc _)⟩
  | ok q=>
   obtain⟨out,used,bl⟩:=q;have hbd:=Inf.zec hi;have hus:used<=s.size-2:=by rw[<- hSs];exact hbd.2.1
   have hob:out.length<=300000:=by have:=Inf.zjy hi;omega
   rw[hi] at hv HR2;simp only at HR2;unfold zfK at hv;simp only at hv;obtain⟨T,hT⟩:=nmE (tb out);have hTs:T.size=out.length:=by rw[<- hT,zj2]
   have hTl:T.data.toList=out:=by rw[<- hT];simp[tb]
   rw[hT] at hv;obtain⟨x,lo,rfl,e9,_,ht,⟨p5,n5,u5,e5⟩,⟨p6,n6,u6,e6⟩,⟨p7,n7,u7,e7⟩,⟨p8,n8,u8,e8⟩,⟨k10,e10⟩⟩:=hv;obtain⟨xt,ct,e11⟩:=zam ht;obtain⟨nt,hnt⟩:=nmE ((tksB bl).length);rw[e5,e6,e7,e8,e9,e10,e11,hnt];clear e5 e6 e7 e8 e9 e10 e11 hnt ht;have HT:=Hd hT;have HTl:=Hd hTl;obtain⟨A,hA0⟩:=nmE (2+used);have hAI:(2:Int)+(used:Int)=(A:Int):=by omega
   have wA:=wqz (x:=(A:Int));have wA4:=wqz (x:=(A:Int)+4);rw[hA0] at HR2;clear hi hbd hT hTl hS;obtain⟨w4,hw4⟩:=nmE (w3.alloc (.cells #[.string T,.int .i64 (used:Int),.int .i64 0,.slice p5 n5 u5,.slice p6 n6 u6,.slice p7 n7 u7,.slice p8 n8 u8,.int .i64 (bl.length:Int),.int .i64 k10,.slice xt nt ct] 97));have HB4:Hid (Bk w4 w3.heap.size #[.string T,.int .i64 (used:Int),.int .i64 0,.slice p5 n5 u5,.slice p6 n6 u6,.slice p7 n7 u7,.slice p8 n8 u8,.int .i64 (bl.length:Int),.int .i64 k10,.slice xt nt ct]):=Hd (by rw[<- hw4];exact Bk.at rfl);have X4:Hid (Ext w w4):=Hd (by rw[<- hw4];exact X3.out.alloc _);have HW4:=Hd hw4;clear hw4;by_cases h4:s.size=A+4
   ·have t4:((s.size:Int) !=(A:Int)+4)=false:=by rw[qbL];omega
    have hr:=HR2.out;rw[qac (by omega)] at hr;have HR3:=Hd hr;clear hr HR2;have hAs:A<=s.size:=by omega
    have hAsI:(A:Int)<=(s.size:Int):=by omega
    have hA0n:(0:Int)<=(A:Int):=by omega
    have hAt:((A:Nat):Int).toNat=A:=by omega
    obtain⟨R,hR⟩:=nmE (s.extract A s.size);have hRs:R.size=s.size-A:=by rw[<- hR];simp
    have hRl:R.data.toList=s.data.toList.drop A:=by rw[<- hR,zbY,qan (by rw[qbh,zaF];omega)]
    have HRl:=Hd hRl;have HRs:=Hd hRs;obtain⟨v,hv⟩:=nmE (valN (s.data.toList.drop A));obtain⟨y,hy⟩:=nmE (Adl.adler out);have HBR:Hid (∀w,Calls Tryz.prog 37 #[.string R] w λ e w'=>e=.returned (.int .u32 (v:Int))/\w'=w):=Hd (λ w=>by
     refine (HBo.out R w (by rw[HRs.out];unfold maxLen;omega) (by rw[HRs.out];omega)).mono ?_;rintro e w9 ⟨rfl,h9⟩;refine⟨?_,h9.symm⟩;rw[qan (by rw[zaF,HRs.out];omega),HRl.out,hv])
    have HAR:Hid (∀w,Calls Tryz.prog 48 #[.string T] w λ e w'=>e=.returned (.int .u32 (y:Int))/\w'=w):=Hd (λ w=>by
     refine (HAd.out T w (by unfold maxLen;omega)).mono ?_;rintro e w9 ⟨rfl,h9⟩;refine⟨?_,h9.symm⟩;rw[HTl.out,hy])
    have hr:=HR3.out;rw[hv,hy] at hr;have HR4:=Hd hr;clear hr HR3 hRs hRl hv hy h4;go_wp2_with fail;clear t4;rw[HW4.out];clear HW4;by_cases hvy:v=y
    ·have t5:((v:Int) !=(y:Int))=false:=by rw[qbL];omega
     have hr:=HR4.out;rw[qac (λ h=>h hvy)] at hr;subst hr;have c0:w4.drew.cell? ⟨w3.heap.size,0,none⟩=some (.string T):=HB4.out.cell 0;have c1:w4.drew.cell? ⟨w3.heap.size,1,none⟩=some (.int .i64 (used:Int)):=HB4.out.cell 1;refine rgQ ?_;refine qY ?_;refine qY ?_;refine qY ?_;refine qY ?_;refine qY ?_;refine zau (by kernel_rfl) λ K hK=>?_;go_simp;refine⟨_,HBR.out _,hK _ ?_⟩;clear hK K;refine qY ?_;refine qY ?_;refine zau (by kernel_rfl) λ K hK=>?_;go_simp;refine⟨_,HAR.out _,hK _ ?_⟩;clear hK K;refine qY ?_;refine zaf ?_;go_wp2_with fail;go_ret2;exact⟨by show _=Ending.returned (.tuple #[.string (tb out),.int .i64 0]);rw[HT.out];rfl,qag X4.out⟩
    have t5:((v:Int) !=(y:Int))=true:=by rw[qce];omega
    have hr:=HR4.out;rw[qad hvy] at hr;subst hr;have c0:w4.drew.cell? ⟨w3.heap.size,0,none⟩=some (.string T):=HB4.out.cell 0;have c1:w4.drew.cell? ⟨w3.heap.size,1,none⟩=some (.int .i64 (used:Int)):=HB4.out.cell 1;refine rgQ ?_;refine qY ?_;refine qY ?_;refine qY ?_;refine qY ?_;refine qY ?_;refine zau (by kernel_rfl) λ K hK=>?_;go_simp;refine⟨_,HBR.out _,hK _ ?_⟩;clear hK K;refine qY ?_;refine qY ?_;refine zau (by kernel_rfl) λ K hK=>?_;go_simp;refine⟨_,HAR.out _,hK _ ?_⟩;clear hK K;refine qY ?_;refine zaf ?_;go_wp2_with fail;go_ret2;exact⟨rfl,qag X4.out⟩
   have t4:((s.size:Int) !=(A:Int)+4)=true:=by rw[qce];omega
   have hr:=HR2.out;rw[qad (by omega)] at hr;subst hr;go_wp2_with fail;go_ret2;exact⟨rfl,X3.out.alloc _⟩
 have HQ:=Hd hh;rw[qae hh];clear hh;have hr:=HR.out;rw[qad HQ.out] at hr;subst hr;go_wp2_with fail;go_ret2;exact⟨rfl,qag (Ext.refl _)⟩
end Go.Proofs.YthlibiocadimhaaGreatDoor
