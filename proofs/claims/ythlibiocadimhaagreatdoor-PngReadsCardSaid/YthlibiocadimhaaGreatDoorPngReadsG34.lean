/-
  (*png.reader).head.
-/
import Derived.Test.YthlibiocadimhaaGreatDoorPngReadsG31
set_option linter.all false
set_option maxRecDepth 100000
namespace Go.Proofs.YthlibiocadimhaaGreatDoor
open Go.RowKit
theorem Yfm4 {p:Prop} (h:p:=by
 have ec0:w5.cell? ⟨1,0,none⟩=some (sentV (E 0)):=S5.out.e.var 0 (by decide);subst hres;go_wp2_with fail;go_ret;exact⟨S5.out.bl,rfl⟩):p:=h
theorem Yfm0 {p:Prop} (h:p:=by
 rw[HV.out];go_enter Tryz.func63,Tryz.ntmps63
 go_wp2_with fail;go_ret;exact⟨rfl,rfl⟩):p:=h
theorem Yfm1 {p:Prop} (h:p:=by
 clear hm0;exact Yfm4):p:=h
theorem Yfm2 {p:Prop} (h:p:=by
 have ec1:w2.cell? ⟨2,0,none⟩=some (sentV (E 1)):=ER2.out.var 1 (by decide);subst hres;go_wp2_with fail;go_ret;exact⟨B2.out,rfl⟩):p:=h
theorem Yfm3 {p:Prop} (h:p:=by
 have ec0:w1.cell? ⟨1,0,none⟩=some (sentV (E 0)):=ER1.out.var 0 (by decide);subst hres;go_wp2_with fail;go_ret;exact⟨B1.out,rfl⟩):p:=h
theorem zll (T n c:Nat) (f:Nat->Int) (v:Int) (w:World) (hn:n<=1000) (h:∀i,i<n->w.cell? ⟨T,i,none⟩=some (.int .i64 (f i))):
  Calls Tryz.prog 94 #[.slice (some ⟨T,0,none⟩) n c,.int .i64 v] w λ e w'=>(∃k:Int,e=.returned (.int .i64 k)/\(0<=k↔∃i,i<n/\f i=v))/\w=w':=by
 have HC:=Hd h;clear h;go_enter Tryz.func94,Tryz.ntmps94
 go_wp2_with fail;go_loopw [8] (λ iv wr=>wr=w/\∃k:Nat,iv=.int .i64 (k:Int)/\k<=n/\Hid (∀i,i<k->f i≠v)) (λ iv _=>n-(intOf iv).toNat)
 case atStart=>exact⟨by first | trivial | rfl,0,rfl,by omega,Hd (λ i hi=>by omega)⟩
 case round=>
  obtain⟨rfl,k,rfl,hk,HN⟩:=hrel;by_cases hlt:k<n
  ·have t0:=dT (p:=(k:Int)<(n:Int));have c0:=HC.out k hlt;have i1:(0:Int)<=(k:Int):=by omega
   have i2:(k:Int)<(n:Int):=by omega
   obtain⟨q,hq⟩:=nmE (f k);have HQ:=Hd hq;rw[hq] at c0;clear hq;by_cases hv:v=q
   ·have t1:(v ==q)=true:=qbl.2 hv;have HV:=Hd hv;clear hv;go_wp2_with fail;go_ret;exact⟨⟨_,rfl,λ _=>⟨k,hlt,by rw[HQ.out,HV.out]⟩,λ _=>by omega⟩,rfl⟩
   have t1:(v ==q)=false:=qak.2 hv;go_wp2_with fail;go_roundw
   case rel=>exact⟨by first | trivial | rfl,k+1,by go_num,by omega,Hd (λ i hi=>by
    by_cases hik:i=k
    ·rw[hik,HQ.out];exact λ e=>hv e.symm
    exact HN.out i (by omega))⟩
   case measure=>simp[intOf];omega
  obtain rfl:k=n:=by omega
  have t0:=dF (p:=(k:Int)<(k:Int));go_wp2_with fail;go_ret;exact⟨⟨_,rfl,λ h=>absurd h (by decide),λ⟨i,hi,e⟩=>absurd e (HN.out i hi)⟩,rfl⟩
theorem zhY (T n c:Nat) (f:Nat->Int) (v:Int) (w:World) (hn:n<=1000) (h:∀i,i<n->w.cell? ⟨T,i,none⟩=some (.int .i64 (f i))):
  Calls Tryz.prog 64 #[.slice (some ⟨T,0,none⟩) n c,.int .i64 v] w λ e w'=>(∃b:Bool,e=.returned (.bool b)/\(b=true↔∃i,i<n/\f i=v))/\w=w':=by
 have HI:=Hd (zll T n c f v w hn h);clear h;go_enter Tryz.func64,Tryz.ntmps64
 go_wp2_with fail;refine HI.out.mono ?_;rintro e w9 ⟨⟨k,rfl,hk⟩,rfl⟩;have HK:=Hd hk;clear hk;by_cases h0:0<=k
 ·have t0:decide ((0:Int)<=k)=true:=qae h0;go_wp2_with fail;go_ret;exact⟨⟨_,rfl,by rw[<- HK.out];simp[h0]⟩,rfl⟩
 have t0:decide ((0:Int)<=k)=false:=qaf h0;go_wp2_with fail;go_ret;exact⟨⟨_,rfl,by rw[<- HK.out];simp[h0]⟩,rfl⟩
theorem zek (n:Nat) (w:World):Calls Tryz.prog 63 #[.int .u32 (n:Int)] w λ e w'=>e=.returned (.bool (decide (1<=n/\n<=256)))/\w=w':=by
 by_cases h1:1<=n
 ·have t0:=dT (p:=(1:Int)<=(n:Int));by_cases h2:n<=256
  ·have t1:=dT (p:=(n:Int)<=256);have HV:Hid (decide (1<=n/\n<=256)=true):=Hd (qae ⟨h1,h2⟩);exact Yfm0
  have t1:=dF (p:=(n:Int)<=256);have HV:Hid (decide (1<=n/\n<=256)=false):=Hd (qaf (λ h=>h2 h.2));exact Yfm0
 have t0:=dF (p:=(1:Int)<=(n:Int));have HV:Hid (decide (1<=n/\n<=256)=false):=Hd (qaf (λ h=>h1 h.1));exact Yfm0
theorem zpD (k:Nat):(smp (k:Int)).getD 0=Png.byN k/\(smp (k:Int)).isSome=decide (Png.byN k≠0):=by
 rw[Png.zh4];by_cases h:Png.byN k=0
 ·rw[qad h,h];exact⟨rfl,rfl⟩
 rw[qac h];exact⟨rfl,(qae h).symm⟩
structure HdS (B b:Nat) (w wz:World) (E:Nat->Addr) (k d:ByteArray) (r:Rd):Prop where
 r:RdAt B b r wz
 bl:Below B w wz
 c:Bk wz w.heap.size #[.string k,.string d]
 e:ErrC wz E
 z:w.heap.size<=wz.heap.size
 hB:B<=w.heap.size
 hg:∀c,c<4->gk c<B
 ne:w.heap.size≠b
theorem HdS.ext {B b:Nat} {w wz wy:World} {E:Nat->Addr} {k d:ByteArray} {r:Rd} (h:HdS B b w wz E k d r) (hE:Ext wz wy):HdS B b w wy E k d r:=
 ⟨h.r.ext hE,h.bl.trans (Below.mono hE (qam h.hB h.z)),h.c.ext hE,h.e.ext hE,qam h.z hE.size,h.hB,h.hg,h.ne⟩
theorem HdS.put {B b:Nat} {w wz:World} {E:Nat->Addr} {k d:ByteArray} {r r':Rd} (h:HdS B b w wz E k d r) (i:Nat) (u:Value) (hi:∀p v,(rdV r p v).setIfInBounds i u=rdV r' p v) (hd:r'.data=r.data):HdS B b w (wz.setCell ⟨b,i,none⟩ u) E k d r':=by
 obtain⟨q1,q2⟩:=h.r.put i u hi hd;refine⟨q1,h.bl.trans q2,h.c.far h.ne _,⟨λ c hc=>?_⟩,by simpa using h.z,h.hB,h.hg,h.ne⟩;have hne:(⟨b,i,none⟩:Addr)≠⟨gk c,0,none⟩:=λ e=>by
  injection e with e _;have h1:=h.r.le;have h2:=h.hg c hc;omega
 rw[qah _ _ _ _ hne];exact h.e.var c hc
def zq1 (B b:Nat) (w w':World) (E:Nat->Addr) (r:Png.HdR) (e:Ending):Prop:=
 Below B w w'/\match r with
 | .bad c=>e=.returned (sentV (E c))
 | .ok W H d k=>e=.returned .nilIface/\RdAt B b (Png.rd0 W H d k) w'
set_option maxHeartbeats 4000000 in
theorem zo5 (B b:Nat) (k d:ByteArray) (w:World) (E:Nat->Addr) (hE:ErrC w E) (h:RdAt B b (Png.rd0 0 0 0 0) w) (hk:k.size<=maxLen) (hd:d.size<=300000) (hBw:B<=w.heap.size) (hgB:∀c,c<4->gk c<B):
  Calls Tryz.prog 27 #[.pointer (some ⟨b,0,none⟩),.agg #[.string k,.string d]] w λ e w'=>zq1 B b w w' E (Png.headR ⟨k,d⟩) e:=by
 have HR:=Hd h;have HER:=Hd hE;have HGK:=Hd hgB;have HBW:=Hd hBw;have hbne:Hid (w.heap.size≠b):=Hd (Nat.ne_of_gt h.lt);clear h hE hBw hgB;obtain⟨res,hres⟩:=nmE (Png.headR ⟨k,d⟩);rw[hres];unfold Png.headR at hres;go_enter Tryz.func27,Tryz.ntmps27
 go_upto_region 1 with fail;refine zac (λ wz=>Ext w wz/\Bk wz w.heap.size #[.string k,.string d]) ⟨(Ext.refl w).alloc _,Bk.at rfl⟩ ?_;rintro w1 ⟨hX,hC⟩;have R1:=Hd (HR.out.ext hX);have C1:=Hd hC;have B1:Hid (Below B w w1):=Hd (Below.mono hX HBW.out);have ER1:=Hd (HER.out.ext hX);have Z1:=Hd hX.size;clear hX hC HR HER;have cc0:=C1.out.cell 0;have cc1:=C1.out.cell 1;by_cases h_k:k=Png.ihdr
 ·have e_k:=pkyes h_k;have HK:=Hd h_k;clear h_k;by_cases h13:d.size=13
  ·have t0:(((d.size:Nat):Int) ==13)=true:=zav (by omega);have t1:(((d.size:Nat):Int) !=13)=false:=zbm (by omega);rw[qad ⟨HK.out,h13⟩] at hres;dsimp only at hres;obtain⟨l,hl⟩:=nmE (d.data.toList);have HL:=Hd hl;rw[hl] at hres;have hll:l.length=13:=by rw[<- hl];exact h13
   obtain⟨W,hW⟩:=nmE (valN (l.take 4));obtain⟨H,hH⟩:=nmE (valN ((l.drop 4).take 4));rw[hW,hH] at hres;obtain⟨D4,hD4⟩:∃D:ByteArray,d.extract 0 4=D:=⟨_,rfl⟩;obtain⟨D8,hD8⟩:∃D:ByteArray,d.extract 4 8=D:=⟨_,rfl⟩;obtain⟨D10,hD10⟩:∃D:ByteArray,d.extract 10 13=D:=⟨_,rfl⟩;have v4:valN D4.data.toList=W:=by rw[<- hD4,exl,hl,qaS];exact hW
   have v8:valN D8.data.toList=H:=by rw[<- hD8,exl,hl];exact hH
   have v10:D10.data.toList=l.drop 10:=by rw[<- hD10,exl,hl,qan (by rw[qbh];omega)]
   have HWl:W<4294967296:=by rw[<- hW];exact zca _
   have HHl:H<4294967296:=by rw[<- hH];exact zca _
   have s4:D4.size<=maxLen:=by rw[<- hD4,qau];unfold maxLen;omega
   have s8:D8.size<=maxLen:=by rw[<- hD8,qau];unfold maxLen;omega
   have HV4:=Hd (λ w=>zbR (zc7 D4 w s4));have HV8:=Hd (λ w=>zbR (zc7 D8 w s8));rw[v4] at HV4;rw[v8] at HV8;have HD10:=Hd v10;clear v4 v8 v10 s4 s8 hW hH hl;have n8:8<d.size:=by omega
   have n9:9<d.size:=by omega
   have n8i:(8:Int)<(d.size:Int):=by omega
   have n9i:(9:Int)<(d.size:Int):=by omega
   obtain⟨bd,hbd⟩:∃q:UInt8,d[8]=q:=⟨_,rfl⟩;obtain⟨bk,hbk⟩:∃q:UInt8,d[9]=q:=⟨_,rfl⟩;have g8:l.getD 8 0=bd:=by rw[<- HL.out,<- zar d 8 n8,hbd]
   have g9:l.getD 9 0=bk:=by rw[<- HL.out,<- zar d 9 n9,hbk]
   rw[g8,g9] at hres;clear g8 g9;have q4:(4:Int)<=(d.size:Int):=by omega
   have q8:(8:Int)<=(d.size:Int):=by omega
   have q10:(10:Int)<=(d.size:Int):=by omega
   have q4n:4<=d.size:=by omega
   have q8n:8<=d.size:=by omega
   have q10n:10<=d.size:=by omega
   go_wp2_with fail;refine rgQ ?_;refine qY ?_;refine qY ?_;refine qY ?_;refine zau (by kernel_rfl) λ K hK=>?_;go_simp;refine⟨_,HV4.out _,hK _ ?_⟩;clear hK K;refine qY ?_;refine qY ?_;refine qY ?_;refine zau (by kernel_rfl) λ K hK=>?_;go_simp;refine⟨_,HV8.out _,hK _ ?_⟩;clear hK K;refine qY ?_;refine qY ?_;refine zaf ?_;clear cc0 cc1 HV4 HV8 q4 q8 q4n q8n hD4 hD8;obtain⟨w2,hw2⟩:=nmE (w1.drew);rw[hw2];have hE9:Ext w1 w2:=by rw[<- hw2];exact qag (Ext.refl _)
   clear hw2;have R2:=Hd (R1.out.ext hE9);have C2:=Hd (C1.out.ext hE9);have ER2:=Hd (ER1.out.ext hE9);have B2:Hid (Below B w w2):=Hd (B1.out.trans (Below.mono hE9 (qam HBW.out Z1.out)));have Z2:=Hd (qam Z1.out hE9.size);clear R1 C1 ER1 B1 hE9 Z1;by_cases hWb:1<=W/\W<=256
   ·have HSW:=Hd (zek W);rw[show decide (1<=W/\W<=256)=true from qae hWb] at HSW;have HSH:=Hd (zek H);go_wp2_with fail;refine (HSW.out _).mono ?_;rintro e w9 ⟨rfl,rfl⟩;by_cases hHb:1<=H/\H<=256
    ·rw[show decide (1<=H/\H<=256)=true from qae hHb] at HSH;rw[qad ⟨hWb.1,hWb.2,hHb.1,hHb.2⟩] at hres;go_wp2_with fail;refine (HSH.out _).mono ?_;rintro e w10 ⟨rfl,rfl⟩;clear HSW HSH;obtain⟨f0,f1,f2,f3,_⟩:=R2.out.flds;have z0:=R2.out.froz 0;have z1:=R2.out.froz 1;have z2:=R2.out.froz 2;have z3:=R2.out.froz 3;have wW:=wqz (x:=(W:Int));have wH:=wqz (x:=(H:Int));go_upto_region 8 with fail;refine zac (λ wz=>HdS B b w wz E k d (Png.rd0 W H 0 0)) ?hw ?_
     case hw=>exact ((HdS.mk R2.out B2.out C2.out ER2.out Z2.out HBW.out HGK.out hbne.out).put (r':=Png.rd0 W 0 0 0) 0 (.int .i64 (W:Int)) (λ _ _=>rfl) rfl).put (r':=Png.rd0 W H 0 0) 1 (.int .i64 (H:Int)) (λ _ _=>rfl) rfl
     intro v0 hS;have S_0:=Hd hS;have C_0:=Hd hS.c;clear hS R2 B2 C2 ER2 Z2 f0 f1 f2 f3 z0 z1 z2 z3 wW wH;have hbdl:=bd.toNat_lt;have hbkl:=bk.toNat_lt;have wD:=wqz (x:=(bd.toNat:Int));have wK:=wqz (x:=(bk.toNat:Int));have k0:=C_0.out.cell 0;have k1:=C_0.out.cell 1;refine qar (S:=λ w'=>w'.cell? ⟨w.heap.size,0,none⟩=some (.string k)/\w'.cell? ⟨w.heap.size,1,none⟩=some (.string d)) (by kernel_rfl) ⟨C_0.out.cell 0,C_0.out.cell 1⟩ (λ hHeld=>?_);clear hHeld;clear k0 k1;refine zab (λ wz=>Ext v0 wz) (show Ext v0 v0.drew from qag (Ext.refl v0)) ?_;rintro v1 h;have S_1:=Hd (S_0.out.ext h);have C_1:=Hd (C_0.out.ext h);clear h S_0 C_0;have hHeld:v1.cell? ⟨w.heap.size,0,none⟩=some (.string k)/\v1.cell? ⟨w.heap.size,1,none⟩=some (.string d):=⟨C_1.out.cell 0,C_1.out.cell 1⟩;refine tk5 0 1 2 3 4 ?_;refine tk5 5 6 7 8 9 ?_;refine tk2 10 11 ?_;refine rdH 12 rfl λ KK hK=>?_;clear hHeld;have y2:=S_1.out.r.froz 2;obtain⟨f0,f1,f2,f3,_⟩:=S_1.out.r.flds;go_simp;clear f0 f1 f2 f3 y2;have SN:=Hd (S_1.out.put (r':=Png.rd0 W H bd.toNat 0) 2 (.int .i64 (bd.toNat:Int)) (λ _ _=>rfl) rfl);refine oS hK ⟨SN.out.c.cell 0,SN.out.c.cell 1⟩ λ hHeld=>?_;clear hK KK hHeld;refine zab (λ wz=>HdS B b w wz E k d (Png.rd0 W H bd.toNat 0)) SN.out ?_;intro v2 hSN;have S_2:=Hd hSN;have C_2:=Hd hSN.c;clear hSN SN S_1 C_1;have hHeld:v2.cell? ⟨w.heap.size,0,none⟩=some (.string k)/\v2.cell? ⟨w.heap.size,1,none⟩=some (.string d):=⟨C_2.out.cell 0,C_2.out.cell 1⟩
     refine tk2 13 14 ?_;refine rdH 15 rfl λ KK hK=>?_;clear hHeld;have y3:=S_2.out.r.froz 3;obtain⟨f0,f1,f2,f3,_⟩:=S_2.out.r.flds;go_simp;clear f0 f1 f2 f3 y3;have SN:=Hd (S_2.out.put (r':=Png.rd0 W H bd.toNat bk.toNat) 3 (.int .i64 (bk.toNat:Int)) (λ _ _=>rfl) rfl);refine oS hK ⟨SN.out.c.cell 0,SN.out.c.cell 1⟩ λ hHeld=>?_;clear hK KK hHeld;refine zab (λ wz=>HdS B b w wz E k d (Png.rd0 W H bd.toNat bk.toNat)) SN.out ?_;intro v3 hSN;have S_3:=Hd hSN;have C_3:=Hd hSN.c;clear hSN SN S_2 C_2;have hHeld:v3.cell? ⟨w.heap.size,0,none⟩=some (.string k)/\v3.cell? ⟨w.heap.size,1,none⟩=some (.string d):=⟨C_3.out.cell 0,C_3.out.cell 1⟩;refine dnT ?_;clear hHeld;clear wD wK n8 n9 n8i n9i hbd hbk;have SX:=S_3;clear C_3;obtain⟨dp,hdp⟩:=nmE (bd.toNat);obtain⟨kd,hkd⟩:=nmE (bk.toNat);have SY:Hid (HdS B b w v3 E k d (Png.rd0 W H dp kd)):=Hd (by rw[<- hdp,<- hkd];exact SX.out);rw[hdp,hkd] at hres;clear SX S_3;have hkl:kd<256:=by omega
     have hdl:dp<256:=by omega
     clear hdp hkd hbdl hbkl;obtain⟨m,hm⟩:=nmE (Png.byN kd);obtain⟨ob,hob⟩:∃q:Bool,decide (m≠0)=q:=⟨_,rfl⟩;have HSG:Hid ((smp (kd:Int)).getD 0=m/\(smp (kd:Int)).isSome=ob):=Hd (by rw[<- hob,<- hm];exact zpD kd);rw[hm] at hres;have HOB:=Hd hob;clear hob hm;have HKO:Hid (OkI (kd:Int)):=Hd (by unfold OkI;omega);have S_0:=SY;clear SY;obtain⟨f0,f1,f2,f3,_⟩:=S_0.out.r.flds;have h3:v3.cell? ⟨b,3,none⟩=some (.int .i64 (kd:Int)):=f3;clear f0 f1 f2 f3;go_upto_region 9 with fail;refine qar (S:=λ w'=>w'.cell? ⟨b,3,none⟩=some (.int .i64 (kd:Int))) (by kernel_rfl) (S_0.out.r.flds.2.2.2.1) (λ hHeld=>?_);clear hHeld;refine zab (λ wz=>Ext v3 wz) (show Ext v3 v3.drew from qag (Ext.refl v3)) ?_;rintro y1 h;have S_1:=Hd (S_0.out.ext h);clear h S_0;have hHeld:y1.cell? ⟨b,3,none⟩=some (.int .i64 (kd:Int)):=(S_1.out.r.flds.2.2.2.1);refine tk4 1 2 3 4 ?_;refine rdH 0 rfl λ KK hK=>?_;clear hHeld;go_simp;refine (zcl y1).mono ?_;rintro e y2 ⟨mb,rfl,hmi,h⟩;have HMI:=Hd hmi;clear hmi;have S_2:=Hd (S_1.out.ext h);clear h S_1;go_simp;refine oS hK (S_2.out.r.flds.2.2.2.1) λ hHeld=>?_;clear hK KK;refine rdH 5 rfl λ KK hK=>?_;clear hHeld;have tl:=HMI.out.look HKO.out;unfold kI at tl;rw[HSG.out.1,HSG.out.2] at tl;go_simp;refine oS hK (S_2.out.r.flds.2.2.2.1) λ hHeld=>?_;clear hK KK tl HMI;refine tk5 6 7 8 9 10 ?_;refine dnT ?_;clear hHeld;have h3:y2.cell? ⟨b,3,none⟩=some (.int .i64 (kd:Int)):=S_2.out.r.flds.2.2.2.1
     clear HKO HSG;go_upto_region 11 with fail;obtain⟨fd,hfd⟩:∃f:Nat->Int,(λ i=>if kd=3 then (if i=0 then (1:Int) else if i=1 then 2 else if i=2 then 4 else 8) else 8)=f:=⟨_,rfl⟩;have HFD:=Hd hfd;clear hfd;obtain⟨nd,hnd⟩:∃q:Nat,(if kd=3 then 4 else 1)=q:=⟨_,rfl⟩;have HND:=Hd hnd;clear hnd;have hdle:nd<=4:=by rw[<- HND.out];split <;> omega
     refine zac (λ wz=>HdS B b w wz E k d (Png.rd0 W H dp kd)/\Bk wz y2.heap.size #[.int .i64 8]) ⟨S_2.out.ext ((Ext.refl _).alloc _),Bk.at rfl⟩ ?_;rintro u0 ⟨hS,hB⟩;obtain⟨T0,hT0⟩:=nmE (y2.heap.size);rw[hT0] at hB⊢;have SU:=Hd hS;have BU:=Hd hB;clear hS hB h3 hT0 S_2;have h3:u0.cell? ⟨b,3,none⟩=some (.int .i64 (kd:Int)):=SU.out.r.flds.2.2.2.1;go_upto_if 78 with fail
     go_cut [10] (λ s10 wx=>∃T,s10=.slice (some ⟨T,0,none⟩) nd nd/\Hid (HdS B b w wx E k d (Png.rd0 W H dp kd))/\Hid (∀i,i<nd->wx.cell? ⟨T,i,none⟩=some (.int .i64 (fd i))))
     case first=>
      by_cases q3:kd=3
      ·have t0:(((kd:Nat):Int) ==3)=true:=zav (by omega);have hnd:nd=4:=by rw[<- HND.out,qad q3]
       have HF:Hid (∀i,fd i=if i=0 then (1:Int) else if i=1 then 2 else if i=2 then 4 else 8):=Hd (λ i=>by rw[<- HFD.out];show (if kd=3 then _ else _)=_;rw[qad q3]);subst hnd;go_wp2_with fail;go_meet
       refine⟨_,rfl,Hd (SU.out.ext ((Ext.refl _).alloc _)),Hd (λ i hi=>?_)⟩;have hb:=Bk.at (w:=u0) (cs:=#[.int .i64 1,.int .i64 2,.int .i64 4,.int .i64 8]) (t:=3) rfl;rw[HF.out,hb.cell i];match i,hi with
       | 0,_=>rfl
       | 1,_=>rfl
       | 2,_=>rfl
       | 3,_=>rfl
      have t0:(((kd:Nat):Int) ==3)=false:=zal (by omega);have hnd:nd=1:=by rw[<- HND.out,qac q3]
      have HF:Hid (∀i,fd i=8):=Hd (λ i=>by rw[<- HFD.out];show (if kd=3 then _ else _)=_;rw[qac q3]);subst hnd;go_wp2_with fail;go_meet
      refine⟨_,rfl,SU,Hd (λ i hi=>?_)⟩;rw[HF.out,BU.out.cell i];match i,hi with
      | 0,_=>rfl
     obtain⟨T,rfl,S5,F5⟩:=hcut;clear h3 SU BU;rename World=>w5;have HIN:Hid ((∃i,i<nd/\fd i=(dp:Int))↔Png.depOk kd dp):=Hd (by
      unfold Png.depOk;by_cases q3:kd=3
      ·have hnd:nd=4:=by rw[<- HND.out,qad q3]
       have HF:∀i,fd i=if i=0 then (1:Int) else if i=1 then 2 else if i=2 then 4 else 8:=λ i=>by rw[<- HFD.out];show (if kd=3 then _ else _)=_;rw[qad q3]
       constructor
       ·rintro⟨i,hi,e⟩;rw[HF] at e;rw[hnd] at hi;have:i=0\/i=1\/i=2\/i=3:=by omega
        rcases this with rfl | rfl | rfl | rfl
        ·exact .inr ⟨q3,.inl (by simp at e;omega)⟩
        ·exact .inr ⟨q3,.inr (.inl (by simp at e;omega))⟩
        ·exact .inr ⟨q3,.inr (.inr (by simp at e;omega))⟩
        exact .inl (by simp at e;omega)
       rintro (h | ⟨_,h | h | h⟩)
       ·exact⟨3,by omega,by rw[HF,h];rfl⟩
       ·exact⟨0,by omega,by rw[HF,h];rfl⟩
       ·exact⟨1,by omega,by rw[HF,h];rfl⟩
       exact⟨2,by omega,by rw[HF,h];rfl⟩
      have hnd:nd=1:=by rw[<- HND.out,qac q3]
      have HF:∀i,fd i=8:=λ i=>by rw[<- HFD.out];show (if kd=3 then _ else _)=_;rw[qac q3]
      constructor
      ·rintro⟨i,_,e⟩;rw[HF] at e;exact .inl (by omega)
      rintro (h | ⟨h,_⟩)
      ·exact⟨0,by omega,by rw[HF,h];rfl⟩
      exact absurd h q3)
     have cc1:=S5.out.c.cell 1;have f2:=S5.out.r.flds.2.2.1;have f2:w5.cell? ⟨b,2,none⟩=some (.int .i64 (dp:Int)):=f2;have HCT:=Hd (zhY T nd nd fd (dp:Int) w5 (by omega) F5.out);have hq10:(10:Int)<=(d.size:Int):=by omega
     cases ob
     ·have hm0:m=0:=by have:=qa4 HOB.out;omega
      rw[qac (λ q=>q.1 hm0)] at hres;exact Yfm1
     have hm0:m≠0:=qaU HOB.out;go_wp2_with fail;refine HCT.out.mono ?_;rintro e w9 ⟨⟨cb,rfl,hcb⟩,rfl⟩;have HCB:=Hd (hcb.trans HIN.out);clear hcb HCT;cases cb
     ·rw[qac (λ q=>by have:=HCB.out.2 q.2.1;cases this)] at hres;exact Yfm1
     have hdo:=HCB.out.1 rfl;by_cases hz:l.drop 10=[0,0,0]
     ·rw[qad ⟨hm0,hdo,hz⟩] at hres;have HDZ:Hid (D10=⟨#[0,0,0]⟩):=Hd (bext (by rw[HD10.out,hz]));have e10:(D10.toList ==[0,0,0])=true:=pkyes HDZ.out;clear hm0 hdo hz;subst hres;go_wp2_with fail;go_ret;exact⟨S5.out.bl,rfl,S5.out.r⟩
     rw[qac (λ q=>hz q.2.2)] at hres;have e10:(D10.toList ==[0,0,0])=false:=pkno (λ e=>hz (by rw[<- HD10.out,e]));clear hm0 hdo hz;exact Yfm4
    rw[show decide (1<=H/\H<=256)=false from qaf hHb] at HSH;rw[qac (λ q=>hHb ⟨q.2.2.1,q.2.2.2⟩)] at hres;go_wp2_with fail;refine (HSH.out _).mono ?_;rintro e w10 ⟨rfl,rfl⟩;exact Yfm2
   have HSW:=Hd (zek W);rw[show decide (1<=W/\W<=256)=false from qaf hWb] at HSW;rw[qac (λ q=>hWb ⟨q.1,q.2.1⟩)] at hres;go_wp2_with fail;refine (HSW.out _).mono ?_;rintro e w9 ⟨rfl,rfl⟩;exact Yfm2
  have t0:(((d.size:Nat):Int) ==13)=false:=zal (by omega);have t1:(((d.size:Nat):Int) !=13)=true:=zbp (by omega);rw[qac (λ q=>h13 q.2)] at hres;exact Yfm3
 have e_k:=pkno h_k;rw[qac (λ q=>h_k q.1)] at hres;exact Yfm3
end Go.Proofs.YthlibiocadimhaaGreatDoor
