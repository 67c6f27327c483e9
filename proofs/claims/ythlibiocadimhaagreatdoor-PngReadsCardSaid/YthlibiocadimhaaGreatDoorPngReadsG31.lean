/-
  (*png.reader).one.
-/
import Derived.Test.YthlibiocadimhaaGreatDoorPngReadsG30
set_option linter.all false
set_option maxRecDepth 100000
namespace Go.Proofs.YthlibiocadimhaaGreatDoor
open Go.RowKit
theorem Yfk10 {p:Prop} (h:p:=by
 refine qY ?_;refine qY ?_;refine zaf ?_;go_wp2_with fail;go_ret;have q:=R2.out.put2 (r':= { r1 with alphas:=d }) (r2:= { r1 with alphas:=d,ha:=true }) 5 7 (.string d) (.bool true) (λ _ _=>rfl) rfl (λ _ _=>rfl) rfl;exact⟨congrArg (λ v=>Ending.returned (Value.bool v)) HVV.out.symm,by rw[HW.out];exact q.1.ext (qag (Ext.refl _)),qag (B2.out.trans q.2)⟩):p:=h
theorem Yfk8 {p:Prop} (h:p:=by
 go_wp2_with fail;go_ret;have q:=R2.out.put2 (r':= { r1 with colors:=d }) (r2:= { r1 with colors:=d,hc:=true }) 4 6 (.string d) (.bool true) (λ _ _=>rfl) rfl (λ _ _=>rfl) rfl;exact⟨congrArg (λ v=>Ending.returned (Value.bool v)) HVV.out.symm,by rw[HW.out];exact q.1,B2.out.trans q.2⟩):p:=h
theorem Yfk9 {p:Prop} (h:p:=by
 refine qY ?_;refine qY ?_;refine qN ?_;refine qN ?_;refine qN ?_;refine qN ?_;refine qN ?_;refine qN ?_;refine qN ?_;refine qN ?_;refine qN ?_;refine qN ?_;exact Yfk10):p:=h
theorem Yfk0 {p:Prop} (h:p:=by
 go_wp2_with fail;go_ret;exact⟨congrArg (λ v=>Ending.returned (Value.bool v)) HV.out.symm,by rw[HW.out];exact R2.out,B2.out⟩):p:=h
theorem Yfk1 {p:Prop} (h:p:=by
 clear h2;go_wp2_with fail;go_ret;have q:=R3.out.put (r':= { r1 with data:=r1.data++d.data.toList,st:=1 }) 10 (.int .i64 1) (λ _ _=>rfl) rfl;exact⟨congrArg (λ v=>Ending.returned (Value.bool v)) HVV.out.symm,by rw[HW.out];exact q.1,B3.out.trans q.2⟩):p:=h
theorem Yfk2 {p:Prop} (h:p:=by
 clear x_hc x_ha x_st x_kd x_n0 x_n3 x_mo;exact Yfk8):p:=h
theorem Yfk3 {p:Prop} (h:p:=by
 exact Yfk8):p:=h
theorem Yfk4 {p:Prop} (h:p:=by
 clear x_hc x_ha x_st x_kd x_mo;go_wp2_with fail;refine rgQ ?_;refine qY ?_;refine qY ?_;refine qY ?_;refine qY ?_;refine qY ?_;refine qY ?_;refine qY ?_;refine qY ?_;refine qY ?_;refine qY ?_;refine qY ?_;refine qY ?_;refine qY ?_;refine qY ?_;refine qY ?_;refine qY ?_;refine qY ?_;refine qY ?_;refine qY ?_;refine qY ?_;refine qY ?_;refine qY ?_;refine qY ?_;refine qY ?_;refine qY ?_;refine qY ?_;refine qY ?_;refine qY ?_;refine qY ?_;refine qY ?_;refine qY ?_;refine qY ?_;refine qY ?_;refine qY ?_;refine qY ?_;refine qY ?_;exact Yfk10):p:=h
theorem Yfk5 {p:Prop} (h:p:=by
 exact Yfk9):p:=h
theorem Yfk6 {p:Prop} (h:p:=by
 refine qY ?_;refine qY ?_;refine qN ?_;refine qN ?_;refine qN ?_;refine qN ?_;refine qN ?_;refine qY ?_;refine qY ?_;refine qN ?_;refine qN ?_;refine qN ?_;refine qN ?_;refine qN ?_;exact Yfk9):p:=h
theorem Yfk7 {p:Prop} (h:p:=by
 clear x hrow;go_wp2_with fail;go_ret;exact⟨congrArg (λ v=>Ending.returned (Value.bool v)) HVV.out.symm,by rw[HW.out];exact R2.out,B2.out⟩):p:=h
theorem pkno {s:ByteArray} {l:List UInt8} (h:s≠⟨l.toArray⟩):(s.toList ==l)=false:=by
 rw[qbp];refine qak.2 (λ e=>h ?_);have:s.data=l.toArray:=by rw[<- e]
 cases s
 simp only at this;rw[this]
theorem pkyes {s:ByteArray} {l:List UInt8} (h:s=⟨l.toArray⟩):(s.toList ==l)=true:=by subst h;rw[qbp];simp
theorem zav {a b:Int} (h:a=b):(a ==b)=true:=by rw[h];simp
theorem zal {a b:Int} (h:a≠b):(a ==b)=false:=qak.2 h
theorem zbm {a b:Int} (h:a=b):(a !=b)=false:=by rw[h];simp
theorem zbp {a b:Int} (h:a≠b):(a !=b)=true:=qce.2 h
theorem RdAt.put2 {B b:Nat} {r r' r2:Rd} {w:World} (h:RdAt B b r w) (i j:Nat) (u v:Value) (hi:∀p q,(rdV r p q).setIfInBounds i u=rdV r' p q) (hd:r'.data=r.data) (hj:∀p q,(rdV r' p q).setIfInBounds j v=rdV r2 p q) (hd2:r2.data=r'.data):RdAt B b r2 ((w.setCell ⟨b,i,none⟩ u).setCell ⟨b,j,none⟩ v)/\Below B w ((w.setCell ⟨b,i,none⟩ u).setCell ⟨b,j,none⟩ v):=by
 obtain⟨h1,b1⟩:=h.put i u hi hd;obtain⟨h2,b2⟩:=h1.put j v hj hd2;exact⟨h2,b1.trans b2⟩
set_option maxHeartbeats 4000000 in
theorem zpS (B b:Nat) (r:Rd) (k d:ByteArray) (w:World) (h:RdAt B b r w) (hk:k.size=4) (hBw:B<=w.heap.size) (hd:d.size<=300000) (hl:r.data.length+d.size<=1000000) (hdep:r.kind=3->Png.IsDep r.depth) (hcol:r.colors.size<=300000):
  Calls Tryz.prog 28 #[.pointer (some ⟨b,0,none⟩),.agg #[.string k,.string d]] w λ e w'=>e=.returned (.bool (Png.onB r ⟨k,d⟩))/\RdAt B b (Png.onR r ⟨k,d⟩) w'/\Below B w w':=by
 have HR:=Hd h;have HKS:=Hd hk;have HDP:=Hd hdep;have HBW:=Hd hBw;have HCO:=Hd hcol;have hbne:Hid (w.heap.size≠b):=Hd (Nat.ne_of_gt h.lt);clear h hdep hcol hBw;obtain⟨r1,hr1⟩:∃r1:Rd,{ r with st:=Png.stN r ⟨k,d⟩ }=r1:=⟨_,rfl⟩;have HR1:=Hd hr1;clear hr1;have t_idat:k=Png.idat\/k≠Png.idat:=Decidable.em _;go_enter Tryz.func28,Tryz.ntmps28
 go_upto_region 1 with fail;refine zac (λ wz=>Ext w wz/\Bk wz w.heap.size #[.string k,.string d]) ⟨(Ext.refl w).alloc _,Bk.at rfl⟩ ?_;rintro w1 ⟨hX,hC⟩;have R1:=Hd (HR.out.ext hX);have C1:=Hd hC;have B1:Hid (Below B w w1):=Hd (Below.mono hX HBW.out);have Z1:=Hd hX.size;clear hX hC;have z10:=R1.out.froz 10;have cc0:=C1.out.cell 0;have cc1:=C1.out.cell 1;obtain⟨f0,f1,f2,f3,f4,f5,f6,f7,f10⟩:=R1.out.flds;clear f0 f1 f2 f3 f4 f5 f6 f7;go_cut [19] (λ s19 wx=>s19=.bool (decide (k≠Png.idat/\r.st=1))/\wx=w1)
 case first=>
  rcases t_idat with hi | hi
  ·have e1:=pkyes hi;have HI:Hid (decide (k≠Png.idat/\r.st=1)=false):=Hd (qaf (λ q=>q.1 hi));clear hi;go_wp2_with fail;go_meet
   exact⟨by rw[HI.out],rfl⟩
  have e1:=pkno hi;by_cases hs:r.st=1
  ·have e2:(((r.st:Nat):Int) ==1)=true:=zav (by omega);have HI:Hid (decide (k≠Png.idat/\r.st=1)=true):=Hd (qae ⟨hi,hs⟩);clear hi hs;go_wp2_with fail;go_meet
   exact⟨by rw[HI.out],rfl⟩
  have e2:(((r.st:Nat):Int) ==1)=false:=zal (by omega);have HI:Hid (decide (k≠Png.idat/\r.st=1)=false):=Hd (qaf (λ q=>hs q.2));clear hi hs;go_wp2_with fail;go_meet
  exact⟨by rw[HI.out],rfl⟩
 obtain⟨rfl,rfl⟩:=hcut;obtain⟨tb,htb⟩:∃t:Bool,decide (k≠Png.idat/\r.st=1)=t:=⟨_,rfl⟩;rw[htb];go_upto_if 19 with fail
 go_cut [] (λ wx=>Hid (RdAt B b r1 wx)/\Hid (Bk wx w.heap.size #[.string k,.string d])/\Hid (Below B w wx)/\Hid (w.heap.size<=wx.heap.size))
 case first=>
  cases tb
  ·have HI:Hid (r1=r):=Hd (by rw[<- HR1.out];unfold Png.stN;rw[qac (qa4 htb)]);clear htb t_idat;go_wp2_with fail;go_meet
   exact⟨by rw[HI.out];exact R1,C1,B1,Z1⟩
  have HI:Hid (r1= { r with st:=2 }):=Hd (by rw[<- HR1.out];unfold Png.stN;rw[qad (qaU htb)]);clear htb t_idat;go_wp2_with fail;go_meet
  have q:=R1.out.put (r':= { r with st:=2 }) 10 (.int .i64 2) (λ _ _=>rfl) rfl;exact⟨by rw[HI.out];exact Hd q.1,Hd (C1.out.far hbne.out _),Hd (B1.out.trans q.2),Hd (by simpa using Z1.out)⟩
 clear htb;obtain⟨R2,C2,B2,Z2⟩:=hcut;clear cc0 cc1 z10 f10 R1 C1 B1 Z1;have z4:=R2.out.froz 4;have z5:=R2.out.froz 5;have z6:=R2.out.froz 6;have z7:=R2.out.froz 7;have z10:=R2.out.froz 10;have cc0:=C2.out.cell 0;have cc1:=C2.out.cell 1;obtain⟨f0,f1,f2,f3,f4,f5,f6,f7,f10⟩:=R2.out.flds;rename World=>w2;have HON:Hid (Png.onB r ⟨k,d⟩=(if k=Png.ihdr\/k=Png.iend then false else if k=Png.idat then decide (r1.st<2) else if k=Png.plte then decide (r1.hc=false/\r1.ha=false/\r1.st=0/\r1.kind≠0/\0<d.size/\d.size%3=0/\d.size/3<=Png.mostN r1) else if k=Png.trns then decide (r1.hc=true/\r1.ha=false/\r1.st=0/\r1.kind=3/\3*d.size<=r1.colors.size) else decide (97<=(k.data.toList.getD 0 0).toNat))):=Hd (by rw[<- HR1.out];rfl);have HOR:Hid (Png.onR r ⟨k,d⟩=(if k=Png.ihdr\/k=Png.iend then r1 else if k=Png.idat then { r1 with data:=r1.data++d.data.toList,st:=1 } else if k=Png.plte then { r1 with colors:=d,hc:=true } else if k=Png.trns then { r1 with alphas:=d,ha:=true } else r1)):=Hd (by rw[<- HR1.out];rfl);have HDP1:Hid (r1.kind=3->Png.IsDep r1.depth):=Hd (by rw[<- HR1.out];exact HDP.out);have HDA:Hid (r1.data.length=r.data.length):=Hd (by rw[<- HR1.out]);have HCO1:Hid (r1.colors.size<=300000):=Hd (by rw[<- HR1.out];exact HCO.out);clear t_idat HR1 HDP HCO HR;by_cases h_ihdr:k=Png.ihdr
 ·have e_ihdr:(k.toList ==[73,72,68,82])=true:=pkyes h_ihdr;have hv:=HON.out;have hw:=HOR.out;rw[qad (.inl h_ihdr)] at hv hw;have HV:=Hd hv;have HW:=Hd hw;clear hv hw HON HOR h_ihdr;exact Yfk0
 by_cases h_iend:k=Png.iend
 ·have e_ihdr:(k.toList ==[73,72,68,82])=false:=pkno h_ihdr;have e_iend:(k.toList ==[73,69,78,68])=true:=pkyes h_iend;have hv:=HON.out;have hw:=HOR.out;rw[qad (.inr h_iend)] at hv hw;have HV:=Hd hv;have HW:=Hd hw;clear hv hw HON HOR h_ihdr h_iend;exact Yfk0
 by_cases h_idat:k=Png.idat
 ·have e_ihdr:(k.toList ==[73,72,68,82])=false:=pkno h_ihdr;have e_iend:(k.toList ==[73,69,78,68])=false:=pkno h_iend;have e_idat:(k.toList ==[73,68,65,84])=true:=pkyes h_idat;have hv:=HON.out;have hw:=HOR.out;rw[qac (λ q=>q.elim h_ihdr h_iend),qad h_idat] at hv hw;have HV:=Hd hv;have HW:=Hd hw;clear hv hw HON HOR h_ihdr h_iend h_idat;go_wp2_with fail;refine qaD 5 (by kernel_rfl) (by kernel_rfl) ?_;simp only[qao,qaH,qaw,qaS];repeat still_step
  refine qbB ?_;change wpList _ _ _ _ _ w2.drew;go_wp2_with fail;refine (zk5 B b r1 d w2.drew (R2.out.ext (qag (Ext.refl w2))) (by rw[HDA.out];omega) (qam HBW.out (qam Z2.out (qaj _)))).mono ?_;rintro e w3 ⟨rfl,h3,b3⟩;clear f0 f1 f2 f3 f4 f5 f6 f7 f10 z4 z5 z6 z7 z10 cc0 cc1;have R3:=Hd h3;have B3:Hid (Below B w w3):=Hd ((qag B2.out).trans b3);clear h3 b3 R2 C2 B2;have z10:=R3.out.froz 10;obtain⟨f0,f1,f2,f3,f4,f5,f6,f7,f10⟩:=R3.out.flds;clear f0 f1 f2 f3 f4 f5 f6 f7;by_cases h2:r1.st<2
  ·have e2:=dT (p:=((r1.st:Nat):Int)<2);have HVV:Hid (Png.onB r ⟨k,d⟩=true):=Hd (HV.out.trans (qae h2));exact Yfk1
  have e2:=dF (p:=((r1.st:Nat):Int)<2);have HVV:Hid (Png.onB r ⟨k,d⟩=false):=Hd (HV.out.trans (qaf h2));exact Yfk1
 by_cases h_plte:k=Png.plte
 ·have e_ihdr:(k.toList ==[73,72,68,82])=false:=pkno h_ihdr;have e_iend:(k.toList ==[73,69,78,68])=false:=pkno h_iend;have e_idat:(k.toList ==[73,68,65,84])=false:=pkno h_idat;have e_plte:(k.toList ==[80,76,84,69])=true:=pkyes h_plte;have hv:=HON.out;have hw:=HOR.out;rw[qac (λ q=>q.elim h_ihdr h_iend),qac h_idat,qad h_plte] at hv hw;have HV:=Hd hv;have HW:=Hd hw;clear hv hw HON HOR h_ihdr h_iend h_idat h_plte;go_upto_if 51 with fail
  go_cut [6] (λ s6 wx=>s6=.int .i64 ((Png.mostN r1:Nat):Int)/\wx=w2)
  case first=>
   by_cases k3:r1.kind=3
   ·have e3:(((r1.kind:Nat):Int) ==3)=true:=zav (by omega);obtain⟨dp,hdp⟩:=nmE (r1.depth);have HM:Hid (Png.mostN r1=2^dp):=Hd (by unfold Png.mostN;rw[qad k3,hdp]);have hI:=HDP1.out k3;rw[hdp] at hI f2;clear hdp k3;rcases hI with rfl | rfl | rfl | rfl
    ·go_wp2_with fail;go_meet
     exact⟨by rw[HM.out];rfl,rfl⟩
    ·go_wp2_with fail;go_meet
     exact⟨by rw[HM.out];rfl,rfl⟩
    ·go_wp2_with fail;go_meet
     exact⟨by rw[HM.out];rfl,rfl⟩
    go_wp2_with fail;go_meet
    exact⟨by rw[HM.out];rfl,rfl⟩
   have e3:(((r1.kind:Nat):Int) ==3)=false:=zal (by omega);have HM:Hid (Png.mostN r1=256):=Hd (by unfold Png.mostN;rw[qac k3]);clear k3;go_wp2_with fail;go_meet
   exact⟨by rw[HM.out];rfl,rfl⟩
  obtain⟨rfl,rfl⟩:=hcut;obtain⟨q,hq⟩:=nmE (Png.mostN r1);rw[hq] at HV⊢;clear hq;have hrem:(d.size:Int).tmod 3=((d.size%3:Nat):Int):=rfl;have hquo:(d.size:Int).tdiv 3=((d.size/3:Nat):Int):=rfl;obtain⟨m3,hm3⟩:=nmE (d.size%3);obtain⟨q3,hq3⟩:=nmE (d.size/3);obtain⟨N,hN⟩:=nmE (d.size);rw[hm3] at hrem;rw[hq3] at hquo;rw[hm3,hq3] at HV;rw[hN] at hrem hquo HV;have HNN:=Hd hN;have hq3b:q3<=300000:=by omega
  obtain⟨wa,wb⟩:=pwq (x:=(q3:Int)) ⟨by omega,by omega⟩;clear hm3 hq3;by_cases x_hc:r1.hc=false
  ·rw[x_hc] at f6;by_cases x_ha:r1.ha=false
   ·rw[x_ha] at f7;by_cases x_st:r1.st=0
    ·have e_st:(((r1.st:Nat):Int) ==0)=true:=zav (by omega);by_cases x_kd:r1.kind≠0
     ·have e_kd:(((r1.kind:Nat):Int) ==0)=false:=zal (by omega);have e_kd2:(((r1.kind:Nat):Int) !=0)=true:=zbp (by omega);by_cases x_n0:0<N
      ·have e_n0:=dT (p:=(0:Int)<(N:Int));have m_n0:0<N:=x_n0;by_cases x_n3:m3=0
       ·have e_n3:(((m3:Nat):Int) ==0)=true:=zav (by omega);by_cases x_mo:q3<=q
        ·have e_mo:=dT (p:=(q3:Int)<=(q:Int));have m_mo:decide (q3<=q)=true:=qae x_mo;have m_mo2:q3<=q:=x_mo;have HVV:Hid (Png.onB r ⟨k,d⟩=true):=Hd (HV.out.trans (qae ⟨x_hc,x_ha,x_st,x_kd,x_n0,x_n3,x_mo⟩));exact Yfk2
        have e_mo:=dF (p:=(q3:Int)<=(q:Int));have m_mo:decide (q3<=q)=false:=qaf x_mo;have m_mo2:¬ q3<=q:=x_mo;have HVV:Hid (Png.onB r ⟨k,d⟩=false):=Hd (HV.out.trans (qaf (λ g=>x_mo g.2.2.2.2.2.2)));exact Yfk2
       have e_n3:(((m3:Nat):Int) ==0)=false:=zal (by omega);have HVV:Hid (Png.onB r ⟨k,d⟩=false):=Hd (HV.out.trans (qaf (λ g=>x_n3 g.2.2.2.2.2.1)));clear x_hc x_ha x_st x_kd x_n0 x_n3;exact Yfk3
      have e_n0:=dF (p:=(0:Int)<(N:Int));have m_n0:¬ 0<N:=x_n0;have HVV:Hid (Png.onB r ⟨k,d⟩=false):=Hd (HV.out.trans (qaf (λ g=>x_n0 g.2.2.2.2.1)));clear x_hc x_ha x_st x_kd x_n0;exact Yfk3
     have e_kd:(((r1.kind:Nat):Int) ==0)=true:=zav (by omega);have e_kd2:(((r1.kind:Nat):Int) !=0)=false:=zbm (by omega);have HVV:Hid (Png.onB r ⟨k,d⟩=false):=Hd (HV.out.trans (qaf (λ g=>x_kd g.2.2.2.1)));clear x_hc x_ha x_st x_kd;exact Yfk3
    have e_st:(((r1.st:Nat):Int) ==0)=false:=zal (by omega);have HVV:Hid (Png.onB r ⟨k,d⟩=false):=Hd (HV.out.trans (qaf (λ g=>x_st g.2.2.1)));clear x_hc x_ha x_st;exact Yfk3
   have x_ha:r1.ha=true:=by simpa using x_ha
   rw[x_ha] at f7;have HVV:Hid (Png.onB r ⟨k,d⟩=false):=Hd (HV.out.trans (qaf (λ g=>by have q:=g.2.1;rw[x_ha] at q;cases q)));clear x_hc x_ha;exact Yfk3
  have x_hc:r1.hc=true:=by simpa using x_hc
  rw[x_hc] at f6;have HVV:Hid (Png.onB r ⟨k,d⟩=false):=Hd (HV.out.trans (qaf (λ g=>by have q:=g.1;rw[x_hc] at q;cases q)));clear x_hc;exact Yfk3
 by_cases h_trns:k=Png.trns
 ·have e_ihdr:(k.toList ==[73,72,68,82])=false:=pkno h_ihdr;have e_iend:(k.toList ==[73,69,78,68])=false:=pkno h_iend;have e_idat:(k.toList ==[73,68,65,84])=false:=pkno h_idat;have e_plte:(k.toList ==[80,76,84,69])=false:=pkno h_plte;have e_trns:(k.toList ==[116,82,78,83])=true:=pkyes h_trns;have hv:=HON.out;have hw:=HOR.out;rw[qac (λ q=>q.elim h_ihdr h_iend),qac h_idat,qac h_plte,qad h_trns] at hv hw;have HV:=Hd hv;have HW:=Hd hw;clear hv hw HON HOR h_ihdr h_iend h_idat h_plte h_trns;have hwn:=HCO1.out;obtain⟨N,hN⟩:=nmE (d.size);obtain⟨cs,hcs⟩:=nmE (r1.colors.size);rw[hN,hcs] at HV;rw[hN] at hd;rw[hcs] at hwn;have HNN:=Hd (qaB hN hcs);obtain⟨wa,wb⟩:=pwq (x:=3*(N:Int)) ⟨by omega,by omega⟩;by_cases x_hc:r1.hc=true
  ·rw[x_hc] at f6;by_cases x_ha:r1.ha=false
   ·rw[x_ha] at f7;by_cases x_st:r1.st=0
    ·have e_st:(((r1.st:Nat):Int) ==0)=true:=zav (by omega);by_cases x_kd:r1.kind=3
     ·have e_kd:(((r1.kind:Nat):Int) ==3)=true:=zav (by omega);by_cases x_mo:3*N<=cs
      ·have e_mo:=dT (p:=3*(N:Int)<=(cs:Int));have HVV:Hid (Png.onB r ⟨k,d⟩=true):=Hd (HV.out.trans (qae ⟨x_hc,x_ha,x_st,x_kd,x_mo⟩));exact Yfk4
      have e_mo:=dF (p:=3*(N:Int)<=(cs:Int));have HVV:Hid (Png.onB r ⟨k,d⟩=false):=Hd (HV.out.trans (qaf (λ g=>x_mo g.2.2.2.2)));exact Yfk4
     have e_kd:(((r1.kind:Nat):Int) ==3)=false:=zal (by omega);have HVV:Hid (Png.onB r ⟨k,d⟩=false):=Hd (HV.out.trans (qaf (λ g=>x_kd g.2.2.2.1)));clear x_hc x_ha x_st x_kd;go_wp2_with fail;refine rgQ ?_;refine qY ?_;refine qY ?_;refine qY ?_;refine qY ?_;refine qY ?_;refine qY ?_;refine qY ?_;refine qY ?_;refine qY ?_;refine qY ?_;refine qY ?_;refine qY ?_;refine qY ?_;refine qY ?_;refine qY ?_;refine qY ?_;refine qY ?_;refine qY ?_;refine qY ?_;refine qY ?_;refine qY ?_;refine qY ?_;refine qY ?_;refine qY ?_;exact Yfk5
    have e_st:(((r1.st:Nat):Int) ==0)=false:=zal (by omega);have HVV:Hid (Png.onB r ⟨k,d⟩=false):=Hd (HV.out.trans (qaf (λ g=>x_st g.2.2.1)));clear x_hc x_ha x_st;go_wp2_with fail;refine rgQ ?_;refine qY ?_;refine qY ?_;refine qY ?_;refine qY ?_;refine qY ?_;refine qY ?_;refine qY ?_;refine qY ?_;refine qY ?_;refine qY ?_;refine qY ?_;refine qY ?_;refine qY ?_;refine qY ?_;refine qY ?_;refine qY ?_;refine qY ?_;refine qY ?_;refine qY ?_;refine qN ?_;refine qN ?_;refine qN ?_;refine qN ?_;refine qN ?_;exact Yfk5
   have x_ha:r1.ha=true:=by simpa using x_ha
   rw[x_ha] at f7;have HVV:Hid (Png.onB r ⟨k,d⟩=false):=Hd (HV.out.trans (qaf (λ g=>by have q:=g.2.1;rw[x_ha] at q;cases q)));clear x_hc x_ha;go_wp2_with fail;refine rgQ ?_;refine qY ?_;refine qY ?_;refine qY ?_;refine qY ?_;refine qY ?_;refine qY ?_;refine qY ?_;refine qY ?_;refine qY ?_;refine qY ?_;exact Yfk6
  have x_hc:r1.hc=false:=by simpa using x_hc
  rw[x_hc] at f6;have HVV:Hid (Png.onB r ⟨k,d⟩=false):=Hd (HV.out.trans (qaf (λ g=>by have q:=g.1;rw[x_hc] at q;cases q)));clear x_hc;go_wp2_with fail;refine rgQ ?_;refine qY ?_;refine qY ?_;refine qY ?_;refine qY ?_;refine qY ?_;refine qN ?_;refine qN ?_;refine qN ?_;refine qN ?_;refine qN ?_;exact Yfk6
 have e_ihdr:(k.toList ==[73,72,68,82])=false:=pkno h_ihdr;have e_iend:(k.toList ==[73,69,78,68])=false:=pkno h_iend;have e_idat:(k.toList ==[73,68,65,84])=false:=pkno h_idat;have e_plte:(k.toList ==[80,76,84,69])=false:=pkno h_plte;have e_trns:(k.toList ==[116,82,78,83])=false:=pkno h_trns;have hv:=HON.out;have hw:=HOR.out;rw[qac (λ q=>q.elim h_ihdr h_iend),qac h_idat,qac h_plte,qac h_trns] at hv hw;have HV:=Hd hv;have HW:=Hd hw;clear hv hw HON HOR h_ihdr h_iend h_idat h_plte h_trns;have hk0:0<k.size:=by rw[HKS.out];omega
 have hk1:(0:Int)<(k.size:Int):=by omega
 have hrow:=zar k 0 hk0;obtain⟨c,hc⟩:∃c:UInt8,k[0]=c:=⟨_,rfl⟩;rw[hc] at hrow;rw[<- hrow] at HV;by_cases x:97<=c.toNat
 ·have e2:=dT (p:=(97:Int)<=((c.toNat:Nat):Int));have HVV:Hid (Png.onB r ⟨k,d⟩=true):=Hd (HV.out.trans (qae x));exact Yfk7
 have e2:=dF (p:=(97:Int)<=((c.toNat:Nat):Int));have HVV:Hid (Png.onB r ⟨k,d⟩=false):=Hd (HV.out.trans (qaf x));exact Yfk7
end Go.Proofs.YthlibiocadimhaaGreatDoor
