/-
  (*png.reader).one.
  What is written is read as it was.
-/
import Derived.Test.YthlibiocadimhaaGreatDoorPngTwiceG1
import Derived.Test.YthlibiocadimhaaGreatDoorPngTwiceG23
import Derived.Test.YthlibiocadimhaaGreatDoorPngTwiceG6
import Derived.Test.YthlibiocadimhaaGreatDoorPngTwiceG22
set_option linter.unusedSimpArgs false
set_option linter.unusedVariables false
set_option maxRecDepth 100000
namespace Go.Proofs.YthlibiocadimhaaGreatDoor
open Go.RowKit
theorem pkno {s:ByteArray} {l:List UInt8} (h:s≠⟨l.toArray⟩):(s.toList ==l)=false:=by
 rw[ByteArray.toList_eq];refine beq_eq_false_iff_ne.2 (fun e=>h ?_);have:s.data=l.toArray:=by rw[← e]
 cases s
 simp only at this;rw[this]
theorem pkyes {s:ByteArray} {l:List UInt8} (h:s=⟨l.toArray⟩):(s.toList ==l)=true:=by subst h;rw[ByteArray.toList_eq];simp
theorem int_eq {a b:Int} (h:a=b):(a ==b)=true:=by rw[h];simp
theorem int_ne {a b:Int} (h:a≠b):(a ==b)=false:=beq_eq_false_iff_ne.2 h
theorem int_eq2 {a b:Int} (h:a=b):(a !=b)=false:=by rw[h];simp
theorem int_ne2 {a b:Int} (h:a≠b):(a !=b)=true:=bne_iff_ne.2 h
/-- two fields are stored -/
theorem RdAt.put2 {B b:Nat} {r r' r2:Rd} {w:World} (h:RdAt B b r w) (i j:Nat) (u v:Value) (hi:∀p q,(rdV r p q).setIfInBounds i u=rdV r' p q) (hd:r'.data=r.data) (hj:∀p q,(rdV r' p q).setIfInBounds j v=rdV r2 p q) (hd2:r2.data=r'.data):RdAt B b r2 ((w.setCell ⟨b,i,none⟩ u).setCell ⟨b,j,none⟩ v)∧Below B w ((w.setCell ⟨b,i,none⟩ u).setCell ⟨b,j,none⟩ v):=by
 obtain⟨h1,b1⟩:=h.put i u hi hd;obtain⟨h2,b2⟩:=h1.put j v hj hd2;exact⟨h2,b1.trans b2⟩
set_option maxHeartbeats 4000000 in
theorem one_any (B b:Nat) (r:Rd) (k d:ByteArray) (w:World) (h:RdAt B b r w) (hk:k.size=4) (hBw:B≤w.heap.size) (hd:d.size≤300000) (hl:r.data.length+d.size≤1000000) (hdep:r.kind=3→Png.IsDep r.depth) (hcol:r.colors.size≤300000):
  Calls Tryz.prog 28 #[.pointer (some ⟨b,0,none⟩),.agg #[.string k,.string d]] w fun e w'=>e=.returned (.bool (Png.onB r ⟨k,d⟩))∧RdAt B b (Png.onR r ⟨k,d⟩) w'∧Below B w w':=by
 have HR:=Hd h;have HKS:=Hd hk;have HDP:=Hd hdep;have HBW:=Hd hBw;have HCO:=Hd hcol;have hbne:Hid (w.heap.size≠b):=Hd (Nat.ne_of_gt h.lt);clear h hdep hcol hBw;obtain⟨r1,hr1⟩:∃r1:Rd,{ r with st:=Png.stN r ⟨k,d⟩ }=r1:=⟨_,rfl⟩;have HR1:=Hd hr1;clear hr1;have t_idat:k=Png.idat∨k≠Png.idat:=Decidable.em _;go_enter Tryz.func28,Tryz.ntmps28
 go_upto_region 1 with fail;refine wp_world (fun wz=>Ext w wz∧Bk wz w.heap.size #[.string k,.string d]) ⟨(Ext.refl w).alloc _,Bk.at rfl⟩ ?_;rintro w1 ⟨hX,hC⟩;have R1:=Hd (HR.out.ext hX);have C1:=Hd hC;have B1:Hid (Below B w w1):=Hd (Below.mono hX HBW.out);have Z1:=Hd hX.size;clear hX hC;have z10:=R1.out.froz 10;have cc0:=C1.out.cell 0;have cc1:=C1.out.cell 1;obtain⟨f0,f1,f2,f3,f4,f5,f6,f7,f10⟩:=R1.out.flds;clear f0 f1 f2 f3 f4 f5 f6 f7;go_cut [19] (fun s19 wx=>s19=.bool (decide (k≠Png.idat∧r.st=1))∧wx=w1)
 case first=>
  rcases t_idat with hi | hi
  ·have e1:=pkyes hi;have HI:Hid (decide (k≠Png.idat∧r.st=1)=false):=Hd (decide_eq_false (fun q=>q.1 hi));clear hi;go_wp2_with fail;go_meet
   exact⟨by rw[HI.out],rfl⟩
  ·have e1:=pkno hi;by_cases hs:r.st=1
   ·have e2:(((r.st:Nat):Int) ==1)=true:=int_eq (by omega);have HI:Hid (decide (k≠Png.idat∧r.st=1)=true):=Hd (decide_eq_true ⟨hi,hs⟩);clear hi hs;go_wp2_with fail;go_meet
    exact⟨by rw[HI.out],rfl⟩
   ·have e2:(((r.st:Nat):Int) ==1)=false:=int_ne (by omega);have HI:Hid (decide (k≠Png.idat∧r.st=1)=false):=Hd (decide_eq_false (fun q=>hs q.2));clear hi hs;go_wp2_with fail;go_meet
    exact⟨by rw[HI.out],rfl⟩
 case rest=>
  obtain⟨rfl,rfl⟩:=hcut;obtain⟨tb,htb⟩:∃t:Bool,decide (k≠Png.idat∧r.st=1)=t:=⟨_,rfl⟩;rw[htb];go_upto_if 19 with fail
  go_cut [] (fun wx=>Hid (RdAt B b r1 wx)∧Hid (Bk wx w.heap.size #[.string k,.string d])∧Hid (Below B w wx)∧Hid (w.heap.size≤wx.heap.size))
  case first=>
   cases tb
   ·have HI:Hid (r1=r):=Hd (by rw[← HR1.out];unfold Png.stN;rw[if_neg (of_decide_eq_false htb)]);clear htb t_idat;go_wp2_with fail;go_meet
    exact⟨by rw[HI.out];exact R1,C1,B1,Z1⟩
   ·have HI:Hid (r1= { r with st:=2 }):=Hd (by rw[← HR1.out];unfold Png.stN;rw[if_pos (of_decide_eq_true htb)]);clear htb t_idat;go_wp2_with fail;go_meet
    have q:=R1.out.put (r':= { r with st:=2 }) 10 (.int .i64 2) (fun _ _=>rfl) rfl;exact⟨by rw[HI.out];exact Hd q.1,Hd (C1.out.far hbne.out _),Hd (B1.out.trans q.2),Hd (by simpa using Z1.out)⟩
  case rest=>
   clear htb;obtain⟨R2,C2,B2,Z2⟩:=hcut;clear cc0 cc1 z10 f10 R1 C1 B1 Z1;have z4:=R2.out.froz 4;have z5:=R2.out.froz 5;have z6:=R2.out.froz 6;have z7:=R2.out.froz 7;have z10:=R2.out.froz 10;have cc0:=C2.out.cell 0;have cc1:=C2.out.cell 1;obtain⟨f0,f1,f2,f3,f4,f5,f6,f7,f10⟩:=R2.out.flds;rename World=>w2;have HON:Hid (Png.onB r ⟨k,d⟩=(if k=Png.ihdr∨k=Png.iend then false else if k=Png.idat then decide (r1.st<2) else if k=Png.plte then decide (r1.hc=false∧r1.ha=false∧r1.st=0∧r1.kind≠0∧0<d.size∧d.size%3=0∧d.size/3≤Png.mostN r1) else if k=Png.trns then decide (r1.hc=true∧r1.ha=false∧r1.st=0∧r1.kind=3∧3*d.size≤r1.colors.size) else decide (97≤(k.data.toList.getD 0 0).toNat))):=Hd (by rw[← HR1.out];rfl);have HOR:Hid (Png.onR r ⟨k,d⟩=(if k=Png.ihdr∨k=Png.iend then r1 else if k=Png.idat then { r1 with data:=r1.data++d.data.toList,st:=1 } else if k=Png.plte then { r1 with colors:=d,hc:=true } else if k=Png.trns then { r1 with alphas:=d,ha:=true } else r1)):=Hd (by rw[← HR1.out];rfl);have HDP1:Hid (r1.kind=3→Png.IsDep r1.depth):=Hd (by rw[← HR1.out];exact HDP.out);have HDA:Hid (r1.data.length=r.data.length):=Hd (by rw[← HR1.out]);have HCO1:Hid (r1.colors.size≤300000):=Hd (by rw[← HR1.out];exact HCO.out);clear t_idat HR1 HDP HCO HR;by_cases h_ihdr:k=Png.ihdr
   ·have e_ihdr:(k.toList ==[73,72,68,82])=true:=pkyes h_ihdr;have hv:=HON.out;have hw:=HOR.out;rw[if_pos (.inl h_ihdr)] at hv hw;have HV:=Hd hv;have HW:=Hd hw;clear hv hw HON HOR h_ihdr;go_wp2_with fail;go_ret;exact⟨congrArg (fun v=>Ending.returned (Value.bool v)) HV.out.symm,by rw[HW.out];exact R2.out,B2.out⟩
   ·by_cases h_iend:k=Png.iend
    ·have e_ihdr:(k.toList ==[73,72,68,82])=false:=pkno h_ihdr;have e_iend:(k.toList ==[73,69,78,68])=true:=pkyes h_iend;have hv:=HON.out;have hw:=HOR.out;rw[if_pos (.inr h_iend)] at hv hw;have HV:=Hd hv;have HW:=Hd hw;clear hv hw HON HOR h_ihdr h_iend;go_wp2_with fail;go_ret;exact⟨congrArg (fun v=>Ending.returned (Value.bool v)) HV.out.symm,by rw[HW.out];exact R2.out,B2.out⟩
    ·by_cases h_idat:k=Png.idat
     ·have e_ihdr:(k.toList ==[73,72,68,82])=false:=pkno h_ihdr;have e_iend:(k.toList ==[73,69,78,68])=false:=pkno h_iend;have e_idat:(k.toList ==[73,68,65,84])=true:=pkyes h_idat;have hv:=HON.out;have hw:=HOR.out;rw[if_neg (fun q=>q.elim h_ihdr h_iend),if_pos h_idat] at hv hw;have HV:=Hd hv;have HW:=Hd hw;clear hv hw HON HOR h_ihdr h_iend h_idat;go_wp2_with fail;refine wp_region_still_tail 5 (by kernel_rfl) (by kernel_rfl) ?_;simp only[List.take_succ_cons,List.take_zero,List.drop_succ_cons,List.drop_zero];repeat still_step
      refine wpStill_nil ?_;change wpList _ _ _ _ _ w2.drew;go_wp2_with fail;refine (rwrite_any B b r1 d w2.drew (R2.out.ext (Below.drew (Ext.refl w2))) (by rw[HDA.out];omega) (Nat.le_trans HBW.out (Nat.le_trans Z2.out (Nat.le_refl _)))).mono ?_;rintro e w3 ⟨rfl,h3,b3⟩;clear f0 f1 f2 f3 f4 f5 f6 f7 f10 z4 z5 z6 z7 z10 cc0 cc1;have R3:=Hd h3;have B3:Hid (Below B w w3):=Hd ((Below.drew B2.out).trans b3);clear h3 b3 R2 C2 B2;have z10:=R3.out.froz 10;obtain⟨f0,f1,f2,f3,f4,f5,f6,f7,f10⟩:=R3.out.flds;clear f0 f1 f2 f3 f4 f5 f6 f7;by_cases h2:r1.st<2
      ·have e2:decide (((r1.st:Nat):Int)<2)=true:=decide_eq_true (by omega);have HVV:Hid (Png.onB r ⟨k,d⟩=true):=Hd (HV.out.trans (decide_eq_true h2));clear h2;go_wp2_with fail;go_ret;have q:=R3.out.put (r':= { r1 with data:=r1.data++d.data.toList,st:=1 }) 10 (.int .i64 1) (fun _ _=>rfl) rfl;exact⟨congrArg (fun v=>Ending.returned (Value.bool v)) HVV.out.symm,by rw[HW.out];exact q.1,B3.out.trans q.2⟩
      ·have e2:decide (((r1.st:Nat):Int)<2)=false:=decide_eq_false (by omega);have HVV:Hid (Png.onB r ⟨k,d⟩=false):=Hd (HV.out.trans (decide_eq_false h2));clear h2;go_wp2_with fail;go_ret;have q:=R3.out.put (r':= { r1 with data:=r1.data++d.data.toList,st:=1 }) 10 (.int .i64 1) (fun _ _=>rfl) rfl;exact⟨congrArg (fun v=>Ending.returned (Value.bool v)) HVV.out.symm,by rw[HW.out];exact q.1,B3.out.trans q.2⟩
     ·by_cases h_plte:k=Png.plte
      ·have e_ihdr:(k.toList ==[73,72,68,82])=false:=pkno h_ihdr;have e_iend:(k.toList ==[73,69,78,68])=false:=pkno h_iend;have e_idat:(k.toList ==[73,68,65,84])=false:=pkno h_idat;have e_plte:(k.toList ==[80,76,84,69])=true:=pkyes h_plte;have hv:=HON.out;have hw:=HOR.out;rw[if_neg (fun q=>q.elim h_ihdr h_iend),if_neg h_idat,if_pos h_plte] at hv hw;have HV:=Hd hv;have HW:=Hd hw;clear hv hw HON HOR h_ihdr h_iend h_idat h_plte;go_upto_if 51 with fail
       go_cut [6] (fun s6 wx=>s6=.int .i64 ((Png.mostN r1:Nat):Int)∧wx=w2)
       case first=>
        by_cases k3:r1.kind=3
        ·have e3:(((r1.kind:Nat):Int) ==3)=true:=int_eq (by omega);obtain⟨dp,hdp⟩:∃q,r1.depth=q:=⟨_,rfl⟩;have HM:Hid (Png.mostN r1=2^dp):=Hd (by unfold Png.mostN;rw[if_pos k3,hdp]);have hI:=HDP1.out k3;rw[hdp] at hI f2;clear hdp k3;rcases hI with rfl | rfl | rfl | rfl
         ·go_wp2_with fail;go_meet
          exact⟨by rw[HM.out];rfl,rfl⟩
         ·go_wp2_with fail;go_meet
          exact⟨by rw[HM.out];rfl,rfl⟩
         ·go_wp2_with fail;go_meet
          exact⟨by rw[HM.out];rfl,rfl⟩
         ·go_wp2_with fail;go_meet
          exact⟨by rw[HM.out];rfl,rfl⟩
        ·have e3:(((r1.kind:Nat):Int) ==3)=false:=int_ne (by omega);have HM:Hid (Png.mostN r1=256):=Hd (by unfold Png.mostN;rw[if_neg k3]);clear k3;go_wp2_with fail;go_meet
         exact⟨by rw[HM.out];rfl,rfl⟩
       case rest=>
        obtain⟨rfl,rfl⟩:=hcut;obtain⟨q,hq⟩:∃q,Png.mostN r1=q:=⟨_,rfl⟩;rw[hq] at HV⊢;clear hq;have hrem:(d.size:Int).tmod 3=((d.size%3:Nat):Int):=rfl;have hquo:(d.size:Int).tdiv 3=((d.size/3:Nat):Int):=rfl;obtain⟨m3,hm3⟩:∃q,d.size%3=q:=⟨_,rfl⟩;obtain⟨q3,hq3⟩:∃q,d.size/3=q:=⟨_,rfl⟩;obtain⟨N,hN⟩:∃q,d.size=q:=⟨_,rfl⟩;rw[hm3] at hrem;rw[hq3] at hquo;rw[hm3,hq3] at HV;rw[hN] at hrem hquo HV;have HNN:=Hd hN;have hq3b:q3≤300000:=by omega
        obtain⟨wa,wb⟩:=pwq (x:=(q3:Int)) ⟨by omega,by omega⟩;clear hm3 hq3;by_cases x_hc:r1.hc=false
        ·rw[x_hc] at f6;by_cases x_ha:r1.ha=false
         ·rw[x_ha] at f7;by_cases x_st:r1.st=0
          ·have e_st:(((r1.st:Nat):Int) ==0)=true:=int_eq (by omega);by_cases x_kd:r1.kind≠0
           ·have e_kd:(((r1.kind:Nat):Int) ==0)=false:=int_ne (by omega);have e_kd2:(((r1.kind:Nat):Int) !=0)=true:=int_ne2 (by omega);by_cases x_n0:0<N
            ·have e_n0:decide ((0:Int)<(N:Int))=true:=decide_eq_true (by omega);have m_n0:0<N:=x_n0;by_cases x_n3:m3=0
             ·have e_n3:(((m3:Nat):Int) ==0)=true:=int_eq (by omega);by_cases x_mo:q3≤q
              ·have e_mo:decide ((q3:Int)≤(q:Int))=true:=decide_eq_true (by omega);have m_mo:decide (q3≤q)=true:=decide_eq_true x_mo;have m_mo2:q3≤q:=x_mo;have HVV:Hid (Png.onB r ⟨k,d⟩=true):=Hd (HV.out.trans (decide_eq_true ⟨x_hc,x_ha,x_st,x_kd,x_n0,x_n3,x_mo⟩));clear x_hc x_ha x_st x_kd x_n0 x_n3 x_mo;go_wp2_with fail;go_ret;have q:=R2.out.put2 (r':= { r1 with colors:=d }) (r2:= { r1 with colors:=d,hc:=true }) 4 6 (.string d) (.bool true) (fun _ _=>rfl) rfl (fun _ _=>rfl) rfl;exact⟨congrArg (fun v=>Ending.returned (Value.bool v)) HVV.out.symm,by rw[HW.out];exact q.1,B2.out.trans q.2⟩
              ·have e_mo:decide ((q3:Int)≤(q:Int))=false:=decide_eq_false (by omega);have m_mo:decide (q3≤q)=false:=decide_eq_false x_mo;have m_mo2:¬ q3≤q:=x_mo;have HVV:Hid (Png.onB r ⟨k,d⟩=false):=Hd (HV.out.trans (decide_eq_false (fun g=>x_mo g.2.2.2.2.2.2)));clear x_hc x_ha x_st x_kd x_n0 x_n3 x_mo;go_wp2_with fail;go_ret;have q:=R2.out.put2 (r':= { r1 with colors:=d }) (r2:= { r1 with colors:=d,hc:=true }) 4 6 (.string d) (.bool true) (fun _ _=>rfl) rfl (fun _ _=>rfl) rfl;exact⟨congrArg (fun v=>Ending.returned (Value.bool v)) HVV.out.symm,by rw[HW.out];exact q.1,B2.out.trans q.2⟩
             ·have e_n3:(((m3:Nat):Int) ==0)=false:=int_ne (by omega);have HVV:Hid (Png.onB r ⟨k,d⟩=false):=Hd (HV.out.trans (decide_eq_false (fun g=>x_n3 g.2.2.2.2.2.1)));clear x_hc x_ha x_st x_kd x_n0 x_n3;go_wp2_with fail;go_ret;have q:=R2.out.put2 (r':= { r1 with colors:=d }) (r2:= { r1 with colors:=d,hc:=true }) 4 6 (.string d) (.bool true) (fun _ _=>rfl) rfl (fun _ _=>rfl) rfl;exact⟨congrArg (fun v=>Ending.returned (Value.bool v)) HVV.out.symm,by rw[HW.out];exact q.1,B2.out.trans q.2⟩
            ·have e_n0:decide ((0:Int)<(N:Int))=false:=decide_eq_false (by omega);have m_n0:¬ 0<N:=x_n0;have HVV:Hid (Png.onB r ⟨k,d⟩=false):=Hd (HV.out.trans (decide_eq_false (fun g=>x_n0 g.2.2.2.2.1)));clear x_hc x_ha x_st x_kd x_n0;go_wp2_with fail;go_ret;have q:=R2.out.put2 (r':= { r1 with colors:=d }) (r2:= { r1 with colors:=d,hc:=true }) 4 6 (.string d) (.bool true) (fun _ _=>rfl) rfl (fun _ _=>rfl) rfl;exact⟨congrArg (fun v=>Ending.returned (Value.bool v)) HVV.out.symm,by rw[HW.out];exact q.1,B2.out.trans q.2⟩
           ·have e_kd:(((r1.kind:Nat):Int) ==0)=true:=int_eq (by omega);have e_kd2:(((r1.kind:Nat):Int) !=0)=false:=int_eq2 (by omega);have HVV:Hid (Png.onB r ⟨k,d⟩=false):=Hd (HV.out.trans (decide_eq_false (fun g=>x_kd g.2.2.2.1)));clear x_hc x_ha x_st x_kd;go_wp2_with fail;go_ret;have q:=R2.out.put2 (r':= { r1 with colors:=d }) (r2:= { r1 with colors:=d,hc:=true }) 4 6 (.string d) (.bool true) (fun _ _=>rfl) rfl (fun _ _=>rfl) rfl;exact⟨congrArg (fun v=>Ending.returned (Value.bool v)) HVV.out.symm,by rw[HW.out];exact q.1,B2.out.trans q.2⟩
          ·have e_st:(((r1.st:Nat):Int) ==0)=false:=int_ne (by omega);have HVV:Hid (Png.onB r ⟨k,d⟩=false):=Hd (HV.out.trans (decide_eq_false (fun g=>x_st g.2.2.1)));clear x_hc x_ha x_st;go_wp2_with fail;go_ret;have q:=R2.out.put2 (r':= { r1 with colors:=d }) (r2:= { r1 with colors:=d,hc:=true }) 4 6 (.string d) (.bool true) (fun _ _=>rfl) rfl (fun _ _=>rfl) rfl;exact⟨congrArg (fun v=>Ending.returned (Value.bool v)) HVV.out.symm,by rw[HW.out];exact q.1,B2.out.trans q.2⟩
         ·have x_ha:r1.ha=true:=by simpa using x_ha
          rw[x_ha] at f7;have HVV:Hid (Png.onB r ⟨k,d⟩=false):=Hd (HV.out.trans (decide_eq_false (fun g=>by have q:=g.2.1;rw[x_ha] at q;cases q)));clear x_hc x_ha;go_wp2_with fail;go_ret;have q:=R2.out.put2 (r':= { r1 with colors:=d }) (r2:= { r1 with colors:=d,hc:=true }) 4 6 (.string d) (.bool true) (fun _ _=>rfl) rfl (fun _ _=>rfl) rfl;exact⟨congrArg (fun v=>Ending.returned (Value.bool v)) HVV.out.symm,by rw[HW.out];exact q.1,B2.out.trans q.2⟩
        ·have x_hc:r1.hc=true:=by simpa using x_hc
         rw[x_hc] at f6;have HVV:Hid (Png.onB r ⟨k,d⟩=false):=Hd (HV.out.trans (decide_eq_false (fun g=>by have q:=g.1;rw[x_hc] at q;cases q)));clear x_hc;go_wp2_with fail;go_ret;have q:=R2.out.put2 (r':= { r1 with colors:=d }) (r2:= { r1 with colors:=d,hc:=true }) 4 6 (.string d) (.bool true) (fun _ _=>rfl) rfl (fun _ _=>rfl) rfl;exact⟨congrArg (fun v=>Ending.returned (Value.bool v)) HVV.out.symm,by rw[HW.out];exact q.1,B2.out.trans q.2⟩
      ·by_cases h_trns:k=Png.trns
       ·have e_ihdr:(k.toList ==[73,72,68,82])=false:=pkno h_ihdr;have e_iend:(k.toList ==[73,69,78,68])=false:=pkno h_iend;have e_idat:(k.toList ==[73,68,65,84])=false:=pkno h_idat;have e_plte:(k.toList ==[80,76,84,69])=false:=pkno h_plte;have e_trns:(k.toList ==[116,82,78,83])=true:=pkyes h_trns;have hv:=HON.out;have hw:=HOR.out;rw[if_neg (fun q=>q.elim h_ihdr h_iend),if_neg h_idat,if_neg h_plte,if_pos h_trns] at hv hw;have HV:=Hd hv;have HW:=Hd hw;clear hv hw HON HOR h_ihdr h_iend h_idat h_plte h_trns;have hwn:=HCO1.out;obtain⟨N,hN⟩:∃q,d.size=q:=⟨_,rfl⟩;obtain⟨cs,hcs⟩:∃q,r1.colors.size=q:=⟨_,rfl⟩;rw[hN,hcs] at HV;rw[hN] at hd;rw[hcs] at hwn;have HNN:=Hd (And.intro hN hcs);obtain⟨wa,wb⟩:=pwq (x:=3*(N:Int)) ⟨by omega,by omega⟩;by_cases x_hc:r1.hc=true
        ·rw[x_hc] at f6;by_cases x_ha:r1.ha=false
         ·rw[x_ha] at f7;by_cases x_st:r1.st=0
          ·have e_st:(((r1.st:Nat):Int) ==0)=true:=int_eq (by omega);by_cases x_kd:r1.kind=3
           ·have e_kd:(((r1.kind:Nat):Int) ==3)=true:=int_eq (by omega);by_cases x_mo:3*N≤cs
            ·have e_mo:decide (3*(N:Int)≤(cs:Int))=true:=decide_eq_true (by omega);have HVV:Hid (Png.onB r ⟨k,d⟩=true):=Hd (HV.out.trans (decide_eq_true ⟨x_hc,x_ha,x_st,x_kd,x_mo⟩));clear x_hc x_ha x_st x_kd x_mo;go_wp2_with fail;refine wp_regionQ (by kernel_rfl) (by kernel_rfl) ?_;(iterate 15 (refine wpQ_yes (by kernel_rfl) fun K hK=>?_;go_simp;refine hK _ ?_;clear hK K));refine wpQ_yes (by kernel_rfl) fun K hK=>?_
             (iterate 19 (go_simp;refine hK _ ?_;clear hK K;refine wpQ_yes (by kernel_rfl) fun K hK=>?_))
             (iterate 3 (go_simp;refine hK _ ?_;clear hK K;refine wpQ_yes (by kernel_rfl) fun K hK=>?_));go_simp;refine hK _ ?_;clear hK K;refine wpQ_nil ?_;go_wp2_with fail;go_ret;have q:=R2.out.put2 (r':= { r1 with alphas:=d }) (r2:= { r1 with alphas:=d,ha:=true }) 5 7 (.string d) (.bool true) (fun _ _=>rfl) rfl (fun _ _=>rfl) rfl;exact⟨congrArg (fun v=>Ending.returned (Value.bool v)) HVV.out.symm,by rw[HW.out];exact q.1.ext (Below.drew (Ext.refl _)),Below.drew (B2.out.trans q.2)⟩
            ·have e_mo:decide (3*(N:Int)≤(cs:Int))=false:=decide_eq_false (by omega);have HVV:Hid (Png.onB r ⟨k,d⟩=false):=Hd (HV.out.trans (decide_eq_false (fun g=>x_mo g.2.2.2.2)));clear x_hc x_ha x_st x_kd x_mo;go_wp2_with fail;refine wp_regionQ (by kernel_rfl) (by kernel_rfl) ?_;(iterate 15 (refine wpQ_yes (by kernel_rfl) fun K hK=>?_;go_simp;refine hK _ ?_;clear hK K));refine wpQ_yes (by kernel_rfl) fun K hK=>?_
             (iterate 19 (go_simp;refine hK _ ?_;clear hK K;refine wpQ_yes (by kernel_rfl) fun K hK=>?_))
             (iterate 3 (go_simp;refine hK _ ?_;clear hK K;refine wpQ_yes (by kernel_rfl) fun K hK=>?_));go_simp;refine hK _ ?_;clear hK K;refine wpQ_nil ?_;go_wp2_with fail;go_ret;have q:=R2.out.put2 (r':= { r1 with alphas:=d }) (r2:= { r1 with alphas:=d,ha:=true }) 5 7 (.string d) (.bool true) (fun _ _=>rfl) rfl (fun _ _=>rfl) rfl;exact⟨congrArg (fun v=>Ending.returned (Value.bool v)) HVV.out.symm,by rw[HW.out];exact q.1.ext (Below.drew (Ext.refl _)),Below.drew (B2.out.trans q.2)⟩
           ·have e_kd:(((r1.kind:Nat):Int) ==3)=false:=int_ne (by omega);have HVV:Hid (Png.onB r ⟨k,d⟩=false):=Hd (HV.out.trans (decide_eq_false (fun g=>x_kd g.2.2.2.1)));clear x_hc x_ha x_st x_kd;go_wp2_with fail;refine wp_regionQ (by kernel_rfl) (by kernel_rfl) ?_;(iterate 15 (refine wpQ_yes (by kernel_rfl) fun K hK=>?_;go_simp;refine hK _ ?_;clear hK K));refine wpQ_yes (by kernel_rfl) fun K hK=>?_
            (iterate 10 (go_simp;refine hK _ ?_;clear hK K;refine wpQ_yes (by kernel_rfl) fun K hK=>?_));go_simp;refine hK _ ?_;clear hK K;(iterate 10 (refine wpQ_no (by kernel_rfl) ?_;(try simp only[Act.put,xz])));refine wpQ_yes (by kernel_rfl) fun K hK=>?_
            go_simp;refine hK _ ?_;clear hK K;refine wpQ_yes (by kernel_rfl) fun K hK=>?_;go_simp;refine hK _ ?_;clear hK K;refine wpQ_nil ?_;go_wp2_with fail;go_ret;have q:=R2.out.put2 (r':= { r1 with alphas:=d }) (r2:= { r1 with alphas:=d,ha:=true }) 5 7 (.string d) (.bool true) (fun _ _=>rfl) rfl (fun _ _=>rfl) rfl;exact⟨congrArg (fun v=>Ending.returned (Value.bool v)) HVV.out.symm,by rw[HW.out];exact q.1.ext (Below.drew (Ext.refl _)),Below.drew (B2.out.trans q.2)⟩
          ·have e_st:(((r1.st:Nat):Int) ==0)=false:=int_ne (by omega);have HVV:Hid (Png.onB r ⟨k,d⟩=false):=Hd (HV.out.trans (decide_eq_false (fun g=>x_st g.2.2.1)));clear x_hc x_ha x_st;go_wp2_with fail;refine wp_regionQ (by kernel_rfl) (by kernel_rfl) ?_;(iterate 15 (refine wpQ_yes (by kernel_rfl) fun K hK=>?_;go_simp;refine hK _ ?_;clear hK K));refine wpQ_yes (by kernel_rfl) fun K hK=>?_
           (iterate 3 (go_simp;refine hK _ ?_;clear hK K;refine wpQ_yes (by kernel_rfl) fun K hK=>?_));go_simp;refine hK _ ?_;clear hK K;(iterate 5 (refine wpQ_no (by kernel_rfl) ?_;(try simp only[Act.put,xz])));(iterate 2 (refine wpQ_yes (by kernel_rfl) fun K hK=>?_;go_simp;refine hK _ ?_;clear hK K));(iterate 10 (refine wpQ_no (by kernel_rfl) ?_;(try simp only[Act.put,xz])));refine wpQ_yes (by kernel_rfl) fun K hK=>?_;go_simp;refine hK _ ?_;clear hK K;refine wpQ_yes (by kernel_rfl) fun K hK=>?_
           go_simp;refine hK _ ?_;clear hK K;refine wpQ_nil ?_;go_wp2_with fail;go_ret;have q:=R2.out.put2 (r':= { r1 with alphas:=d }) (r2:= { r1 with alphas:=d,ha:=true }) 5 7 (.string d) (.bool true) (fun _ _=>rfl) rfl (fun _ _=>rfl) rfl;exact⟨congrArg (fun v=>Ending.returned (Value.bool v)) HVV.out.symm,by rw[HW.out];exact q.1.ext (Below.drew (Ext.refl _)),Below.drew (B2.out.trans q.2)⟩
         ·have x_ha:r1.ha=true:=by simpa using x_ha
          rw[x_ha] at f7;have HVV:Hid (Png.onB r ⟨k,d⟩=false):=Hd (HV.out.trans (decide_eq_false (fun g=>by have q:=g.2.1;rw[x_ha] at q;cases q)));clear x_hc x_ha;go_wp2_with fail;refine wp_regionQ (by kernel_rfl) (by kernel_rfl) ?_;(iterate 12 (refine wpQ_yes (by kernel_rfl) fun K hK=>?_;go_simp;refine hK _ ?_;clear hK K));(iterate 4 (refine wpQ_no (by kernel_rfl) ?_;(try simp only[Act.put,xz])));refine wpQ_no (by kernel_rfl) ?_;try simp only[Act.put,xz]
          (iterate 2 (refine wpQ_yes (by kernel_rfl) fun K hK=>?_;go_simp;refine hK _ ?_;clear hK K));(iterate 5 (refine wpQ_no (by kernel_rfl) ?_;(try simp only[Act.put,xz])));(iterate 2 (refine wpQ_yes (by kernel_rfl) fun K hK=>?_;go_simp;refine hK _ ?_;clear hK K));(iterate 10 (refine wpQ_no (by kernel_rfl) ?_;(try simp only[Act.put,xz])));(iterate 2 (refine wpQ_yes (by kernel_rfl) fun K hK=>?_;go_simp;refine hK _ ?_;clear hK K));refine wpQ_nil ?_;go_wp2_with fail;go_ret;have q:=R2.out.put2 (r':= { r1 with alphas:=d }) (r2:= { r1 with alphas:=d,ha:=true }) 5 7 (.string d) (.bool true) (fun _ _=>rfl) rfl (fun _ _=>rfl) rfl
          exact⟨congrArg (fun v=>Ending.returned (Value.bool v)) HVV.out.symm,by rw[HW.out];exact q.1.ext (Below.drew (Ext.refl _)),Below.drew (B2.out.trans q.2)⟩
        ·have x_hc:r1.hc=false:=by simpa using x_hc
         rw[x_hc] at f6;have HVV:Hid (Png.onB r ⟨k,d⟩=false):=Hd (HV.out.trans (decide_eq_false (fun g=>by have q:=g.1;rw[x_hc] at q;cases q)));clear x_hc;go_wp2_with fail;refine wp_regionQ (by kernel_rfl) (by kernel_rfl) ?_;(iterate 5 (refine wpQ_yes (by kernel_rfl) fun K hK=>?_;go_simp;refine hK _ ?_;clear hK K));(iterate 5 (refine wpQ_no (by kernel_rfl) ?_;(try simp only[Act.put,xz])));(iterate 2 (refine wpQ_yes (by kernel_rfl) fun K hK=>?_;go_simp;refine hK _ ?_;clear hK K));(iterate 5 (refine wpQ_no (by kernel_rfl) ?_;(try simp only[Act.put,xz])));refine wpQ_yes (by kernel_rfl) fun K hK=>?_;go_simp;refine hK _ ?_;clear hK K
         refine wpQ_yes (by kernel_rfl) fun K hK=>?_;go_simp;refine hK _ ?_;clear hK K;(iterate 5 (refine wpQ_no (by kernel_rfl) ?_;(try simp only[Act.put,xz])));(iterate 2 (refine wpQ_yes (by kernel_rfl) fun K hK=>?_;go_simp;refine hK _ ?_;clear hK K));(iterate 10 (refine wpQ_no (by kernel_rfl) ?_;(try simp only[Act.put,xz])));(iterate 2 (refine wpQ_yes (by kernel_rfl) fun K hK=>?_;go_simp;refine hK _ ?_;clear hK K));refine wpQ_nil ?_;go_wp2_with fail;go_ret;have q:=R2.out.put2 (r':= { r1 with alphas:=d }) (r2:= { r1 with alphas:=d,ha:=true }) 5 7 (.string d) (.bool true) (fun _ _=>rfl) rfl (fun _ _=>rfl) rfl
         exact⟨congrArg (fun v=>Ending.returned (Value.bool v)) HVV.out.symm,by rw[HW.out];exact q.1.ext (Below.drew (Ext.refl _)),Below.drew (B2.out.trans q.2)⟩
       ·have e_ihdr:(k.toList ==[73,72,68,82])=false:=pkno h_ihdr;have e_iend:(k.toList ==[73,69,78,68])=false:=pkno h_iend;have e_idat:(k.toList ==[73,68,65,84])=false:=pkno h_idat;have e_plte:(k.toList ==[80,76,84,69])=false:=pkno h_plte;have e_trns:(k.toList ==[116,82,78,83])=false:=pkno h_trns;have hv:=HON.out;have hw:=HOR.out;rw[if_neg (fun q=>q.elim h_ihdr h_iend),if_neg h_idat,if_neg h_plte,if_neg h_trns] at hv hw;have HV:=Hd hv;have HW:=Hd hw;clear hv hw HON HOR h_ihdr h_iend h_idat h_plte h_trns;have hk0:0<k.size:=by rw[HKS.out];omega
        have hk1:(0:Int)<(k.size:Int):=by omega
        have hrow:=row_at k 0 hk0;obtain⟨c,hc⟩:∃c:UInt8,k[0]=c:=⟨_,rfl⟩;rw[hc] at hrow;rw[← hrow] at HV;by_cases x:97≤c.toNat
        ·have e2:decide ((97:Int)≤((c.toNat:Nat):Int))=true:=decide_eq_true (by omega);have HVV:Hid (Png.onB r ⟨k,d⟩=true):=Hd (HV.out.trans (decide_eq_true x));clear x hrow;go_wp2_with fail;go_ret;exact⟨congrArg (fun v=>Ending.returned (Value.bool v)) HVV.out.symm,by rw[HW.out];exact R2.out,B2.out⟩
        ·have e2:decide ((97:Int)≤((c.toNat:Nat):Int))=false:=decide_eq_false (by omega);have HVV:Hid (Png.onB r ⟨k,d⟩=false):=Hd (HV.out.trans (decide_eq_false x));clear x hrow;go_wp2_with fail;go_ret;exact⟨congrArg (fun v=>Ending.returned (Value.bool v)) HVV.out.symm,by rw[HW.out];exact R2.out,B2.out⟩
theorem bext {a b:ByteArray} (h:a.data.toList=b.data.toList):a=b:=by
  cases a;cases b;exact congrArg _ (Array.ext' h)
theorem mid {x y z l:List UInt8} {a b:Nat} (hl:l=x++(y++z)) (ha:x.length=a) (hb:y.length=b):(l.drop a).take b=y:=by
  subst hl ha hb;rw[List.drop_left,List.take_left]
theorem ex_mid {T Y:ByteArray} {x z:List UInt8} {a b:Nat} (hl:T.data.toList=x++(Y.data.toList++z)) (ha:x.length=a) (hb:a+Y.size=b):T.extract a b=Y:=by
  apply bext;rw[exl];exact mid hl ha (show Y.data.toList.length=b-a from by have:Y.data.toList.length=Y.size:=rfl;omega)
theorem fileL_enc {L:List Ck}:∀ {k:Nat} {out:List UInt8},k≤L.length→fileL L k=.ok out→out=sigB++(L.take k).flatMap enc∧∀c∈L.take k,kindB c.k.data.toList=true:=by
  intro k;induction k with
  | zero=>intro out _ h;injection h with h;subst h;exact⟨by simp,fun c h=>by simp at h⟩
  | succ k ih=>
    intro out hk h;simp only[fileL] at h;split at h
    · rename_i q hq;obtain⟨h1,h2⟩:=ih (by omega) hq;have hc:L[k]? =some L[k]:=List.getElem?_eq_getElem (by omega);rw[hc] at h;simp only at h;have ht:L.take (k+1)=L.take k ++ [L[k]]:=by rw[List.take_add_one,hc];rfl
      unfold fstep at h;split at h
      · rename_i hkd;split at h
        · cases h
        · injection h with h;subst h;rw[ht,List.flatMap_append,h1];refine⟨by simp,fun c hc=>?_⟩;rcases List.mem_append.1 hc with hc | hc
          · exact h2 c hc
          · rw[List.mem_singleton.1 hc];exact hkd
      · cases h
    · cases h
end Go.Proofs.YthlibiocadimhaaGreatDoor
