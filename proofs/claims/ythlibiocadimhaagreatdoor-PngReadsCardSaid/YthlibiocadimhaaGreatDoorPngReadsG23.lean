/-
  deflate.dynamic walked.
  Two bytes of nothing: few words, few bits. Plain laws. No function of the program is named.
-/
import Derived.Test.YthlibiocadimhaaGreatDoorPngReadsG21
set_option linter.all false
set_option maxRecDepth 100000
namespace Go.Proofs.YthlibiocadimhaaGreatDoor
open Go.RowKit
theorem Ydy0 {p:Prop} (h:p:=by
 clear hy0;go_wp2_with fail;refine⟨⟨m1,rfl,by have:=HM1.out;omega,by omega,HZ2,HDA⟩,by have:=HM1.out;simp[intOf];omega⟩):p:=h
def Few (ts:List Tk):Prop:=(Pkg.used (cntN λ k=>((Dfl.cntS ts k:Nat):Int)) 286).length<=9/\(Pkg.used (cntN λ k=>((Dfl.cntD ts k:Nat):Int)) 30).length<=9/\∀many far rs,many<=286->far<=30->Dfl.Says [] rs (rowL (lnS ts) (lnD ts) many far)->(Pkg.used (cntN λ k=>((cntR rs k:Nat):Int)) 19).length<=9
def DynT (ts:List Tk) (e:Ending):Prop:=∃(many far few:Nat) (rs:List Dfl.Rn) (l:List UInt8),Dfl.DynOk ts many far few rs/\l.length=((Dfl.dynB ts many far few rs).length+7)/8/\Crc.num l=Bts.val (Dfl.dynB ts many far few rs)/\e=.returned (.string ⟨l.toArray⟩)
set_option maxHeartbeats 16000000 in
theorem ziW (x:Option Addr) (n cap:Nat) (tk:Nat->Tk) (w:World) (hT:Toks w x n tk) (hTb:Tabs w) (EB ES:Value) (hB:w.cell? ⟨2,0,none⟩=some EB) (hS:w.cell? ⟨0,0,none⟩=some ES) (hn:n<=310000)
  (hok:∀i,i<n->(tk i).l=0\/(3<=(tk i).l/\(tk i).l<=258/\1<=(tk i).d/\(tk i).d<=32768)) (hfew:Few ((List.range n).map tk)):
  Calls Tryz.prog 89 #[.slice x n cap] w λ e w'=>DynT ((List.range n).map tk) e/\Ext w w':=by
 have HT:=Hd hT;have HTb:=Hd hTb;have HB:=Hd hB;have HS:=Hd hS;have HOK:=Hd hok;have HFW:=Hd hfew;clear hT hTb hB hS hok hfew;go_enter Tryz.func89,Tryz.ntmps89
 go_wp2_with fail;refine (zkj x n cap tk w HT.out HTb.out hn HOK.out).mono ?_;rintro e w1 ⟨g1,g2,rfl,hC⟩;obtain⟨ts,hts⟩:=nmE ((List.range n).map tk);have HTS:=Hd hts;have htl:ts.length=n:=by rw[<- hts];simp
 rw[hts] at hC HFW;have HC1:=Hd hC;have HCS:=Hd (show ∀k,Dfl.cntS ts k<=310001 from λ k=>by have:=Dfl.zjF ts k;omega);have HCD:=Hd (show ∀k,Dfl.cntD ts k<=310001 from λ k=>by have:=Dfl.zjL ts k;omega);clear hC hts htl;go_wp2_with fail;refine zaM (λ wz=>Ext w1 wz/\Bk wz w1.heap.size #[.slice none 0 0,.int .i64 0]/\Bk wz (w1.heap.size+1) #[.pointer (some ⟨w1.heap.size,0,none⟩),.slice none 0 0,.slice none 0 0,.slice none 0 0,.slice none 0 0]) ⟨((Ext.refl _).alloc _).alloc _,(Bk.at rfl).old,Bk.at (by simp)⟩ ?_;rintro w2 ⟨hX,hW,hD⟩;obtain⟨Wb,hWb⟩:=nmE (w1.heap.size);rw[hWb] at hW hD;rw[hWb];obtain⟨D,hDe⟩:=nmE (Wb+1);rw[hDe] at hD;rw[hDe];have HW2:=Hd hW;have HD2:=Hd hD;have HC2:=Hd (HC1.out.grow hX);have HWD:=Hd (show Wb<D/\w.heap.size<=Wb/\g1<Wb/\g2<Wb from⟨by omega,by have:=HC1.out.ext.size;omega,by have:=HC1.out.l1;omega,by have:=HC1.out.l2;omega⟩);clear hX hW hD hWb hDe HC1;refine (zcT (some ⟨g1,0,none⟩) 286 286 (λ k=>((Dfl.cntS ts k:Nat):Int)) 15 w2 (zgm HC2.out.c1 (λ k _=>by have:=HCS.out k;omega)) ES ((HC2.out.ext.cell (qab w _ HS.out)).trans HS.out) (zdd (by decide) (by decide) (by decide) (λ k=>by have:=HCS.out k;omega)) HFW.out.1).mono ?_;rintro e w3 ⟨hX,hr⟩;rcases hr with⟨hbad,_⟩ | ⟨_,la,rfl,hI,hge⟩
 ·have:=zdH (cntN λ k=>((Dfl.cntS ts k:Nat):Int)) 286;omega
 have HC3:=Hd (HC2.out.grow hX);have HW3:=Hd (HW2.out.ext hX);have HD3:=Hd (HD2.out.ext hX);have HL3:=Hd (show Ints w3 (some ⟨la,0,none⟩) 286 (lnS ts) from hI);have HLA:=Hd (show D<la from by have:=HD2.out.lt;omega);clear hX hI hge HC2 HW2 HD2;have k0:=HD3.out.cell 1;have f0:=HD3.out.frozen 1;simp only[xg,xh,xi] at k0;go_wp2_with fail;refine zaM (λ wz=>Ints wz (some ⟨la,0,none⟩) 286 (lnS ts)/\CG w wz g1 g2 (Dfl.cntS ts) (Dfl.cntD ts)/\Bk wz Wb #[.slice none 0 0,.int .i64 0]/\Bk wz D #[.pointer (some ⟨Wb,0,none⟩),.slice (some ⟨la,0,none⟩) 286 286,.slice none 0 0,.slice none 0 0,.slice none 0 0]) ?_ ?_
 ·have h1:=HWD.out;have h2:=HLA.out;exact⟨HL3.out.far ⟨D,1,none⟩ (show la≠D by omega) _,HC3.out.far ⟨D,1,none⟩ (show w.heap.size<=D by omega) (show D≠g1 by omega) (show D≠g2 by omega) _,HW3.out.far (p:=⟨D,1,none⟩) (show Wb≠D by omega) _,by simpa using HD3.out.set_ 1 (.slice (some ⟨la,0,none⟩) 286 286)⟩
 rintro w4 ⟨h1,h2,h3,h4⟩;clear HL3 HC3 HW3 HD3 k0 f0;have HL4:=Hd h1;have HC4:=Hd h2;have HW4:=Hd h3;have HD4:=Hd h4;clear h1 h2 h3 h4;refine (zcT (some ⟨g2,0,none⟩) 30 30 (λ k=>((Dfl.cntD ts k:Nat):Int)) 15 w4 (zgm HC4.out.c2 (λ k _=>by have:=HCD.out k;omega)) ES ((HC4.out.ext.cell (qab w _ HS.out)).trans HS.out) (zdd (by decide) (by decide) (by decide) (λ k=>by have:=HCD.out k;omega)) HFW.out.2.1).mono ?_;rintro e w5 ⟨hX,hr⟩;rcases hr with⟨hbad,_⟩ | ⟨_,da,rfl,hI,hge⟩
 ·have:=zdH (cntN λ k=>((Dfl.cntD ts k:Nat):Int)) 30;omega
 have HX5:=Hd (HC4.out.ext.trans hX);have HW5:=Hd (HW4.out.ext hX);have HD5:=Hd (HD4.out.ext hX);have HL5:=Hd (HL4.out.ext hX);have HM5:=Hd (show Ints w5 (some ⟨da,0,none⟩) 30 (lnD ts) from hI);have HDA:=Hd (show D<da from by have:=HD4.out.lt;omega);have HGS:=Hd (znR (ts:=ts));have HGD:=Hd (zm9 (ts:=ts));clear hX hI hge HC4 HW4 HD4 HL4;have k0:=HD5.out.cell 2;have f0:=HD5.out.frozen 2;simp only[xg,xh,xi] at k0;go_upto_region 5 with fail;refine zac (λ wz=>Ext w wz/\Ints wz (some ⟨la,0,none⟩) 286 (lnS ts)/\Ints wz (some ⟨da,0,none⟩) 30 (lnD ts)/\Bk wz Wb #[.slice none 0 0,.int .i64 0]/\Bk wz D #[.pointer (some ⟨Wb,0,none⟩),.slice (some ⟨la,0,none⟩) 286 286,.slice (some ⟨da,0,none⟩) 30 30,.slice none 0 0,.slice none 0 0]) ?_ ?_
 ·have h1:=HWD.out;have h2:=HLA.out;have h3:=HDA.out;exact⟨qaL HX5.out (show w.heap.size<=D by omega) _,HL5.out.far ⟨D,2,none⟩ (show la≠D by omega) _,HM5.out.far ⟨D,2,none⟩ (show da≠D by omega) _,HW5.out.far (p:=⟨D,2,none⟩) (show Wb≠D by omega) _,by simpa using HD5.out.set_ 2 (.slice (some ⟨da,0,none⟩) 30 30)⟩
 rintro w6 ⟨h1,h2,h3,h4,h5⟩;clear HX5 HL5 HM5 HW5 HD5 k0 f0;have HX6:=Hd h1;have HL6:=Hd h2;have HM6:=Hd h3;have HW6:=Hd h4;have HD6:=Hd h5;clear h1 h2 h3 h4 h5;have k0:=HD6.out.cell 1;simp only[xg,xh,xi] at k0;go_wp2_with fail;refine (zcE (some ⟨la,0,none⟩) 286 286 (lnS ts) w6 HL6.out (by decide) HGS.out.2.1 HGS.out.2.2 EB ES ((HX6.out.cell (qab w _ HB.out)).trans HB.out) ((HX6.out.cell (qab w _ HS.out)).trans HS.out)).mono ?_;rintro e w7 ⟨hX,cb,hcb,rfl,hC⟩;have HX7:=Hd (HX6.out.trans hX);have HW7:=Hd (HW6.out.ext hX);have HD7:=Hd (HD6.out.ext hX);have HL7:=Hd (HL6.out.ext hX);have HM7:=Hd (HM6.out.ext hX);have HC7:=Hd hC;have HCB:=Hd (show D<cb from by have:=HD6.out.lt;omega);clear hX hC hcb HX6 HW6 HD6 HL6 HM6 k0;have k0:=HD7.out.cell 3;have f0:=HD7.out.frozen 3;simp only[xg,xh,xi] at k0;go_upto_region 6 with fail;refine zac (λ wz=>Ext w wz/\Ints wz (some ⟨la,0,none⟩) 286 (lnS ts)/\Ints wz (some ⟨da,0,none⟩) 30 (lnD ts)/\Bk wz Wb #[.slice none 0 0,.int .i64 0]/\Bk wz D #[.pointer (some ⟨Wb,0,none⟩),.slice (some ⟨la,0,none⟩) 286 286,.slice (some ⟨da,0,none⟩) 30 30,.slice (some ⟨cb,0,none⟩) 286 286,.slice none 0 0]/\Cs wz cb 286 .u32 (λ i=>(word (lnS ts) 286 i:Int))) ?_ ?_
 ·have h1:=HWD.out;have h2:=HLA.out;have h3:=HDA.out;have h4:=HCB.out;exact⟨qaL HX7.out (show w.heap.size<=D by omega) _,HL7.out.far ⟨D,3,none⟩ (show la≠D by omega) _,HM7.out.far ⟨D,3,none⟩ (show da≠D by omega) _,HW7.out.far (p:=⟨D,3,none⟩) (show Wb≠D by omega) _,by simpa using HD7.out.set_ 3 (.slice (some ⟨cb,0,none⟩) 286 286),HC7.out.other ⟨D,3,none⟩ _ (show D≠cb by omega)⟩
 rintro w8 ⟨h1,h2,h3,h4,h5,h6⟩;clear HX7 HL7 HM7 HW7 HD7 HC7 k0 f0;have HX8:=Hd h1;have HL8:=Hd h2;have HM8:=Hd h3;have HW8:=Hd h4;have HD8:=Hd h5;have HC8:=Hd h6;clear h1 h2 h3 h4 h5 h6;have k0:=HD8.out.cell 2;simp only[xg,xh,xi] at k0;go_wp2_with fail;refine (zcE (some ⟨da,0,none⟩) 30 30 (lnD ts) w8 HM8.out (by decide) HGD.out.2.1 HGD.out.2.2 EB ES ((HX8.out.cell (qab w _ HB.out)).trans HB.out) ((HX8.out.cell (qab w _ HS.out)).trans HS.out)).mono ?_;rintro e w9 ⟨hX,eb,heb,rfl,hC⟩;have HX9:=Hd (HX8.out.trans hX);have HW9:=Hd (HW8.out.ext hX);have HD9:=Hd (HD8.out.ext hX);have HL9:=Hd (HL8.out.ext hX);have HM9:=Hd (HM8.out.ext hX);have HC9:=Hd (HC8.out.ext hX);have HE9:=Hd hC;have HEB:=Hd (show D<eb from by have:=HD8.out.lt;omega);clear hX hC heb HX8 HW8 HD8 HL8 HM8 HC8 k0;have k0:=HD9.out.cell 4;have f0:=HD9.out.frozen 4;simp only[xg,xh,xi] at k0;go_upto_block 0 with fail;refine zac (λ wz=>DA w wz D Wb la da cb eb (lnS ts) (lnD ts)) ?_ ?_
 ·have h1:=HWD.out;have h2:=HLA.out;have h3:=HDA.out;have h4:=HCB.out;have h5:=HEB.out;have hD:=HD9.out.set_ 4 (.slice (some ⟨eb,0,none⟩) 30 30);exact⟨qaL HX9.out (show w.heap.size<=D by omega) _,⟨hD.cell 0,hD.cell 1,hD.cell 2,hD.cell 3,hD.cell 4,HL9.out.far ⟨D,4,none⟩ (show la≠D by omega) _,HM9.out.far ⟨D,4,none⟩ (show da≠D by omega) _,zjK (HC9.out.other ⟨D,4,none⟩ _ (show D≠cb by omega)),zjK (HE9.out.other ⟨D,4,none⟩ _ (show D≠eb by omega))⟩,HW9.out.far (p:=⟨D,4,none⟩) (show Wb≠D by omega) _,h1.2.1,by omega,by omega,by omega,by omega,by omega⟩
 rintro wA hDA;clear HX9 HL9 HM9 HW9 HD9 HC9 HE9 k0 f0 HWD HLA HDA HCB HEB HCS HCD;have HDA:=Hd hDA;clear hDA;go_cut [6] (λ sx wx=>∃m:Nat,sx=.int .i64 (m:Int)/\257<=m/\m<=286/\Hid (∀j,m<=j->j<286->lnS ts j=0)/\Hid (DA w wx D Wb la da cb eb (lnS ts) (lnD ts)))
 case first=>
  go_wp2_with fail;go_loopw [6] (λ sx wx=>∃m:Nat,sx=.int .i64 (m:Int)/\257<=m/\m<=286/\Hid (∀j,m<=j->j<286->lnS ts j=0)/\Hid (DA w wx D Wb la da cb eb (lnS ts) (lnD ts))) (λ sx _=>(intOf sx).toNat)
  case atStart=>exact⟨286,rfl,by omega,by omega,Hd (λ j h1 h2=>by omega),HDA⟩
  case round=>
   clear HDA;obtain⟨m,rfl,hm1,hm2,HZ,HDA⟩:=hrel;by_cases hlo:257<m
   ·have t0:=dT (p:=(257:Int)<(m:Int));obtain⟨m1,hm'⟩:∃m1,m-1=m1:=⟨_,rfl⟩;have em:(m:Int)-1=(m1:Int):=by omega
    have wm:IntKind.i64.wrap (m1:Int)=(m1:Int):=by rw[qal];omega
    have hmi:(m1:Int)<286:=by omega
    have hmj:(0:Int)<=(m1:Int):=by omega
    obtain⟨y,hy⟩:=nmE (lnS ts m1);have k1:=HDA.out.df.c1;have kc:wr.cell? ⟨la,m1,none⟩=some (.int .i64 y):=by
     have q:=(HDA.out.df.li.2 _ rfl m1 (by omega)).1;rw[zae,hy] at q;exact q
    have HY:=Hd hy;have HM1:=Hd hm';clear hy hm';by_cases hy0:y=0
    ·have t2:(y ==0)=true:=qbl.2 hy0;have HZ2:Hid (∀j,m1<=j->j<286->lnS ts j=0):=Hd (λ j h1 h2=>by
      rcases Nat.eq_or_lt_of_le h1 with q | q
      ·rw[<- q,HY.out];exact hy0
      exact HZ.out j (by have:=HM1.out;omega) h2)
     exact Ydy0
    have t2:(y ==0)=false:=qak.2 hy0;clear hy0;go_wp2_with fail;go_meet
    exact⟨m,rfl,hm1,hm2,HZ,HDA⟩
   have t0:=dF (p:=(257:Int)<(m:Int));go_wp2_with fail;go_meet
   exact⟨m,rfl,hm1,hm2,HZ,HDA⟩
 case rest=>
 clear HDA;obtain⟨many,rfl,hmany1,hmany2,HZmany,HDA⟩:=hcut;go_upto_block 2 with fail;go_cut [7] (λ sx wx=>∃m:Nat,sx=.int .i64 (m:Int)/\1<=m/\m<=30/\Hid (∀j,m<=j->j<30->lnD ts j=0)/\Hid (DA w wx D Wb la da cb eb (lnS ts) (lnD ts)))
 case first=>
  go_wp2_with fail;go_loopw [7] (λ sx wx=>∃m:Nat,sx=.int .i64 (m:Int)/\1<=m/\m<=30/\Hid (∀j,m<=j->j<30->lnD ts j=0)/\Hid (DA w wx D Wb la da cb eb (lnS ts) (lnD ts))) (λ sx _=>(intOf sx).toNat)
  case atStart=>exact⟨30,rfl,by omega,by omega,Hd (λ j h1 h2=>by omega),HDA⟩
  case round=>
   clear HDA;obtain⟨m,rfl,hm1,hm2,HZ,HDA⟩:=hrel;by_cases hlo:1<m
   ·have t0:=dT (p:=(1:Int)<(m:Int));obtain⟨m1,hm'⟩:∃m1,m-1=m1:=⟨_,rfl⟩;have em:(m:Int)-1=(m1:Int):=by omega
    have wm:IntKind.i64.wrap (m1:Int)=(m1:Int):=by rw[qal];omega
    have hmi:(m1:Int)<30:=by omega
    have hmj:(0:Int)<=(m1:Int):=by omega
    obtain⟨y,hy⟩:=nmE (lnD ts m1);have k1:=HDA.out.df.c2;have kc:wr.cell? ⟨da,m1,none⟩=some (.int .i64 y):=by
     have q:=(HDA.out.df.di.2 _ rfl m1 (by omega)).1;rw[zae,hy] at q;exact q
    have HY:=Hd hy;have HM1:=Hd hm';clear hy hm';by_cases hy0:y=0
    ·have t2:(y ==0)=true:=qbl.2 hy0;have HZ2:Hid (∀j,m1<=j->j<30->lnD ts j=0):=Hd (λ j h1 h2=>by
      rcases Nat.eq_or_lt_of_le h1 with q | q
      ·rw[<- q,HY.out];exact hy0
      exact HZ.out j (by have:=HM1.out;omega) h2)
     exact Ydy0
    have t2:(y ==0)=false:=qak.2 hy0;clear hy0;go_wp2_with fail;go_meet
    exact⟨m,rfl,hm1,hm2,HZ,HDA⟩
   have t0:=dF (p:=(1:Int)<(m:Int));go_wp2_with fail;go_meet
   exact⟨m,rfl,hm1,hm2,HZ,HDA⟩
 case rest=>
 clear HDA;obtain⟨far,rfl,hfar1,hfar2,HZfar,HDA⟩:=hcut;go_wp2_with fail;obtain⟨B,hBe⟩:=nmE (wc.heap.size);have Z_0:=Hd (hBe▸DB.start HDA.out);have hmi:(many:Int)<=286:=by omega
 have hmj:(0:Int)<=(many:Int):=by omega
 have hfi:(far:Int)<=30:=by omega
 have hfj:(0:Int)<=(far:Int):=by omega
 clear hBe HDA;refine qar (S:=λ w'=>w'.cell? ⟨D,1,none⟩=some (.slice (some ⟨la,0,none⟩) 286 286)/\w'.cell? ⟨D,2,none⟩=some (.slice (some ⟨da,0,none⟩) 30 30)) (by kernel_rfl) ⟨Z_0.out.a.df.c1,Z_0.out.a.df.c2⟩ (λ hHeld=>?_);clear hHeld;refine zab (λ wz=>Ext wc wz) (show Ext wc wc.drew from qag (Ext.refl wc)) ?_;rintro z1 h;have Z_1:=Hd (Z_0.out.ext h);clear h Z_0;have hHeld:z1.cell? ⟨D,1,none⟩=some (.slice (some ⟨la,0,none⟩) 286 286)/\z1.cell? ⟨D,2,none⟩=some (.slice (some ⟨da,0,none⟩) 30 30):=⟨Z_1.out.a.df.c1,Z_1.out.a.df.c2⟩;refine tk5 0 1 2 3 4 ?_;refine tk5 5 7 8 9 10 ?_;refine tk2 11 12 ?_;refine rdH 6 rfl λ KK hK=>?_;clear hHeld;obtain⟨y1,z2,hr,hrow,hz⟩:=Z_1.out.app (show OwnR z1 B 3 (.slice none 0 0) 0 [] from qaK _ _ _ _) (c:=286) Z_1.out.a.df.li (m:=many) hmany2 (by omega);simp only[Nat.zero_add,qbx] at hrow;have Z_2:=Hd hz;have R_2:=Hd hrow;rw[qad (show _=true by kernel_rfl)];unfold Oper.wp execOp;simp only[resolve,invoke,builtin,qbu,qbM,qas,qbg,qaG,qa9,Act.eval,xa,xb,xc];simp only[qaO,xg,xh,xi,qbn,hr,qas,Oper.upon];clear hz hrow Z_1;refine oS hK ⟨Z_2.out.a.df.c1,Z_2.out.a.df.c2⟩ λ hHeld=>?_;clear hK KK hr;refine rdH 13 rfl λ KK hK=>?_;clear hHeld;obtain⟨y2,z3,hr,hrow,hz⟩:=Z_2.out.app R_2.out (c:=30) Z_2.out.a.df.di (m:=far) hfar2 (by omega)
 obtain⟨x2,c2,rfl⟩:=zf2 hrow;have Z_3:=Hd hz;have R_3:=Hd (znp hrow (by omega) (λ j hj=>HGS.out.2.1.2 j (by omega)) (λ j hj=>HGD.out.2.1.2 j (by omega)));rw[qad (show _=true by kernel_rfl)];unfold Oper.wp execOp;simp only[resolve,invoke,builtin,qbu,qbM,qas,qbg,qaG,qa9,Act.eval,xa,xb,xc];simp only[qaO,xg,xh,xi,qbn,hr,qas,Oper.upon];clear hz hrow Z_2 R_2;refine oS hK ⟨Z_3.out.a.df.c1,Z_3.out.a.df.c2⟩ λ hHeld=>?_;clear hK KK hr;refine rdH 14 rfl λ KK hK=>?_;clear hHeld;have HBW:=Hd Z_3.out.bz;go_simp;refine (zmX x2 (many+far) c2 (rowL (lnS ts) (lnD ts) many far) z3 (zdf _ _ _ _) R_3.out (by omega) (zpT (λ j hj=>HGS.out.2.1.2 j (by omega)) (λ j hj=>HGD.out.2.1.2 j (by omega)))).mono ?_;rintro e z4 ⟨rv,rs,rfl,hrr,hsy⟩;have Z_4:=Hd (Z_3.out.ext hrr.ext);have HRR:=Hd hrr;have HSY:=Hd hsy;clear hrr hsy Z_3 R_3;go_simp;refine oS hK ⟨Z_4.out.a.df.c1,Z_4.out.a.df.c2⟩ λ hHeld=>?_;clear hK KK;refine tkH 15 ?_;refine dnT ?_;clear hHeld;have hrs0:rs≠[]:=zpK HSY.out (by rw[zdf];omega);obtain⟨gr,cr,rfl,hgr,hrc⟩:=HRR.out.cells hrs0;have HRC:=Hd hrc;have HRC:=Hd hrc;have hrl:rs.length<=316:=by have h:=HSY.out.grow;rw[zdf] at h;simp at h;omega
 obtain⟨N,hN⟩:=nmE (rs.length);have HN:=Hd hN;rw[hN] at hrl;have HGR:=Hd (show B<=gr from qam HBW.out hgr);clear hrc HRR hgr;have hmk1:=λ w=>qbR (P:=Tryz.prog) 88 3 (.int .i64 0) 8 Tryz.underlying88 zaX rfl .i64 .i64 19 (by omega) (by omega) w;simp only[show ((19:Nat):Int)=19 from rfl] at hmk1;go_upto_block 4 with fail;refine zac (λ wz=>Ext z4 wz/\Cs wz z4.heap.size 19 .i64 (λ _=>0)) (by first | exact⟨qag ((Ext.refl _).alloc _),by rw[zaY];exact (Cs.born _ _ _ _ _).drew⟩ | exact⟨(Ext.refl _).alloc _,by rw[zaY];exact Cs.born _ _ _ _ _⟩) ?_;rintro wU ⟨hE,hU⟩;obtain⟨U,hUe⟩:=nmE (z4.heap.size);rw[hUe] at hU;rw[hUe];have HZU:=Hd (Z_4.out.ext hE);have HRU:=Hd (HRC.out.ext hE);have HUB:=Hd (show B<=U from hUe▸Z_4.out.bz);have HGU:=Hd (show gr<U from hUe▸qab z4 _ (HRC.out 0 (rs[0]'(List.length_pos_iff.2 hrs0)) (qai _)).1);have HCU:Hid (Cs wU U 19 .i64 (λ k=>((cntR (rs.take 0) k:Nat):Int))):=Hd hU;clear hE hU hUe hrs0 hmk1 HRC Z_4;clear hN;go_cut [9] (λ s9 wx=>s9=.slice (some ⟨U,0,none⟩) 19 19/\Hid (DB w wx B D Wb la da cb eb (lnS ts) (lnD ts))/\Hid (Rnc wx gr rs)/\Hid (Cs wx U 19 .i64 (λ k=>((cntR rs k:Nat):Int))))
 case first=>
  go_wp2_with fail;go_loopw [116] (λ c wr=>∃i:Nat,c=.int .i64 (i:Int)/\i<=N/\Hid (DB w wr B D Wb la da cb eb (lnS ts) (lnD ts))/\Hid (Rnc wr gr rs)/\Hid (Cs wr U 19 .i64 (λ k=>((cntR (rs.take i) k:Nat):Int)))) (λ c _=>N-(intOf c).toNat)
  case atStart=>exact⟨0,rfl,by omega,HZU,HRU,HCU⟩
  case round=>
   clear HZU HRU HCU;obtain⟨i,rfl,hi,HZ,HR,HU⟩:=hrel;by_cases hlt:i<N
   ·have n0:i<rs.length:=by rw[HN.out];exact hlt
    have t0:=dT (p:=(i:Int)<(rs.length:Int));obtain⟨r,hr⟩:∃r,rs[i]? =some r:=⟨_,qai (show i<rs.length by rw[HN.out];exact hlt)⟩;obtain⟨k0,k1,k2⟩:=HR.out i r hr;have hs:=(HSY.out.bd r (qa5 hr)).1;obtain⟨s,hs'⟩:∃s,r.s=s:=⟨_,rfl⟩;obtain⟨m,hm'⟩:∃m,r.m=m:=⟨_,rfl⟩;obtain⟨b,hb'⟩:∃b,r.b=b:=⟨_,rfl⟩;rw[hs'] at k0 hs;rw[hm'] at k1;rw[hb'] at k2;have HTk:=Hd (show rs.take (i+1)=rs.take i ++ [r] by rw[qbS,hr];rfl);have HRs:=Hd hs';obtain⟨c,hc⟩:=nmE (cntR (rs.take i) s);have hcl:c<=316:=by rw[<- hc];have:=zjv (rs.take i) s;rw[qax] at this;omega
    have HCe:=Hd hc;clear hc hr hs' hm' hb';have wi:IntKind.i64.wrap ((i:Int)+1)=((i+1:Nat):Int):=by rw[qal];omega
    have wc1:IntKind.i64.wrap ((c:Int)+1)=((c+1:Nat):Int):=by rw[qal];omega
    have hsi:(s:Int)<19:=by omega
    have hsj:(0:Int)<=(s:Int):=by omega
    go_upto_region 17 with fail;refine zac (λ wz=>Ext wr wz/\Bk wz wr.heap.size #[.int .i64 (s:Int),.int .i64 (m:Int),.int .i64 (b:Int)]) ⟨(Ext.refl _).alloc _,Bk.at rfl⟩ ?_;rintro w3 ⟨hE,hT⟩;have HZ3:=Hd (HZ.out.ext hE);have HR3:=Hd (HR.out.ext hE);have HU3:=Hd (HU.out.ext hE);have HT3:=Hd hT;have kc:w3.cell? ⟨U,s,none⟩=some (.int .i64 (c:Int)):=by rw[<- HCe.out];exact (HU3.out s hs).1
    have kf:=(HU3.out s hs).2;have b0:=HT3.out.cell 0;simp only[xg,xh,xi] at b0;clear k0 k1 k2 hE hT HZ HR HU;have hk:Keeps (λ k=>k=U) w3 (w3.setCell ⟨U,s,none⟩ (.int .i64 ((c+1:Nat):Int))):=Keeps.setCell (S:=λ k=>k=U) (p:=⟨U,s,none⟩) (Keeps.refl _ _) (.inl rfl) _;have HZ4:=Hd (HZ3.out.keeps hk (λ k q=>by have q:k=U:=q;have:=HUB.out;omega));have HR4:=Hd (HR3.out.keeps hk (show ¬ gr=U by have:=HGU.out;omega));have HU4:Hid (Cs (w3.setCell ⟨U,s,none⟩ (.int .i64 ((c+1:Nat):Int))) U 19 .i64 (λ k=>((cntR (rs.take (i+1)) k:Nat):Int))):=Hd (HU3.out.put s _ _ hs (λ j _=>by
     rw[HTk.out,zmC _ r s HRs.out];unfold Dfl.bump;by_cases e:j=s
     ·rw[qad e,qad e,e,HCe.out]
     rw[qac e,qac e]))
    clear hk;go_wp2_with fail;refine⟨⟨i+1,by simp,by omega,HZ4,HR4,HU4⟩,by simp[intOf];omega⟩
   have n0:¬ i<rs.length:=by rw[HN.out];exact hlt
   have t0:=dF (p:=(i:Int)<(rs.length:Int));have HU4:Hid (Cs wr U 19 .i64 (λ k=>((cntR rs k:Nat):Int))):=Hd (by
    have q:=HU.out;rw[qan (by rw[HN.out];omega)] at q;exact q)
   go_wp2_with fail;go_meet
   exact⟨rfl,HZ,HR,HU4⟩
 case rest=>
 clear HZU HRU HCU;obtain⟨rfl,HZ,HR,HU⟩:=hcut;have HUR:=Hd (show ∀k,cntR rs k<=1000 from λ k=>by have:=zjv rs k;have:=HN.out;omega);go_wp2_with fail;refine (zcT (some ⟨U,0,none⟩) 19 19 (λ k=>((cntR rs k:Nat):Int)) 7 wc (zgm HU.out (λ k _=>by have:=HUR.out k;omega)) ES ((HZ.out.a.old.cell (qab w _ HS.out)).trans HS.out) (zdd (by decide) (by decide) (by decide) (λ k=>by have:=HUR.out k;omega)) (HFW.out.2.2 _ _ _ hmany2 hfar2 HSY.out)).mono ?_;rintro e wL ⟨hX,hr⟩;rcases hr with⟨hbad,_⟩ | ⟨_,sb,rfl,hI,hge⟩
 ·have:=zdH (cntN λ k=>((cntR rs k:Nat):Int)) 19;omega
 have HGR7:=Hd (zos (rs:=rs));have HZL:=Hd (HZ.out.ext hX);have HRL:=Hd (HR.out.ext hX);have HSL:=Hd (show Ints wL (some ⟨sb,0,none⟩) 19 (lnR rs) from hI);have HSB:=Hd (show B<=sb from qam HZ.out.bz hge);clear hX hI hge HZ HR HU;go_wp2_with fail;refine (zcE (some ⟨sb,0,none⟩) 19 19 (lnR rs) wL HSL.out (by decide) HGR7.out.2.1 HGR7.out.2.2 EB ES ((HZL.out.a.old.cell (qab w _ HB.out)).trans HB.out) ((HZL.out.a.old.cell (qab w _ HS.out)).trans HS.out)).mono ?_;rintro e wK ⟨hX,kb,hkb,rfl,hC⟩;have HZK:=Hd (HZL.out.ext hX);have HRK:=Hd (HRL.out.ext hX);have HSK:=Hd (HSL.out.ext hX);have HCK:=Hd hC;have HKB:=Hd (show B<=kb from qam HZL.out.bz hkb);clear hX hC hkb HZL HRL HSL;go_upto_block 6 with fail;have HG16:=Hd HGR7.out.1;go_cut [16] (λ sx wx=>∃m:Nat,sx=.int .i64 (m:Int)/\4<=m/\m<=19/\Hid (∀i,m<=i->i<19->lnR rs (Inf.zaK.getD i 0)=0)/\Hid (DB w wx B D Wb la da cb eb (lnS ts) (lnD ts))/\Hid (Rnc wx gr rs)/\Hid (Ints wx (some ⟨sb,0,none⟩) 19 (lnR rs))/\Hid (Cs wx kb 19 .u32 (λ i=>(word (lnR rs) 19 i:Int))))
 case first=>
  go_wp2_with fail;go_loopw [16] (λ sx wx=>∃m:Nat,sx=.int .i64 (m:Int)/\4<=m/\m<=19/\Hid (∀i,m<=i->i<19->lnR rs (Inf.zaK.getD i 0)=0)/\Hid (DB w wx B D Wb la da cb eb (lnS ts) (lnD ts))/\Hid (Rnc wx gr rs)/\Hid (Ints wx (some ⟨sb,0,none⟩) 19 (lnR rs))/\Hid (Cs wx kb 19 .u32 (λ i=>(word (lnR rs) 19 i:Int)))) (λ sx _=>(intOf sx).toNat)
  case atStart=>exact⟨19,rfl,by omega,by omega,Hd (λ i h1 h2=>by omega),HZK,HRK,HSK,HCK⟩
  case round=>
   clear HZK HRK HSK HCK;obtain⟨m,rfl,hm1,hm2,HZ,HZK,HRK,HSK,HCK⟩:=hrel;by_cases hlo:4<m
   ·have t0:=dT (p:=(4:Int)<(m:Int));obtain⟨m1,hm'⟩:∃m1,m-1=m1:=⟨_,rfl⟩;have em:(m:Int)-1=(m1:Int):=by omega
    have wm:IntKind.i64.wrap (m1:Int)=(m1:Int):=by rw[qal];omega
    have hmi:(m1:Int)<19:=by omega
    have hmj:(0:Int)<=(m1:Int):=by omega
    have hm19:m1<19:=by omega
    obtain⟨q,hq⟩:=nmE (Inf.zaK.getD m1 0);have hq19:q<19:=by rw[<- hq];exact (by decide:∀i,i<19->Inf.zaK.getD i 0<19) m1 hm19
    have hqi:(q:Int)<19:=by omega
    have hqj:(0:Int)<=(q:Int):=by omega
    have ko:wr.cell? ⟨10,m1,none⟩=some (.int .i64 (q:Int)):=by
     have h:=(HTb.out.ext HZK.out.a.old).order m1 hm19;rw[hq] at h;exact h
    obtain⟨y,hy⟩:=nmE (lnR rs q);have kc:wr.cell? ⟨sb,q,none⟩=some (.int .i64 y):=by
     have h:=(HSK.out.2 _ rfl q hq19).1;rw[zae,hy] at h;exact h
    have HY:=Hd (show lnR rs (Inf.zaK.getD m1 0)=y by rw[hq];exact hy);have HM1:=Hd hm';clear hy hm' hq;by_cases hy0:y=0
    ·have t2:(y ==0)=true:=qbl.2 hy0;have HZ2:Hid (∀i,m1<=i->i<19->lnR rs (Inf.zaK.getD i 0)=0):=Hd (λ j h1 h2=>by
      rcases Nat.eq_or_lt_of_le h1 with e | e
      ·rw[<- e,HY.out];exact hy0
      exact HZ.out j (by have:=HM1.out;omega) h2)
     clear hy0;go_wp2_with fail;refine⟨⟨m1,rfl,by have:=HM1.out;omega,by omega,HZ2,HZK,HRK,HSK,HCK⟩,by have:=HM1.out;simp[intOf];omega⟩
    have t2:(y ==0)=false:=qak.2 hy0;clear hy0;go_wp2_with fail;go_meet
    exact⟨m,rfl,hm1,hm2,HZ,HZK,HRK,HSK,HCK⟩
   have t0:=dF (p:=(4:Int)<(m:Int));go_wp2_with fail;go_meet
   exact⟨m,rfl,hm1,hm2,HZ,HZK,HRK,HSK,HCK⟩
 case rest=>
 clear HZK HRK HSK HCK;obtain⟨few,rfl,hfew1,hfew2,HZfew,HZK,HRK,HSK,HCK⟩:=hcut
 
 rename World=>wP;have HDW:=Hd (⟨HZK.out,HRK.out,HSK.out,HCK.out,HGR.out,HSB.out,HKB.out⟩:DW w wP B D Wb la da cb eb gr sb kb (lnS ts) (lnD ts) (lnR rs) rs);have H0:=Hd (WS.start HZK.out.a.wb);have HOKD:=Hd (⟨⟨hmany1,hmany2⟩,⟨hfar1,hfar2⟩,⟨hfew1,hfew2⟩,HZmany.out,HZfar.out,HZfew.out,HSY.out⟩:Dfl.DynOk ts many far few rs);clear HZK HRK HSK HCK HSB HKB HGR HZmany HZfar HZfew;obtain⟨m1,hm1⟩:=nmE (many-257);obtain⟨f1,hf1⟩:=nmE (far-1);obtain⟨e1,he1⟩:=nmE (few-4);have em:(many:Int)-257=(m1:Int):=by omega
 have ef:(far:Int)-1=(f1:Int):=by omega
 have ee:(few:Int)-4=(e1:Int):=by omega
 have wm1:∀z,z=(m1:Int)->IntKind.i64.wrap z=z:=by intro z hz;rw[qal];omega
 have wf1:∀z,z=(f1:Int)->IntKind.i64.wrap z=z:=by intro z hz;rw[qal];omega
 have we1:∀z,z=(e1:Int)->IntKind.i64.wrap z=z:=by intro z hz;rw[qal];omega
 have vm1:∀z,z=(m1:Int)->IntKind.u32.wrap z=z:=by intro z hz;rw[qcs];omega
 have vf1:∀z,z=(f1:Int)->IntKind.u32.wrap z=z:=by intro z hz;rw[qcs];omega
 have ve1:∀z,z=(e1:Int)->IntKind.u32.wrap z=z:=by intro z hz;rw[qcs];omega
 have bm1:m1<2^5:=by omega
 have bf1:f1<2^5:=by omega
 have be1:e1<2^4:=by omega
 have HMF:=Hd (show many-257=m1/\far-1=f1/\few-4=e1 from⟨hm1,hf1,he1⟩);have hfi1:(few:Int)<=19:=by omega
 have hfi2:(0:Int)<=(few:Int):=by omega
 clear hm1 hf1 he1;have k0:=(HDW.out.df H0.out.keeps).c0;go_wp2_with fail;refine (zbu Wb 5 3 _ [] wP H0.out.wb (by decide) (by decide) (by decide)).mono ?_;rintro e z1 ⟨rfl,u1,hw,hs⟩;have H1:Hid (WS wP z1 Wb u1 (Bts.low 5 3)):=Hd (H0.out.step hw hs);clear hw hs k0 H0;have k0:=(HDW.out.df H1.out.keeps).c0;go_wp2_with fail;refine (zbu Wb m1 5 _ _ z1 H1.out.wb (by decide) bm1 (by rw[Bts.zat];decide)).mono ?_;rintro e z2 ⟨rfl,u2,hw,hs⟩;have H2:=Hd (H1.out.step hw hs);clear hw hs k0 H1;have k0:=(HDW.out.df H2.out.keeps).c0;go_wp2_with fail;refine (zbu Wb f1 5 _ _ z2 H2.out.wb (by decide) bf1 (by simp only[qaa,Bts.zat];decide)).mono ?_;rintro e z3 ⟨rfl,u3,hw,hs⟩;have H3:=Hd (H2.out.step hw hs);clear hw hs k0 H2;have k0:=(HDW.out.df H3.out.keeps).c0;go_wp2_with fail;refine (zbu Wb e1 4 _ _ z3 H3.out.wb (by decide) be1 (by simp only[qaa,Bts.zat];decide)).mono ?_;rintro e z4 ⟨rfl,u4,hw,hs⟩;obtain⟨L4,hL4⟩:=nmE (((Bts.low 5 3++Bts.low m1 5)++Bts.low f1 5)++Bts.low e1 4);have H4:=Hd (H3.out.step hw hs);rw[hL4] at H4;have HL4:=Hd hL4;have hL4l:L4.length=17:=by rw[<- hL4];simp only[qaa,Bts.zat]
 clear hw hs k0 H3 em ef ee wm1 wf1 we1 vm1 vf1 ve1 bm1 bf1 be1 hL4;go_upto_block 8 with fail;have H4':Hid (∃u,WS wP z4 Wb u (L4++Dfl.zbk (lnR rs) 0)):=Hd ⟨u4,by simpa [Dfl.zbk] using H4.out⟩;clear H4;go_cut [] (λ wx=>Hid (∃u,WS wP wx Wb u (L4++Dfl.zbk (lnR rs) few)))
 case first=>
  go_wp2_with fail;go_loopw [184] (λ c wr=>∃i:Nat,c=.int .i64 (i:Int)/\i<=few/\Hid (∃u,WS wP wr Wb u (L4++Dfl.zbk (lnR rs) i))) (λ c _=>few-(intOf c).toNat)
  case atStart=>exact⟨0,rfl,by omega,H4'⟩
  case round=>
   clear H4';obtain⟨i,rfl,hi,HW⟩:=hrel;by_cases hlt:i<few
   ·have t0:=dT (p:=(i:Int)<(few:Int));obtain⟨u,hu⟩:=HW.out;have HU:=Hd hu;clear hu HW;have hi19:i<19:=by omega
    have wi:IntKind.i64.wrap ((i:Int)+1)=((i+1:Nat):Int):=by rw[qal];omega
    obtain⟨q,hq⟩:=nmE (Inf.zaK.getD i 0);have hq19:q<19:=by rw[<- hq];exact (by decide:∀i,i<19->Inf.zaK.getD i 0<19) i hi19
    have hqi:(q:Int)<19:=by omega
    have hqj:(0:Int)<=(q:Int):=by omega
    have ko:wr.cell? ⟨10,i,none⟩=some (.int .i64 (q:Int)):=by
     have h:=(HTb.out.ext (HDW.out.old HU.out.keeps)).order i hi19;rw[hq] at h;exact h
    have hg:=HG16.out q hq19;obtain⟨y,hy⟩:∃y:Nat,lnR rs q=(y:Int):=⟨(lnR rs q).toNat,by omega⟩;have hy8:y<2^3:=by omega
    have HB:=Hd (show Dfl.zbk (lnR rs) (i+1)=Dfl.zbk (lnR rs) i++Bts.low y 3 by
     unfold Dfl.zbk;rw[qbC,qbs,List.flatten_append];congr 1
     show [Bts.low (lnR rs (Inf.zaK.getD i 0)).toNat 3].flatten=_;rw[hq,hy,qbm];simp)
    have wy:∀z,z=(y:Int)->IntKind.u32.wrap z=z:=by intro z hz;rw[qcs];omega
    have HY:=Hd hy;clear hq hg hy;go_upto_region 31 with fail;have k0:=(HDW.out.df HU.out.keeps).c0;have kc:wr.cell? ⟨sb,q,none⟩=some (.int .i64 (y:Int)):=by
     have h:=((HDW.out.lens HU.out.keeps).2 _ rfl q hq19).1;rw[zae,HY.out] at h;exact h
    refine qaD 9 (by kernel_rfl) (by kernel_rfl) ?_;simp only[qao,qaH,qaw,qaS];repeat still_step
    refine qbB ?_;change wpList _ _ _ _ _ wr.drew;go_wp2_with fail;refine (zbu Wb y 3 u _ wr.drew HU.out.wb.drew (by decide) hy8 (by rw[qaa,Dfl.zdM];omega)).mono ?_;rintro e z5 ⟨rfl,u5,hw,hs⟩;have H5:Hid (∃u,WS wP z5 Wb u (L4++Dfl.zbk (lnR rs) (i+1))):=Hd ⟨u5,by rw[HB.out,<- qat];exact HU.out.undrew hw hs⟩;clear hw hs HU k0 kc ko;go_wp2_with fail;refine⟨⟨i+1,by simp,by omega,H5⟩,by simp[intOf];omega⟩
   have t0:=dF (p:=(i:Int)<(few:Int));obtain rfl:i=few:=by omega
   go_wp2_with fail;go_meet
   exact HW
 case rest=>
 clear H4';rename World=>zB;obtain⟨u9,hu9⟩:=hcut.out;have H9:=Hd hu9;clear hcut hu9;obtain⟨L9,hL9⟩:=nmE (L4++Dfl.zbk (lnR rs) few);rw[hL9] at H9;have hL9l:L9.length<=74:=by rw[<- hL9,qaa,Dfl.zdM];omega
 have HL9:=Hd hL9;have HRB:=Hd (show ∀l:List Dfl.Rn,(∀r∈l,r.s<19/\r.b<=7)->(Dfl.runsB (lnR rs) l).length<=14*l.length from λ l H=>Dfl.zhA (h:=lnR rs) (λ j hj=>by have h:=(HG16.out j hj).2.1;exact h) H);clear hL9;go_upto_block 10 with fail;have H9':Hid (∃u,WS wP zB Wb u (L9++Dfl.runsB (lnR rs) (rs.take 0))):=Hd ⟨u9,by simpa [Dfl.runsB] using H9.out⟩;clear H9;go_cut [] (λ wx=>Hid (∃u,WS wP wx Wb u (L9++Dfl.runsB (lnR rs) rs)))
 case first=>
  go_wp2_with fail;go_loopw [201] (λ c wr=>∃i:Nat,c=.int .i64 (i:Int)/\i<=N/\Hid (∃u,WS wP wr Wb u (L9++Dfl.runsB (lnR rs) (rs.take i)))) (λ c _=>N-(intOf c).toNat)
  case atStart=>exact⟨0,rfl,by omega,H9'⟩
  case round=>
   clear H9';obtain⟨i,rfl,hi,HW⟩:=hrel;by_cases hlt:i<N
   ·have n0:i<rs.length:=by rw[HN.out];exact hlt
    have t0:=dT (p:=(i:Int)<(rs.length:Int));obtain⟨u,hu⟩:=HW.out;have HU:=Hd hu;clear hu HW;obtain⟨r,hr⟩:∃r,rs[i]? =some r:=⟨_,qai (show i<rs.length by rw[HN.out];exact hlt)⟩;obtain⟨k0,k1,k2⟩:=(HDW.out.runs HU.out.keeps) i r hr;obtain⟨hs,hmb,hb7⟩:=HSY.out.bd r (qa5 hr);have HTk:=Hd (show Dfl.runsB (lnR rs) (rs.take (i+1))=Dfl.runsB (lnR rs) (rs.take i)++(Dfl.wordB (lnR rs) 19 r.s++Bts.low r.m r.b) by
     rw[qbS,hr];simp[Dfl.runsB,Dfl.runB])
    have hpos:0<lnR rs r.s:=(HG16.out r.s hs).2.2.2 (List.countP_pos_iff.2 ⟨r,qa5 hr,by simp⟩);obtain⟨s,hs'⟩:∃s,r.s=s:=⟨_,rfl⟩;obtain⟨m,hm'⟩:∃m,r.m=m:=⟨_,rfl⟩;obtain⟨b,hb'⟩:∃b,r.b=b:=⟨_,rfl⟩;rw[hs'] at k0 hs hpos HTk;rw[hm'] at k1 hmb HTk;rw[hb'] at k2 hmb hb7 HTk;have hsg:=HG16.out s hs;obtain⟨y,hy⟩:∃y:Nat,lnR rs s=(y:Int):=⟨(lnR rs s).toNat,by omega⟩;have hy7:y<=7:=by have:=hsg.2.1;omega
    obtain⟨z,hz⟩:=nmE (word (lnR rs) 19 s);have hzy:z<2^y:=by rw[<- hz];exact zee HGR7.out.2.2 hs hy (by omega)
    have HWB:=Hd (show Dfl.wordB (lnR rs) 19 s=Bts.high z y by unfold Dfl.wordB;rw[hy,hz];rfl);have HZY:=Hd (show lnR rs s=(y:Int)/\word (lnR rs) 19 s=z from⟨hy,hz⟩);have hblen:m<128:=qaA hmb (qaq (by decide) hb7:2^b<=2^7);have HLb:=Hd (show (L9++Dfl.runsB (lnR rs) (rs.take i)).length<=10000 by
     have h:=HRB.out (rs.take i) (λ r hr=>by have h:=HSY.out.bd r (List.mem_of_mem_take hr);exact⟨h.1,h.2.2⟩);rw[qax] at h;rw[qaa];omega)
    have wi:IntKind.i64.wrap ((i:Int)+1)=((i+1:Nat):Int):=by rw[qal];omega
    have wmm:∀q,q=(m:Int)->IntKind.u32.wrap q=q:=by intro q hq;rw[qcs];omega
    have hsi:(s:Int)<19:=by omega
    have hsj:(0:Int)<=(s:Int):=by omega
    clear hr hs' hm' hb' hpos hsg hy hz;go_upto_region 36 with fail;refine zac (λ wz=>WX wP wz Wb wr.heap.size u (L9++Dfl.runsB (lnR rs) (rs.take i)) #[.int .i64 (s:Int),.int .i64 (m:Int),.int .i64 (b:Int)]) (WX.new HU.out _ _) ?_;rintro w3 hX;obtain⟨T,hT⟩:=nmE (wr.heap.size);rw[hT] at hX;rw[hT];have H3:=Hd hX;clear hX HU k0 k1 k2 hT;have b0:=H3.out.bk.cell 0;simp only[xg,xh,xi] at b0;have k0:=(HDW.out.df H3.out.ws.keeps).c0;have kc:w3.cell? ⟨sb,s,none⟩=some (.int .i64 (y:Int)):=by
     have h:=((HDW.out.lens H3.out.ws.keeps).2 _ rfl s hs).1;rw[zae,HZY.out.1] at h;exact h
    have kw:w3.cell? ⟨kb,s,none⟩=some (.int .u32 (z:Int)):=by
     have h:w3.cell? ⟨kb,s,none⟩=some (.int .u32 (word (lnR rs) 19 s:Int)):=((HDW.out.words H3.out.ws.keeps) s hs).1;rw[HZY.out.2] at h;exact h
    refine qaD 14 (by kernel_rfl) (by kernel_rfl) ?_;simp only[qao,qaH,qaw,qaS];repeat still_step
    refine qbB ?_;change wpList _ _ _ _ _ w3.drew;go_wp2_with fail;refine (zde Wb z y u _ w3.drew H3.out.ws.wb.drew (by omega) hzy (by have:=HLb.out;omega)).mono ?_;rintro e w4 ⟨rfl,u4,hw,hst⟩;have H4:=Hd (H3.out.drew.step hw hst);clear hw hst H3 k0 kc kw b0;go_wp2_with fail;have b1:=H4.out.bk.cell 1;have b2:=H4.out.bk.cell 2;simp only[xg,xh,xi] at b1 b2;have k0:=(HDW.out.df H4.out.ws.keeps).c0;refine qaD 9 (by kernel_rfl) (by kernel_rfl) ?_;simp only[qao,qaH,qaw,qaS];repeat still_step
    refine qbB ?_;change wpList _ _ _ _ _ w4.drew;go_wp2_with fail;refine (zbu Wb m b u4 _ w4.drew H4.out.ws.wb.drew (by omega) hmb (by have:=HLb.out;rw[qaa,Bts.zaD];omega)).mono ?_;rintro e w5 ⟨rfl,u5,hw,hst⟩;have H5:Hid (∃u,WS wP w5 Wb u (L9++Dfl.runsB (lnR rs) (rs.take (i+1)))):=Hd ⟨u5,by
     have h:=(H4.out.drew.step hw hst).ws;rw[HTk.out,HWB.out];simp only[qat] at h⊢;exact h⟩
    clear hw hst H4 k0 b1 b2;go_wp2_with fail;refine⟨⟨i+1,by simp,by omega,H5⟩,by simp[intOf];omega⟩
   have n0:¬ i<rs.length:=by rw[HN.out];exact hlt
   have t0:=dF (p:=(i:Int)<(rs.length:Int));have H5:Hid (∃u,WS wP wr Wb u (L9++Dfl.runsB (lnR rs) rs)):=Hd (by
    have q:=HW.out;rw[qan (by rw[HN.out];omega)] at q;exact q)
   go_wp2_with fail;go_meet
   exact H5
 case rest=>
 clear H9';rename World=>zR;obtain⟨u7,hu7⟩:=hcut.out;have H7:=Hd hu7;clear hcut hu7;obtain⟨L7,hL7⟩:=nmE (L9++Dfl.runsB (lnR rs) rs);rw[hL7] at H7;have hL7l:L7.length<=10000:=by
  have h:=HRB.out rs (λ r hr=>by have h:=HSY.out.bd r hr;exact⟨h.1,h.2.2⟩);have:=HN.out;rw[<- hL7,qaa];omega
 have HL7:=Hd hL7;clear hL7;have HBs:Hid (∀w6,Keeps (λ k=>k=Wb\/u7.ownBlock=some k) zR w6->Base w6 D Wb ⟨la,0,none⟩ ⟨da,0,none⟩ ⟨cb,0,none⟩ ⟨eb,0,none⟩ 286 286 30 30 286 30 (lnS ts) (lnD ts) x n tk):=Hd (λ w6 h6=>by
  have h7:=H7.out.more h6;exact⟨HDW.out.df h7,HT.out.ext (HDW.out.old h7),HTb.out.ext (HDW.out.old h7)⟩)
 go_wp2_with fail;refine (zd0 D Wb ⟨la,0,none⟩ ⟨da,0,none⟩ ⟨cb,0,none⟩ ⟨eb,0,none⟩ 286 286 30 30 286 30 (lnS ts) (lnD ts) x n cap tk u7 L7 zR HBs.out H7.out.wb HGS.out.2.2 HGD.out.2.2 (by decide) (by decide) (by decide) (by decide) (λ k hk=>by have h:=HGS.out.1 k hk;exact⟨h.1,h.2.1⟩) (λ k hk=>by have h:=HGD.out.1 k hk;exact⟨h.1,h.2.1⟩) hn (by omega) HOK.out).mono ?_;rintro e w6 ⟨rfl,u8,hW6,hS6⟩;have H8:=Hd (H7.out.step hW6 hS6);clear hW6 hS6 H7 HBs;have k0:=(HDW.out.df H8.out.keeps).c0;go_wp2_with fail;refine (zdP Wb 0 _ _ u8 w6 H8.out.wb).mono ?_;rintro e w7 ⟨⟨l,hl1,hl2,rfl⟩,rfl⟩;have HQ:=Hd (qaB hl1 hl2);clear hl1 hl2;go_wp2_with fail;go_ret;refine⟨⟨many,far,few,rs,l,by rw[HTS.out];exact HOKD.out,?_,?_,by first | rfl | trivial⟩,HDW.out.old H8.out.keeps⟩
 ·have e:Dfl.dynB ts many far few rs=L7++(Dfl.toksB (lnS ts) 286 (lnD ts) 30 ((List.range n).map tk)++Dfl.wordB (lnS ts) 286 256):=by
   rw[HTS.out,<- HL7.out,<- HL9.out,<- HL4.out];unfold Dfl.dynB Dfl.headB;rw[HMF.out.1,HMF.out.2.1,HMF.out.2.2];simp only[qat]
  rw[HTS.out,e];exact HQ.out.1
 have e:Dfl.dynB ts many far few rs=L7++(Dfl.toksB (lnS ts) 286 (lnD ts) 30 ((List.range n).map tk)++Dfl.wordB (lnS ts) 286 256):=by
  rw[HTS.out,<- HL7.out,<- HL9.out,<- HL4.out];unfold Dfl.dynB Dfl.headB;rw[HMF.out.1,HMF.out.2.1,HMF.out.2.2];simp only[qat]
 rw[HTS.out,e];exact HQ.out.2
def tk0:Tk:=⟨0,0,0⟩
def ts0:List Tk:=[tk0,tk0]
theorem zoB {l l':List Nat} {rs:List Dfl.Rn} (h:Dfl.Says l rs l'):(∀k∈l,k∈l')/\∀r∈rs,r.s<=15->r.s∈l':=by
 induction h with
 | nil l=>exact⟨λ _ q=>q,λ r hr=>by cases hr⟩
 | cons h _ ih=>
  obtain⟨i1,i2⟩:=ih;refine⟨λ k hk=>i1 k ?_,λ r hr h15=>?_⟩
  ·rcases h with⟨_,_,_,rfl⟩ | ⟨_,_,_,_,rfl⟩ | ⟨_,_,_,rfl⟩ | ⟨_,_,_,rfl⟩ <;> exact qcl _ hk
  rcases qbd.1 hr with rfl | q
  ·rcases h with⟨_,_,_,rfl⟩ | ⟨e,_⟩ | ⟨e,_⟩ | ⟨e,_⟩
   ·exact i1 _ (by simp)
   ·omega
   ·omega
   omega
  exact i2 r q h15
theorem zrm:(Pkg.used (cntN λ k=>((Dfl.cntS ts0 k:Nat):Int)) 286).length=2:=by kernel_rfl
theorem zrf:(Pkg.used (cntN λ k=>((Dfl.cntD ts0 k:Nat):Int)) 30).length=0:=by kernel_rfl
theorem zrc:(List.range 286).all (λ j=>decide ((lnS ts0 j).toNat<=1))=true:=by kernel_rfl
theorem zre:(List.range 30).all (λ j=>decide ((lnD ts0 j).toNat<=1))=true:=by kernel_rfl
theorem zrl {many far:Nat} {rs:List Dfl.Rn} (hm:many<=286) (hf:far<=30) (h:Dfl.Says [] rs (rowL (lnS ts0) (lnD ts0) many far)):(Pkg.used (cntN λ k=>((cntR rs k:Nat):Int)) 19).length<=9:=by
 have hl:=(zoB h).2;have hb:=h.bd;unfold Pkg.used;rw[<- List.countP_eq_length_filter];refine qam (List.countP_mono_left (q:=λ i=>decide (i<=1\/15<i)) (λ k _ hk=>?_)) (show (List.range 19).countP (λ i=>decide (i<=1\/15<i))<=9 by decide);have hk:0<cntR rs k:=by
  have:0<((cntR rs k:Nat):Int).toNat:=qaU hk;omega
 obtain⟨r,hr,he⟩:=List.countP_pos_iff.1 hk;have he:r.s=k:=qaU he;refine qae ?_;rcases qa8 15 k with q | q
 ·exact .inr q
 refine .inl ?_;have hin:=hl r hr (by omega);rw[he] at hin
 unfold rowL Dfl.rowN at hin
 rcases qa3.1 hin with hin | hin
 ·obtain⟨j,hj,e⟩:=qcC.1 hin
  have:=qaU (List.all_eq_true.1 zrc j (by rw[List.mem_range] at hj⊢;omega));omega
 obtain⟨j,hj,e⟩:=qcC.1 hin
 have:=qaU (List.all_eq_true.1 zre j (by rw[List.mem_range] at hj⊢;omega));omega
theorem few0:Few ts0:=⟨by rw[zrm];decide,by rw[zrf];decide,λ _ _ _ h1 h2 h=>zrl h1 h2 h⟩
theorem zqg:(Dfl.zcw ts0).length=26:=by kernel_rfl
theorem zpk {many far few:Nat} {rs:List Dfl.Rn} (hw:4<=few):25<=(Dfl.dynB ts0 many far few rs).length:=by
 unfold Dfl.dynB Dfl.headB;simp only[qaa,Bts.zat,Dfl.zdM];omega
theorem zqQ:Dfl.Means [] ts0 [0,0]:=.lit rfl rfl (.lit rfl rfl (.nil _))
end Go.Proofs.YthlibiocadimhaaGreatDoor
