/-
  A writer of a block: its tokens.
  A writer of a block: what it rests on.
-/
import Derived.Test.YthlibiocadimhaaGreatDoorPngReadsG8
set_option linter.all false
set_option maxRecDepth 100000
namespace Go.Proofs.YthlibiocadimhaaGreatDoor
open Go.RowKit
structure Base (w:World) (D Wb:Nat) (la da ca ea:Addr) (ln lc dn dc cc ec:Nat) (f g:Nat->Int) (x:Option Addr) (n:Nat) (tk:Nat->Tk):Prop where
 df:DF w D Wb la da ca ea ln lc dn dc cc ec f g
 toks:Toks w x n tk
 tabs:Tabs w
theorem WStep.redrew {w w':World} {B o:Nat} {v v':Value} (h:WStep w w' B o v v'):WStep w w'.drew B o v v':=⟨⟨h.keeps.os,h.keeps.tape,h.keeps.output,h.keeps.size,h.keeps.block⟩,h.cells,h.marks,h.new⟩
theorem zcp {f:Nat->Int} {ln k:Nat} (hf:∀k,k<ln->0<=f k/\f k<=15) (hk:k<ln):(Dfl.wordB f ln k).length<=15:=by
 unfold Dfl.wordB;rw[Bts.zaD];have:=hf k hk;omega
structure TSt (w1 w:World) (Wb T:Nat) (u1 u:Value) (L:List Bool) (t:Tk):Prop where
 wb:WB w Wb u L
 st:WStep w1 w Wb 0 u1 u
 bk:Bk w T #[.int .u8 (t.b.toNat:Int),.int .i64 t.l,.int .i64 t.d]
 o1:u.ownBlock≠some T
 o2:T≠Wb
theorem TSt.new {w1 w:World} {Wb:Nat} {u1 u:Value} {L:List Bool} {t:Tk} (hW:WB w Wb u L) (hS:WStep w1 w Wb 0 u1 u) (ty:TypeId):TSt w1 (w.alloc (.cells #[.int .u8 (t.b.toNat:Int),.int .i64 t.l,.int .i64 t.d] ty)) Wb w.heap.size u1 u L t:=by
 have hb:=qab w _ hW.c0;refine⟨hW.ext ((Ext.refl w).alloc _),hS.ext ((Ext.refl w).alloc _) hb,Bk.at rfl,?_,λ e=>by have:Wb<w.heap.size:=hb;omega⟩;intro e;obtain⟨l,_,_,h3⟩:=hW.row;exact Nat.lt_irrefl _ (zaA h3 e)
theorem TSt.drew {w1 w:World} {Wb T:Nat} {u1 u:Value} {L:List Bool} {t:Tk} (h:TSt w1 w Wb T u1 u L t):TSt w1 w.drew Wb T u1 u L t:=⟨h.wb.drew,h.st.redrew,h.bk.drew,h.o1,h.o2⟩
theorem TSt.step {w1 w w':World} {Wb T:Nat} {u1 u u':Value} {L L':List Bool} {t:Tk} (h:TSt w1 w Wb T u1 u L t) (hS:WStep w w' Wb 0 u u') (hW:WB w' Wb u' L'):TSt w1 w' Wb T u1 u' L' t:=by
 refine⟨hW,h.st.trans hS,h.bk.keeps hS.keeps (by rintro (e | e);exact h.o2 e;exact h.o1 e),λ e=>?_,h.o2⟩;rcases hS.new T e with q | q
 ·exact h.o1 q
 have:=h.bk.lt;omega
set_option maxHeartbeats 8000000 in
theorem zd0 (D Wb:Nat) (la da ca ea:Addr) (ln lc dn dc cc ec:Nat) (f g:Nat->Int) (x:Option Addr) (n cap:Nat) (tk:Nat->Tk) (u1:Value) (L0:List Bool) (w1:World)
  (hB:∀w,Keeps (λ k=>k=Wb\/u1.ownBlock=some k) w1 w->Base w D Wb la da ca ea ln lc dn dc cc ec f g x n tk) (hW:WB w1 Wb u1 L0) (hcf:zan f ln) (hcg:zan g dn) (hl1:286<=ln) (hl2:ln<=300) (hd1:30<=dn) (hd2:dn<=300)
  (hf:∀k,k<ln->0<=f k/\f k<=15) (hg:∀k,k<dn->0<=g k/\g k<=15) (hn:n<=310000) (hL:L0.length<=1000000)
  (hok:∀i,i<n->(tk i).l=0\/(3<=(tk i).l/\(tk i).l<=258/\1<=(tk i).d/\(tk i).d<=32768)):
  Calls Tryz.prog 126 #[.pointer (some ⟨D,0,none⟩),.slice x n cap] w1 λ e w'=>e=.returned (.tuple #[])/\∃u',WB w' Wb u' (L0++(Dfl.toksB f ln g dn ((List.range n).map tk)++Dfl.wordB f ln 256))/\WStep w1 w' Wb 0 u1 u':=by
 have HB:=Hd hB;have HW:=Hd hW;have HF:=Hd hf;have HG:=Hd hg;have HOK:=Hd hok;have HC:=Hd (qaB hcf hcg);clear hB hW hf hg hok hcf hcg;go_enter Tryz.func126,Tryz.ntmps126
 go_wp2_with fail;go_loopw [10] (λ c wr=>∃i:Nat,c=.int .i64 i/\i<=n/\Hid (∃u B,B=Dfl.toksB f ln g dn ((List.range i).map tk)/\WB wr Wb u (L0++B)/\WStep w1 wr Wb 0 u1 u/\B.length<=100*i)) (λ c _=>n-(intOf c).toNat)
 case atStart=>exact⟨0,rfl,by omega,Hd ⟨u1,[],rfl,by simpa using HW.out,WStep.refl _ _ _ _,by simp⟩⟩
 case round=>
  obtain⟨i,rfl,hi,HS⟩:=hrel;by_cases hlt:i<n
  ·have t0:=dT (p:=(i:Int)<(n:Int));obtain⟨u,B,hBB,hw,hst,hbl⟩:=HS.out;have hbase:=HB.out wr hst.keeps;obtain⟨a,rfl⟩:=hbase.toks.isSome hlt;obtain⟨k0,k1,k2,hok2⟩:=hbase.toks.2 a rfl i hlt;obtain⟨t,ht⟩:=nmE (tk i);rw[ht] at k0 k1 k2 hok2;have HT:=Hd (TSt.new (t:=t) hw hst 165);have HBN:=Hd (show Dfl.toksB f ln g dn ((List.range (i+1)).map tk)=B++Dfl.tokB f ln g dn t by
    rw[qbC,qbs,hBB];simp[Dfl.toksB,ht])
   have HTK:=Hd ht;have HBL:=Hd hbl;clear hBB hbl hst hw HS;have wi:∀z,z=((i+1:Nat):Int)->IntKind.i64.wrap z=z:=by intro z hz;rw[qal];omega
   have wb:∀z,z=((t.b.toNat:Nat):Int)->IntKind.i64.wrap z=z:=by intro z hz;rw[qal];have:=t.b.toNat_lt;omega
   by_cases hl0:t.l=0
   ·have t1:(t.l ==0)=true:=qbl.2 hl0;have HL0:=Hd hl0;clear hl0;go_wp2_with fail;have hb256:=t.b.toNat_lt;refine (zdU D Wb la da ca ea ln lc dn dc cc ec f g t.b.toNat u (L0++B) _ (HB.out _ HT.out.st.keeps).df HT.out.wb HC.out.1 (by omega) (HF.out _ (by omega)) (by have:=HBL.out;rw[qaa];omega)).mono ?_;rintro e w3 ⟨rfl,u3,hw,hst⟩;have H3:=Hd (HT.out.step hst hw);clear hw hst HT;go_wp2_with fail;have hwl:=zcp HF.out (show t.b.toNat<ln by omega);refine⟨⟨i+1,by simp,by omega,Hd ⟨u3,B++Dfl.wordB f ln t.b.toNat,by rw[HBN.out];unfold Dfl.tokB;rw[qad HL0.out],by have:=H3.out.wb;rw[qat] at this;exact this,H3.out.st,by have:=HBL.out;rw[qaa];omega⟩⟩,by simp[intOf];omega⟩
   have hm:=HOK.out i hlt;rw[HTK.out] at hm;have hm2:3<=t.l/\t.l<=258/\1<=t.d/\t.d<=32768:=by rcases hm with q | q;exact absurd q hl0;exact q
   obtain⟨vl,hvl⟩:∃n:Nat,t.l=(n:Int):=⟨t.l.toNat,by omega⟩;obtain⟨vd,hvd⟩:∃n:Nat,t.d=(n:Int):=⟨t.d.toNat,by omega⟩;have t1:(t.l ==0)=false:=qak.2 hl0;obtain⟨p1,p2,p3⟩:=Dfl.zdS (v:=vl) (by omega) (by omega);obtain⟨d1,d2,d3⟩:=Dfl.zcX (v:=vd) (by omega) (by omega);have hv0Lens:3<=vl:=by omega
   have hv0Dists:1<=vd:=by omega
   have hvlb:vl<=258:=by omega
   have hvdb:vd<=32768:=by omega
   obtain⟨k,hk⟩:=nmE (Dfl.plc Inf.lensL vl);obtain⟨d,hd⟩:=nmE (Dfl.plc Inf.zak vd);rw[hk] at p1 p2 p3;rw[hd] at d1 d2 d3;have HK:=Hd hk;have HD:=Hd hd;have hk29:k<29:=p1;have hd30:d<30:=d1;have hk29i:(k:Int)<29:=by omega
   have hd30i:(d:Int)<30:=by omega
   have hk0i:(0:Int)<=(k:Int):=by omega
   have hd0i:(0:Int)<=(d:Int):=by omega
   have hddn:(d:Int)<(dn:Int):=by omega
   obtain⟨lk,hlk⟩:=nmE (Inf.lensL.getD k 0);obtain⟨bl,hbl⟩:=nmE (Inf.lensB.getD k 0);obtain⟨ld,hld⟩:=nmE (Inf.zak.getD d 0);obtain⟨bd,hbd⟩:=nmE (Inf.zaQ.getD d 0);have hbl5:bl<=5:=by rw[<- hbl];exact (by decide:∀k,k<29->Inf.lensB.getD k 0<=5) k hk29
   have hbd13:bd<=13:=by rw[<- hbd];exact (by decide:∀k,k<30->Inf.zaQ.getD k 0<=13) d hd30
   rw[hlk] at p2 p3;rw[hbl] at p3;rw[hld] at d2 d3;rw[hbd] at d3;obtain⟨xl,hxl⟩:=nmE (vl-lk);obtain⟨xd,hxd⟩:=nmE (vd-ld);rw[hxl] at p3;rw[hxd] at d3;have el:(vl:Int)-(lk:Int)=(xl:Int):=by omega
   have ed:(vd:Int)-(ld:Int)=(xd:Int):=by omega
   obtain⟨sk,hsk⟩:=nmE (257+k);have ek:(257:Int)+(k:Int)=(sk:Int):=by omega
   have HSK:=Hd hsk;have hsk2:sk<ln:=by omega
   have wl:∀z,z=(xl:Int)->IntKind.i64.wrap z=z:=by intro z hz;rw[qal];omega
   have wd:∀z,z=(xd:Int)->IntKind.i64.wrap z=z:=by intro z hz;rw[qal];omega
   have wl2:∀z,z=(xl:Int)->IntKind.u32.wrap z=z:=by intro z hz;rw[qcs];omega
   have wd2:∀z,z=(xd:Int)->IntKind.u32.wrap z=z:=by intro z hz;rw[qcs];omega
   have wk:∀z,z=(sk:Int)->IntKind.i64.wrap z=z:=by intro z hz;rw[qal];omega
   have HLK:=Hd hlk;have HBK:=Hd hbl;have HLD:=Hd hld;have HBD:=Hd hbd;have HXL:=Hd p3;have HXD:=Hd d3;have hgd:=HG.out d (by omega);obtain⟨md,hmd⟩:∃n:Nat,g d=(n:Int):=⟨(g d).toNat,by omega⟩;obtain⟨zd,hzd⟩:=nmE (word g dn d);have HWD:=Hd (show word g dn d=zd/\g d=(md:Int)/\md<=15/\zd<2^md/\Dfl.wordB g dn d=Bts.high zd md from⟨hzd,hmd,by omega,by rw[<- hzd];exact zee HC.out.2 (by omega) hmd (by omega),by unfold Dfl.wordB;rw[hmd,hzd];rfl⟩);have HTB:=Hd (show Dfl.tokB f ln g dn t=Dfl.wordB f ln sk++(Bts.low xl bl++(Bts.high zd md++Bts.low xd bd)) by
    unfold Dfl.tokB;rw[qac hl0,hvl,hvd,qbm,qbm,hk,hd,hlk,hbl,hld,hbd,hxl,hxd,hsk,HWD.out.2.2.2.2])
   have HLB:=Hd (show (L0++B).length+32<1099511627776/\(L0++B).length+1000<1099511627776/\True from by have:=HBL.out;rw[qaa];exact⟨by omega,by omega,trivial⟩);have HVV:=Hd (qaB hvl hvd);rw[hvl] at k1 t1;rw[hvd] at k2;obtain⟨T,hT⟩:=nmE (wr.heap.size);rw[hT,hvl,hvd] at HT;have HTT:=Hd hT;clear hsk p1 p2 p3 d1 d2 d3 hk hd hlk hbl hld hbd hxl hxd hgd hmd hzd hl0 hm hm2 hok2;go_upto_region 5 with fail;refine zac (λ wz=>TSt w1 wz Wb T u1 u ((L0++B)) t) HT.out ?_;rintro w3 hT3;have H3:=Hd hT3;clear hT3 HT;have k1:=H3.out.bk.cell 1;have k2:=H3.out.bk.cell 2;simp only[qaz,qaC,qay] at k1 k2;go_wp2_with fail;have hp:=zbR (zc6 ⟨11,0,none⟩ 29 29 vl Inf.lensL w3.drew rfl (by decide) (by decide) (λ k hk=>by rw[zae];exact (HB.out w3 H3.out.st.keeps).tabs.lens k hk) (qam (by decide:Inf.lensL.getD 0 0<=3) hv0Lens) (by omega));rw[HK.out] at hp;have HP:=Hd hp;clear hp;refine rgQ ?_;refine qY ?_;refine qY ?_;refine qY ?_;refine zau (by kernel_rfl) λ K hK=>?_;go_simp;refine⟨_,HP.out,hK _ ?_⟩;clear hK K;refine qY ?_;refine zaf ?_;clear k1 k2 HP;go_wp2_with fail;refine (zdU D Wb la da ca ea ln lc dn dc cc ec f g sk u ((L0++B)) w3.drew (HB.out w3 H3.out.st.keeps).df.drew H3.out.wb.drew HC.out.1 hsk2 (HF.out _ hsk2) HLB.out.1).mono ?_;rintro e w4 ⟨rfl,u104,hw,hst⟩;have H4:=Hd (H3.out.drew.step hst hw)
   clear hw hst H3;go_wp2_with fail;have k1:=H4.out.bk.cell 1;have k2:=H4.out.bk.cell 2;simp only[qaz,qaC,qay] at k1 k2;have k0:=(HB.out w4 H4.out.st.keeps).df.c0;have k3:=(HB.out w4 H4.out.st.keeps).tabs.lens k hk29;have k4:=(HB.out w4 H4.out.st.keeps).tabs.lenB k hk29;rw[HLK.out] at k3;rw[HBK.out] at k4;refine qaD 14 (by kernel_rfl) (by kernel_rfl) ?_;simp only[qao,qaH,qaw,qaS];repeat still_step
   refine qbB ?_;change wpList _ _ _ _ _ w4.drew;go_wp2_with fail;clear k0 k1 k2 k3 k4;refine (zbu Wb xl bl u104 ((L0++B)++Dfl.wordB f ln sk) w4.drew H4.out.wb.drew (by omega) HXL.out (by have:=HLB.out.2.1;simp only[qaa] at this⊢;have:=zcp HF.out hsk2;omega)).mono ?_;rintro e w5 ⟨rfl,u105,hw,hst⟩;have H5:=Hd (H4.out.drew.step hst hw);clear hw hst H4;go_wp2_with fail;refine zac (λ wz=>TSt w1 wz Wb T u1 u105 ((L0++B)++Dfl.wordB f ln sk++Bts.low xl bl) t) H5.out ?_;rintro w6 hT6;have H6:=Hd hT6;clear hT6 H5;have k1:=H6.out.bk.cell 1;have k2:=H6.out.bk.cell 2;simp only[qaz,qaC,qay] at k1 k2;have hp:=zbR (zc6 ⟨13,0,none⟩ 30 30 vd Inf.zak w6.drew rfl (by decide) (by decide) (λ k hk=>by rw[zae];exact (HB.out w6 H6.out.st.keeps).tabs.dists k hk) (qam (by decide:Inf.zak.getD 0 0<=1) hv0Dists) (by omega));rw[HD.out] at hp;have HP:=Hd hp;clear hp;refine rgQ ?_;refine qY ?_;refine qY ?_;refine qY ?_;refine zau (by kernel_rfl) λ K hK=>?_;go_simp;refine⟨_,HP.out,hK _ ?_⟩;clear hK K;refine qY ?_;refine zaf ?_;clear k1 k2 HP;go_wp2_with fail;have H6d:=Hd H6.out.drew;clear H6;refine zac (λ wz=>TSt w1 wz Wb T u1 u105 ((L0++B)++Dfl.wordB f ln sk++Bts.low xl bl) t) H6d.out ?_;rintro w7 hT7;have H7:=Hd hT7;clear hT7 H6d;have k0:=(HB.out w7 H7.out.st.keeps).df.c0
   have k5:=(HB.out w7 H7.out.st.keeps).df.c4;have k6:=(HB.out w7 H7.out.st.keeps).df.c2;have k7:=(HB.out w7 H7.out.st.keeps).df.dw.2 ea rfl d (by omega);have k8:=((HB.out w7 H7.out.st.keeps).df.di.2 da rfl d (by omega)).1;rw[HWD.out.1] at k7;rw[HWD.out.2.1] at k8;refine qaD 18 (by kernel_rfl) (by kernel_rfl) ?_;simp only[qao,qaH,qaw,qaS];repeat still_step
   refine qbB ?_;change wpList _ _ _ _ _ w7.drew;go_wp2_with fail;clear k0 k5 k6 k7 k8;refine (zde Wb zd md u105 ((L0++B)++Dfl.wordB f ln sk++Bts.low xl bl) w7.drew H7.out.wb.drew (by have:=HWD.out.2.2.1;omega) HWD.out.2.2.2.1 (by have:=HLB.out.2.1;simp only[qaa,Bts.zat] at this⊢;have:=zcp HF.out hsk2;omega)).mono ?_;rintro e w8 ⟨rfl,u108,hw,hst⟩;have H8:=Hd (H7.out.drew.step hst hw);clear hw hst H7;go_wp2_with fail;have k1:=H8.out.bk.cell 1;have k2:=H8.out.bk.cell 2;simp only[qaz,qaC,qay] at k1 k2;have k0:=(HB.out w8 H8.out.st.keeps).df.c0;have k3:=(HB.out w8 H8.out.st.keeps).tabs.dists d hd30;have k4:=(HB.out w8 H8.out.st.keeps).tabs.distB d hd30;rw[HLD.out] at k3;rw[HBD.out] at k4;refine qaD 14 (by kernel_rfl) (by kernel_rfl) ?_;simp only[qao,qaH,qaw,qaS];repeat still_step
   refine qbB ?_;change wpList _ _ _ _ _ w8.drew;go_wp2_with fail;clear k0 k1 k2 k3 k4;refine (zbu Wb xd bd u108 ((L0++B)++Dfl.wordB f ln sk++Bts.low xl bl++Bts.high zd md) w8.drew H8.out.wb.drew (by omega) HXD.out (by have:=HLB.out.2.1;simp only[qaa,Bts.zat,Bts.zaD] at this⊢;have:=zcp HF.out hsk2;have:=HWD.out.2.2.1;omega)).mono ?_;rintro e w9 ⟨rfl,u109,hw,hst⟩;have H9:=Hd (H8.out.drew.step hst hw);clear hw hst H8;go_wp2_with fail;have hwl:=zcp HF.out hsk2;refine⟨⟨i+1,by simp,by omega,Hd ⟨u109,B++(Dfl.wordB f ln sk++(Bts.low xl bl++(Bts.high zd md++Bts.low xd bd))),by rw[HBN.out,HTB.out],by have:=H9.out.wb;simp only[qat] at this⊢;exact this,H9.out.st,by have:=HBL.out;have:=HWD.out.2.2.1;simp only[qaa,Bts.zat,Bts.zaD];omega⟩⟩,by simp[intOf];omega⟩
  have t0:=dF (p:=(i:Int)<(n:Int));obtain rfl:i=n:=by omega
  obtain⟨u,B,hBB,hw,hst,hbl⟩:=HS.out;have HE:=Hd (zdU D Wb la da ca ea ln lc dn dc cc ec f g 256 u (L0++B) wr (HB.out wr hst.keeps).df hw HC.out.1 (by omega) (HF.out _ (by omega)) (by rw[qaa];omega));have HST:=Hd hst;have HBB:=Hd hBB;clear hBB hw hst hbl HS;go_wp2_with fail;refine HE.out.mono ?_;rintro e w9 ⟨rfl,u9,hw9,hs9⟩;go_wp2_with fail;go_end0;exact⟨rfl,u9,by rw[<- HBB.out,<- qat];exact hw9,HST.out.trans hs9⟩
def OwnR (w:World) (base:Nat) (e:TypeId) (v:Value) (n:Nat) (xs:List Value):Prop:=w.ownsRow base e 1 v n xs
theorem OwnR.ext {w w':World} {base:Nat} {e:TypeId} {v:Value} {n:Nat} {xs:List Value} (h:OwnR w base e v n xs) (hE:Ext w w'):OwnR w' base e v n xs:=zaa h hE.keeps (λ _ _=>id)
theorem OwnR.apart {w:World} {b1 b2:Nat} {e1 e2:TypeId} {v1 v2:Value} {n1 n2:Nat} {x1 x2:List Value} (h1:OwnR w b1 e1 v1 n1 x1) (h2:OwnR w b2 e2 v2 n2 x2) (he:e1≠e2):∀k,v1.ownBlock=some k->¬ v2.ownBlock=some k:=by
 intro k k1 k2;rcases h1.2 with⟨q1,_⟩ | ⟨g1,c1,r1,q1,_,hh1,_⟩
 ·rw[q1] at k1;cases k1
 rcases h2.2 with⟨q2,_⟩ | ⟨g2,c2,r2,q2,_,hh2,_⟩
 ·rw[q2] at k2;cases k2
 rw[q1] at k1;rw[q2] at k2;have a1:g1=k:=by simpa [Value.ownBlock] using k1
 have a2:g2=k:=by simpa [Value.ownBlock] using k2
 rw[a1] at hh1;rw[a2,hh1] at hh2;injection hh2 with hh2;injection hh2 with _ hh2;exact he hh2
theorem OwnR.grown {w w':World} {b1 b2:Nat} {e1 e2:TypeId} {v1 v2:Value} {n1 n2:Nat} {x1 x2:List Value} (h1:OwnR w b1 e1 v1 n1 x1) (h2:OwnR w b2 e2 v2 n2 x2) (he:e1≠e2) (hg:w.grownBy w' v2.ownBlock):OwnR w' b1 e1 v1 n1 x1:=
 zaa h1 (Keeps.grown hg) (λ k hk=>h1.apart h2 he k hk)
theorem Bk.grown {w w':World} {b base:Nat} {cs:Array Value} {e:TypeId} {v:Value} {n:Nat} {xs:List Value} (h:Bk w b cs) (h2:OwnR w base e v n xs) (hb:b<base\/∀k,v.ownBlock=some k->k<b) (hg:w.grownBy w' v.ownBlock):Bk w' b cs:=
 h.keeps (Keeps.grown hg) (λ hk=>by
  rcases hb with hb | hb
  ·have:=(qbv h2 b hk).1;omega
  have:=hb b hk;omega)
theorem zf2 {w:World} {base:Nat} {e:TypeId} {v:Value} {n:Nat} {xs:List Value} (h:OwnR w base e v n xs):∃x c,v=.slice x n c:=by
 rcases zah h with⟨q1,q2⟩ | ⟨g,c,q⟩
 ·exact⟨none,0,by rw[q1,q2]⟩
 exact⟨_,_,q⟩
theorem U32s.keeps {S:Nat->Prop} {w w':World} {a:Addr} {n:Nat} {g:Nat->Nat} (h:U32s w (some a) n g) (hk:Keeps S w w') (hS:¬ S a.block):U32s w' (some a) n g:=by
 refine⟨λ h=>(by cases h),λ b hb i hi=>?_⟩;have hc:=h.2 b hb i hi;injection hb with hb;subst hb;exact (hk.cell (qab w _ hc) (by unfold Addr.add;split <;> exact hS)).trans hc
theorem DF.keeps {S:Nat->Prop} {w w':World} {D Wb:Nat} {la da ca ea:Addr} {ln lc dn dc cc ec:Nat} {f g:Nat->Int} (h:DF w D Wb la da ca ea ln lc dn dc cc ec f g) (hk:Keeps S w w') (hD:¬ S D) (h1:¬ S la.block) (h2:¬ S da.block) (h3:¬ S ca.block) (h4:¬ S ea.block):
  DF w' D Wb la da ca ea ln lc dn dc cc ec f g:=by
 have hc:∀i v,w.cell? ⟨D,i,none⟩=some v->w'.cell? ⟨D,i,none⟩=some v:=λ i v q=>(hk.cell (qab w _ q) hD).trans q;exact⟨hc _ _ h.c0,hc _ _ h.c1,hc _ _ h.c2,hc _ _ h.c3,hc _ _ h.c4,h.li.on hk (λ a ha=>by injection ha with ha;subst ha;exact h1),h.di.on hk (λ a ha=>by injection ha with ha;subst ha;exact h2),h.lw.keeps hk h3,h.dw.keeps hk h4⟩
theorem zqK {w:World} {B n:Nat} {k:IntKind} {g:Nat->Int} (h:Cs w B n k g) (hn:0<n):B<w.heap.size:=qab w _ (h 0 hn).1
theorem ziu {w:World} {Wb:Nat} (h:Bk w Wb #[.slice none 0 0,.int .i64 0]):WB w Wb (.slice none 0 0) []:=
 ⟨h.cell 0,h.cell 1,h.frozen 0,h.frozen 1,⟨[],rfl,rfl,⟨rfl,.inl ⟨rfl,rfl⟩⟩⟩,by simp[Value.ownBlock],by decide⟩
end Go.Proofs.YthlibiocadimhaaGreatDoor
