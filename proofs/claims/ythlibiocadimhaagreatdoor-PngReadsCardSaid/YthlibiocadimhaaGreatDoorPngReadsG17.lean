/-
  huff.Lengths: a best code's lengths.
-/
import Derived.Test.YthlibiocadimhaaGreatDoorPngReadsG15
set_option linter.all false
set_option maxRecDepth 100000
namespace Go.Proofs.YthlibiocadimhaaGreatDoor
open Go.RowKit
theorem Pkg.coins_succ (cnt:Nat->Nat) (i:Nat):Pkg.coins cnt (i+1)=Pkg.coins cnt i++(if 0<cnt i then [Pkg.coin cnt i] else []):=by
 unfold Pkg.coins Pkg.used;rw[qbC,List.filter_append,qbs];congr 1
 by_cases h:0<cnt i <;> simp[h]
def zjR (f:Nat->Int) (len:Nat) (most:Nat):Prop:=len<=300/\1<=most/\most<=15/\∀j,j<len->0<=f j/\f j<=1048576
def zpi (f:Nat->Int) (len most:Nat) (w:World) (ES:Value) (e:Ending) (w':World):Prop:=Ext w w'/\((2^most<(Pkg.used (cntN f) len).length/\e=.returned (.tuple #[.slice none 0 0,ES]))\/((Pkg.used (cntN f) len).length<=2^most/\∃g,e=.returned (.tuple #[.slice (some ⟨g,0,none⟩) len len,.nilIface])/\Ints w' (some ⟨g,0,none⟩) len (lenF f len most)/\w.heap.size<=g))
set_option maxHeartbeats 16000000 in
theorem zcT (x:Option Addr) (len cap:Nat) (f:Nat->Int) (most:Nat) (w:World) (hx:Ints w x len f) (ES:Value) (hS:w.cell? ⟨0,0,none⟩=some ES) (h:zjR f len most) (hfew:(Pkg.used (cntN f) len).length<=9):
  Calls Tryz.prog 128 #[.slice x len cap,.int .i64 (most:Int)] w λ e w'=>zpi f len most w ES e w':=by
 obtain⟨i0,hi0,hz0,hz1,hz2⟩:=qbb zfx;obtain⟨hl,hm1,hm2,hf⟩:=h;have HFEW:=Hd hfew;clear hfew;have HX:=Hd hx;have HS:=Hd hS;have HF:=Hd hf;have HC:=Hd (zfi x len cap f w hx (by unfold maxLen;omega));have t1:=dF (p:=(300:Int)<(len:Int));have t2:=dF (p:=(most:Int)<1);have t3:=dF (p:=(15:Int)<(most:Int));obtain⟨B0,hB0⟩:=nmE (w.heap.size);have HB0:=Hd hB0;clear hx hS hf hB0;go_enter Tryz.func128,Tryz.ntmps128
 go_wp2_with fail;refine HC.out.mono ?_;rintro e w1 ⟨⟨b,rfl,hb⟩,rfl⟩;have hb2:b=false:=by
  rcases hb with⟨hb,_⟩ | ⟨_,hb⟩
  ·exact hb
  obtain⟨j,hj,q⟩:=hb;have:=HF.out j hj;omega
 subst hb2;clear hb HC;go_wp2_with fail;go_loopw [6,35] (λ v c wr=>∃i:Nat,i<=len/\c=.int .i64 i/\Hid (∃L:List Pk,wr.ownsRow B0 237 2 v L.length (pkL L)/\pcs L=Pkg.coins (cntN f) i/\L.length<=i/\∀p∈L,SyAt wr p)/\Hid (Ext w wr)) (λ _ c _=>len-(intOf c).toNat)
 case atStart=>exact⟨0,by omega,rfl,Hd ⟨[],qaK _ _ _ _,rfl,by simp,by simp⟩,Hd (Ext.refl _)⟩
 case round=>
  obtain⟨i,hi,rfl,HO,HE⟩:=hrel;by_cases hlt:i<len
  ·obtain⟨a,rfl⟩:∃a,x=some a:=by
    cases x with
    | none=>have:=HX.out.1 rfl;omega
    | some a=>exact⟨a,rfl⟩
   obtain⟨hc,h1,h2⟩:=(HX.out.ext HE.out).2 a rfl i hlt;obtain⟨c,hcf⟩:∃c:Nat,f i=(c:Int):=⟨(f i).toNat,by have:=HF.out i hlt;omega⟩;have HCF:=Hd (show cntN f i=c by unfold cntN;omega);have hcb:c<=1048576:=by have:=HF.out i hlt;omega
   rw[hcf] at hc;clear h1 h2 hcf;by_cases h0:c=0
   ·have t4:=dF (p:=(0:Int)<(c:Int));have HN:=Hd (show Pkg.coins (cntN f) (i+1)=Pkg.coins (cntN f) i by rw[Pkg.coins_succ,HCF.out,qac (by omega),qbW]);have h5:¬ 0<c:=by omega
    clear h0;go_wp2_with fail;go_roundw
    case rel=>
     obtain⟨L,q1,q2,q3,q4⟩:=HO.out;exact⟨i+1,by omega,by go_num,Hd ⟨L,q1,by rw[HN.out];exact q2,by omega,q4⟩,HE⟩
    case measure=>simp[intOf];omega
   have t4:=dT (p:=(0:Int)<(c:Int));have HN:=Hd (show Pkg.coins (cntN f) (i+1)=Pkg.coins (cntN f) i ++ [⟨c,[i]⟩] by rw[Pkg.coins_succ,HCF.out,qad (by omega)];show _ ++ [(⟨cntN f i,[i]⟩:Pkg.Pc)]=_;rw[HCF.out]);obtain⟨L,q1,q2,q3,q4⟩:=HO.out;have Q2:=Hd q2;have Q3:=Hd q3;obtain⟨N,hN⟩:=nmE (L.length);have HNN:=Hd hN;rw[hN] at q1 q3;clear hN;obtain⟨xo,co,rfl⟩:=zam q1;have HOA:Hid (((wr.alloc (.cells #[.int .i64 (i:Int)] 3)).alloc (.cells #[.int .i64 (c:Int),.slice (some ⟨wr.heap.size,0,none⟩) 1 1] 237)).ownsRow B0 237 2 (.slice xo N co) N (pkL L)):=Hd (zaa q1 (((Ext.refl wr).alloc _).alloc _).keeps (λ _ _=>id));have Q4:=Hd q4;have hsz:=HE.out.size;have h5:0<c:=by omega
   have hLi:=q3;clear q1 q2 q3 q4 h0;go_wp2_with (at_builtin;refine apA HOA.out [.int .i64 (c:Int),.slice (some ⟨wr.heap.size,0,none⟩) 1 1] ?_ (hnews:=?c2) (hbase:=?c5))
   case c2=>
    intro j u hj;have hb:Bk ((wr.alloc (.cells #[.int .i64 (i:Int)] 3)).alloc (.cells #[.int .i64 (c:Int),.slice (some ⟨wr.heap.size,0,none⟩) 1 1] 237)) (wr.heap.size+1) #[.int .i64 (c:Int),.slice (some ⟨wr.heap.size,0,none⟩) 1 1]:=Bk.at (by simp);rw[zae];exact (hb.cell j).trans (by simpa using hj)
   case c5=>have:=HB0.out;simp;omega
   intro v' w2 hown hgrow _ _;have HXG:=Hd ((show Ext wr ((wr.alloc (.cells #[.int .i64 (i:Int)] 3)).alloc (.cells #[.int .i64 (c:Int),.slice (some ⟨wr.heap.size,0,none⟩) 1 1] 237)) from ((Ext.refl wr).alloc _).alloc _));have HG:=Hd hgrow;have HOW:=Hd hown;clear hown hgrow;go_wp2_with fail;refine⟨⟨i+1,by omega,by simp,Hd ⟨L ++ [⟨c,some ⟨wr.heap.size,0,none⟩,1,1,[i]⟩],?_,?_,by simp[HNN.out];omega,?_⟩,?_⟩,by simp[intOf];omega⟩
   ·rw[qaa,HNN.out,zcI];exact HOW.out
   ·rw[zdE,Q2.out,HN.out];rfl
   ·intro p hp;rcases qa3.1 hp with q | q
    ·exact ((Q4.out p q).ext HXG.out).grown HOA.out HG.out
    rw[qaN.1 q];refine SyAt.grown ⟨Nat.zero_lt_one,wr.heap.size,_,rfl,rfl,((Below.heap_alloc _ _ _ (by simp)).trans (qbP wr _)),?_⟩ HOA.out HG.out;intro j hj;have:j=0:=by simp at hj;omega
    subst this;rfl
   exact Hd (Below.trans (HE.out.trans HXG.out) ((Keeps.grown HG.out).below (by have:=(HE.out.trans HXG.out).size;exact this) (λ q hq e=>by have:=(HOA.out.lt q e).1;have:=HB0.out;omega)))
  obtain rfl:len=i:=by omega
  obtain⟨L,q1,q2,q3,q4⟩:=HO.out;obtain⟨N,hN⟩:=nmE (L.length);have HN:=Hd hN;have HNU:=Hd (show (Pkg.used (cntN f) len).length=N by
   have:=congrArg List.length q2;rw[zbw,hN] at this;rw[this];simp[Pkg.coins])
  rw[hN] at q1 q3;obtain⟨xo,co,rfl⟩:=zam q1;have Q1:=Hd q1;have Q2:=Hd q2;have Q4:=Hd q4;have hbl:=qab w _ HS.out;have hS1:=(HE.out.cell (p:=⟨0,0,none⟩) hbl).trans HS.out;obtain⟨M,hM⟩:=nmE (2^most);have HM:=Hd hM;have hMb:M<=32768:=by rw[<- hM];exact qaq (by decide) hm2
  have e5:wrap64 ((2:Int)^most)=(M:Int):=by
   have:((2:Int)^most)=((2^most:Nat):Int):=by rw[Int.natCast_pow];rfl
   rw[this,hM];unfold wrap64;omega
  clear q1 q2 q4 hN HO hM hbl hi;by_cases hMN:M<N
  ·go_wp2_with fail;go_region;all_goals
    go_wp2_with fail;go_ret2;exact⟨qag HE.out,.inl ⟨by rw[HNU.out,HM.out];exact hMN,rfl⟩⟩
  have hmk:=qbR (P:=Tryz.prog) 88 3 (.int .i64 0) 8 Tryz.underlying88 zaX rfl .i64 .i64 len (by omega) (by omega);clear hS1;go_upto_region 13 with fail;clear hmk;rw[zaY];obtain⟨go,hgo⟩:=nmE (wr.heap.size);refine zac (λ wz=>Ext wr wz/\Cs wz go len .i64 (λ _=>0)/\wz.heap.size=go+1) ⟨(Ext.refl wr).alloc _,by rw[<- hgo];exact Cs.born wr .i64 len (λ _=>0) 3,by simp[hgo]⟩ ?_;rintro w2 ⟨hX,hC,hZ⟩;rw[hgo];have HX2:=Hd (HE.out.trans hX);have HCS:=Hd hC;have HGO:=Hd (qaB hgo hZ);have HLE:=Hd (show B0<=go by have:=HE.out.size;have:=HB0.out;omega);have Q1b:=Hd (zaa Q1.out hX.keeps (λ _ _=>id));have Q4b:Hid (∀p∈L,SyAt w2 p/\p.a≠some ⟨go,0,none⟩):=Hd (λ p hp=>⟨(Q4.out p hp).ext hX,λ e=>by
   obtain⟨_,g',cs,h1,_,h3,_⟩:=Q4.out p hp;rw[h1] at e;have:=qbK h3;injection e with e;injection e with e;omega⟩)
  have HGC:=Hd (show ∀k,(Value.slice xo N co).ownBlock=some k->B0<=k/\k<go from λ k hk=>⟨(Q1.out.lt k hk).1,by rw[<- hgo];exact (Q1.out.lt k hk).2⟩);clear hX hC hZ hgo Q1 Q4;by_cases h0:N=0
  ·have t6:((N:Int) ==1)=false:=qak.2 (by omega);have h6:N≠1:=by omega
   have h7:N<2:=by omega
   go_wp2_with fail;go_ret2;refine⟨HX2.out,.inr ⟨by rw[HNU.out,HM.out];omega,go,rfl,⟨(λ h=>by cases h),λ a ha j hj=>?_⟩,by have:=HB0.out;have:=HLE.out;omega⟩⟩;injection ha with ha;subst ha;have hz:lenF f len most j=0:=by
    unfold lenF Pkg.lens;rw[qad (by rw[HNU.out];omega),qac]
    ·rfl
    intro hm;have:=List.length_pos_of_mem hm;have:=HNU.out;omega
   rw[zae,hz];exact⟨(HCS.out j hj).1,by decide,by decide⟩
  obtain⟨gc,cc,hv,hgc,hP,_⟩:=PR.of_own (l:=L) (by rw[HN.out];exact Q1b.out) (by rw[HN.out];omega);injection hv with hv1 hv2 hv3;subst hv1 hv3;clear hv2;have hgo:=(HGC.out gc rfl).2;have HP:=Hd hP;have HGC2:=Hd (qaB hgc hgo);clear hP hgc hgo HGC;by_cases h1:N=1
  ·have t6:((N:Int) ==1)=true:=qbl.2 (by omega);subst h1;obtain⟨p,rfl⟩:∃p,L=[p]:=by
    match L,HN.out with
    | [p],_=>exact⟨p,rfl⟩
   obtain⟨hps,hpa⟩:=Q4b.out p (by simp);obtain⟨s,hps1,hsu⟩:∃s,p.s=[s]/\Pkg.used (cntN f) len=[s]:=by
    have h2:=Q2.out;unfold Pkg.coins at h2;match hu:Pkg.used (cntN f) len,HNU.out with
    | [s],_=>
     rw[hu] at h2;refine⟨s,?_,rfl⟩;have:pcs [p]=[Pkg.coin (cntN f) s]:=by simpa using h2
     unfold pcs at this;simp only[qaG,qa9,List.cons.injEq,and_true] at this;exact congrArg Pkg.Pc.s this
   have hsl:s<len:=(Pkg.zbO.1 (by rw[hsu];simp)).1;obtain⟨k2,k3⟩:=HP.out.at (i:=0) (by simp);obtain⟨sg,hsg,k4⟩:=hps.cell (j:=0) hps.1;have k5:p.n=1:=by
    obtain⟨_,g',cs,_,h2,_⟩:=hps;rw[h2,hps1];rfl
   simp only[hps1,List.getD_cons_zero] at k4;simp only[qbe,hsg,k5,Nat.zero_mul,Nat.zero_add] at k3;obtain⟨k6,k7⟩:=HCS.out s hsl;have HFI:=Hd (HCS.out.put s 1 (λ i=>if i=s then 1 else 0) hsl (λ i _=>rfl));have HHS:=Hd hsu;have hsi:(s:Int)<(len:Int):=by omega
   clear k2 hps hpa hsu hps1 hsg k5;go_wp2_with fail;go_ret2;refine⟨qaL HX2.out (by have:=HB0.out;have:=HLE.out;show w.heap.size<=go;omega) _,.inr ⟨by rw[HNU.out,HM.out];omega,go,rfl,⟨(λ h=>by cases h),λ a ha j hj=>?_⟩,by have:=HB0.out;have:=HLE.out;omega⟩⟩;injection ha with ha;subst ha;have hz:lenF f len most j=if j=s then 1 else 0:=by
    unfold lenF Pkg.lens;rw[qad (by rw[HNU.out];omega),HHS.out];simp only[qaN];split <;> rfl
   rw[zae,hz];exact⟨(HFI.out j hj).1,by split <;> decide,by split <;> decide⟩
  have t6:((N:Int) ==1)=false:=qak.2 (by omega);have h7:¬ N<2:=by omega
  have HSO:=Hd (zir gc N co L w2 HN.out (by have:=HFEW.out;have:=HNU.out;omega) HP.out);have HSY:Hid (Sy w2 go len 0 L):=Hd (λ p hp=>by
   have hq:p.pc∈Pkg.coins (cntN f) len:=by rw[<- Q2.out];exact qcC.2 ⟨p,hp,rfl⟩
   obtain⟨s,hs,e⟩:=qcC.1 hq;have hs2:=(Pkg.zbO.1 hs).1;have e1:p.c=cntN f s:=(congrArg Pkg.Pc.c e).symm;have e2:p.s=[s]:=(congrArg Pkg.Pc.s e).symm;have hb:=HF.out s hs2;refine⟨Q4b.out p hp,by rw[e1];unfold cntN;omega,by rw[e2];exact qaj 1,λ z hz=>?_⟩;rw[e2] at hz;rw[qaN.1 hz];exact hs2)
  clear Q4b;go_wp2_with fail;refine HSO.out.mono ?_;rintro e w3 ⟨rfl,hr,ho⟩;have HX3:Hid (Ext w w3):=Hd (Below.trans HX2.out (ho.below (B:=w.heap.size) HX2.out.size (λ k hk e=>by have:=HGC2.out.1;have:=HB0.out;omega)));have HP3:=Hd hr;have HS3:Hid (Sy w3 go len 0 (Srt.srt Pk.key L)):=Hd ((HSY.out.one HP.out ho).perm (Srt.zcN L));have HC3:=Hd (HCS.out.keeps ho (by have:=HGC2.out.2;omega));have HZ3:=Hd (show go+1<=w3.heap.size by have:=ho.size;have:=HGO.out.2;omega);have HPC:Hid (pcs (Srt.srt Pk.key L)=Srt.srt Pkg.ky (Pkg.coins (cntN f) len)):=Hd (by rw[zjp,Q2.out]);have HLN:Hid ((Srt.srt Pk.key L).length=N):=Hd (by rw[Srt.zbI];exact HN.out);clear hr ho HSY HCS HP HX2 HSO Q1b;generalize Srt.srt Pk.key L=L2 at HP3 HS3 HPC HLN;have HCL:=Hd (zkv gc co L2 w3 HP3.out (by rw[HLN.out];omega) (by rw[HLN.out];omega));rw[HLN.out] at HCL;have HNN:=HLN;go_wp2_with fail;refine HCL.out.mono ?_;rintro e w4 ⟨⟨g,cg,rfl,hp4,hg4,hc4⟩,hx4⟩;have HL4:Hid (LSt w w4 go gc len 0 L2 L2 g):=Hd ⟨HX3.out.trans hx4,HP3.out.ext hx4,hp4,HS3.out.ext hx4,HS3.out.ext hx4,HC3.out.keeps (S:=λ _=>False) hx4.keeps id,by have:=HGC2.out.1;have:=HB0.out;omega,HGC2.out.2,by have:=HZ3.out;omega⟩;clear hp4 hg4 hx4 HX3 HP3 HS3 HC3 HZ3 HCL;have e7:(most:Int)-1=((most-1:Nat):Int):=by omega
  obtain⟨D,hD⟩:=nmE (most-1);rw[hD] at e7;have wD:∀z,z=(D:Int)->IntKind.i64.wrap z=z:=by intro z hz;rw[qal];omega
  have HD:=Hd hD;have hDb:D<=14:=by omega
  clear hD;go_wp2_with fail;go_loopw [10,80] (λ v c wr=>∃(d g cg m:Nat),v=.slice (some ⟨g,0,none⟩) m cg/\c=.int .i64 d/\d<=D/\m<=cg/\Hid (∃R:List Pk,R.length=m/\N<=m/\m<=2*N/\pcs R=Pkg.row (Srt.srt Pkg.ky (Pkg.coins (cntN f) len)) d/\LSt w wr go gc len d L2 R g)) (λ _ c _=>D-(intOf c).toNat)
  case atStart=>exact⟨0,g,cg,N,rfl,rfl,by omega,hc4,Hd ⟨L2,HLN.out,by omega,by omega,HPC.out,HL4.out⟩⟩
  case round=>
   clear HL4;obtain⟨d,g,cg,m,rfl,rfl,hd,hmc,HR⟩:=hrel;by_cases hdD:d<D
   ·have t8:=dT (p:=(d:Int)<(D:Int));obtain⟨R,hRm,hm1,hm2,hpr,hls⟩:=HR.out;have HRM:=Hd hRm;have HPR:=Hd hpr;have HLS:=Hd hls;clear hRm hpr hls HR;rename World=>wl;go_wp2_with fail;go_loopw [11,12] (λ v c wz=>∃k i:Nat,c=.int .i64 i/\2*k=i/\i<=m/\Hid (∃Q:List Pk,Q.length=k/\wz.ownsRow wl.heap.size 237 2 v k (pkL Q)/\pcs Q=(Pkg.prs (pcs R)).take k/\Sy wz go len (d+1) Q)/\Hid (Ext wl wz)) (λ _ c _=>m-(intOf c).toNat)
    case atStart=>exact⟨0,0,rfl,rfl,by omega,Hd ⟨[],rfl,qaK _ _ _ _,rfl,by intro p hp;cases hp⟩,Hd (Ext.refl _)⟩
    case round=>
     obtain⟨k,i,rfl,hki,him,HQ,HE2⟩:=hrel;obtain⟨j,hj⟩:=nmE (i+1);have ej:(i:Int)+1=(j:Int):=by omega
     have wj:∀z,z=(j:Int)->IntKind.i64.wrap z=z:=by intro z hz;rw[qal];omega
     by_cases hjm:j<m
     ·have t9:=dT (p:=(j:Int)<(m:Int));obtain⟨Q,hQk,hQo,hQp,hQs⟩:=HQ.out;obtain⟨xo,co2,rfl⟩:=zam hQo;have hRm:=HRM.out;obtain⟨x,hx⟩:∃x,R[i]? =some x:=⟨_,qai (by omega)⟩;obtain⟨y,hy⟩:∃y,R[j]? =some y:=⟨_,qai (by omega)⟩;have HGX:=Hd hx;have HGY:=Hd hy;have hxm:=qa5 hx;have hym:=qa5 hy;have HMX:=Hd hxm;have HMY:=Hd hym;have HGL:=Hd HLS.out.rp.lt;have HKI:=Hd hki;obtain⟨i2,hi2⟩:=nmE (i+2);have ei2:(i:Int)+2=(i2:Int):=by omega
      have wi2:∀z,z=(i2:Int)->IntKind.i64.wrap z=z:=by intro z hz;rw[qal];omega
      have HI2:=Hd hi2;have HLQ:Hid (LSt w wr go gc len d L2 R g):=Hd (HLS.out.step HE2.out);obtain⟨hsx,hx1,hx2,_⟩:=HLQ.out.syR x hxm;obtain⟨hsy,hy1,hy2,_⟩:=HLQ.out.syR y hym;have h2d:2^d<=16384:=qam (qaq (by decide) (show d<=14 by omega)) (by decide);obtain⟨cs,hcs⟩:=nmE (x.c+y.c);have ecs:(x.c:Int)+(y.c:Int)=(cs:Int):=by omega
      have wcs:∀z,z=(cs:Int)->IntKind.i64.wrap z=z:=by intro z hz;rw[qal];omega
      obtain⟨hsx0,sgx,csx,hax,hnx,_⟩:=hsx.1;obtain⟨hsy0,sgy,csy,hay,hny,_⟩:=hsy.1;have HIX:=Hd hsx.1;have HIY:=Hd hsy.1;have HPX:=Hd (show (pcs Q ++ [⟨cs,x.s++y.s⟩])=(Pkg.prs (pcs R)).take (k+1) by
       have h1:=zjG (pcs R) k x.pc y.pc (by rw[hki];exact zj4 hx) (by rw[hki,hj];exact zj4 hy);have h2:=(qa7.1 h1);obtain⟨h3,h4⟩:=h2;rw[qbJ h3,h4,hQp,<- hcs];rfl)
      have HSL:=Hd (show x.s.length+y.s.length<=32768 by omega);have HQO:=Hd hQo;have HQS:=Hd hQs;have HQK:=Hd hQk;have HCS2:=Hd hcs;have HXN:=Hd (qaB hax (qaB hay (qaB hnx hny)));have lj:j<m:=hjm;have li:i<m:=by omega
      clear hx hy hxm hym hQk hQo hQp hQs hsx hsy hx1 hx2 hy1 hy2 h2d hcs hRm hsx0 hsy0 hax hay hnx hny hj hki hi2 HQ;go_wp2_with fail;have HLX:Hid (Ext wl wr):=HE2;have HQOx:=HQO;have HQSx:=HQS;refine qar (S:=λ w'=>w'.cell? ⟨g,i*2,none⟩=some (.int .i64 (x.c:Int))/\w'.cell? ⟨g,i*2+1,none⟩=some (.slice x.a x.n x.k)/\w'.cell? ⟨g,j*2,none⟩=some (.int .i64 (y.c:Int))/\w'.cell? ⟨g,j*2+1,none⟩=some (.slice y.a y.n y.k)) (by kernel_rfl) ⟨(PR.get HLQ.out.rp HGX.out).1,(PR.get HLQ.out.rp HGX.out).2,(PR.get HLQ.out.rp HGY.out).1,(PR.get HLQ.out.rp HGY.out).2⟩ (λ hHeld=>?_);clear hHeld;refine zab (λ wz=>Ext wr wz) (show Ext wr wr.drew from qag (Ext.refl wr)) ?_;rintro v2 h;have HLQ2:=Hd (HLQ.out.step h);have HLX2:=Hd (HLX.out.trans h);have HQO2:=Hd (zaa HQOx.out h.keeps (λ _ _=>id));have HQS2:=Hd (HQSx.out.ext h);clear h;have hHeld:v2.cell? ⟨g,i*2,none⟩=some (.int .i64 (x.c:Int))/\v2.cell? ⟨g,i*2+1,none⟩=some (.slice x.a x.n x.k)/\v2.cell? ⟨g,j*2,none⟩=some (.int .i64 (y.c:Int))/\v2.cell? ⟨g,j*2+1,none⟩=some (.slice y.a y.n y.k):=⟨(PR.get HLQ2.out.rp HGX.out).1,(PR.get HLQ2.out.rp HGX.out).2,(PR.get HLQ2.out.rp HGY.out).1,(PR.get HLQ2.out.rp HGY.out).2⟩;refine tk5 0 1 2 3 4 ?_;refine tk5 5 6 7 8 9 ?_;refine tk5 10 11 12 13 14 ?_;refine tk5 15 16 17 18 19 ?_;refine tk4 20 21 22 23 ?_;refine rdH 24 rfl λ KK hK=>?_;clear hHeld;go_simp;refine oS hK ⟨(PR.get (HLQ2.out.rp.ext ((Ext.refl v2).alloc _)) HGX.out).1,(PR.get (HLQ2.out.rp.ext ((Ext.refl v2).alloc _)) HGX.out).2,(PR.get (HLQ2.out.rp.ext ((Ext.refl v2).alloc _)) HGY.out).1,(PR.get (HLQ2.out.rp.ext ((Ext.refl v2).alloc _)) HGY.out).2⟩ λ hHeld=>?_
      clear hK KK hHeld;refine zab (λ wz=>Ext v2 wz/\wz.cell? ⟨v2.heap.size,0,none⟩=some (.slice x.a x.n x.k)/\wz.cell? ⟨v2.heap.size,1,none⟩=some (.slice y.a y.n y.k)) ⟨(Ext.refl v2).alloc _,by simp,by simp⟩ ?_;rintro v3 ⟨hE,hc0,hc1⟩;have HLQ3:=Hd (HLQ2.out.step hE);have HLX3:=Hd (HLX2.out.trans hE);have HQO3:=Hd (zaa HQO2.out hE.keeps (λ _ _=>id));have HQS3:=Hd (HQS2.out.ext hE);have HC0:=Hd hc0;have HC1:=Hd hc1;clear hE hc0 hc1;have hHeld:v3.cell? ⟨g,i*2,none⟩=some (.int .i64 (x.c:Int))/\v3.cell? ⟨g,i*2+1,none⟩=some (.slice x.a x.n x.k)/\v3.cell? ⟨g,j*2,none⟩=some (.int .i64 (y.c:Int))/\v3.cell? ⟨g,j*2+1,none⟩=some (.slice y.a y.n y.k):=⟨(PR.get HLQ3.out.rp HGX.out).1,(PR.get HLQ3.out.rp HGX.out).2,(PR.get HLQ3.out.rp HGY.out).1,(PR.get HLQ3.out.rp HGY.out).2⟩;refine rdH 25 rfl λ KK hK=>?_;clear hHeld;go_simp;refine (zfu v2.heap.size 2 _ (λ q=>if q=0 then .slice x.a x.n x.k else .slice y.a y.n y.k) (λ q=>if q=0 then x.s.map (λ i:Nat=>(i:Int)) else y.s.map (λ i:Nat=>(i:Int))) v3 (by omega) (by omega) ?ca ?cb ?cc).mono ?cd
      case ca=>
       intro q hq;match q,hq with
       | 0,_=>exact HC0.out
       | 1,_=>exact HC1.out
      case cb=>
       intro q hq;match q,hq with
       | 0,_=>exact ((HLQ3.out.syR x HMX.out).1.1).ir
       | 1,_=>exact ((HLQ3.out.syR y HMY.out).1.1).ir
      case cc=>have:=HSL.out;simp[concL];omega
      rintro e v4 ⟨⟨vv,rfl,hvo⟩,h⟩;have hvl:(concL (λ q=>if q=0 then x.s.map (λ i:Nat=>(i:Int)) else y.s.map (λ i:Nat=>(i:Int))) 2)=(x.s++y.s).map (λ i:Nat=>(i:Int)):=by simp[concL]
      rw[hvl] at hvo;obtain⟨sg,sk,rfl,hsk,hsl⟩:=zaw hvo (by have:=HIX.out.1;simp;omega);have HSYN:Hid (SyAt v4 ⟨cs,some ⟨sg,0,none⟩,(x.s++y.s).length,sk,x.s++y.s⟩/\v3.heap.size<=sg):=Hd (znG cs hvo (by have:=HIX.out.1;simp;omega) (by simp));simp only[qcm] at *;have HLQ4:=Hd (HLQ3.out.step h);have HLX4:=Hd (HLX3.out.trans h);have HQO4:=Hd (zaa HQO3.out h.keeps (λ _ _=>id));have HQS4:=Hd (HQS3.out.ext h);clear hvo hvl hsk hsl h;go_simp;refine oS hK ⟨(PR.get HLQ4.out.rp HGX.out).1,(PR.get HLQ4.out.rp HGX.out).2,(PR.get HLQ4.out.rp HGY.out).1,(PR.get HLQ4.out.rp HGY.out).2⟩ λ hHeld=>?_;clear hK KK;refine tkH 26 ?_;refine rdH 27 rfl λ KK hK=>?_;clear hHeld;go_simp;refine oS hK ⟨(PR.get (HLQ4.out.rp.ext ((Ext.refl v4).alloc _)) HGX.out).1,(PR.get (HLQ4.out.rp.ext ((Ext.refl v4).alloc _)) HGX.out).2,(PR.get (HLQ4.out.rp.ext ((Ext.refl v4).alloc _)) HGY.out).1,(PR.get (HLQ4.out.rp.ext ((Ext.refl v4).alloc _)) HGY.out).2⟩ λ hHeld=>?_;clear hK KK hHeld;refine zab (λ wz=>Ext v4 wz/\Bk wz v4.heap.size #[.int .i64 (cs:Int),.slice (some ⟨sg,0,none⟩) (x.s++y.s).length sk]) ⟨(Ext.refl v4).alloc _,by rw[qaa];exact Bk.at rfl⟩ ?_;rintro v5 ⟨hE,hB⟩;have HLQ5:=Hd (HLQ4.out.step hE);have HLX5:=Hd (HLX4.out.trans hE);have HQO5:=Hd (zaa HQO4.out hE.keeps (λ _ _=>id));have HQS5:=Hd (HQS4.out.ext hE);have HSYN2:=Hd (HSYN.out.1.ext hE);have HBB:=Hd hB
      clear hE hB;obtain⟨v',w',hr,h2,h3,h4,h5⟩:=qcH (P:=Tryz.prog) v5 wl.heap.size 235 235 237 i0 (.agg #[.int .i64 0,.slice none 0 0]) 2 32 Tryz.underlying235 hi0 hz0 hz1 hz2 rfl (by decide) _ k _ HQO5.out ⟨v4.heap.size,0,none⟩ 1 1 [.int .i64 (cs:Int),.slice (some ⟨sg,0,none⟩) (x.s++y.s).length sk] rfl (λ j u h=>by
        rw[zae];exact (HBB.out.cell _).trans (by simpa using h)) (by intro u hu;simp at hu;rcases hu with rfl | rfl <;> rfl) (by have:=HKI.out;unfold maxLen;omega) (by have:=HKI.out;omega) HLX5.out.size
      have H2:=Hd h2;have H3:=Hd h3;clear h2 h3 h4 h5;have hHeld:v5.cell? ⟨g,i*2,none⟩=some (.int .i64 (x.c:Int))/\v5.cell? ⟨g,i*2+1,none⟩=some (.slice x.a x.n x.k)/\v5.cell? ⟨g,j*2,none⟩=some (.int .i64 (y.c:Int))/\v5.cell? ⟨g,j*2+1,none⟩=some (.slice y.a y.n y.k):=⟨(PR.get HLQ5.out.rp HGX.out).1,(PR.get HLQ5.out.rp HGX.out).2,(PR.get HLQ5.out.rp HGY.out).1,(PR.get HLQ5.out.rp HGY.out).2⟩;refine rdH 28 rfl λ KK hK=>?_;clear hHeld;rw[qad (show _=true by kernel_rfl)];unfold Oper.wp execOp;simp only[resolve,invoke,builtin,qbu,qbM,qas,qbg,qaG,qa9,Act.eval,qbD,qbf,qbe];simp only[qaO,qaz,qaC,qay,qbn,hr,qas,Oper.upon];have HL9:Hid (LSt w w' go gc len d L2 R g):=Hd (HLQ5.out.grown HLX5.out.size HGL.out HQO5.out H3.out);have HX9:Hid (Ext wl w'):=Hd (Below.trans HLX5.out ((Keeps.grown H3.out).below HLX5.out.size (λ k hk e=>by have:=(HQO5.out.lt k e).1;omega)));have HS9:Hid (Sy w' go len (d+1) (Q ++ [⟨cs,some ⟨sg,0,none⟩,(x.s++y.s).length,sk,x.s++y.s⟩])):=Hd (Sy.grown (HQS5.out.app (by have h:=Sy.pair HLQ5.out.syR HMX.out HMY.out (by rw[HCS2.out];exact HSYN2.out) (by have h1:=HSYN.out.2;have h2:=HLQ3.out.o2;have h3:=HLQ3.out.rp.lt;omega);rw[HCS2.out] at h;exact h)) HQO5.out H3.out)
      refine oS hK ⟨(PR.get HL9.out.rp HGX.out).1,(PR.get HL9.out.rp HGX.out).2,(PR.get HL9.out.rp HGY.out).1,(PR.get HL9.out.rp HGY.out).2⟩ λ hHeld=>?_;clear hK KK hr;refine tkH 29 ?_;refine dnT ?_;clear hHeld;clear HLQ5 HLX5 HQO5 HQS5 HLQ HLX HQOx HQSx;go_wp2_with fail;refine⟨⟨k+1,i2,rfl,by have:=HKI.out;have:=HI2.out;omega,by have:=HI2.out;omega,Hd ⟨Q ++ [⟨cs,some ⟨sg,0,none⟩,(x.s++y.s).length,sk,x.s++y.s⟩],by rw[qaa,HQK.out];rfl,by rw[zcI];exact H2.out,by rw[zdE];exact HPX.out,HS9.out⟩,HX9⟩,by have:=HI2.out;simp[intOf];omega⟩
     have t9:=dF (p:=(j:Int)<(m:Int));obtain⟨Q,hQk,hQo,hQp,hQs⟩:=HQ.out;have hk2:k=m/2:=by omega
     have hQl:pcs Q=Pkg.prs (pcs R):=by
      rw[hQp,qan];rw[Pkg.zb5,zbw,HRM.out];omega
     obtain⟨gq,cq,hv,hgq,hPQ,_⟩:=PR.of_own (l:=Q) (by rw[hQk];exact hQo) (by omega);rw[hQk] at hv;subst hv;have HLQ:Hid (LSt w wr go gc len d L2 R g):=Hd (HLS.out.step HE2.out);have HPQ:=Hd hPQ;have HQL:=Hd hQl;have HQK:=Hd (qaB hQk hk2);have HQS:=Hd hQs;have HJM:=Hd hjm;have n1:¬ j<m:=hjm;clear hQk hQo hQp hQs hQl hPQ hk2 HQ hgq;have HCC:=Hd (ziP wr.heap.size 2 2 (λ q=>if q=0 then gc else gq) (λ q=>if q=0 then co else cq) (λ q=>if q=0 then L2 else Q) (wr.alloc (.cells #[.slice (some ⟨gc,0,none⟩) N co,.slice (some ⟨gq,0,none⟩) k cq] 235)) (by omega) (by omega)
      (by
       intro q hq;have hb:Bk (wr.alloc (.cells #[.slice (some ⟨gc,0,none⟩) N co,.slice (some ⟨gq,0,none⟩) k cq] 235)) wr.heap.size #[.slice (some ⟨gc,0,none⟩) N co,.slice (some ⟨gq,0,none⟩) k cq]:=Bk.at rfl;match q,hq with
       | 0,_=>exact (hb.cell 0).trans (by simp[HLN.out])
       | 1,_=>exact (hb.cell 1).trans (by simp[HQK.out.1]))
      (by
       intro q hq;match q,hq with
       | 0,_=>exact⟨by simp only[if_true];rw[HLN.out];omega,HLQ.out.cp.ext ((Ext.refl wr).alloc _)⟩
       | 1,_=>exact⟨by have:=HQK.out;show 0<Q.length;omega,HPQ.out.ext ((Ext.refl wr).alloc _)⟩)
      (by have:=HQK.out;simp[concP,HLN.out];omega))
     obtain⟨m2,hm2'⟩:∃m2,N+k=m2:=⟨_,rfl⟩;have HM2:=Hd (show N+k=m2/\N<=m2/\m2<=2*N from⟨hm2',by omega,by have:=HQK.out.2;omega⟩);clear hm2';go_wp2_with fail;refine HCC.out.mono ?_;rintro e w5 ⟨⟨v5,rfl,hvo⟩,hE5⟩;have hcp:concP (λ q=>if q=0 then L2 else Q) 2=L2++Q:=by simp[concP]
     rw[hcp] at hvo;have hlen:(L2++Q).length=m2:=by rw[qaa,HLN.out,HQK.out.1];exact HM2.out.1
     obtain⟨g2,c2,hv5,hg2,hP5,hc5⟩:=PR.of_own hvo (by have:=HM2.out;omega);rw[hlen] at hv5 hc5;subst hv5;have HC5:=Hd hc5;clear hc5;have HL5:Hid (LSt w w5 go gc len (d+1) L2 (L2++Q) g2):=Hd ((HLQ.out.step ((Ext.refl wr).alloc _)).renew hE5 hP5 (((HLQ.out.syL.le (d+1)).app HQS.out).ext (((Ext.refl wr).alloc _).trans hE5)) (by have h1:=HLQ.out.o2;have h2:=HLQ.out.rp.lt;simp at hg2;omega));have HS5:=Hd (zir g2 m2 c2 (L2++Q) w5 hlen (by have:=HM2.out;have:=HFEW.out;have:=HNU.out;omega) hP5);have HPS:Hid (pcs (Srt.srt Pk.key (L2++Q))=Pkg.row (Srt.srt Pkg.ky (Pkg.coins (cntN f) len)) (d+1)):=Hd (by
      rw[zjp,zdE,HPC.out,HQL.out,Srt.zfs,Srt.zd7 (Srt.zcW _),HPR.out,Srt.zd7 (Pkg.zfm (Pkg.zhe (Srt.zcW _) d))];rfl)
     have HLEN:Hid ((Srt.srt Pk.key (L2++Q)).length=m2):=Hd (by rw[Srt.zbI];exact hlen);clear hvo hcp hlen hg2 hP5 hE5 HCC;go_wp2_with fail;refine HS5.out.mono ?_;rintro e w6 ⟨rfl,hr6,ho6⟩;have HL6:Hid (LSt w w6 go gc len (d+1) L2 (Srt.srt Pk.key (L2++Q)) g2):=Hd (HL5.out.turn ho6 hr6 (Srt.zcN _));clear hr6 ho6 HL5 HS5 HLQ HPQ HQS;have wd:∀z,z=((d+1:Nat):Int)->IntKind.i64.wrap z=z:=by intro z hz;rw[qal];omega
     go_wp2_with fail;refine⟨⟨d+1,g2,c2,m2,rfl,by simp,by omega,HC5.out,Hd ⟨_,HLEN.out,HM2.out.2.1,HM2.out.2.2,HPS.out,HL6.out⟩⟩,by simp[intOf];omega⟩
   have t8:=dF (p:=(d:Int)<(D:Int));obtain⟨R,hRm,hm1',hm2',hpr,hls⟩:=HR.out;have hdD2:d=D:=by omega
   have HDD:=Hd hdD2;have HRM:=Hd hRm;have HPR:=Hd hpr;have HLS:=Hd hls;have HLG:=Hd (show 2*N-2<=m by
    have h1:=Pkg.zfN (C:=Srt.srt Pkg.ky (Pkg.coins (cntN f) len)) (d:=d) (by rw[Srt.zbI];unfold Pkg.coins;rw[qcm,HNU.out];omega) (by
     rw[Srt.zbI];unfold Pkg.coins;rw[qcm,HNU.out,hdD2,show D+1=most by have:=HD.out;omega,HM.out];omega)
    rw[<- hpr,zbw,hRm,Srt.zbI] at h1;unfold Pkg.coins at h1;rw[qcm,HNU.out] at h1;exact h1)
   obtain⟨z,hz⟩:=nmE (2*N-2);obtain⟨y,hy⟩:=nmE (2*N);have ey:(2:Int)*(N:Int)=(y:Int):=by omega
   have ez:(y:Int)-2=(z:Int):=by omega
   have wy:∀v,v=(y:Int)->IntKind.i64.wrap v=v:=by intro v hv;rw[qal];omega
   have wz:∀v,v=(z:Int)->IntKind.i64.wrap v=v:=by intro v hv;rw[qal];omega
   have HZ:=Hd hz;have lzm:z<=cg:=by have:=HLG.out;omega
   have gzm:(z:Int)<=(cg:Int):=by omega
   have gz:(0:Int)<=(z:Int):=by omega
   clear hRm hpr hls HR hz hy hdD2;go_wp2_with fail;go_loopw [132] (λ c wr=>∃q:Nat,c=.int .i64 q/\q<=z/\Hid (Cnt w wr go len d R g q [])) (λ c _=>z-(intOf c).toNat)
   case atStart=>exact⟨0,rfl,by omega,Hd ⟨HLS.out.rp,HLS.out.syR,HLS.out.ext,HLS.out.oc.congr (λ s _=>by simp[Pkg.syms]),by have h1:=HLS.out.o2;have h2:=HLS.out.rp.lt;omega,by have h1:=HLS.out.base;have h2:=HLS.out.o1;omega,by have h1:=HLS.out.o2;omega⟩⟩
   case round=>
    obtain⟨q,rfl,hqz,HW⟩:=hrel;by_cases hlt2:q<z
    ·have t9:=dT (p:=(q:Int)<(z:Int));obtain⟨p,hpq⟩:∃p,R[q]? =some p:=⟨_,qai (by have:=HRM.out;have:=HLG.out;have:=HZ.out;omega)⟩;obtain⟨k2,k3⟩:=HW.out.rp.get hpq;have HPM:=Hd (qa5 hpq);obtain⟨hsa,hpc,hpl,hpsl⟩:=HW.out.sy p HPM.out;obtain⟨_,sg,css,ha,hn,_⟩:=hsa.1;obtain⟨ps,hps⟩:=nmE (p.s.length);rw[ha,hn,hps] at k3;have hgb:=HW.out.rp.lt;have lq:q<z:=hlt2;have HSA:=Hd (qaB ha hps);have HPQ:=Hd hpq;have HPL:=Hd hpl;have hpsb:ps<=16384:=by
      have h6:2^d<=16384:=qam (qaq (by decide) (show d<=14 by omega)) (by decide);omega
     clear hpq hsa ha hn hps hpsl hpl hpc;go_wp2_with fail;go_loopw [139] (λ c wr=>∃e:Nat,c=.int .i64 e/\e<=ps/\Hid (Cnt w wr go len d R g q (p.s.take e))) (λ c _=>ps-(intOf c).toNat)
     case atStart=>exact⟨0,rfl,by omega,Hd (HW.out.step (by repeat (first | exact Ext.refl _ | refine qaL ?_ (by simp) _ | refine Ext.alloc ?_ _)))⟩
     case round=>
      clear HW;obtain⟨e,rfl,hep,HW⟩:=hrel;by_cases hlt3:e<ps
      ·have t10:=dT (p:=(e:Int)<(ps:Int));obtain⟨hsa,_,_,hpsl⟩:=HW.out.sy p HPM.out;obtain⟨sg',hsg,k4⟩:=hsa.1.cell (j:=e) (by have:=HSA.out.2;omega);have hsg2:sg'=sg:=by
        have:=HSA.out.1;rw[hsg] at this;injection this with this;injection this
       subst hsg2;obtain⟨s,hs⟩:=nmE (p.s.getD e 0);have hes:e<p.s.length:=by have:=HSA.out.2;omega
       have hs2:p.s[e]=s:=by rw[<- hs,qaY,qai hes];rfl
       have hsl:s<len:=by rw[<- hs2];exact hpsl _ (qcA hes)
       rw[hs] at k4;obtain⟨k5,k6⟩:=HW.out.oc s hsl;have HM9:=Hd (HW.out.more hsl);have hbd:(Pkg.syms ((pcs R).take q)).count s+(p.s.take e).count s<=100000000:=by
        have h1:=List.count_le_length (a:=s) (l:=Pkg.syms ((pcs R).take q));have h2:=HW.out.sy.size q;have h3:=List.count_le_length (a:=s) (l:=p.s.take e);have h4:(p.s.take e).length<=p.s.length:=by simp;omega
        have h5:=HPL.out;have h6:2^d<=16384:=qam (qaq (by decide) (show d<=14 by omega)) (by decide);have h7:q*2^d<=600*16384:=qaE (by have:=HZ.out;omega) h6;omega
       have HT9:Hid (p.s.take e ++ [s]=p.s.take (e+1)):=Hd (by rw[qbJ hes,hs2]);obtain⟨V,hV⟩:=nmE ((Pkg.syms ((pcs R).take q)).count s+(p.s.take e).count s);simp only[hV] at k5 hbd HM9;have eV:(V:Int)+1=((V+1:Nat):Int):=by omega
       obtain⟨V2,hV2⟩:=nmE (V+1);rw[hV2] at eV HM9;have wV:∀v,v=(V2:Int)->IntKind.i64.wrap v=v:=by intro v hv;rw[qal];omega
       clear hsa hpsl hsg hs hes hs2 hV hV2 hbd;go_wp2_with fail;refine⟨⟨e+1,by simp,by omega,Hd (by rw[<- HT9.out];exact HM9.out)⟩,by simp[intOf];omega⟩
      have t10:=dF (p:=(e:Int)<(ps:Int));have HN9:Hid (Cnt w wr go len d R g (q+1) []):=Hd (by
       have h:=HW.out;rw[qan (by have:=HSA.out.2;omega)] at h;exact h.next HPQ.out)
      clear HW;go_wp2_with fail;refine⟨⟨q+1,by simp,by omega,HN9⟩,by simp[intOf];omega⟩
    have t9:=dF (p:=(q:Int)<(z:Int));go_wp2_with fail;go_ret2;refine⟨HW.out.ext,.inr ⟨by rw[HNU.out,HM.out];omega,go,rfl,⟨(λ h=>by cases h),λ a ha j hj=>?_⟩,HW.out.ge⟩⟩;injection ha with ha;subst ha;have hq2:q=2*N-2:=by have:=HZ.out;omega
    have hz:lenF f len most j=((((Pkg.syms ((pcs R).take q)).count j+([]:List Nat).count j:Nat)):Int):=by
     unfold lenF Pkg.lens;rw[qac (by rw[HNU.out];omega),HNU.out,HPR.out,hq2,HD.out,HDD.out];rfl
    have hb:=(zgy f len most (λ j hj=>(HF.out j hj).1) hl (by omega) (by omega) (by rw[HNU.out,HM.out];omega)).1 j hj;rw[zae];refine⟨?_,by omega,by omega⟩;rw[hz];exact (HW.out.oc j hj).1
end Go.Proofs.YthlibiocadimhaaGreatDoor
