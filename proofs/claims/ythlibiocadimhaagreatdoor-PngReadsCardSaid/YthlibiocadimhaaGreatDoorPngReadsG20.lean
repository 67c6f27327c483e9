/-
  inflate: a dynamic block.
  inflate: a block.
-/
import Derived.Test.YthlibiocadimhaaGreatDoorPngReadsG15
import Derived.Test.YthlibiocadimhaaGreatDoorPngReadsG14
import Derived.Test.YthlibiocadimhaaGreatDoorPngReadsG16
set_option linter.all false
set_option maxRecDepth 100000
namespace Go.Proofs.YthlibiocadimhaaGreatDoor
open Go.RowKit
theorem Yeo5 {p:Prop} (h:p:=by
 have hj1:=(qa7.1 hj).1;rw[qaT] at hj1;rw[List.getElem?_replicate,qad hj1] at hj;injection hj with hj;subst hj;rw[zae];exact (HCv.out j hj1).1):p:=h
theorem Yeo6 {p:Prop} (h:p:=by
 clear hll HR3;go_roundg (W-m)
 case measure=>have:=HK.out;rw[HN.out] at this;omega
 case rel=>exact⟨a2,_,F2,HG8,HR4,HK2⟩):p:=h
theorem Yeo0 {p:Prop} (h:p:=by
 rintro e w9 ⟨rfl,h9⟩;exact⟨rfl,zaJ (by have h:=HR.out;simp only[hg] at h;exact h) h9⟩):p:=h
theorem Yeo1 {p:Prop} (h:p:=by
 go_wp2_with fail;refine (zbf _ (E 0) _).mono ?_;rintro e _ ⟨rfl,rfl⟩;exact⟨rfl,zaJ HQ.out H_3.out.old⟩):p:=h
theorem Yeo2 {p:Prop} (h:p:=by
 go_wp2_with fail;refine (zbf _ (E 0) _).mono ?_;rintro e _ ⟨rfl,rfl⟩;exact⟨rfl,zaJ HQ.out H_1.out.old⟩):p:=h
theorem Yeo3 {p:Prop} (h:p:=by
 exact Yeo5):p:=h
theorem Yeo4 {p:Prop} (h:p:=by
 have htb:1<=t/\t<=138:=by omega
 have wt:=wqz (x:=(t:Int));clear ht z1 z2 z3;have hw18:(0:Nat)<=18:=by omega
 have e0:=(zaj HE.out H_2.out.old).1;obtain⟨m,hm⟩:=nmE (n+t);have hmI:(n:Int)+(t:Int)=(m:Int):=by omega
 have wmm:=wqz (x:=(m:Int));by_cases hov:W<m
 ·have t9:=dF (p:=(m:Int)<=(W:Int));have n9:¬ m<=W:=by omega
  have HQ:=Hd (Inf.zaV HR2.out (Inf.zbU HF0.out HRL.out HNW.out HX.out HRP.out (by rw[HN.out];omega)));go_wp2_with fail;refine (zbf _ (E 0) _).mono ?_;rintro e _ ⟨rfl,rfl⟩;exact⟨rfl,zaJ HQ.out H_2.out.old⟩
 have t9:=dT (p:=(m:Int)<=(W:Int));have n9:m<=W:=by omega
 have HQ:=Hd (Inf.zcK HF0.out HRL.out HNW.out HX.out HRP.out (by rw[HN.out];omega));go_wp2_with fail;refine (zaP _ _ _).mono ?_;rintro e _ ⟨rfl,rfl⟩;clear t9 e0 hov hmI;skip
 go_wp2_with fail;refine (zbS w2.heap.size t (0:Int) _ (by simp) (by omega) (by omega)).mono ?_;rintro e w3 ⟨⟨g',c',rfl,hCv,hg1,hg2⟩,hX⟩;have hX2:=Ext.trans ((Ext.refl w2).alloc _) hX;have HCv:=Hd hCv;clear hCv hX hg1 hg2;have H_3:=Hd (H_2.out.ext hX2);clear hX2 H_2;have HO:Hid (w3.ownsRow w5.heap.size 3 1 (.slice xo n co) n (intsV n (Inf.fn l))):=Hd (by have h:=H_3.out.row;rw[HN.out] at h;exact h);have hzz:w5.heap.size<=w3.heap.size:=H_3.out.st.keeps.size;go_wp2_with (at_builtin;refine apA HO.out (List.replicate t (.int .i64 (0:Int))) ?_ (hl:=?c1) (hnews:=?c2) (h1:=?c6))
 case c1=>simp
 case c2=>
  intro j u hj;exact Yeo5
 case c6=>intro u hu;rw[qb0 hu];rfl
 intro v' w8 hown hgrow _ _;have HG8:=Hd (H_3.out.grow (t:=t) HN.out hgrow (by rw[hm];exact hown) hw18);clear hown hgrow;go_wp2_with fail;obtain⟨F2,hF2,HR3⟩:=HQ.out;have HR4:=Hd HR3;have hll:(l++List.replicate t 0).length=m:=by rw[qaa,qaT,HN.out,hm]
 have HK2:Hid (W-(l++List.replicate t 0).length<F2/\W-m=W-(l++List.replicate t 0).length/\(l++List.replicate t 0).length<=W):=Hd (by rw[hll];have:=HK.out;rw[HN.out] at this;omega);exact Yeo6):p:=h
set_option maxHeartbeats 4000000 in
theorem zhD (R B a most:Nat) (s:ByteArray) (v:Value) (out:List UInt8) (w0 w:World) (E:Nat->Addr) (hE:Errs w0 E) (hTb:Tabs w0) (hI:ISt w0 w R B s a v out most):
  Calls Tryz.prog 162 #[.pointer (some ⟨R,0,none⟩)] w λ e w'=>DPost w0 w R B s most v out E (Inf.dyn s.data.toList a) e w':=by
 have HE:=Hd hE;have HTb:=Hd hTb;have H_0:Hid (IGo w0 w w R B s a v v out most):=Hd (IGo.start hI);have HW:Hid (w0.heap.size<=w.heap.size):=Hd hI.old.size;have HLT:=Hd (IGo.start hI).lts;obtain⟨r,hr⟩:=nmE (Inf.dyn s.data.toList a);rw[hr];rw[Inf.zlQ] at hr;have HR:=Hd hr;obtain⟨i0,hi0,hz0,hz1,hz2⟩:=qbb zaX;clear hE hTb hI hr;go_enter Tryz.func162,Tryz.ntmps162
 go_wp2_with fail;cases hg:Inf.get s.data.toList 5 a with
 | error c=>
  refine (za6 R B a 5 c most s v v out w0 w _ E HE.out H_0.out (by omega) hg).mono ?_;exact Yeo0
 | ok p=>
  obtain⟨m,a1⟩:=p;have HR1:=HR.out;simp only[hg] at HR1;clear HR;have HR:=Hd HR1;clear HR1;refine (zaS R B a 5 m a1 most s v v out w0 w _ E HE.out H_0.out (by omega) hg).mono ?_;rintro e w1 ⟨rfl,hG,hS⟩;have H_1:=Hd (hG);clear H_0 hG hS;obtain⟨z1,z2,z3,z4⟩:=Inf.zax hg;clear z4 hg;rw[zag] at z2;have hb_m:m<32:=z3;have hh_m:a1<=8*s.size/\a<=a1:=⟨by omega,by omega⟩;clear z1 z2 z3;obtain⟨mm,hmm⟩:=nmE (m+257);have hmI:(m:Int)+257=(mm:Int):=by omega
  have wm:=wqz (x:=(mm:Int));go_wp2_with fail;cases hg:Inf.get s.data.toList 5 a1 with
  | error c=>
   refine (za6 R B a1 5 c most s v v out w0 w _ E HE.out H_1.out (by omega) hg).mono ?_;exact Yeo0
  | ok p=>
   obtain⟨q,a2⟩:=p;have HR1:=HR.out;simp only[hg] at HR1;clear HR;have HR:=Hd HR1;clear HR1;refine (zaS R B a1 5 q a2 most s v v out w0 w _ E HE.out H_1.out (by omega) hg).mono ?_;rintro e w2 ⟨rfl,hG,hS⟩;have H_2:=Hd (hG);clear H_1 hG hS;obtain⟨z1,z2,z3,z4⟩:=Inf.zax hg;clear z4 hg;rw[zag] at z2;have hb_q:q<32:=z3;have hh_q:a2<=8*s.size/\a1<=a2:=⟨by omega,by omega⟩;clear z1 z2 z3;obtain⟨ff,hff⟩:=nmE (q+1);have hqI:(q:Int)+1=(ff:Int):=by omega
   have wf:=wqz (x:=(ff:Int));go_wp2_with fail;cases hg:Inf.get s.data.toList 4 a2 with
   | error c=>
    refine (za6 R B a2 4 c most s v v out w0 w _ E HE.out H_2.out (by omega) hg).mono ?_;exact Yeo0
   | ok p=>
    obtain⟨x,a3⟩:=p;have HR1:=HR.out;simp only[hg] at HR1;clear HR;have HR:=Hd HR1;clear HR1;refine (zaS R B a2 4 x a3 most s v v out w0 w _ E HE.out H_2.out (by omega) hg).mono ?_;rintro e w3 ⟨rfl,hG,hS⟩;have H_3:=Hd (hG);clear H_2 hG hS;obtain⟨z1,z2,z3,z4⟩:=Inf.zax hg;clear z4 hg;rw[zag] at z2;have hb_x:x<16:=z3;have hh_x:a3<=8*s.size/\a2<=a3:=⟨by omega,by omega⟩;clear z1 z2 z3;obtain⟨few,hfew⟩:=nmE (x+4);have hxI:(x:Int)+4=(few:Int):=by omega
    have wx:=wqz (x:=(few:Int));have hmm2:257<=mm:=by omega
    have hff2:1<=ff/\ff<=32:=by omega
    have hfew2:few<=19:=by omega
    have hmm3:mm<=288:=by omega
    rw[hmm,hff,hfew] at HR;have e0:=(zaj HE.out H_3.out.old).1;have hHM:=qaB hh_m (qaB hh_q hh_x);clear hh_m hh_q hh_x hmm hff hfew hb_m hb_q hb_x;by_cases hb1:286<mm
    ·have t1:=dF (p:=(mm:Int)<=286);have n1:¬ (mm<=286):=by omega
     have HQ:Hid (.error 0=r):=Hd (by have h:=HR.out;rw[qad (.inl hb1)] at h;exact h);exact Yeo1
    have t1:=dT (p:=(mm:Int)<=286);have n1:mm<=286:=by omega
    by_cases hb2:30<ff
    ·have t2:=dF (p:=(ff:Int)<=30);have n2:¬ (ff<=30):=by omega
     have HQ:Hid (.error 0=r):=Hd (by have h:=HR.out;rw[qad (.inr hb2)] at h;exact h);exact Yeo1
    have t2:=dT (p:=(ff:Int)<=30);have n2:ff<=30:=by omega
    have HR1:=HR.out;rw[qac (by omega)] at HR1;clear HR;have HR:=Hd HR1;clear HR1;go_wp2_with fail;refine (zaP _ _ _).mono ?_;rintro e _ ⟨rfl,rfl⟩;clear t1 t2 e0 hb1 hb2 hmI hqI hxI;have hmk:=λ w=>qbR (P:=Tryz.prog) 88 3 (.int .i64 0) 8 Tryz.underlying88 zaX rfl .i64 .i64 19 (by omega) (by omega) w;simp only[show ((19:Nat):Int)=19 from rfl] at hmk;have hgr:(10 :Nat)<w3.heap.size:=qab _ _ (zai H_3.out.old (HTb.out.order 0 (by decide)));have hsl:=ziw few hfew2;go_wp2_with fail;clear hmk;obtain⟨rs,hrs⟩:∃rs,Inf.zaW s.data.toList few 0 a3 (λ _=>0)=rs:=⟨_,rfl⟩;rw[hrs] at HR;have HRS:=Hd hrs;clear hrs;have HS0:Hid (SGo w0 w (w3.alloc (.cells (madeCells #[.int .i64 0] 19) 3)) R B s a3 v out most w3.heap.size (λ _=>0)):=Hd ⟨H_3.out.ext ((Ext.refl _).alloc _),by rw[zaY];exact Cs.born _ _ _ _ _,H_3.out.step.keeps.size,HLT.out,HW.out⟩;obtain⟨GG,hGG⟩:=nmE (w3.heap.size);rw[hGG] at HS0⊢;clear hGG H_3;skip
    go_loopw [37] (λ c wr=>∃(i a:Nat) (f:Nat->Int),i<=few/\c=.int .i64 i/\Hid (SGo w0 w wr R B s a v out most GG f)/\Hid (Inf.zaW s.data.toList (few-i) i a f=rs)/\Hid (∀j,0<=f j/\f j<=7)) (λ c _=>few-(intOf c).toNat)
    case atStart=>exact⟨0,a3,_,by omega,rfl,HS0,HRS,Hd (λ _=>⟨by omega,by omega⟩)⟩
    case round=>
     clear HS0 HRS;obtain⟨i,a,f,hi,rfl,H_0,HRS,HBD⟩:=hrel;by_cases hlt:i<few
     ·obtain⟨pz,hto⟩:=nmE (Inf.zaK.getD i 0);have hto19:pz<19:=by rw[<- hto];exact Inf.zgs i (by omega)
      have hoc:=zai H_0.out.old (HTb.out.order i (by omega));rw[hto] at hoc;have HRS2:=HRS.out;rw[show few-i=(few-(i+1))+1 by omega] at HRS2;have HRS3:=Hd HRS2;clear HRS2;have HTO:=Hd hto;clear hto;have wi:=wqz (x:=(i:Int)+1);go_wp2_with fail;clear hoc;cases hg:Inf.get s.data.toList 3 a with
      | error c=>
       refine (za6 R B a 3 c most s v v out w0 w _ E HE.out H_0.out.go (by omega) hg).mono ?_;rintro e w9 ⟨rfl,h9⟩;exact⟨rfl,zaJ (Inf.zjo HR.out (Inf.zfW HRS3.out hg)) h9⟩
      | ok p=>
       obtain⟨y,a'⟩:=p;have HRS4:=Hd (Inf.zgq HRS3.out hg);refine (zaS R B a 3 y a' most s v v out w0 w _ E HE.out H_0.out.go (by omega) hg).mono ?_;rintro e w1 ⟨rfl,hG,hS⟩;have H_1:=Hd (H_0.out.rd hG hS);clear H_0 hG hS;have hy8:y<8:=(Inf.zax hg).2.2.1;have q1:=(H_1.out.cs pz hto19).1;have q2:=(H_1.out.cs pz hto19).2;have hS:=Hd (H_1.out.put pz (y:Int) hto19);have HBD2:Hid (∀j,0<=Inf.upd f pz (y:Int) j/\Inf.upd f pz (y:Int) j<=7):=Hd (λ j=>by have:=HBD.out j;unfold Inf.upd;split <;> omega);rw[HTO.out] at HRS4;have hto0:(0:Int)<=(pz:Int):=by omega
       have hto1:(pz:Int)<19:=by omega
       have hton:((pz:Nat):Int).toNat=pz:=by omega
       clear hg;go_wp2_with fail;go_roundw
       case rel=>exact⟨i+1,a',_,by omega,by go_num,hS,HRS4,HBD2⟩
       case measure=>simp[intOf];omega
     obtain rfl:i=few:=by omega
     have HRS2:rs=.ok (f,a):=by rw[<- HRS.out,qcp];rfl
     have HRF:=Hd HRS2;clear HRS2 HRS;go_wp2_with fail;by_cases hgood:Inf.good f 19
     ·have HR2:=Hd (Inf.zmP HR.out HRF.out hgood);refine (zcm R B a most 19 19 _ f s v v out w0 w _ E HE.out H_0.out.go (H_0.out.ints HBD.out) hgood).mono ?_;rintro e w5 ⟨T,rfl,hTr,hX⟩;have HT5:=Hd hTr;have HL0:Hid (LGo w0 w w5 w5 R B s a v out most (.slice none 0 0) []):=Hd (by
       have hg5:=H_0.out.go.ext hX;exact⟨hg5,IStep.refl _ _ _ _,qaK _ _ _ _,hg5.lts,⟨HW.out,hg5.step.keeps.size⟩,λ x hx=>by cases hx⟩)
      obtain⟨rl,hrl⟩:=nmE (Inf.lens s.data.toList f (mm+ff) (mm+ff+1) a []);rw[hrl] at HR2;have HRL:=Hd hrl;clear hTr hX hgood H_0 HBD HRF HR hrl;obtain⟨W,hW⟩:=nmE (mm+ff);rw[hW] at HRL;have hWI:(mm:Int)+(ff:Int)=(W:Int):=by omega
      have wW:=wqz (x:=(W:Int));have hWb:W<=316:=by omega
      go_wp2_with fail;go_loopg [11] W (λ k vl wr=>∃(a:Nat) (l:List Nat) (FF:Nat),Hid (LGo w0 w w5 wr R B s a v out most vl l)/\Hid (Inf.lens s.data.toList f W FF a l=rl)/\Hid (W-l.length<FF/\k=W-l.length/\l.length<=W))
      case atStart=>exact⟨a,[],W+1,HL0,HRL,Hd ⟨by simp,rfl,qbi _⟩⟩
      case round=>
       clear HL0 HRL;obtain⟨a,l,FF,H_0,HRL,HK⟩:=hrel;have HF0:Hid (0<FF):=Hd (by have:=HK.out;omega);obtain⟨n,hn⟩:=nmE (l.length);have hro:=H_0.out.row;rw[hn] at hro;obtain⟨xo,co,rfl⟩:=zam hro;have HN:=Hd hn;have hnb:n<=W:=by rw[<- hn];exact HK.out.2.2
       clear hro hn;by_cases hle:W<=n
       ·obtain rfl:n=W:=by omega
        have t1:=dF (p:=(n:Int)<(n:Int));have HQ:=Hd (Inf.zgM HF0.out HRL.out (by rw[HN.out];exact qaj _));go_wp2_with fail;clear t1;obtain⟨gb,cp,e1,hcap,_⟩:=zaw (by have h:=H_0.out.row;rw[HN.out] at h;exact h) (by omega);injection e1 with e1 _ e2;subst e1 e2;have HT1:=Hd (H_0.out.take HN.out mm (by omega));have HT2:=Hd (λ (wq:World) (h:LGo w0 w w5 wq R B s a v out most (.slice (some ⟨gb,0,none⟩) n co) l)=>h.drop HN.out mm ff (by omega));have hcI:(mm:Int)<=(n:Int):=by omega
        have hcI2:(mm:Int)<=(co:Int):=by omega
        have hm0:(0:Int)<=(mm:Int):=by omega
        have hmt:((mm:Nat):Int).toNat=mm:=by omega
        have hnf:n-mm=ff:=by omega
        have hne:¬ co=mm:=by omega
        by_cases hg1:Inf.good (Inf.fn (l.take mm)) mm
        ·have HG1:=Hd hg1;by_cases hg2:Inf.good (Inf.fn (l.drop mm)) ff
         ·have HG2:=Hd hg2;clear hg1 hg2;refine rgW λ w1 h=>?_;have H_1:=Hd (H_0.out.ext h);clear h H_0;refine tk5 0 1 2 3 5 ?_;refine tk3 6 7 8 ?_;refine rdT 4 λ KK hK=>?_;go_simp;refine (zcm R B a most mm co _ _ s v v out w0 w _ E HE.out H_1.out.go (H_1.out.take HN.out mm (by omega)) HG1.out).mono ?_;rintro e w2 ⟨T1,rfl,hT1,hX⟩;have HTA:=Hd hT1;clear hT1;have H_2:=Hd (H_1.out.ext hX);clear hX H_1;go_simp;refine oT hK ?_;clear hK KK;refine rdT 9 λ KK hK=>?_;go_simp;refine (zcm R B a most ff (co-mm) _ _ s v v out w0 w _ E HE.out H_2.out.go (HT2.out _ H_2.out) HG2.out).mono ?_;rintro e w3 ⟨T2,rfl,hT2,hX⟩;have HTB:=Hd hT2;have HTA2:=Hd (HTA.out.step (IStep.ext hX));clear hT2 HTA;have H_3:=Hd (H_2.out.ext hX);clear hX H_2;go_simp;refine oT hK ?_;clear hK KK;refine tk2 10 11 ?_;refine dnT ?_;have e0:=(zaj HE.out H_3.out.old).1;have HC:=Hd (H_3.out.cell HN.out 256 (by omega));have hc:=HC.out;obtain⟨z,hz⟩:=nmE (l.getD 256 0);rw[hz] at hc;have HZ:=Hd hz;have h256:(256:Int)<(n:Int):=by omega
          have n256:256<n:=by omega
          clear hz;go_wp2_with fail;by_cases hz0:z=0
          ·have t1:=dF (p:=(0:Int)<(z:Int));have n1:¬ 0<z:=by omega
           have HQ2:=Hd (Inf.zik HR2.out HQ.out HG1.out HG2.out (HZ.out.trans hz0));refine qaD 6 (by kernel_rfl) (by kernel_rfl) ?_;simp only[qao,qaH,qaw,qaS];repeat still_step
           refine qbB ?_;change wpList _ _ _ _ _ w3.drew;go_wp2_with fail;refine (zbf _ (E 0) _).mono ?_;rintro e _ ⟨rfl,rfl⟩;exact⟨rfl,zaJ HQ2.out (H_3.out.ext (qag (Ext.refl _))).old⟩
          have t1:=dT (p:=(0:Int)<(z:Int));have n1:0<z:=by omega
          have HQ2:=Hd (Inf.zli HR2.out HQ.out HG1.out HG2.out (by rw[HZ.out];exact hz0));refine qaD 6 (by kernel_rfl) (by kernel_rfl) ?_;simp only[qao,qaH,qaw,qaS];repeat still_step
          refine qbB ?_;change wpList _ _ _ _ _ w3.drew;go_wp2_with fail;refine (zaP _ _ _).mono ?_;rintro e _ ⟨rfl,rfl⟩;have HF:=Hd (H_3.out.ext (show Ext w3 w3.drew from qag (Ext.refl _)));have HTC:=Hd (HTA2.out.step (IStep.ext (show Ext w3 w3.drew from qag (Ext.refl _))));have HTD:=Hd (HTB.out.step (IStep.ext (show Ext w3 w3.drew from qag (Ext.refl _))));go_wp2_with fail;go_ret2;have e1:(l.take mm).length=mm:=by rw[qax,HN.out];omega
          have e2:(l.drop mm).length=ff:=by rw[qbh,HN.out];omega
          exact zm2 HQ2.out HF.out.go (by rw[e1];exact HTC.out) (by rw[e2];exact HTD.out)
         have HQ2:=Hd (Inf.zio HR2.out HQ.out hg1 hg2);have HG2:=Hd hg2;clear hg1 hg2;refine rgW λ w1 h=>?_;have H_1:=Hd (H_0.out.ext h);clear h H_0;refine tk5 0 1 2 3 5 ?_;refine tk3 6 7 8 ?_;refine rdT 4 λ KK hK=>?_;go_simp;refine (zcm R B a most mm co _ _ s v v out w0 w _ E HE.out H_1.out.go (H_1.out.take HN.out mm (by omega)) HG1.out).mono ?_;rintro e w2 ⟨T1,rfl,hT1,hX⟩;clear hT1;have H_2:=Hd (H_1.out.ext hX);clear hX H_1;go_simp;refine oT hK ?_;clear hK KK;refine rdT 9 λ KK hK=>?_;go_simp;refine (zeP R B a most ff (co-mm) _ _ s v v out w0 w _ E HE.out H_2.out.go (HT2.out _ H_2.out) (by unfold maxLen;omega) HG2.out).mono ?_;rintro e w9 ⟨rfl,h9⟩;exact⟨rfl,zaJ HQ2.out h9⟩
        have HQ2:=Hd (Inf.zhU HR2.out HQ.out hg1);have HG1:=Hd hg1;clear hg1;refine rgW λ w1 h=>?_;have H_1:=Hd (H_0.out.ext h);clear h H_0;refine tk5 0 1 2 3 5 ?_;refine tk3 6 7 8 ?_;refine rdT 4 λ KK hK=>?_;go_simp;refine (zeP R B a most mm co _ _ s v v out w0 w _ E HE.out H_1.out.go (H_1.out.take HN.out mm (by omega)) (by unfold maxLen;omega) HG1.out).mono ?_;rintro e w9 ⟨rfl,h9⟩;exact⟨rfl,zaJ HQ2.out h9⟩
       have hlt:n<W:=by omega
       have t1:=dT (p:=(n:Int)<(W:Int));have HNW:Hid (¬ W<=l.length):=Hd (by rw[HN.out];exact hle);clear hle;go_wp2_with fail;clear t1;cases hx:Inf.nxt s.data.toList f 19 a with
       | error c=>
        refine (ze7 R B T a c most 19 f s v v out w0 w _ E HE.out H_0.out.go (HT5.out.step H_0.out.st) hx).mono ?_;rintro e w9 ⟨rfl,h9⟩;exact⟨rfl,zaJ (Inf.zaV HR2.out (Inf.zj1 HF0.out HRL.out HNW.out hx)) h9⟩
       | ok p=>
        obtain⟨k,a1⟩:=p;have hal:=Inf.zbn hx;rw[zag] at hal;obtain⟨hal1,hal2,hk19⟩:=hal;have HX:=Hd hx;refine (zd8 R B T a k a1 most 19 f s v v out w0 w _ E HE.out H_0.out.go (HT5.out.step H_0.out.st) hx).mono ?_;clear hx;rintro e w1 ⟨rfl,hG,hS⟩;have H_1:=Hd (H_0.out.rd hG hS);clear H_0 hG hS;by_cases hk16:k=16
        ·subst hk16;have e0:=(zaj HE.out H_1.out.old).1;by_cases hn0:n=0
         ·have t2:=dF (p:=(0:Int)<(n:Int));have n2:¬ 0<n:=by omega
          have hl0:l=[]:=qav (by rw[HN.out];exact hn0);have HQ:=Hd (Inf.zaV HR2.out (Inf.zbs HF0.out HRL.out HNW.out HX.out (by rw[hl0];exact Inf.zgc)));clear hl0;exact Yeo2
         have t2:=dT (p:=(0:Int)<(n:Int));have n2:0<n:=by omega
         have HNE:Hid (l≠[]):=Hd (λ e=>by have:=HN.out;rw[e] at this;simp at this;omega);obtain⟨gb,cp,e1,_,_⟩:=zaw (by have h:=H_1.out.row;rw[HN.out] at h;exact h) n2;injection e1 with e1 _ e2;subst e1 e2;have HC:=Hd (H_1.out.cell HN.out (n-1) (by omega));obtain⟨la,hla⟩:=nmE (l.getD (n-1) 0);rw[hla] at HC;have HLA:Hid (l.getD (l.length-1) 0=la):=Hd (by rw[HN.out];exact hla);have hla18:la<=18:=by
          rw[<- hla];have:=(zdB H_1.out.bd (n-1)).2;unfold Inf.fn at this;omega
         clear hla;obtain⟨j,hj⟩:=nmE (n-1);rw[hj] at HC;have hjI:(n:Int)-1=(j:Int):=by omega
         have wj:=wqz (x:=(j:Int));have hj0:(0:Int)<=(j:Int):=by omega
         have hj1:(j:Int)<(n:Int):=by omega
         have hjn:j<n:=by omega
         have hjt:((j:Nat):Int).toNat=j:=by omega
         go_wp2_with fail;refine (zaP _ _ _).mono ?_;rintro e _ ⟨rfl,rfl⟩;clear t2 e0 n2 hn0;go_wp2_with fail;cases hg:Inf.get s.data.toList 2 a1 with
         | error c=>
          have HQ:=Hd (Inf.zaV HR2.out (Inf.zbs HF0.out HRL.out HNW.out HX.out (Inf.zj0 HNE.out hg)));have HG:=Hd hg;clear hg;refine qar (S:=λ w'=>w'.cell? ⟨gb,j,none⟩=some (.int .i64 (la:Int))) (by kernel_rfl) ((by have hcc:=(H_1.out).cell HN.out j hjn;have hla2:=HLA.out;rw[HN.out,show n-1=j by omega] at hla2;rw[hla2] at hcc;exact hcc)) (λ hHeld=>?_);clear hHeld;refine zab (λ wz=>Ext w1 wz) (show Ext w1 w1.drew from qag (Ext.refl w1)) ?_;rintro w2 h;have H_2:=Hd (H_1.out.ext h);clear h H_1;have hHeld:w2.cell? ⟨gb,j,none⟩=some (.int .i64 (la:Int)):=((by have hcc:=(H_2.out).cell HN.out j hjn;have hla2:=HLA.out;rw[HN.out,show n-1=j by omega] at hla2;rw[hla2] at hcc;exact hcc));refine tk5 0 3 4 5 6 ?_;refine tk2 7 8 ?_;refine rdH 1 rfl λ KK hK=>?_;clear hHeld;go_simp;refine (za6 R B a1 2 c most s v v out w0 w _ E HE.out H_2.out.go (by omega) HG.out).mono ?_;rintro e w9 ⟨rfl,h9⟩;exact⟨rfl,zaJ HQ.out h9⟩
         | ok p=>
          obtain⟨x,a2⟩:=p;obtain⟨z1,z2,z3,z4⟩:=Inf.zax hg;clear z4;rw[zag] at z2;have HG:=Hd hg;have HRP:=Hd (Inf.rep_16 HNE.out hg);rw[HLA.out] at HRP;clear hg;obtain⟨t,ht⟩:=nmE (3+x);rw[ht] at HRP;have htI:(3:Int)+(x:Int)=(t:Int):=by omega
          have htb:1<=t/\t<=138:=by omega
          have wt:=wqz (x:=(t:Int));clear ht z1 z2 z3;refine qar (S:=λ w'=>w'.cell? ⟨gb,j,none⟩=some (.int .i64 (la:Int))) (by kernel_rfl) ((by have hcc:=(H_1.out).cell HN.out j hjn;have hla2:=HLA.out;rw[HN.out,show n-1=j by omega] at hla2;rw[hla2] at hcc;exact hcc)) (λ hHeld=>?_);clear hHeld;refine zab (λ wz=>Ext w1 wz) (show Ext w1 w1.drew from qag (Ext.refl w1)) ?_;rintro w2 h;have H_2:=Hd (H_1.out.ext h);clear h H_1;have hHeld:w2.cell? ⟨gb,j,none⟩=some (.int .i64 (la:Int)):=((by have hcc:=(H_2.out).cell HN.out j hjn;have hla2:=HLA.out;rw[HN.out,show n-1=j by omega] at hla2;rw[hla2] at hcc;exact hcc));refine tk5 0 3 4 5 6 ?_;refine tk2 7 8 ?_;refine rdH 1 rfl λ KK hK=>?_;clear hHeld;go_simp;refine (zaS R B a1 2 x a2 most s v v out w0 w _ E HE.out H_2.out.go (by omega) HG.out).mono ?_;rintro e w3 ⟨rfl,hG,hS⟩;have H_3:=Hd (H_2.out.rd hG hS);clear H_2 hG hS;go_simp;refine oS hK ((by have hcc:=(H_3.out).cell HN.out j hjn;have hla2:=HLA.out;rw[HN.out,show n-1=j by omega] at hla2;rw[hla2] at hcc;exact hcc)) λ hHeld=>?_;clear hK KK;refine tk3 2 9 10 ?_;refine dnT ?_;clear hHeld;clear htI;have e0:=(zaj HE.out H_3.out.old).1;obtain⟨m,hm⟩:=nmE (n+t);have hmI:(n:Int)+(t:Int)=(m:Int):=by omega
          have wmm:=wqz (x:=(m:Int));by_cases hov:W<m
          ·have t9:=dF (p:=(m:Int)<=(W:Int));have n9:¬ m<=W:=by omega
           have HQ:=Hd (Inf.zaV HR2.out (Inf.zbU HF0.out HRL.out HNW.out HX.out HRP.out (by rw[HN.out];omega)));exact Yeo1
          have t9:=dT (p:=(m:Int)<=(W:Int));have n9:m<=W:=by omega
          have HQ:=Hd (Inf.zcK HF0.out HRL.out HNW.out HX.out HRP.out (by rw[HN.out];omega));go_wp2_with fail;refine (zaP _ _ _).mono ?_;rintro e _ ⟨rfl,rfl⟩;clear t9 e0 hov hmI;skip
          go_wp2_with fail;refine (zbS w3.heap.size t (la:Int) _ (by simp) (by omega) (by omega)).mono ?_;rintro e w4 ⟨⟨g',c',rfl,hCv,hg1,hg2⟩,hX⟩;have hX2:=Ext.trans ((Ext.refl w3).alloc _) hX;have HCv:=Hd hCv;clear hCv hX hg1 hg2;have H_4:=Hd (H_3.out.ext hX2);clear hX2 H_3;have HO:Hid (w4.ownsRow w5.heap.size 3 1 (.slice (some ⟨gb,0,none⟩) n co) n (intsV n (Inf.fn l))):=Hd (by have h:=H_4.out.row;rw[HN.out] at h;exact h);have hzz:w5.heap.size<=w4.heap.size:=H_4.out.st.keeps.size;go_wp2_with (at_builtin;refine apA HO.out (List.replicate t (.int .i64 (la:Int))) ?_ (hl:=?c1) (hnews:=?c2) (h1:=?c6))
          case c1=>simp
          case c2=>
           intro j u hj;exact Yeo3
          case c6=>intro u hu;rw[qb0 hu];rfl
          intro v' w8 hown hgrow _ _;have HG8:=Hd (H_4.out.grow (t:=t) HN.out hgrow (by rw[hm];exact hown) hla18);clear hown hgrow;go_wp2_with fail;obtain⟨F2,hF2,HR3⟩:=HQ.out;have HR4:=Hd HR3;have hll:(l++List.replicate t la).length=m:=by rw[qaa,qaT,HN.out,hm]
          have HK2:Hid (W-(l++List.replicate t la).length<F2/\W-m=W-(l++List.replicate t la).length/\(l++List.replicate t la).length<=W):=Hd (by rw[hll];have:=HK.out;rw[HN.out] at this;omega);exact Yeo6
        have t2:((k:Int) ==16)=false:=qak.2 (by omega);by_cases hk17:k=17
        ·subst hk17;go_wp2_with fail;cases hg:Inf.get s.data.toList 3 a1 with
         | error c=>
          refine (za6 R B a1 3 c most s v v out w0 w _ E HE.out H_1.out.go (by omega) hg).mono ?_;rintro e w9 ⟨rfl,h9⟩;exact⟨rfl,zaJ (Inf.zaV HR2.out (Inf.zbs HF0.out HRL.out HNW.out HX.out (Inf.zjl hg))) h9⟩
         | ok p=>
          obtain⟨x,a2⟩:=p;obtain⟨z1,z2,z3,z4⟩:=Inf.zax hg;clear z4;rw[zag] at z2;have HRP:=Hd (Inf.rep_17 (l:=l) hg);refine (zaS R B a1 3 x a2 most s v v out w0 w _ E HE.out H_1.out.go (by omega) hg).mono ?_;rintro e w2 ⟨rfl,hG,hS⟩;have H_2:=Hd (H_1.out.rd hG hS);clear H_1 hG hS;clear hg;obtain⟨t,ht⟩:=nmE (3+x);rw[ht] at HRP;have htI:(3:Int)+(x:Int)=(t:Int):=by omega
          exact Yeo4
        have t3:((k:Int) ==17)=false:=qak.2 (by omega);by_cases hk18:k=18
        ·subst hk18;go_wp2_with fail;cases hg:Inf.get s.data.toList 7 a1 with
         | error c=>
          refine (za6 R B a1 7 c most s v v out w0 w _ E HE.out H_1.out.go (by omega) hg).mono ?_;rintro e w9 ⟨rfl,h9⟩;exact⟨rfl,zaJ (Inf.zaV HR2.out (Inf.zbs HF0.out HRL.out HNW.out HX.out (Inf.zj9 hg))) h9⟩
         | ok p=>
          obtain⟨x,a2⟩:=p;obtain⟨z1,z2,z3,z4⟩:=Inf.zax hg;clear z4;rw[zag] at z2;have HRP:=Hd (Inf.rep_18 (l:=l) hg);refine (zaS R B a1 7 x a2 most s v v out w0 w _ E HE.out H_1.out.go (by omega) hg).mono ?_;rintro e w2 ⟨rfl,hG,hS⟩;have H_2:=Hd (H_1.out.rd hG hS);clear H_1 hG hS;clear hg;obtain⟨t,ht⟩:=nmE (11+x);rw[ht] at HRP;have htI:(11:Int)+(x:Int)=(t:Int):=by omega
          exact Yeo4
        have t4:((k:Int) ==18)=false:=qak.2 (by omega);have HRP:=Hd (Inf.zhG (L:=s.data.toList) (a:=a1) (l:=l) hk16 hk17 hk18);have hw18:k<=18:=by omega
        skip
        have htb:1<=(1:Nat)/\(1:Nat)<=138:=by omega
        have e0:=(zaj HE.out H_1.out.old).1;obtain⟨m,hm⟩:=nmE (n+1);have hmI:(n:Int)+1=(m:Int):=by omega
        have wmm:=wqz (x:=(m:Int));by_cases hov:W<m
        ·have t9:=dF (p:=(m:Int)<=(W:Int));have n9:¬ m<=W:=by omega
         have HQ:=Hd (Inf.zaV HR2.out (Inf.zbU HF0.out HRL.out HNW.out HX.out HRP.out (by rw[HN.out];omega)));exact Yeo2
        have t9:=dT (p:=(m:Int)<=(W:Int));have n9:m<=W:=by omega
        have HQ:=Hd (Inf.zcK HF0.out HRL.out HNW.out HX.out HRP.out (by rw[HN.out];omega));go_wp2_with fail;refine (zaP _ _ _).mono ?_;rintro e _ ⟨rfl,rfl⟩;clear t9 e0 hov hmI;skip
        go_wp2_with fail;refine (zbS w1.heap.size 1 (k:Int) _ (by simp) (by omega) (by omega)).mono ?_;rintro e w2 ⟨⟨g',c',rfl,hCv,hg1,hg2⟩,hX⟩;have hX2:=Ext.trans ((Ext.refl w1).alloc _) hX;have HCv:=Hd hCv;clear hCv hX hg1 hg2;have H_2:=Hd (H_1.out.ext hX2);clear hX2 H_1;have HO:Hid (w2.ownsRow w5.heap.size 3 1 (.slice xo n co) n (intsV n (Inf.fn l))):=Hd (by have h:=H_2.out.row;rw[HN.out] at h;exact h);have hzz:w5.heap.size<=w2.heap.size:=H_2.out.st.keeps.size;go_wp2_with (at_builtin;refine apA HO.out (List.replicate 1 (.int .i64 (k:Int))) ?_ (hl:=?c1) (hnews:=?c2) (h1:=?c6))
        case c1=>simp
        case c2=>
         intro j u hj;exact Yeo3
        case c6=>intro u hu;rw[qb0 hu];rfl
        intro v' w8 hown hgrow _ _;have HG8:=Hd (H_2.out.grow (t:=1) HN.out hgrow (by rw[hm];exact hown) hw18);clear hown hgrow;go_wp2_with fail;obtain⟨F2,hF2,HR3⟩:=HQ.out;have HR4:=Hd HR3;have hll:(l++List.replicate 1 k).length=m:=by rw[qaa,qaT,HN.out,hm]
        have HK2:Hid (W-(l++List.replicate 1 k).length<F2/\W-m=W-(l++List.replicate 1 k).length/\(l++List.replicate 1 k).length<=W):=Hd (by rw[hll];have:=HK.out;rw[HN.out] at this;omega);clear hll HR3;go_roundg (W-m)
        case measure=>have:=HK.out;rw[HN.out] at this;omega
        case rel=>exact⟨a1,_,F2,HG8,HR4,HK2⟩
     refine (zeP R B a most 19 19 _ f s v v out w0 w _ E HE.out H_0.out.go (H_0.out.ints HBD.out) (by decide) hgood).mono ?_;rintro e w9 ⟨rfl,h9⟩;exact⟨rfl,zaJ (Inf.zjH HR.out HRF.out hgood) h9⟩
end Go.Proofs.YthlibiocadimhaaGreatDoor
namespace Go.Proofs.YthlibiocadimhaaGreatDoor
open Go.RowKit
theorem Yeq0 {p:Prop} (h:p:=by
 rintro e w9 ⟨rfl,h9⟩;exact⟨rfl,zch (by have h:=HR.out;simp only[hg] at h;exact h) h9⟩):p:=h
theorem Yeq1 {p:Prop} (h:p:=by
 refine hP.mono ?_;intro e w9 h9;obtain⟨rfl,h8⟩:=h9.no hs;exact⟨rfl,zch (by have h:=HR.out;simp only[hs] at h;exact h) h8⟩):p:=h
theorem Yeq2 {p:Prop} (h:p:=by
 refine hP.mono ?_;intro e w9 h9;obtain⟨rfl,h8⟩:=h9.no (zm3 rfl);exact⟨rfl,zch HR.out h8⟩):p:=h
def BPost (w0 w:World) (R B:Nat) (s:ByteArray) (most:Nat) (v:Value) (E:Nat->Addr) (r:Except Nat (Nat × Nat × List UInt8 × Inf.Blk)) (e:Ending) (w':World):Prop:=
 match r with
 | .ok (last,a,out,_)=>e=.returned (.bool (decide (last=1)))/\∃v',IGo w0 w w' R B s a v v' out most
 | .error c=>e=zaR (E c)/\Ext w0 w'
section
variable {w0 w w1 w':World} {R B a c most last:Nat} {s:ByteArray} {v v':Value} {E:Nat->Addr} {out:List UInt8} {b:Inf.Blk} {r:Except Nat (Nat × Nat × List UInt8 × Inf.Blk)} {e:Ending}
theorem ze4 (hr:.ok (last,a,out,b)=r) (h:IGo w0 w w' R B s a v v' out most):BPost w0 w R B s most v E r (.returned (.bool (decide (last=1)))) w':=by
 subst hr;exact⟨rfl,v',h⟩
theorem zch (hr:.error c=r) (h:Ext w0 w'):BPost w0 w R B s most v E r (zaR (E c)) w':=by
 subst hr;exact⟨rfl,h⟩
theorem IPost.yes {r:Except Nat (Nat × List UInt8)} (h:IPost w0 w R B s most v E r e w') (hr:r=.ok (a,out)):e=.returned (.tuple #[])/\∃v',IGo w0 w w' R B s a v v' out most:=by subst hr;exact h
theorem IPost.no {r:Except Nat (Nat × List UInt8)} (h:IPost w0 w R B s most v E r e w') (hr:r=.error c):e=zaR (E c)/\Ext w0 w':=by subst hr;exact h
theorem DPost.yes {r:Except Nat (List Nat × List Nat × Nat)} {l d:List Nat} (h:DPost w0 w R B s most v out E r e w') (hr:r=.ok (l,d,a)):∃T U,e=.returned (.tuple #[.pointer (some ⟨T,0,none⟩),.pointer (some ⟨U,0,none⟩)])/\IGo w0 w w' R B s a v v out most/\Tr w' T (Inf.fn l) l.length R B v/\Tr w' U (Inf.fn d) d.length R B v:=by subst hr;exact h
theorem DPost.no {r:Except Nat (List Nat × List Nat × Nat)} (h:DPost w0 w R B s most v out E r e w') (hr:r=.error c):e=zaR (E c)/\Ext w0 w':=by subst hr;exact h
end
theorem zoM {r:Inf.TRes} {a:Nat} {out:List UInt8} {tr:List Inf.Ev} (h:r=.ok (a,out,tr)):Inf.pr r=.ok (a,out):=by subst h;rfl
theorem zm3 {r:Inf.TRes} {c:Nat} (h:r=.error c):Inf.pr r=.error c:=by subst h;rfl
set_option maxHeartbeats 4000000 in
theorem zks (R B a most:Nat) (s:ByteArray) (v:Value) (out:List UInt8) (w0 w:World) (E:Nat->Addr) (hE:Errs w0 E) (hTb:Tabs w0) (hI:ISt w0 w R B s a v out most) (hmost:most<=300000) (hsz:s.size<=300000) (hout:out.length<=most):
  Calls Tryz.prog 135 #[.pointer (some ⟨R,0,none⟩)] w λ e w'=>BPost w0 w R B s most v E (Inf.block s.data.toList most a out) e w':=by
 have HE:=Hd hE;have HTb:=Hd hTb;have H_0:Hid (IGo w0 w w R B s a v v out most):=Hd (IGo.start hI);have HLT:=Hd (IGo.start hI).lts;obtain⟨r,hr⟩:=nmE (Inf.block s.data.toList most a out);rw[hr];unfold Inf.block at hr;have HR:=Hd hr;clear hE hTb hI hr;have hmf:∀(fn:Fn) (first cap:Array Value) (w:World),(Instr.makeFunc fn first cap).run Tryz.prog w=.ok (.func fn first cap) w:=λ _ _ _ _=>rfl;go_enter Tryz.func135,Tryz.ntmps135
 go_wp2_with fail;refine zaM (λ wz=>Ext w wz/\Bk wz w.heap.size #[.pointer (some ⟨R,0,none⟩)]) ⟨(Ext.refl _).alloc _,Bk.at rfl⟩ ?_;rintro w1 ⟨h,hB⟩;have HB:Hid (BoxB w.heap.size (.pointer (some ⟨R,0,none⟩)) R B w1 v):=Hd ⟨hB,by have:=HLT.out;omega,by have:=HLT.out;omega,λ q=>by have:=HLT.out.2.2 _ q;omega⟩;clear hB;obtain⟨bb,hbb⟩:=nmE (w.heap.size);have HBB:=Hd hbb;rw[hbb] at HB⊢;clear hbb;have H_1:=Hd (H_0.out.ext h);clear h H_0;cases hg:Inf.get s.data.toList 1 a with
 | error c=>
  refine (za6 R B a 1 c most s v v out w0 w _ E HE.out H_1.out (by omega) hg).mono ?_;exact Yeq0
 | ok p=>
  obtain⟨last,a1⟩:=p;have HR1:=HR.out;simp only[hg] at HR1;clear HR;have HR:=Hd HR1;clear HR1;refine (zaS R B a 1 last a1 most s v v out w0 w _ E HE.out H_1.out (by omega) hg).mono ?_;rintro e w2 ⟨rfl,hG,hS⟩;have HB1:=Hd (HB.out.step (IStep.rd hS));clear HB;have HB:=HB1;clear HB1;have H_2:=Hd (hG);clear H_1 hG hS;have hl2:last<2:=(Inf.zax hg).2.2.1;clear hg;have b0:=HB.out.1.cell 0;obtain⟨lb,hlb⟩:∃lb,decide (last=1)=lb:=⟨_,rfl⟩;have hlb2:((last:Int) ==1)=lb:=by rw[<- hlb];rw[qbX];simp only[qbl,decide_eq_true_eq];omega
  have HLB:=Hd hlb;clear hlb;go_wp2_with fail;clear b0;cases hg:Inf.get s.data.toList 2 a1 with
  | error c=>
   refine (za6 R B a1 2 c most s v v out w0 w _ E HE.out H_2.out (by omega) hg).mono ?_;exact Yeq0
  | ok p=>
   obtain⟨kind,a2⟩:=p;have HR1:=HR.out;simp only[hg] at HR1;clear HR;have HR:=Hd HR1;clear HR1;refine (zaS R B a1 2 kind a2 most s v v out w0 w _ E HE.out H_2.out (by omega) hg).mono ?_;rintro e w3 ⟨rfl,hG,hS⟩;have HB1:=Hd (HB.out.step (IStep.rd hS));clear HB;have HB:=HB1;clear HB1;have H_3:=Hd (hG);clear H_2 hG hS;have hk4:kind<4:=(Inf.zax hg).2.2.1;clear hg hlb2;by_cases hk0:kind=0
   ·subst hk0;have HR1:=HR.out;simp only[qad] at HR1;clear HR;have HR:=Hd HR1;clear HR1;have b0:=HB.out.1.cell 0;go_wp2_with fail;clear b0;have hP:=ziY R B a2 most s v out w0 _ E HE.out H_3.out.st hmost hsz hout;cases hs:Inf.stored s.data.toList most a2 out with
    | error c=>
     exact Yeq1
    | ok q=>
     obtain⟨a3,out3⟩:=q;refine hP.mono ?_;intro e w9 h9;obtain⟨rfl,v',h9⟩:=h9.yes hs;have HRR:Hid (.ok (last,a3,out3,⟨0,[],[],[]⟩)=r):=Hd (by have h:=HR.out;simp only[hs] at h;exact h);have HF:=Hd (H_3.out.trans h9);clear hP hs h9;go_wp2_with fail;go_ret;rw[<- HLB.out];exact ze4 HRR.out HF.out
   have t0:((kind:Int) ==0)=false:=qak.2 (by omega);by_cases hk1:kind=1
   ·subst hk1;have HR1:=HR.out;rw[qac hk0,qad rfl] at HR1;clear HR;have HR:=Hd HR1;clear HR1 t0;go_wp2_with fail;obtain⟨tr0,htr0⟩:=nmE (Inf.toks s.data.toList most Inf.fixF 288 Inf.fiveF 32 (8*s.data.toList.length+1) a2 out []);rw[htr0] at HR;have HT0:=Hd htr0;clear htr0;have Y_3:=Hd (Ext.refl w3);refine qar (S:=λ w'=>w'.cell? ⟨bb,0,none⟩=some (.pointer (some ⟨R,0,none⟩))) (by kernel_rfl) ((zai Y_3.out (HB.out.1.cell 0))) (λ hHeld=>?_);clear hHeld;refine zab (λ wz=>Ext w3 wz) (show Ext w3 w3.drew from qag (Ext.refl w3)) ?_;rintro w4 h;have H_4:=Hd (H_3.out.ext h);have Y_4:=Hd (Y_3.out.trans h);clear h H_3 Y_3;have hHeld:w4.cell? ⟨bb,0,none⟩=some (.pointer (some ⟨R,0,none⟩)):=((zai Y_4.out (HB.out.1.cell 0)));refine tk3 0 1 4 ?_;refine rdH 2 rfl λ KK hK=>?_;clear hHeld;go_simp;refine (zgO _).mono ?_;rintro e w5 ⟨⟨xf,cf,rfl,hI,_⟩,h⟩;have HI:=Hd hI;clear hI;have H_5:=Hd (H_4.out.ext h);have Y_5:=Hd (Y_4.out.trans h);clear h H_4 Y_4;go_simp;refine oS hK ((zai Y_5.out (HB.out.1.cell 0))) λ hHeld=>?_;clear hK KK;refine rdH 3 rfl λ KK hK=>?_;clear hHeld;go_simp;refine (zcm R B a2 most 288 cf xf _ s v v out w0 w _ E HE.out H_5.out HI.out Inf.zbr).mono ?_;rintro e w6 ⟨T,rfl,hT,h⟩;have HTr:=Hd hT;clear hT HI;have H_6:=Hd (H_5.out.ext h);have Y_6:=Hd (Y_5.out.trans h);clear h H_5 Y_5;go_simp;refine oS hK ((zai Y_6.out (HB.out.1.cell 0))) λ hHeld=>?_
    clear hK KK;refine rdH 5 rfl λ KK hK=>?_;clear hHeld;go_simp;have hP:=zeD _ _ _ R B T a2 most 288 32 (8*s.data.toList.length+1) Inf.fixF Inf.fiveF s v out [] w0 w6 E HE.out HTb.out (Dist.five bb R B most s w0 E HE.out) H_6.out.st HTr.out (HB.out.step (IStep.ext Y_6.out)) (by rw[zag];omega) hmost hsz hout;rw[HT0.out] at hP;cases tr0 with
    | error c=>
     exact Yeq2
    | ok q=>
     obtain⟨a3,out3,tr⟩:=q;refine hP.mono ?_;intro e w7 h9;obtain⟨rfl,v',h9⟩:=h9.yes (zoM rfl);have HF:=Hd (H_6.out.trans h9);clear hP;go_simp;refine hK.out _ _ ?hS (λ hHeld=>?_)
     case hS=>exact ((HB.out.step (IStep.ext Y_6.out)).step h9.step).1.cell 0
     clear hK KK h9;(try simp only[Act.put,xz]);refine dnT ?_;clear hHeld;go_wp2_with fail;go_ret;rw[<- HLB.out];exact ze4 HR.out HF.out
   have t1:((kind:Int) ==1)=false:=qak.2 (by omega);by_cases hk2:kind=2
   ·subst hk2;have HR1:=HR.out;rw[qac hk0,qac hk1,qad rfl] at HR1;clear HR;have HR:=Hd HR1;clear HR1 t0 t1;have b0:=HB.out.1.cell 0;go_wp2_with fail;clear b0;have hP:=zhD R B a2 most s v out w0 _ E HE.out HTb.out H_3.out.st;cases hs:Inf.dyn s.data.toList a2 with
    | error c=>
     exact Yeq1
    | ok q=>
     obtain⟨l,dd,a3⟩:=q;have HR1:=HR.out;simp only[hs] at HR1;clear HR;have HR:=Hd HR1;clear HR1;obtain⟨tr0,htr0⟩:=nmE (Inf.toks s.data.toList most (Inf.fn l) l.length (Inf.fn dd) dd.length (8*s.data.toList.length+1) a3 out []);rw[htr0] at HR;have HT0:=Hd htr0;clear htr0;refine hP.mono ?_;intro e w4 h9;obtain⟨T,U,rfl,h9,hT,hU⟩:=h9.yes hs;have hH:=H_3.out.trans h9;have HB1:=Hd (HB.out.step h9.step);clear HB;have HB:=HB1;have HT:=Hd hT;have HU:=Hd hU;have H_4:=Hd hH;have HLT3:=Hd hH.lts;clear HB1 hT hU h9 hH hP hs H_3;have b0:=HB.out.1.cell 0;have b1:∀o:Obj,(w4.alloc o).cell? ⟨bb,0,none⟩=some (.pointer (some ⟨R,0,none⟩)):=λ o=>zai ((Ext.refl w4).alloc o) (HB.out.1.cell 0);go_wp2_with fail;clear b0 b1;refine zaM (λ wz=>Ext w4 wz/\Bk wz w4.heap.size #[.pointer (some ⟨U,0,none⟩)]) ⟨(Ext.refl _).alloc _,Bk.at rfl⟩ ?_;rintro w5 ⟨h,hB2⟩;have HB2:Hid (BoxB w4.heap.size (.pointer (some ⟨U,0,none⟩)) R B w5 v):=Hd ⟨hB2,by have:=HLT3.out;omega,by have:=HLT3.out;omega,λ q=>by have:=HLT3.out.2.2 _ q;omega⟩;have HBx:=Hd (HB.out.step (IStep.ext h));have HTx:=Hd (HT.out.step (IStep.ext h));have HUx:=Hd (HU.out.step (IStep.ext h));clear hB2 HB HT HU;have H_5:=Hd (H_4.out.ext h);clear h H_4;have hP:=zeD _ _ _ R B T a3 most l.length dd.length (8*s.data.toList.length+1) (Inf.fn l) (Inf.fn dd) s v out [] w0 w5 E HE.out HTb.out (Dist.far bb w4.heap.size U R B most dd.length (Inf.fn dd) s w0 E HE.out) H_5.out.st HTx.out ⟨HBx.out,HB2.out,HUx.out⟩ (by rw[zag];omega) hmost hsz hout
     rw[HT0.out] at hP;cases tr0 with
     | error c=>
      exact Yeq2
     | ok q=>
      obtain⟨a4,out4,tr⟩:=q;refine hP.mono ?_;intro e w9 h9;obtain⟨rfl,v',h8⟩:=h9.yes (zoM rfl);have HF:=Hd (H_5.out.trans h8);clear hP h9 h8;go_wp2_with fail;go_ret;rw[<- HLB.out];exact ze4 HR.out HF.out
   have t2:((kind:Int) ==2)=false:=qak.2 (by omega);have HR1:=HR.out;rw[qac hk0,qac hk1,qac hk2] at HR1;have e0:=(zaj HE.out H_3.out.old).1;go_wp2_with fail;exact⟨rfl,zch HR1 H_3.out.old⟩
end Go.Proofs.YthlibiocadimhaaGreatDoor
