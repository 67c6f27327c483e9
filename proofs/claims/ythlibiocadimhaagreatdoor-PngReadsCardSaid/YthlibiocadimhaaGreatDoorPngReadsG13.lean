/-
  The document's ChunksOf.
-/
import Derived.Test.YthlibiocadimhaaGreatDoorPngReadsG11
set_option linter.all false
set_option maxRecDepth 100000
namespace Go.Proofs.YthlibiocadimhaaGreatDoor
open Go.RowKit
theorem Ygd0 {p:Prop} (h:p:=by
 have r0:=(HB1.out.ext HW.out).cell 0;have s0:=(HB1.out.ext HW.out).frozen 0;have r1:=(HB1.out.ext HW.out).cell 1;have s1:=(HB1.out.ext HW.out).frozen 1;have FS:=Hd (zdq (x':=.int .i64 1) (y':=.int .i64 (pos:Int)) (HX1.out.trans HW.out) (qcx HF_.out) (HB1.out.ext HW.out));go_wp2_with fail;obtain⟨u0,u1⟩:_/\_:=⟨FS.out.2.cell 0,FS.out.2.cell 1⟩;exact qaZ (v:=.tuple #[.slice none 0 0,.agg #[.int .i64 1,.int .i64 (pos:Int)]]) (by simp[results,Tryz.results14,go_sem,u0,u1]) rfl ⟨FS.out.1,.inr ⟨0,pos,by decide,HBB.out,rfl⟩⟩):p:=h
def zpo (w w':World) (r:PRes) (e:Ending):Prop:=
 Ext w w'/\((∃L x c,r=.ok L/\e=.returned (.tuple #[.slice x L.length c,.agg #[.int .i64 0,.int .i64 (-1)]])/\Cks w' x L/\L.length<=c)\/(∃c i:Nat,c<9/\r=.bad c i/\e=.returned (.tuple #[.slice none 0 0,.agg #[.int .i64 ((c:Int)+1),.int .i64 (i:Int)]])))
theorem zqS {w:World} {B:Nat} {e:TypeId} {s:Nat} {x:Option Addr} {n c:Nat} {xs:List Value} (h:w.ownsRow B e s (.slice x n c) n xs):n<=c:=by
 rcases h.2 with⟨hv,h0⟩ | ⟨g,cap,cur,hv,_,hh,hc,_⟩
 ·injection hv with _ _ h3;omega
 injection hv with _ _ h3;omega
theorem zqJ:(Tryz.prog.info? 45).map (λ i=>(i.zero,i.size,i.bytes))=some (some (.agg #[.string ⟨#[]⟩,.string ⟨#[]⟩]),2,32):=by kernel_rfl
def Rv (B:Nat) (w:World) (v:Value) (n:Nat) (L:List Ck):Prop:=w.ownsRow B 45 2 v n (ckL L)
theorem Rv.ext {B:Nat} {w w':World} {v:Value} {n:Nat} {L:List Ck} (h:Rv B w v n L) (hE:Ext w w'):Rv B w' v n L:=zaa (S:=λ _=>False) h hE.keeps (λ _ _=>id)
theorem zoF {w0 wr w1:World} {B:Nat} {v v':Value} {L:List Ck} {k d:ByteArray} {T:TypeId} (hE:Ext w0 wr) (hB:w0.heap.size<=B) (hR:wr.ownsRow B T 2 v L.length (ckL L)) (hg:wr.grownBy w1 v.ownBlock)
  (ho:w1.ownsRow B T 2 v' (L.length+1) (ckL L ++ [.string k,.string d])):w1.ownsRow B T 2 v' (L ++ [(⟨k,d⟩:Ck)]).length (ckL (L ++ [(⟨k,d⟩:Ck)]))/\Ext w0 w1/\Keeps (λ i=>B<=i) wr w1:=by
 have hlt:∀k,v.ownBlock=some k->B<=k:=λ k e=>(hR.lt k e).1;refine⟨?_,Below.trans hE ((Keeps.grown hg).below hE.size (λ k hk e=>by have:=hlt k e;omega)),(Keeps.grown hg).mono (λ i _ e=>hlt i e)⟩;rw[zdW,qaa];exact ho
theorem zo1 {w w':World} {B F:Nat} {e:TypeId} {v:Value} {L:List Ck} (h:w.ownsRow B e 2 v L.length (ckL L)) (hF:F<B) (hw:∀k,k<w.heap.size->k≠F->w'.heap[k]? =w.heap[k]?):∃x c,v=.slice x L.length c/\Cks w' x L:=by
 obtain⟨x,c,hv,hC⟩:=Cks.of_own h;refine⟨x,c,hv,hC.1,λ a ha i q hi=>?_⟩;obtain⟨c0,c1⟩:=hC.2 a ha i q hi;have hl:(a.add (i*2)).block<w.heap.size:=qab w _ c0;have hb:(a.add (i*2)).block=a.block:=by unfold Addr.add;split <;> rfl
 have hg:B<=a.block:=by
  rcases zah h with⟨q,_⟩ | ⟨g,cap,q⟩
  ·rw[hv,ha] at q;cases q
  rw[hv,ha] at q;have:a=⟨g,0,none⟩:=by injection q with q _ _;injection q
  subst this;exact (h.lt g (by rw[hv,ha];rfl)).1
 have hne:(a.add (i*2)).block≠F:=by rw[hb];omega
 exact⟨(World.cell?_of_block (a:=a.add (i*2)) (hw _ hl hne)).trans c0,(World.cell?_of_block (a:=⟨_,_,none⟩) (hw _ hl hne)).trans c1⟩
theorem zm4 (w:World) (F:Nat) (x y:Value):∀k,k<w.heap.size->k≠F->((w.setCell ⟨F,0,none⟩ x).setCell ⟨F,1,none⟩ y).heap[k]? =w.heap[k]?:=by
 intro k _ hk;rw[qcv _ _ _ _ (λ e=>hk e),qcv _ _ _ _ (λ e=>hk e)]
theorem zf9 (s:ByteArray) (n:Nat):(s.extract 0 n).data.toList=s.data.toList.take n:=by rw[qb4,qca];simp
theorem zfj {s:ByteArray} {p a b:Nat} (h:p+b<=s.size):(s.extract p s.size).extract a b=s.extract (p+a) (p+b):=by rw[ByteArray.extract_extract,qcf h]
set_option maxHeartbeats 4000000 in
theorem zif (s:ByteArray) (w:World) (hs:s.size<=300000):
  Calls Tryz.prog 14 #[.string s] w λ e w'=>zpo w w' (readL s) e:=by
 obtain⟨i0,hi0,hz0,hz1,hz2⟩:=qbb zqJ;have tm:=dF (p:=(300000:Int)<(s.size:Int));go_enter Tryz.func14,Tryz.ntmps14
 have mixed: Tryz.prog.follows .mixedOrders=true:=by kernel_rfl
 by_cases q8:s.size<8
 ·have t8:=dT (p:=(s.size:Int)<8);have HBB:Hid (readL s=.bad 0 0):=Hd (by
    unfold readL;rw[qac];intro q;have:=congrArg List.length q;rw[qax] at this;have e1:s.data.toList.length=s.size:=rfl;have e2:sigB.length=8:=rfl;omega)
  go_wp2_with fail;refine zac (λ wz=>Ext w wz/\Bk wz w.heap.size #[.int .i64 0,.int .i64 0]/\w.heap.size<wz.heap.size) ⟨(Ext.refl _).alloc _,Bk.at rfl,by simp⟩ ?_;rintro w1 ⟨hX,hB,hZ⟩;obtain⟨F,hF0⟩:=nmE (w.heap.size);have HF_:=Hd hF0;rw[hF0] at hB hZ⊢;clear hF0;have HX1:=Hd hX;have HB1:=Hd hB;have HZ:=Hd hZ;clear hX hB hZ;go_region;all_goals
   have hdE:Ext w1 w1.drew:=qag (Ext.refl w1);generalize w1.drew=wd at hdE⊢;have r0:=(HB1.out.ext hdE).cell 0;have s0:=(HB1.out.ext hdE).frozen 0;have r1:=(HB1.out.ext hdE).cell 1;have s1:=(HB1.out.ext hdE).frozen 1;have FS:=Hd (zdq (x':=.int .i64 1) (y':=.int .i64 0) (HX1.out.trans hdE) (qcx HF_.out) (HB1.out.ext hdE));go_wp2_with fail;obtain⟨u0,u1⟩:_/\_:=⟨FS.out.2.cell 0,FS.out.2.cell 1⟩;exact qaZ (v:=.tuple #[.slice none 0 0,.agg #[.int .i64 1,.int .i64 0]]) (by simp[results,Tryz.results14,go_sem,u0,u1]) rfl ⟨FS.out.1,.inr ⟨0,0,by decide,HBB.out,rfl⟩⟩
 have t8:=dF (p:=(s.size:Int)<8);have h88:(8:Int)<=(s.size:Int):=by omega
 obtain⟨S8,hS8⟩:=nmE (s.extract 0 8);have HS8:Hid (S8.data.toList=s.data.toList.take 8):=Hd (by rw[<- hS8,zf9]);obtain⟨SG,hSG⟩:∃b:ByteArray,b=⟨sigB.toArray⟩:=⟨_,rfl⟩;have hsg:=λ w=>zpV w;rw[<- hSG] at hsg;have HSG:=Hd hsg;have HSGL:Hid (SG.data.toList=sigB):=Hd (by rw[hSG]);clear hsg hSG;go_wp2_with fail;refine zac (λ wz=>Ext w wz/\Bk wz w.heap.size #[.int .i64 0,.int .i64 0]/\w.heap.size<wz.heap.size) ⟨(Ext.refl _).alloc _,Bk.at rfl,by simp⟩ ?_;rintro w1 ⟨hX,hB,hZ⟩;obtain⟨F,hF0⟩:=nmE (w.heap.size);have HF_:=Hd hF0;rw[hF0] at hB hZ⊢;clear hF0;have HX1:=Hd hX;have HB1:=Hd hB;have HZ:=Hd hZ;clear hX hB hZ;have X_1:=Hd (Ext.refl w1);refine rgT ?_;refine anyHw (λ wz=>Ext w1 wz) (show Ext w1 w1.drew from qag (Ext.refl w1)) ?_;rintro w2 h;have X_2:=Hd (X_1.out.trans h);clear h X_1;refine tk5 0 1 2 3 4 ?_;refine tkH 5 ?_;refine rdT 6 λ KK hK=>?_;go_simp;refine (HSG.out _).mono ?_;rintro e w3 ⟨rfl,h⟩;have X_3:=Hd (X_2.out.trans h);clear h X_2;go_simp;refine oT hK ?_;clear hK KK;refine tk2 7 8 ?_;refine dnT ?_;by_cases qp:s.data.toList.take 8=sigB
 ·have hne:(S8.toList ==SG.toList)=true:=by rw[qbp,qbp,HS8.out,HSGL.out,qp];exact beq_self_eq_true _
  rw[hne];simp only[Bool.not_true];clear hne;have hP0:parse s (s.size+1) 8 []=readL s:=by unfold readL;rw[qad qp]
  have HP0:=Hd hP0;clear hP0 qp;have HX2:=X_3;go_wp2_with fail;go_loopw [4,5] (λ v q wr=>∃(pos f:Nat) (acc:List Ck),q=.int .i64 pos/\pos<=s.size/\acc.length<=pos/\Hid (s.size-pos<f)/\Hid (parse s f pos acc=readL s)/\Hid (Rv w1.heap.size wr v (acc).length (acc))/\Hid (Ext w1 wr)) (λ _ q _=>s.size-(intOf q).toNat)
  case atStart=>exact⟨8,s.size+1,[],rfl,by omega,by simp,Hd (by omega),HP0,Hd (qaK _ _ _ _),HX2⟩
  case round=>
   clear HP0 HX2 X_3;obtain⟨pos,f,acc,rfl,hpos,hacc,HF,HP,HR,HW⟩:=hrel;by_cases hlt:pos<s.size
   ·obtain⟨vx,vc,rfl⟩:=zhg HR.out;obtain⟨al,hal⟩:=nmE (acc.length);rw[hal] at HR hacc;have HAL:=Hd hal;rw[hal];clear hal;have hTs:=zjO hpos;obtain⟨T,hT⟩:=nmE (s.extract pos s.size);rw[hT] at hTs;have HTS:=Hd hTs;have hTb:T.size=s.size-pos:=by omega
    have HTb:=Hd hTb;clear hTs;have HBad:=Hd (λ c (h:pstep T=.bad c)=>HP.out.symm.trans (zgo hlt HF.out hT h));have HNx:=Hd (λ n c (h:pstep T=.next n c)=>zdR (acc:=acc) hlt HF.out hT h);by_cases q12:T.size<12
    ·have t1:=dT (p:=(s.size:Int)<(pos:Int)+12);have HBB:=Hd (HBad.out 0 (zeE q12));clear HBad HNx HP HF HR;exact Ygd0
    have t1:=dF (p:=(s.size:Int)<(pos:Int)+12);have Q12:=Hd q12;obtain⟨T4,h4⟩:=nmE (T.extract 0 4);obtain⟨n,hn⟩:=nmE (valN T4.data.toList);have hnl:n<4294967296:=by rw[<- hn];exact zca _
    have hva:=λ w=>zcu T w (by unfold maxLen;omega) (by omega);rw[<- zf9,h4,hn] at hva;have HVA:=Hd hva;clear hva;have H4:=Hd h4;have HN:=Hd hn;clear hn h4;have hw64:IntKind.i64.wrap ((n:Int))=(n:Int):=by unfold IntKind.wrap;simp[IntKind.bits,IntKind.signed];omega
    by_cases qn:T.size-12<n
    ·have t2:=dT (p:=(s.size:Int)<(pos:Int)+12+(n:Int));have HBB:=Hd (HBad.out 0 (zfo Q12.out H4.out HN.out qn));clear HBad HNx HP HF HR;go_wp2_with fail;refine (HVA.out _).mono ?_;rintro e w9 ⟨rfl,rfl⟩;exact Ygd0
    have t2:=dF (p:=(s.size:Int)<(pos:Int)+12+(n:Int));have QN:=Hd qn;have hpn:pos+12+n<=s.size:=by omega
    obtain⟨K,hK⟩:=nmE (T.extract 4 8);have HIK:=Hd (λ w=>ziQ K w);have HK:=Hd hK;have eK:s.extract (pos+4) (pos+8)=K:=by rw[<- hK,<- hT,zfj (by omega)]
    have c1:(0:Int)<=(pos:Int)+4:=by omega
    have c2:(pos:Int)+4<=(pos:Int)+8:=by omega
    have c3:(pos:Int)+8<=(s.size:Int):=by omega
    have c4:(0:Int)<=(pos:Int)+8:=by omega
    have m1:((pos:Int)+4).toNat=pos+4:=by omega
    have m2:((pos:Int)+8).toNat=pos+8:=by omega
    by_cases qk:kindB K.data.toList=true
    ·have QK:=Hd qk;clear qk;obtain⟨B,hB⟩:=nmE (T.extract (8+n) (12+n));obtain⟨A,hA⟩:=nmE (T.extract 4 (8+n));obtain⟨D,hD⟩:=nmE (T.extract 8 (8+n));obtain⟨B2,hB2⟩:=nmE (s.extract (pos+8+n) s.size);obtain⟨u,hu⟩:=nmE (valN B.data.toList);obtain⟨v,hv⟩:=nmE (Crc.crc A.data.toList);have hB2s:B2.size=s.size-(pos+8+n):=by rw[<- hB2,qau];omega
     have hvb:=λ w=>zcu B2 w (by unfold maxLen;omega) (by omega);have hBB:B2.extract 0 4=B:=by rw[<- hB2,<- hB,<- hT,zfj (by omega),zfj (by omega)];congr 1 <;> omega
     rw[<- zf9,hBB,hu] at hvb;have HVB:=Hd hvb;have hcr:=λ w=>zkX A w (by rw[<- hA,qau];unfold maxLen;omega);rw[hv] at hcr;have HCR:=Hd hcr;have eA:s.extract (pos+4) (pos+8+n)=A:=by rw[<- hA,<- hT,zfj (by omega)];congr 1;omega
     have eD:s.extract (pos+8) (pos+8+n)=D:=by rw[<- hD,<- hT,zfj (by omega)];congr 1;omega
     have HBX:=Hd hB;have HA:=Hd hA;have HD:=Hd hD;have HU:=Hd hu;have HV:=Hd hv;clear hvb hcr hu hv hB hA hD hBB hB2s;have b1:(pos:Int)+8+(n:Int)<=(s.size:Int):=by omega
     have b2:(0:Int)<=(pos:Int)+8+(n:Int):=by omega
     have b3:(pos:Int)+4<=(pos:Int)+8+(n:Int):=by omega
     have b4:(pos:Int)+8<=(pos:Int)+8+(n:Int):=by omega
     have m3:((pos:Int)+8+(n:Int)).toNat=pos+8+n:=by omega
     have w4:IntKind.i64.wrap ((pos:Int)+4)=(pos:Int)+4:=by unfold IntKind.wrap;simp[IntKind.bits,IntKind.signed];omega
     have w8:IntKind.i64.wrap ((pos:Int)+8)=(pos:Int)+8:=by unfold IntKind.wrap;simp[IntKind.bits,IntKind.signed];omega
     have w8n:IntKind.i64.wrap ((pos:Int)+8+(n:Int))=(pos:Int)+8+(n:Int):=by unfold IntKind.wrap;simp[IntKind.bits,IntKind.signed];omega
     go_wp2_with fail;refine (HVA.out _).mono ?_;rintro e w9 ⟨rfl,rfl⟩;go_wp2_with fail;refine (HIK.out _).mono ?_;rintro e w9 ⟨rfl,rfl⟩;rw[QK.out];go_wp2_with fail;have X_20:=HW;have R_20:=HR;clear HW HR;refine rgT ?_;refine anyHw (λ wz=>Ext wr wz) (show Ext wr wr.drew from qag (Ext.refl wr)) ?_;rintro w21 h;have X_21:=Hd (X_20.out.trans h);have R_21:=Hd (R_20.out.ext h);clear h X_20 R_20;refine tk5 0 1 2 3 4 ?_;refine tk5 5 7 8 9 10 ?_;refine tk4 11 12 13 14 ?_;refine rdT 6 λ KK hK=>?_;go_simp;refine (HVB.out _).mono ?_;rintro e w9 ⟨rfl,rfl⟩;go_simp;refine oT hK ?_;clear hK KK;refine rdT 15 λ KK hK=>?_;go_simp;refine (HCR.out _).mono ?_;rintro e w9 ⟨rfl,rfl⟩;go_simp;refine oT hK ?_;clear hK KK;refine tkH 16 ?_;refine dnT ?_;by_cases qs:u≠v
     ·have t3:((u:Int) !=(v:Int))=true:=by rw[qce];omega
      have HBB:=Hd (HBad.out 3 (zgQ Q12.out H4.out HN.out QN.out HK.out QK.out HBX.out HA.out HU.out HV.out qs));clear HBad HNx HP HF R_21;have r0:=(HB1.out.ext X_21.out).cell 0;have s0:=(HB1.out.ext X_21.out).frozen 0;have r1:=(HB1.out.ext X_21.out).cell 1;have s1:=(HB1.out.ext X_21.out).frozen 1;have FS:=Hd (zdq (x':=.int .i64 4) (y':=.int .i64 (pos:Int)) (HX1.out.trans X_21.out) (qcx HF_.out) (HB1.out.ext X_21.out));go_wp2_with fail;obtain⟨u0,u1⟩:_/\_:=⟨FS.out.2.cell 0,FS.out.2.cell 1⟩;exact qaZ (v:=.tuple #[.slice none 0 0,.agg #[.int .i64 4,.int .i64 (pos:Int)]]) (by simp[results,Tryz.results14,go_sem,u0,u1]) rfl ⟨FS.out.1,.inr ⟨3,pos,by decide,HBB.out,rfl⟩⟩
     have t3:((u:Int) !=(v:Int))=false:=by obtain rfl:u=v:=Classical.not_not.1 qs;exact bne_self_eq_false _
     obtain⟨f2,hf2,hp2⟩:=HNx.out n ⟨K,D⟩ (zdC Q12.out H4.out HN.out QN.out HK.out QK.out HBX.out HA.out HD.out HU.out HV.out qs);have HF2:=Hd hf2;have HP2:=Hd (hp2.symm.trans HP.out);clear hf2 hp2 HBad HNx HP HF;go_wp2_with fail;have HRd:Hid (w21.drew.ownsRow w1.heap.size 45 2 (.slice vx al vc) al (ckL acc)):=R_21;refine rgT ?_;refine tk5 0 1 2 3 4 ?_;refine tk5 5 6 7 8 9 ?_;refine tk5 10 11 12 13 14 ?_;refine tkH 15 ?_;refine rdT 16 λ KK hK=>?_;go_simp;refine oT hK ?_;clear hK KK;refine rdT 17 λ KK hK=>?_;refine apL (HRd.out.alloc _) [.string K,.string D] ?_ (hnews:=(zje _ _ _ _)) (hbase:=(by have:=X_21.out.size;simp;omega));intro g1 cap1 w7 hown1 hgrow1 hat1 hlt1;have P1:=zoF (w0:=w1) (B:=w1.heap.size) (L:=acc) (k:=K) (d:=D) ((show Ext w1 w21.drew from qag X_21.out).alloc _) (qaj _) (by rw[HAL.out];exact HRd.out.alloc _) hgrow1 (by rw[HAL.out];exact hown1);rw[qaa,HAL.out] at P1;have HR7:=Hd P1.1;have HX7:=Hd P1.2.1;clear hown1 hgrow1 hat1 hlt1 P1;refine oT hK ?_;clear hK KK;refine tkH 18 ?_;refine dnT ?_;go_wp2_with fail;go_roundw
     case rel=>exact⟨pos+12+n,f2,acc ++ [⟨K,D⟩],by go_num,by have:=HTS.out;omega,by rw[qaa,HAL.out];simp;omega,HF2,HP2,Hd (by rw[qaa,HAL.out];exact HR7.out),HX7⟩
     case measure=>simp[intOf];have:=HTS.out;omega
    have qk':kindB K.data.toList=false:=by simpa using qk
    have HBB:=Hd (HBad.out 0 (zfy Q12.out H4.out HN.out QN.out HK.out qk'));clear HBad HNx HP HF qk HR;go_wp2_with fail;refine (HVA.out _).mono ?_;rintro e w9 ⟨rfl,rfl⟩;go_wp2_with fail;refine (HIK.out _).mono ?_;rintro e w9 ⟨rfl,rfl⟩;rw[qk'];clear qk';exact Ygd0
   obtain rfl:pos=s.size:=by omega
   have HL:Hid (readL s=.ok acc):=Hd (by rw[<- HP.out,zel (qaj _)]);go_wp2_with fail;refine (zhl _).mono ?_;rintro e w3 ⟨rfl,h3⟩;have HW3:=Hd (HW.out.trans h3);have HB3:=Hd (HB1.out.ext HW3.out);have HR3:=Hd (HR.out.ext h3);clear h3;have r0:=HB3.out.cell 0;have s0:=HB3.out.frozen 0;have r1:=HB3.out.cell 1;have s1:=HB3.out.frozen 1;have FS:=Hd (zdq (x':=.int .i64 0) (y':=.int .i64 (-1)) (HX1.out.trans HW3.out) (qcx HF_.out) HB3.out);obtain⟨x,c,rfl,hC⟩:=zo1 HR3.out HZ.out (zm4 _ F (.int .i64 0) (.int .i64 (-1)));have HC:=Hd hC;clear hC;go_wp2_with fail;obtain⟨u0,u1⟩:_/\_:=⟨FS.out.2.cell 0,FS.out.2.cell 1⟩;exact qaZ (v:=.tuple #[.slice x acc.length c,.agg #[.int .i64 0,.int .i64 (-1)]]) (by simp[results,Tryz.results14,go_sem,u0,u1]) rfl ⟨FS.out.1,.inl ⟨acc,x,c,HL.out,rfl,HC.out,zqS HR3.out⟩⟩
 have hne:(S8.toList ==SG.toList)=false:=by rw[qbp,qbp,HS8.out,HSGL.out];exact qak.2 qp
 have HBB:Hid (readL s=.bad 0 0):=Hd (by unfold readL;rw[qac qp]);clear qp;rw[hne];simp only[Bool.not_false];clear hne;have r0:=(HB1.out.ext X_3.out).cell 0;have s0:=(HB1.out.ext X_3.out).frozen 0;have r1:=(HB1.out.ext X_3.out).cell 1;have s1:=(HB1.out.ext X_3.out).frozen 1;have FS:=Hd (zdq (x':=.int .i64 1) (y':=.int .i64 0) (HX1.out.trans X_3.out) (qcx HF_.out) (HB1.out.ext X_3.out));go_wp2_with fail;obtain⟨u0,u1⟩:_/\_:=⟨FS.out.2.cell 0,FS.out.2.cell 1⟩;exact qaZ (v:=.tuple #[.slice none 0 0,.agg #[.int .i64 1,.int .i64 0]]) (by simp[results,Tryz.results14,go_sem,u0,u1]) rfl ⟨FS.out.1,.inr ⟨0,0,by decide,HBB.out,rfl⟩⟩
end Go.Proofs.YthlibiocadimhaaGreatDoor
