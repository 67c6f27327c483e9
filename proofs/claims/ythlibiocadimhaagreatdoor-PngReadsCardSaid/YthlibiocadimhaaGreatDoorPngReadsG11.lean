/-
  chunk.Read.
  The document's FileOf.
-/
import Derived.Test.YthlibiocadimhaaGreatDoorPngReadsG10
set_option linter.all false
set_option maxRecDepth 100000
namespace Go.Proofs.YthlibiocadimhaaGreatDoor
open Go.RowKit
theorem Yfc0 {p:Prop} (h:p:=by
 have hv:=(HE.out.ext HW.out).var 0 (by decide);simp only[gk,sentV] at hv;go_wp2_with fail;refine (zeU _ _ _ _).mono ?_;rintro e w9 ⟨rfl,rfl⟩;go_wp2_with fail;go_ret2;exact ze5 (k:=pos) HW.out (by decide) (by omega) HB.out):p:=h
theorem zg7 (s p:ByteArray) (w:World) (hs:s.size<=9223372036854775807) (hp:p.size<=9223372036854775807):Calls Tryz.prog 61 #[.string s,.string p] w λ e w'=>e=.returned (.bool (decide (s.data.toList.take p.size=p.data.toList)))/\w=w':=by
 have key:Calls Tryz.prog 93 #[.string s,.string p] w λ e w'=>e=.returned (.bool (decide (s.data.toList.take p.size=p.data.toList)))/\w=w':=by
  by_cases h:p.size<=s.size
  ·have t0:=dT (p:=(p.size:Int)<=(s.size:Int));have h2:p.size<=s.size:=h;go_enter Tryz.func93,Tryz.ntmps93
   go_wp2_with fail;go_ret;refine⟨zaG ?_,rfl⟩;have e1:(s.extract 0 p.size).data.toList=s.data.toList.take p.size:=by rw[qb4,qca];simp
   rw[qbX,qbl,qaP,<- e1,qbp,qbp]
  have t0:=dF (p:=(p.size:Int)<=(s.size:Int));go_enter Tryz.func93,Tryz.ntmps93
  go_wp2_with fail;go_ret;refine⟨zaG ?_,rfl⟩;rw[eq_comm,decide_eq_false_iff_not];intro q;have:=congrArg List.length q;rw[qax] at this;have e1:s.data.toList.length=s.size:=rfl;have e2:p.data.toList.length=p.size:=rfl;omega
 go_enter Tryz.func61,Tryz.ntmps61
 go_wp2_with fail;refine key.mono ?_;rintro e w1 ⟨rfl,rfl⟩;go_wp2_with fail;go_ret;exact⟨rfl,rfl⟩
theorem zeU (k:Int) (T:TypeId) (u:Value) (w:World):Calls Tryz.prog 60 #[.int .i64 k,.iface T u] w λ e w'=>e=.returned (.tuple #[.slice none 0 0,.iface 107 (.pointer (some ⟨w.heap.size,0,none⟩))])/\w'=w.alloc (.cells #[.int .i64 k,.iface T u] 109):=by
 go_enter Tryz.func60,Tryz.ntmps60
 go_wp2_with fail;go_ret2;exact⟨rfl,rfl⟩
def RPost (w w':World) (E:Nat->Addr) (r:PRes) (e:Ending):Prop:=
 Ext w w'/\((∃L x c,r=.ok L/\e=.returned (.tuple #[.slice x L.length c,.nilIface])/\Cks w' x L)\/(∃c i F:Nat,c<9/\(i:Int)<=9223372036854775807/\r=.bad c i/\e=.returned (.tuple #[.slice none 0 0,.iface 107 (.pointer (some ⟨F,0,none⟩))])/\w'.heap[F]? =some (.cells #[.int .i64 (i:Int),sentV (E c)] 109 (0,0))))
theorem ze5 {w wz:World} {E:Nat->Addr} {k c:Nat} {r:PRes} (hX:Ext w wz) (hc:c<9) (hk:(k:Int)<=9223372036854775807) (h:r=.bad c k):
  RPost w (wz.alloc (.cells #[.int .i64 (k:Int),.iface 275 (.pointer (some (E c)))] 109)) E r (.returned (.tuple #[.slice none 0 0,.iface 107 (.pointer (some ⟨wz.heap.size,0,none⟩))])):=
 ⟨hX.alloc _,.inr ⟨c,k,wz.heap.size,hc,hk,h,rfl,qbP wz _⟩⟩
theorem znt {w wz:World} {E:Nat->Addr} {r:PRes} {x:Option Addr} {c:Nat} {L:List Ck} (hX:Ext w wz) (hL:Cks wz x L) (h:r=.ok L):RPost w wz E r (.returned (.tuple #[.slice x L.length c,.nilIface])):=⟨hX,.inl ⟨L,x,c,h,rfl,hL⟩⟩
theorem ckinf:(Tryz.prog.info? 58).map (λ i=>(i.zero,i.size,i.bytes))=some (some (.agg #[.string ⟨#[]⟩,.string ⟨#[]⟩]),2,32):=by kernel_rfl
theorem zje (w:World) (T:TypeId) (k d:ByteArray):∀(j:Nat) (u:Value),[Value.string k,Value.string d][j]? =some u->(w.alloc (.cells #[.string k,.string d] T)).cell? ((⟨w.heap.size,0,none⟩:Addr).add j)=some u:=by
 intro j u hj;rw[zae];match j,hj with
 | 0,hj=>simp at hj;subst hj;simp
 | 1,hj=>simp at hj;subst hj;simp
theorem zfX {w0 wr w1:World} {v v':Value} {L:List Ck} {k d:ByteArray} {T:TypeId} (hE:Ext w0 wr) (hR:wr.ownsRow w0.heap.size T 2 v L.length (ckL L)) (hg:wr.grownBy w1 v.ownBlock)
  (ho:w1.ownsRow w0.heap.size T 2 v' (L.length+1) (ckL L ++ [.string k,.string d])):w1.ownsRow w0.heap.size T 2 v' (L ++ [(⟨k,d⟩:Ck)]).length (ckL (L ++ [(⟨k,d⟩:Ck)]))/\Ext w0 w1:=by
 refine⟨?_,Below.trans hE ((Keeps.grown hg).below hE.size (λ k hk e=>by have:=(hR.lt k e).1;omega))⟩;rw[zdW,qaa];exact ho
theorem zhg {w:World} {base:Nat} {e:TypeId} {size:Nat} {v:Value} {n:Nat} {xs:List Value} (h:w.ownsRow base e size v n xs):∃x c,v=.slice x n c:=by
 rcases zah h with⟨rfl,rfl⟩ | ⟨g,cap,rfl⟩
 ·exact⟨none,0,rfl⟩
 exact⟨_,cap,rfl⟩
def Rw (w0 w:World) (v:Value) (n:Nat) (L:List Ck):Prop:=w.ownsRow w0.heap.size 58 2 v n (ckL L)
theorem Rw.ext {w0 w w':World} {v:Value} {n:Nat} {L:List Ck} (h:Rw w0 w v n L) (hE:Ext w w'):Rw w0 w' v n L:=zaa (S:=λ _=>False) h hE.keeps (λ _ _=>id)
theorem zjO {s:ByteArray} {p:Nat} (h:p<=s.size):p+(s.extract p s.size).size=s.size:=by rw[qau];omega
set_option maxHeartbeats 4000000 in
theorem zob (s:ByteArray) (w:World) (E:Nat->Addr) (hE:ErrC w E) (hs:s.size<=300000):
  Calls Tryz.prog 26 #[.string s] w λ e w'=>RPost w w' E (readL s) e:=by
 have HE:=Hd hE;clear hE;obtain⟨i0,hi0,hz0,hz1,hz2⟩:=qbb ckinf;have tm:=dF (p:=(300000:Int)<(s.size:Int));have HPX:=Hd (λ w=>zg7 s ⟨sigB.toArray⟩ w (by omega) (by decide));by_cases qp:s.data.toList.take 8=sigB
 ·have qd:decide (s.data.toList.take (⟨sigB.toArray⟩:ByteArray).size=(⟨sigB.toArray⟩:ByteArray).data.toList)=true:=qae qp;obtain⟨R,hR⟩:=nmE (readL s);have hP0:parse s (s.size+1) 8 []=R:=by rw[<- hR];unfold readL;rw[qad qp]
  rw[hR];have HP0:=Hd hP0;clear hP0 hR;have h8:8<=s.size:=by
    have:=congrArg List.length qp;rw[qax] at this;have e1:s.data.toList.length=s.size:=rfl;have e2:sigB.length=8:=rfl;omega
  clear qp;go_enter Tryz.func26,Tryz.ntmps26
  go_wp2_with fail;refine (HPX.out _).mono ?_;rintro e w9 ⟨rfl,rfl⟩;rw[qd];clear qd;go_wp2_with fail;go_loopw [5,6] (λ v q wr=>∃(pos f:Nat) (acc:List Ck),q=.int .i64 pos/\pos<=s.size/\acc.length<=pos/\Hid (s.size-pos<f)/\Hid (parse s f pos acc=R)/\Hid (wr.ownsRow w.heap.size 58 2 v (acc).length (ckL (acc)))/\Hid (Ext w wr)) (λ _ q _=>s.size-(intOf q).toNat)
  case atStart=>exact⟨8,s.size+1,[],rfl,h8,by simp,Hd (by omega),HP0,Hd (qaK _ _ _ _),Hd (Ext.refl _)⟩
  case round=>
   clear HP0;obtain⟨pos,f,acc,rfl,hpos,hacc,HF,HP,HR,HW⟩:=hrel;by_cases hlt:pos<s.size
   ·obtain⟨vx,vc,rfl⟩:=zhg HR.out;obtain⟨al,hal⟩:=nmE (acc.length);rw[hal] at HR hacc;have HAL:=Hd hal;rw[hal];clear hal;have hTs:=zjO hpos;obtain⟨T,hT⟩:=nmE (s.extract pos s.size);rw[hT] at hTs;have HTS:=Hd hTs;have HTT:=Hd hT;have hTb:T.size<=300000:=by omega
    clear hTs;have HBad:=Hd (λ c (h:pstep T=.bad c)=>HP.out.symm.trans (zgo hlt HF.out hT h));have HNx:=Hd (λ n c (h:pstep T=.next n c)=>zdR (acc:=acc) hlt HF.out hT h);by_cases q12:T.size<12
    ·have t1:=dT (p:=(T.size:Int)<12);have HB:=Hd (HBad.out 0 (zeE q12));clear HBad HNx HP HF;exact Yfc0
    have t1:=dF (p:=(T.size:Int)<12);obtain⟨T4,h4⟩:=nmE (T.extract 0 4);obtain⟨n,hn⟩:=nmE (valN T4.data.toList);have hnl:n<4294967296:=by rw[<- hn];exact zca _
    have hva:=λ w=>zc7 T4 w (by rw[<- h4,qau];unfold maxLen;omega);rw[hn] at hva;have HVA:=Hd hva;clear hva;have H4:=Hd h4;have HN:=Hd hn;clear hn;have hw64:IntKind.i64.wrap (n:Int)=(n:Int):=by unfold IntKind.wrap;simp[IntKind.bits,IntKind.signed];omega
    by_cases qn:T.size-12<n
    ·have t2:=dT (p:=(T.size:Int)-12<(n:Int));have HB:=Hd (HBad.out 0 (zfo q12 H4.out HN.out qn));clear HBad HNx HP HF;go_wp2_with fail;refine (HVA.out _).mono ?_;rintro e w9 ⟨rfl,rfl⟩;exact Yfc0
    have t2:=dF (p:=(T.size:Int)-12<(n:Int));obtain⟨K,hK⟩:=nmE (T.extract 4 8);have HIK:=Hd (λ w=>zdD K w (by rw[<- hK,qau];unfold maxLen;omega));have HK:=Hd hK;by_cases qk:kindB K.data.toList=true
    ·have QK:=Hd qk;clear qk;obtain⟨B,hB⟩:=nmE (T.extract (8+n) (12+n));obtain⟨A,hA⟩:=nmE (T.extract 4 (8+n));obtain⟨D,hD⟩:=nmE (T.extract 8 (8+n));obtain⟨u,hu⟩:=nmE (valN B.data.toList);obtain⟨v,hv⟩:=nmE (Crc.crc A.data.toList);have hvb:=λ w=>zc7 B w (by rw[<- hB,qau];unfold maxLen;omega);rw[hu] at hvb;have HVB:=Hd hvb;have hcr:=λ w=>zjY A w (by rw[<- hA,qau];unfold maxLen;omega);rw[hv] at hcr;have HCR:=Hd hcr;have HBB:=Hd hB;have HA:=Hd hA;have HD:=Hd hD;have HU:=Hd hu;have HV:=Hd hv;clear hvb hcr hu hv;have b1:(8:Int)+(n:Int)<=(12:Int)+(n:Int):=by omega
     have b2:(12:Int)+(n:Int)<=(T.size:Int):=by omega
     have b3:(8:Int)+(n:Int)<=(T.size:Int):=by omega
     have b4:(4:Int)<=(8:Int)+(n:Int):=by omega
     have b8:(8:Int)<=(T.size:Int):=by omega
     have b6:(0:Int)<=(12:Int)+(n:Int):=by omega
     have b7:(0:Int)<=(8:Int)+(n:Int):=by omega
     have b5:(8:Int)<=(8:Int)+(n:Int):=by omega
     have n1:((8:Int)+(n:Int)).toNat=8+n:=by omega
     have n2:((12:Int)+(n:Int)).toNat=12+n:=by omega
     have w8:IntKind.i64.wrap ((8:Int)+(n:Int))=(8:Int)+(n:Int):=by unfold IntKind.wrap;simp[IntKind.bits,IntKind.signed];omega
     have w12:IntKind.i64.wrap ((12:Int)+(n:Int))=(12:Int)+(n:Int):=by unfold IntKind.wrap;simp[IntKind.bits,IntKind.signed];omega
     go_wp2_with fail;refine (HVA.out _).mono ?_;rintro e w9 ⟨rfl,rfl⟩;go_wp2_with fail;refine (HIK.out _).mono ?_;rintro e w9 ⟨rfl,rfl⟩;rw[QK.out];go_wp2_with fail;have X_0:=HW;have R_0:Hid (Rw w wr (.slice vx al vc) al acc):=HR;clear HW HR;refine rgT ?_;refine anyHw (λ wz=>Ext wr wz) (show Ext wr wr.drew from qag (Ext.refl wr)) ?_;rintro w1 h;have X_1:=Hd (X_0.out.trans h);have R_1:=Hd (R_0.out.ext h);clear h X_0 R_0;refine tk5 0 1 2 3 4 ?_;refine tk5 5 7 8 9 10 ?_;refine rdT 6 λ KK hK=>?_;go_simp;refine (HVB.out _).mono ?_;rintro e w9 ⟨rfl,rfl⟩;go_simp;refine oT hK ?_;clear hK KK;refine rdT 11 λ KK hK=>?_;go_simp;refine (HCR.out _).mono ?_;rintro e w2 ⟨rfl,h⟩;have X_2:=Hd (X_1.out.trans h);have R_2:=Hd (R_1.out.ext h);clear h X_1 R_1;go_simp;refine oT hK ?_;clear hK KK;refine tkH 12 ?_;refine dnT ?_;by_cases qs:u≠v
     ·have t3:((u:Int) !=(v:Int))=true:=by rw[qce];omega
      have HB:=Hd (HBad.out 3 (zgQ q12 H4.out HN.out qn HK.out QK.out HBB.out HA.out HU.out HV.out qs));clear HBad HNx HP HF;have hv:=(HE.out.ext X_2.out).var 3 (by decide);simp only[gk,sentV] at hv;go_wp2_with fail;refine (zeU _ _ _ _).mono ?_;rintro e w9 ⟨rfl,rfl⟩;go_wp2_with fail;go_ret2;exact ze5 (k:=pos) X_2.out (by decide) (by omega) HB.out
     have t3:((u:Int) !=(v:Int))=false:=by obtain rfl:u=v:=Classical.not_not.1 qs;exact bne_self_eq_false _
     obtain⟨f2,hf2,hp2⟩:=HNx.out n ⟨K,D⟩ (zdC q12 H4.out HN.out qn HK.out QK.out HBB.out HA.out HD.out HU.out HV.out qs);have HF2:=Hd hf2;have HP2:=Hd (hp2.symm.trans HP.out);clear hf2 hp2 HBad HNx HP HF;go_wp2_with fail;have HRd:Hid (w2.drew.ownsRow w.heap.size 58 2 (.slice vx al vc) al (ckL acc)):=R_2;refine rgT ?_;refine tk5 0 1 2 3 4 ?_;refine tk3 5 6 7 ?_;refine rdT 8 λ KK hK=>?_;go_simp;refine oT hK ?_;clear hK KK;refine rdT 9 λ KK hK=>?_;refine apL (HRd.out.alloc _) [.string K,.string D] ?_ (hnews:=(zje _ _ _ _)) (hbase:=(by have:=X_2.out.size;simp;omega));intro g1 cap1 w7 hown1 hgrow1 hat1 hlt1;have P1:=zfX (w0:=w) (L:=acc) (k:=K) (d:=D) ((show Ext w w2.drew from qag X_2.out).alloc _) (by rw[HAL.out];exact HRd.out.alloc _) hgrow1 (by rw[HAL.out];exact hown1);rw[qaa,HAL.out] at P1;have HR7:=Hd P1.1;have HX7:=Hd P1.2;clear hown1 hgrow1 hat1 hlt1 P1;refine oT hK ?_;clear hK KK;refine tkH 10 ?_;refine dnT ?_;go_wp2_with fail;go_roundw
     case rel=>exact⟨pos+12+n,f2,acc ++ [⟨K,D⟩],by go_num,by have:=HTS.out;omega,by rw[qaa,HAL.out];simp;omega,HF2,HP2,Hd (by rw[qaa,HAL.out];exact HR7.out),HX7⟩
     case measure=>simp[intOf];have:=HTS.out;omega
    have qk':kindB K.data.toList=false:=by simpa using qk
    have HB:=Hd (HBad.out 0 (zfy q12 H4.out HN.out qn HK.out qk'));clear HBad HNx HP HF qk;go_wp2_with fail;refine (HVA.out _).mono ?_;rintro e w9 ⟨rfl,rfl⟩;go_wp2_with fail;refine (HIK.out _).mono ?_;rintro e w9 ⟨rfl,rfl⟩;rw[qk'];clear qk';exact Yfc0
   obtain rfl:pos=s.size:=by omega
   have HL:Hid (R=.ok acc):=Hd (by rw[<- HP.out,zel (qaj _)]);obtain⟨x,c,rfl,hC⟩:=Cks.of_own HR.out;have HC:=Hd hC;clear hC;go_wp2_with fail;go_ret2;exact znt HW.out HC.out HL.out
 have qd:decide (s.data.toList.take (⟨sigB.toArray⟩:ByteArray).size=(⟨sigB.toArray⟩:ByteArray).data.toList)=false:=qaf qp;have HB:Hid (readL s=.bad 0 0):=Hd (by unfold readL;rw[qac qp]);clear qp;go_enter Tryz.func26,Tryz.ntmps26
 go_wp2_with fail;refine (HPX.out _).mono ?_;rintro e w9 ⟨rfl,rfl⟩;rw[qd];clear qd;have hv:=(HE.out.ext (Ext.refl w)).var 0 (by decide);simp only[gk,sentV] at hv;go_wp2_with fail;refine (zeU _ _ _ _).mono ?_;rintro e w9 ⟨rfl,rfl⟩;go_wp2_with fail;go_ret2;exact ze5 (k:=0) (Ext.refl w) (by decide) (by omega) HB.out
theorem zhl (w:World):Calls Tryz.prog 40 #[] w λ e w'=>e=.returned (.agg #[.int .i64 0,.int .i64 (-1)])/\Ext w w':=by
  go_enter Tryz.func40,Tryz.ntmps40
  go_wp2
  exact qaZ (v:=.agg #[.int .i64 0,.int .i64 (-1)]) (by simp[results,Tryz.results40,go_sem]) rfl ⟨rfl,by repeat (first | exact Ext.refl _ | refine Ext.alloc ?_ _ | refine qaL ?_ (by simp <;> omega) _)⟩
theorem zdq {w0 w:World} {b:Nat} {x y x' y':Value} (hX:Ext w0 w) (hb:w0.heap.size<=b) (hB:Bk w b #[x,y]):
    Ext w0 ((w.setCell ⟨b,0,none⟩ x').setCell ⟨b,1,none⟩ y')/\Bk ((w.setCell ⟨b,0,none⟩ x').setCell ⟨b,1,none⟩ y') b #[x',y']:=
  ⟨(qaL hX hb _).setCell hb _,(hB.set_ 0 x').set_ 1 y'⟩
end Go.Proofs.YthlibiocadimhaaGreatDoor
