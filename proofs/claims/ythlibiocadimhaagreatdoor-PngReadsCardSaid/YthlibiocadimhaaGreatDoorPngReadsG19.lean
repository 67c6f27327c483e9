/-
  The document's reader: word.
-/
import Derived.Test.YthlibiocadimhaaGreatDoorPngReadsG15
set_option linter.all false
set_option maxRecDepth 100000
namespace Go.Proofs.YthlibiocadimhaaGreatDoor
open Go.RowKit
theorem Ygf0 {p:Prop} (h:p:=by
 refine qY ?_;refine zaf ?_;go_wp2_with fail;go_roundw
 case rel=>exact⟨j+1,by omega,by go_num,Hd (HY.out.drewN 1),HJ2⟩
 case measure=>simp[intOf];omega):p:=h
theorem znj (x:Nat):∀k,Bts.high (x%2^k) k=Bts.high x k:=by
 have h:∀k j y,k<=j->Bts.high (y%2^j) k=Bts.high y k:=by
  intro k;induction k with
  | zero=>intro j y _;rfl
  | succ k ih=>
   intro j y hj;have e1:y%2^j/2^k%2=y/2^k%2:=by
    have t1:(y%2^j).testBit k=y.testBit k:=by rw[Nat.testBit_mod_two_pow];simp;omega
    rw[qcG,qcG,decide_eq_decide] at t1;omega
   apply Bts.zgf
   ·rw[Bts.zaD,Bts.zaD]
   rw[Bts.zby,Bts.zby,e1,ih j y (by omega)]
 intro k;exact h k k x (qaj _)
theorem zg2 (N:Nat):∀k a,Bts.val (Bts.high (codeAt N a k) k)=N/2^a%2^k:=by
 intro k;induction k with
 | zero=>intro a;simp[codeAt,Bts.high,Bts.val,qcI]
 | succ k ih=>
  intro a;have hl:=zct N (a+1) k;have hb:N/2^a%2<2:=qbV _ (by decide);rw[Bts.zby,<- znj (codeAt N a (k+1)) k,zem];obtain⟨b,hbb⟩:=nmE (N/2^a%2);rw[hbb] at hb⊢;rw[qaJ b,Nat.mul_add_mod,qaF hl,ih (a+1),Nat.mul_add_div (qbN k),qcr hl,qcd,qaF hb,<- hbb];rw[qa1 2 a,<- qbF,qa1];generalize N/2^a=z;generalize 2^k=q;rw[qaJ q 2,Nat.mod_mul]
theorem zl1 (L:List UInt8) (a k:Nat) (h:a+k<=8*L.length):Bts.high (codeAt (Crc.num L) a k) k=((Bts.allB L).drop a).take k:=by
 apply Bts.zgf
 ·rw[Bts.zaD,qax,qbh,Bts.zbK];omega
 rw[zg2,zfa L a k h]
theorem zme (L:List UInt8) (a k x:Nat) (h:a+k<=8*L.length) (hx:x<2^k):Bts.high x k=((Bts.allB L).drop a).take k↔x=codeAt (Crc.num L) a k:=by
 constructor
 ·intro e;have:=zeL x k (Crc.num L) a (by rw[e,zfa L a k h]);rw[qaF hx] at this;exact this.symm
 intro e;rw[e];exact zl1 L a k h
theorem zqW {M M':List Bool} (h:bs M=bs M'):M=M':=by
 apply Bts.zpu;rw[<- zbh,<- zbh,h]
def mx (f:Nat->Int):Nat->Nat
 | 0=>0
 | i+1=>max (mx f i) (f i).toNat
theorem zri (f:Nat->Int) (len:Nat) (h:∀j,j<len->0<=f j/\f j<=15):∀i,i<=len->mx f i<=15:=by
 intro i;induction i with
 | zero=>intro _;exact qbi _
 | succ i ih=>intro hi;have:=ih (by omega);have:=h i (by omega);simp only[mx];omega
theorem zrj (f:Nat->Int):∀i j,j<i->(f j).toNat<=mx f i:=by
 intro i;induction i with
 | zero=>intro j h;omega
 | succ i ih=>
  intro j h;simp only[mx];by_cases e:j=i
  ·subst e;omega
  have:=ih j (by omega);omega
def Cw (w:World) (Q:Nat) (v:Value) (f:Nat->Int) (len:Nat):Prop:=Inf.good f len/\∃C c,v=.slice (some ⟨C,0,none⟩) len c/\C≠Q/\Cv w C len (λ i=>.string (bs (Bts.high (word f len i) (f i).toNat)))
theorem Cw.keep {w w':World} {Q:Nat} {v:Value} {f:Nat->Int} {len:Nat} {S:Nat->Prop} (h:Cw w Q v f len) (hk:Keeps S w w') (hS:∀C,(∃l c,v=.slice (some ⟨C,0,none⟩) l c)->¬ S C):Cw w' Q v f len:=by
 obtain⟨h0,C,c,h1,h2,h3⟩:=h;exact⟨h0,C,c,h1,h2,h3.keeps hk (hS C ⟨_,_,h1⟩)⟩
theorem Cw.quiet {w w':World} {Q:Nat} {v:Value} {f:Nat->Int} {len:Nat} (h:Cw w Q v f len) (hk:Keeps (λ k=>k=Q) w w'):Cw w' Q v f len:=by
 obtain⟨h0,C,c,h1,h2,h3⟩:=h;exact⟨h0,C,c,h1,h2,h3.keeps hk h2⟩
theorem zfI {Q:Nat} {T:ByteArray} {a e:Nat} {x:Nat->Value} {w w':World} {g:Except Nat (Nat × Nat)} (he:e≠0) (hK:Keeps (λ k=>k=Q) w w') (hB:Bk w' Q (qc T a e x)):GPost Q T a e x w g (.returned (.int .i64 0)) w':=by
 refine⟨hK,?_⟩;rw[qac he];exact⟨rfl,hB⟩
theorem zgS {Q:Nat} {T:ByteArray} {a c:Nat} {x:Nat->Value} {w w':World} {g:Except Nat (Nat × Nat)} (hg:g=.error c) (hK:Keeps (λ k=>k=Q) w w') (hB:Bk w' Q (qc T a (c+1) x)):GPost Q T a 0 x w g (.returned (.int .i64 0)) w':=by
 subst hg;exact⟨hK,by rw[qad rfl];exact⟨rfl,hB⟩⟩
theorem zou {Q:Nat} {T:ByteArray} {a a' n:Nat} {x:Nat->Value} {w w':World} {g:Except Nat (Nat × Nat)} {v:Value} (hg:g=.ok (n,a')) (hv:v=.int .i64 (n:Int)) (hK:Keeps (λ k=>k=Q) w w') (hB:Bk w' Q (qc T a' 0 x)):GPost Q T a 0 x w g (.returned v) w':=by
 subst hg hv;exact⟨hK,by rw[qad rfl];exact⟨rfl,hB⟩⟩
def NobE (e:Nat) (L:List UInt8) (f:Nat->Int) (len a n:Nat):Prop:=e=0->∀m k,m<n->¬ Inf.Hit L f len a m k
set_option maxHeartbeats 8000000 in
theorem zbV (Q a e len:Nat) (f:Nat->Int) (v:Value) (L:List UInt8) (x:Nat->Value) (w:World) (hB:Bk w Q (qc (bs (Bts.allB L)) a e x)) (hC:Cw w Q v f len) (ha:a<=8*L.length) (hL:L.length<=300000):
  Calls Tryz.prog 107 #[.pointer (some ⟨Q,0,none⟩),v] w λ r w'=>GPost Q (bs (Bts.allB L)) a e x w (Inf.nxt L f len a) r w':=by
 have HO:=Hd (λ (w:World) (h:Bk w Q (qc (bs (Bts.allB L)) a e x))=>zaI Q a e (bs (Bts.allB L)) x w h);have HF:=Hd (λ (w:World) (h:Bk w Q (qc (bs (Bts.allB L)) a e x))=>zap Q a e 1 (bs (Bts.allB L)) x w h);have hsz:(bs (Bts.allB L)).size=8*L.length:=by rw[zb2,Bts.zbK]
 obtain⟨T,hT⟩:=nmE (bs (Bts.allB L));rw[hT] at hB hsz HO HF⊢;have HT:=Hd hT;have HB:=Hd hB;obtain⟨hgood,C,cc,rfl,hCQ,hcv⟩:=hC;have HGd:=Hd hgood;have HCv:=Hd hcv;have HC0:=Hd hCQ;have hlen:len<=300:=hgood.1.1;have HFB:=Hd hgood.1.2;obtain⟨g,hg⟩:=nmE (Inf.nxt L f len a);rw[hg];have HG:=Hd hg;clear hB hT hgood hcv hCQ hg;go_enter Tryz.func107,Tryz.ntmps107
 go_wp2_with fail;go_loopw [5,6] (λ y z wr=>∃i:Nat,i<=len/\z=.int .i64 i/\y=.int .i64 (mx f i:Int)/\wr=w) (λ _ z _=>len-(intOf z).toNat)
 case atStart=>exact⟨0,by omega,rfl,rfl,by first | rfl | trivial⟩
 case round=>
  obtain⟨i,hi,rfl,rfl,hw⟩:=hrel;have hw2:=hw.symm;clear hw;subst hw2;by_cases hlt:i<len
  ·have hc:=(HCv.out i hlt).1;obtain⟨S,hS⟩:=nmE (bs (Bts.high (word f len i) (f i).toNat));have hSs:S.size=(f i).toNat:=by rw[<- hS,zb2,Bts.zaD]
   have hfb:=HFB.out i hlt;simp only[hS] at hc;obtain⟨P,hP⟩:=nmE (mx f i);have hm:mx f (i+1)=if P<S.size then S.size else P:=by simp only[mx,hP,hSs];split <;> omega
   have HM:=Hd hm;rw[hP];have wi:=wqz (x:=(i:Int)+1);have hiI:(i:Int)<(len:Int):=by omega
   by_cases hlm:P<S.size
   ·have t1:=dT (p:=(P:Int)<(S.size:Int));clear hS hP hm hfb hSs;go_wp2_with fail;go_roundw
    case rel=>exact⟨i+1,by omega,by go_num,by rw[HM.out,qad hlm],by first | rfl | trivial⟩
    case measure=>simp[intOf];omega
   have t1:=dF (p:=(P:Int)<(S.size:Int));clear hS hP hm hfb hSs;go_wp2_with fail;go_roundw
   case rel=>exact⟨i+1,by omega,by go_num,by rw[HM.out,qac hlm],by first | rfl | trivial⟩
   case measure=>simp[intOf];omega
  obtain rfl:i=len:=by omega
  obtain⟨P,hP⟩:=nmE (mx f i);have hP15:P<=15:=by rw[<- hP];exact zri f i HFB.out i (qaj _)
  have HP:=Hd hP;rw[hP];clear hP hlt;go_wp2_with fail;go_loopw [7] (λ z wr=>∃n:Nat,1<=n/\n<=P+1/\z=.int .i64 n/\Hid (Ext w wr)/\Hid (NobE e L f i a n)) (λ z _=>P+1-(intOf z).toNat)
  case atStart=>exact⟨1,by omega,by omega,rfl,Hd (Ext.refl _),Hd (λ _ m k hm hh=>by have:=hh.1;omega)⟩
  case round=>
   obtain⟨n,hn1,hn2,rfl,HX,HN⟩:=hrel;by_cases hnP:n<=P
   ·have t1:=dT (p:=(n:Int)<=(P:Int));have n1:n<=P:=hnP;refine zac (λ wz=>Ext w wz) HX.out ?_;rintro wo hXo;clear HX;have HX:=Hd hXo;have HBo:=Hd (HB.out.ext hXo);clear hXo;go_wp2_with fail;refine (HO.out wo HBo.out).mono ?_;rintro r _ ⟨rfl,rfl⟩;by_cases he:e=0
    ·subst he;have hd:decide (0=0)=true:=rfl;rw[hd];obtain⟨Z,hZ⟩:=nmE (T.size);obtain⟨A,hA⟩:=nmE (a+n);have hAI:(a:Int)+(n:Int)=(A:Int):=by omega
     have hA2:A<=3000000:=by omega
     have wA:=wqz (x:=(A:Int));have c0:=HBo.out.cell 0;have c1:=HBo.out.cell 1;simp only[qc] at c0 c1;clear t1 n1;go_wp2_with fail;by_cases hlz:Z<A
     ·have t2:=dT (p:=(Z:Int)<(A:Int));have HQ:Hid (g=.error 0):=Hd (by
       rw[<- HG.out];refine Inf.zfc λ m k hh=>?_;have h1:=hh.2.2.1;rcases qa8 m n with q | q
       ·exact HN.out rfl m k q hh
       omega)
      refine rgQ ?_;refine qY ?_;refine qY ?_;refine qY ?_;refine qY ?_;refine qY ?_;refine qY ?_;refine qY ?_;refine qY ?_;refine qY ?_;refine qY ?_;refine qY ?_;refine qY ?_;refine zaf ?_;go_wp2_with fail;refine (HF.out _ HBo.out.drew).mono ?_;rintro r w1 ⟨rfl,hB1,hK1⟩;have HB1:=Hd hB1;have HK1:=Hd (((HX.out.drewN 1).keeps (S:=λ k=>k=Q)).trans hK1 (λ _ _ q=>q));clear hB1 hK1;go_wp2_with fail;go_ret;exact zgS HQ.out HK1.out HB1.out
     have t2:=dF (p:=(Z:Int)<(A:Int));have hAZ:A<=Z:=by omega
     have HAL:Hid (a+n<=8*L.length):=Hd (by omega);refine rgQ ?_;refine qY ?_;refine qY ?_;refine qY ?_;refine qY ?_;refine qY ?_;refine qY ?_;refine qY ?_;refine qY ?_;refine qY ?_;refine qY ?_;refine qY ?_;refine qY ?_;refine zaf ?_;go_wp2_with fail;clear t2 hlz c0 c1;go_loopw [8] (λ z wr=>∃j:Nat,j<=i/\z=.int .i64 j/\Hid (Ext w wr)/\Hid (∀k,k<j->¬ Inf.Hit L f i a n k)) (λ z _=>i-(intOf z).toNat)
     case atStart=>exact⟨0,by omega,rfl,Hd (HX.out.drewN 1),Hd (λ k hk=>by omega)⟩
     case round=>
      obtain⟨j,hj,rfl,HY,HJ⟩:=hrel;by_cases hlj:j<i
      ·have hcc:=HCv.out.ext HY.out;have hc:=(hcc j hlj).1;obtain⟨S,hS⟩:=nmE (bs (Bts.high (word f i j) (f j).toNat));have hSs:S.size=(f j).toNat:=by rw[<- hS,zb2,Bts.zaD]
       have hfb:=HFB.out j hlj;simp only[hS] at hc;have wi:=wqz (x:=(j:Int)+1);have hjI:(j:Int)<(i:Int):=by omega
       have HBy:=Hd (HB.out.ext HY.out);have c0:=HBy.out.cell 0;have c1:=HBy.out.cell 1;simp only[qc] at c0 c1;have HSs:=Hd hSs;have HS:=Hd hS;by_cases hsn:S.size=n
       ·have t3:((S.size:Int) ==(n:Int))=true:=qbl.2 (by omega);have haA2:(a:Int)<=(A:Int):=by omega
        have hAZ2:(A:Int)<=(Z:Int):=by omega
        have ha0:(0:Int)<=(a:Int):=by omega
        have haA:a<=A:=by omega
        have hat:((a:Nat):Int).toNat=a:=by omega
        have hAt:((A:Nat):Int).toNat=A:=by omega
        have hAT:A<=T.size:=by omega
        obtain⟨X,hX⟩:=nmE (T.extract a A);have hXs:X=bs (((Bts.allB L).drop a).take n):=by rw[<- hX,<- HT.out,zfF _ _ _ haA,show A-a=n by omega]
        have hw2:word f i j<2^n:=by
         have:=(zcb f i j n HGd.out.2 hlj (by omega) hn1 (by omega)).2;exact this
        have hiff:S=X↔word f i j=codeAt (Crc.num L) a n:=by
         rw[<- zme L a n _ HAL.out hw2,hXs,<- hS];have e1:(f j).toNat=n:=by omega
         rw[e1];exact⟨λ h=>zqW h,λ h=>by rw[h]⟩
        have HI:=Hd hiff;by_cases hSX:S=X
        ·have HH:Hid (Inf.Hit L f i a n j):=Hd ⟨hn1,by omega,HAL.out,hlj,by omega,HI.out.1 hSX⟩;have HQ:Hid (g=.ok (j,A)):=Hd (by rw[<- HG.out,<- hA];exact Inf.zew HGd.out.2 HH.out);have HBA:=Hd ((HBy.out.drewN 1).put1 A);subst hSX;have t4:(S.toList ==S.toList)=true:=beq_self_eq_true _;clear hS hSs hXs hiff hw2 hsz hfb hZ hA;go_wp2_with fail;refine rgQ ?_;refine qY ?_;refine qY ?_;refine qY ?_;refine qY ?_;refine qY ?_;refine qY ?_;refine qY ?_;refine qY ?_;refine qY ?_;refine qY ?_;refine qY ?_;refine qY ?_;refine qY ?_;refine qY ?_;refine qY ?_;refine qY ?_;refine qY ?_;refine qY ?_;refine qY ?_;refine qY ?_;refine qY ?_;refine qY ?_;refine qY ?_;refine qY ?_;refine qY ?_;refine qY ?_;refine qY ?_;refine qY ?_;refine qY ?_;refine zaf ?_;have f1:=HBy.out.frozen 1;go_wp2_with fail;go_ret;exact zou HQ.out rfl ((((HY.out.drewN 1).keeps (S:=λ k=>k=Q))).setCell (p:=⟨Q,1,none⟩) (.inl rfl) _) HBA.out
        have HJ2:Hid (∀k,k<j+1->¬ Inf.Hit L f i a n k):=Hd (λ k hk hh=>by
         rcases qbw.1 hk with q | q
         ·exact HJ.out k q hh
         subst q;exact hSX (HI.out.2 hh.2.2.2.2.2))
        have t4:(S.toList ==X.toList)=false:=by
         rw[qbp,qbp];exact qak.2 (λ q=>hSX (zbe q))
        clear hS hSs hXs hiff hw2 hsz hfb hZ hA;go_wp2_with fail;refine rgQ ?_;refine qY ?_;refine qY ?_;refine qY ?_;refine qY ?_;refine qY ?_;refine qY ?_;refine qY ?_;refine qY ?_;refine qY ?_;refine qY ?_;refine qY ?_;refine qY ?_;refine qY ?_;refine qY ?_;refine qY ?_;refine qY ?_;refine qY ?_;refine qY ?_;refine qY ?_;refine qY ?_;refine qY ?_;refine qY ?_;refine qY ?_;refine qY ?_;refine qY ?_;refine qY ?_;refine qY ?_;refine qY ?_;exact Ygf0
       have t3:((S.size:Int) ==(n:Int))=false:=qak.2 (by omega);have n3:¬ S.size=n:=hsn;have HJ2:Hid (∀k,k<j+1->¬ Inf.Hit L f i a n k):=Hd (λ k hk hh=>by
        rcases qbw.1 hk with q | q
        ·exact HJ.out k q hh
        subst q;have h1:=hh.2.2.2.2.1;have h2:=HSs.out;omega)
       clear hS hSs hsz hfb hZ hA;go_wp2_with fail;refine rgQ ?_;refine qY ?_;refine qY ?_;refine qY ?_;refine qY ?_;refine qY ?_;refine qY ?_;refine qY ?_;refine qY ?_;refine qN ?_;refine qN ?_;refine qN ?_;refine qN ?_;refine qN ?_;refine qN ?_;refine qN ?_;refine qN ?_;refine qN ?_;refine qN ?_;refine qN ?_;refine qN ?_;refine qN ?_;refine qN ?_;refine qN ?_;refine qN ?_;refine qN ?_;refine qN ?_;refine qN ?_;refine qN ?_;exact Ygf0
      obtain rfl:j=i:=by omega
      have HN2:Hid (NobE 0 L f j a (n+1)):=Hd (λ _ m k hm hh=>by
       rcases qbw.1 hm with q | q
       ·exact HN.out rfl m k q hh
       subst q;exact HJ.out k hh.2.2.2.1 hh)
      have wi:=wqz (x:=(n:Int)+1);go_wp2_with fail;go_roundw
      case rel=>exact⟨n+1,by omega,by omega,by go_num,HY,HN2⟩
      case measure=>simp[intOf];omega
    have hd:decide (e=0)=false:=qaf he;have hfl:fl e 1=e:=qac he;rw[hd];go_wp2_with fail;refine (HF.out _ HBo.out).mono ?_;rintro r w1 ⟨rfl,hB1,hK1⟩;rw[hfl] at hB1;have HB1:=Hd hB1;have HK1:=Hd ((HX.out.keeps (S:=λ k=>k=Q)).trans hK1 (λ _ _ q=>q));clear hB1 hK1;go_wp2_with fail;go_ret;exact zfI he HK1.out HB1.out
   have t1:=dF (p:=(n:Int)<=(P:Int));have n1:¬ n<=P:=hnP;have HBo:=Hd (HB.out.ext HX.out);go_wp2_with fail;refine (HF.out wr HBo.out).mono ?_;rintro r w1 ⟨rfl,hB1,hK1⟩;have HB1:=Hd hB1;have HK1:=Hd ((HX.out.keeps (S:=λ k=>k=Q)).trans hK1 (λ _ _ q=>q));clear hB1 hK1;go_wp2_with fail;go_ret;by_cases he:e=0
   ·subst he;refine zgS (c:=0) ?_ HK1.out HB1.out;rw[<- HG.out];refine Inf.zfc λ m k hh=>?_;have h1:=hh.2.2.2.2.1;have h2:=zrj f i k hh.2.2.2.1;have h3:=HP.out;exact HN.out rfl m k (by omega) hh
   have hfl:fl e 1=e:=qac he;have q:=HB1.out;rw[hfl] at q;exact zfI he HK1.out q
end Go.Proofs.YthlibiocadimhaaGreatDoor
