/-
  deflate.Deflate, deflate.Zip.
  A zipped text is read: plain laws.
-/
import Derived.Test.YthlibiocadimhaaGreatDoorPngReadsG23
import Derived.Test.YthlibiocadimhaaGreatDoorPngReadsG22
set_option linter.all false
set_option maxRecDepth 100000
namespace Go.Proofs.YthlibiocadimhaaGreatDoor
open Go.RowKit
theorem zoZ (s:ByteArray):s.data.toList.length=s.size:=rfl
theorem znT {w:World} {b:Nat} {v:Value} {s:ByteArray} {W T:Nat} {l:List Tk} (h:w.ownsRow b 165 3 v l.length (tkV l.length (tkl l))) (hT:TL s W T s.size l):∃x c,v=.slice x l.length c/\Toks w x l.length (tkl l):=
 Toks.of_own h (λ i hi=>hT.ok _ (by unfold tkl;rw[List.getD,qai hi];exact qcA hi))
theorem zpe (l:List Tk):(List.range l.length).map (tkl l)=l:=by
 apply List.ext_getElem
 ·simp
 intro i h1 h2;simp[tkl,List.getD,qai h2]
def DfaP (s:ByteArray) (e:Ending):Prop:=∃l:List UInt8,e=.returned (.tuple #[.string ⟨l.toArray⟩,.nilIface])/\Reads l s.data.toList/\l.length<=(Sto.all (s.size+1) s.data.toList).length
set_option maxHeartbeats 4000000 in
theorem ziB (s:ByteArray) (w:World) (hTb:Tabs w) (EB ES:Value) (hB:w.cell? ⟨2,0,none⟩=some EB) (hS:w.cell? ⟨0,0,none⟩=some ES) (hz:s=⟨#[0,0]⟩):
  Calls Tryz.prog 54 #[.string s] w λ e w'=>DfaP s e/\Ext w w':=by
 have HTb:=Hd hTb;have HB:=Hd hB;have HS:=Hd hS;have hs:s.size<=2:=by rw[hz];exact qaj 2
 have hsl:s.data.toList=[0,0]:=by rw[hz]
 have HSL:=Hd hsl;have hK:=λ w=>zi0 s w hs;have HK:=Hd hK;obtain⟨L,hL⟩:=nmE (Sto.all (s.size+1) s.data.toList);have hSt:=λ w=>zhO s w (by omega);rw[hL,zfV] at hSt;have HSt:=Hd hSt;have hL7:L.length=7:=by rw[<- hL,hz];rfl
 have HL7:=Hd hL7;have HL:=Hd hL;have t0:=dF (p:=(300000:Int)<(s.size:Int));have n0:¬ 300000<s.size:=by omega
 clear hTb hB hS hK hSt hL hz hsl hL7;go_enter Tryz.func54,Tryz.ntmps54
 go_wp2_with fail;refine (HK.out _).mono ?_;rintro e w1 ⟨ts,v,rfl,hown,hTL,hX⟩;obtain⟨x,c,rfl,hT⟩:=znT hown hTL;have HT:=Hd hT;have HTL:=Hd hTL;have X1:=Hd hX;have hts:ts=ts0:=by
  have h:=hTL.lits;rw[zo4,HSL.out] at h;exact h
 have hfew:=hTL.few;obtain⟨n,hn⟩:=nmE (ts.length);rw[hn] at HT hfew;rw[hn];have HN:=Hd hn;have HTM:=Hd (show (List.range n).map (tkl ts)=ts0 by rw[<- hn,zpe,hts]);have HOK:=Hd (show ∀i,i<n->(tkl ts i).l=0\/(3<=(tkl ts i).l/\(tkl ts i).l<=258/\1<=(tkl ts i).d/\(tkl ts i).d<=32768) from λ i hi=>by
  have h:=qa5 (qai (l:=ts) (i:=i) (by omega));have e:tkl ts i=ts[i]'(by omega):=by unfold tkl;rw[List.getD,qai (by omega)];rfl
  rw[<- e,hts] at h;rcases qbd.1 h with h | h
  ·left;rw[hts,h];rfl
  left;rw[hts,qaN.1 h];rfl)
 clear hown hTL hT hX hn hts;go_wp2_with fail;refine (HSt.out _).mono ?_;rintro e w2 ⟨rfl,hX⟩;have X2:=Hd (X1.out.trans hX);have HT2:=Hd (HT.out.ext hX);clear hX X1 HT;go_upto_block 0 with fail;refine zac (λ wz=>Ext w2 wz/\Bk wz w2.heap.size #[.func (.func 88) #[] #[],.func (.func 89) #[] #[]]) ⟨(Ext.refl _).alloc _,Bk.at rfl⟩ ?_;rintro w3 ⟨hX,hK⟩;obtain⟨FB,hFB⟩:=nmE (w2.heap.size);rw[hFB] at hK;rw[hFB];have X3:=Hd (X2.out.trans hX);have HT3:=Hd (HT2.out.ext hX);have HF3:=Hd hK;clear hX hK hFB X2 HT2;go_wp2_with fail;go_loopw [6,23] (λ s6 c wr=>∃(i:Nat) (l:List UInt8),c=.int .i64 (i:Int)/\i<=2/\s6=.string ⟨l.toArray⟩/\Hid ((i=0/\l.length=7)\/(0<i/\Reads l s.data.toList/\l.length=4))/\Hid (Ext w3 wr)) (λ _ c _=>2-(intOf c).toNat)
 case atStart=>exact⟨0,L,rfl,by omega,rfl,Hd (.inl ⟨rfl,HL7.out⟩),Hd (Ext.refl _)⟩
 case round=>
  obtain⟨i,l,rfl,hi,rfl,HR,HW⟩:=hrel;have hF:=HF3.out.ext HW.out;have f0:=hF.cell 0;have f1:=hF.cell 1;simp only[xg,xh] at f0 f1;clear hF;match i,hi with
  | 0,_=>
   have t1:decide ((0:Int)<2)=true:=by decide
   go_wp2_with fail;refine (zkf x n c (tkl ts) wr (HT3.out.ext HW.out) (HTb.out.ext (X3.out.trans HW.out)) EB ES (((X3.out.trans HW.out).cell (qab w _ HB.out)).trans HB.out) (((X3.out.trans HW.out).cell (qab w _ HS.out)).trans HS.out) (by omega) HOK.out).mono ?_;rintro e w4 ⟨⟨l2,h1,h2,rfl⟩,hX⟩;rw[HTM.out] at h1 h2;have h4:l2.length=4:=by rw[h1];exact congrArg (λ q=>(q+7)/8) zqg
   have HR2:Hid (Reads l2 s.data.toList/\l2.length=4):=Hd ⟨by rw[HSL.out];exact ziV zqQ (ts:=ts0) h1 h2,h4⟩;have HX4:=Hd (HW.out.trans hX);have h7:l.length=7:=by rcases HR.out with⟨_,h⟩ | ⟨h,_⟩;exact h;omega
   clear h1 h2 hX;have t2:=dT (p:=(l2.length:Int)<(l.length:Int));have hlt:l2.length<l.length:=by omega
   clear h4 h7;go_wp2_with fail;go_roundw
   case rel=>exact⟨1,l2,rfl,by omega,rfl,Hd (.inr ⟨by omega,HR2.out⟩),HX4⟩
   case measure=>simp[intOf]
  | 1,_=>
   have t1:decide ((1:Int)<2)=true:=by decide
   go_wp2_with fail;refine (ziW x n c (tkl ts) wr (HT3.out.ext HW.out) (HTb.out.ext (X3.out.trans HW.out)) EB ES (((X3.out.trans HW.out).cell (qab w _ HB.out)).trans HB.out) (((X3.out.trans HW.out).cell (qab w _ HS.out)).trans HS.out) (by omega) HOK.out (by rw[HTM.out];exact few0)).mono ?_;rintro e w4 ⟨⟨many,far,few,rs,l2,h0,h1,h2,rfl⟩,hX⟩;rw[HTM.out] at h0 h1;have h4:4<=l2.length:=by have:=zpk (many:=many) (far:=far) (rs:=rs) h0.w.1;omega
   have HX4:=Hd (HW.out.trans hX);have hl4:l.length=4:=by rcases HR.out with⟨h,_⟩ | ⟨_,_,h⟩;omega;exact h
   clear h0 h1 h2 hX;have t2:=dF (p:=(l2.length:Int)<(l.length:Int));have hlt:¬ l2.length<l.length:=by omega
   clear h4 hl4;go_wp2_with fail;go_roundw
   case rel=>exact⟨2,l,rfl,by omega,rfl,Hd (.inr (by rcases HR.out with⟨h,_⟩ | ⟨_,h⟩;omega;exact⟨by omega,h⟩)),HX4⟩
   case measure=>simp[intOf]
  | 2,_=>
   have t1:decide ((2:Int)<2)=false:=by decide
   go_wp2_with fail;go_ret2;have hr:=HR.out;rcases hr with⟨h,_⟩ | ⟨_,hr,h4⟩
   ·omega
   exact⟨⟨l,rfl,hr,by rw[HL.out,HL7.out];omega⟩,X3.out.trans HW.out⟩
def zipL (l t:List UInt8):List UInt8:=[120,156]++(l++big4 (Adl.adler t))
def ZipP (s:ByteArray) (e:Ending):Prop:=∃l:List UInt8,e=.returned (.tuple #[.string ⟨(zipL l s.data.toList).toArray⟩,.nilIface])/\Reads l s.data.toList/\l.length<=(Sto.all (s.size+1) s.data.toList).length
theorem zl7 (l:List UInt8):Adl.adler l<4294967296:=Adl.zp1 1 l
theorem zmc (a b:List UInt8):(⟨a.toArray⟩:ByteArray)++⟨b.toArray⟩=⟨(a++b).toArray⟩:=by
 apply zgk;rw[ByteArray.data_append];simp
set_option maxHeartbeats 4000000 in
theorem zpr (s:ByteArray) (w:World) (hTb:Tabs w) (EB ES:Value) (hB:w.cell? ⟨2,0,none⟩=some EB) (hS:w.cell? ⟨0,0,none⟩=some ES) (hz:s=⟨#[0,0]⟩):
  Calls Tryz.prog 24 #[.string s] w λ e w'=>ZipP s e/\Ext w w':=by
 have HD:=Hd (ziB s w hTb EB ES hB hS hz);have hs:s.size<=2:=by rw[hz];exact qaj 2
 have HA:=Hd (λ w=>zgu s w (by unfold maxLen;omega));clear hTb hB hS hz;go_enter Tryz.func24,Tryz.ntmps24
 go_wp2_with fail;refine HD.out.mono ?_;rintro e w1 ⟨⟨l,rfl,hR,hl⟩,hX⟩;have HR:=Hd (qaB hR hl);have X1:=Hd hX;have hll:l.length<=400000:=by
  have:=Sto.zcH (s.size+1) s.data.toList;rw[zoZ] at this;omega
 clear hR hl hX;go_wp2_with fail;refine (HA.out _).mono ?_;rintro e w2 ⟨rfl,rfl⟩;obtain⟨n,hn⟩:=nmE (Adl.adler s.data.toList);rw[hn];have HN:=Hd hn;clear hn;have hn4:n<4294967296:=by rw[<- HN.out];exact zl7 _
 obtain⟨wa,hwa⟩:∃wa,wa=w1.alloc (.cells #[.int .u8 ((n:Int)/16777216),.int .u8 ((n:Int)/65536%256),.int .u8 ((n:Int)/256%256),.int .u8 ((n:Int)%256)] 5):=⟨_,rfl⟩;have hcr:(convert 62 9 (.slice (some ⟨w1.heap.size,0,none⟩) 4 4)).run Tryz.prog wa=.ok (.string ⟨(big4 n).toArray⟩) wa:=by
  refine qbt (P:=Tryz.prog) wa 62 9 5 ⟨w1.heap.size,0,none⟩ 4 (big4 n) Tryz.underlying62 Tryz.underlying5 Tryz.underlying9 (λ j hj=>?_);have hj4:j<4:=hj;rw[zae,hwa];match j,hj4 with
  | 0,_=>simp[big4];omega
  | 1,_=>simp[big4]
  | 2,_=>simp[big4]
  | 3,_=>simp[big4]
 rw[hwa] at hcr;clear hwa wa;have hb4:(big4 n).length=4:=rfl;have hcat:¬ 9223372036854775807<2+l.length+(big4 n).length:=by omega
 have hcat1:¬ 9223372036854775807<2+l.length:=by omega
 clear hb4;go_wp2_with fail;go_ret2;refine⟨⟨l,?_,HR.out.1,HR.out.2⟩,X1.out.alloc _⟩;rw[show (⟨#[120,156]⟩:ByteArray)=⟨([120,156]:List UInt8).toArray⟩ from rfl,zmc,zmc];unfold zipL;rw[HN.out,qat];rfl
theorem zqc (l:List UInt8):(⟨(120 ::156 ::l).toArray⟩:ByteArray).extract 2 (⟨(120 ::156 ::l).toArray⟩:ByteArray).size=⟨l.toArray⟩:=by
  apply zgk;rw[qb4,qca];show ((120 ::156 ::l).take (l.length+1+1)).drop 2=l;rw[qan (by simp)];rfl
theorem zdb (l t:List UInt8):(zipL l t).length=l.length+6:=by unfold zipL big4;simp
theorem zqn {l t:List UInt8} (h:Reads l t) (hl:l.length+6<=300000) {most:Nat} (hm:t.length<=most) (hmm:most<=300000):Inf.unz (⟨(zipL l t).toArray⟩:ByteArray) (most:Int)=.ok t:=by
  have hsz:(⟨(zipL l t).toArray⟩:ByteArray).size=l.length+6:=zdb l t;obtain⟨bl,hi⟩:=h.infl (big4 (Adl.adler t)) (by show l.length+4<=300000;omega) hm hmm;have hex:(⟨(zipL l t).toArray⟩:ByteArray).extract 2 (⟨(zipL l t).toArray⟩:ByteArray).size=⟨(l++big4 (Adl.adler t)).toArray⟩:=zqc _;have hh:Inf.zaB (⟨(zipL l t).toArray⟩:ByteArray):=by
    refine⟨by rw[hsz];omega,?_⟩;show (120:Nat)%16=8/\120/16<=7/\(120*256+156)%31=0/\156/32%2=0;decide
  have hdrop:(⟨(zipL l t).toArray⟩:ByteArray).data.toList.drop (2+l.length)=big4 (Adl.adler t):=by
    show (120 ::156 ::(l++big4 (Adl.adler t))).drop (2+l.length)=_;rw[show 2+l.length=l.length+1+1 by omega,qaw,qaw,List.drop_left]
  unfold Inf.unz;rw[qac (by rw[hsz];omega),qac (λ q=>q hh),hex,hi];simp only[];rw[qac (by rw[hsz];omega),hdrop,zcn _ (zl7 t),qac (λ q=>q rfl)]
end Go.Proofs.YthlibiocadimhaaGreatDoor
