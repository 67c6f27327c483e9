/-
  inflate: tokens.
-/
import Derived.Test.YthlibiocadimhaaGreatDoorPngReadsG8
set_option linter.all false
set_option maxRecDepth 100000
namespace Go.Proofs.YthlibiocadimhaaGreatDoor
open Go.RowKit
theorem Yen5 {p:Prop} (h:p:=by
 refine rdT 19 λ KK hK=>?_;have HRo:=Hd (zaa HO.out (Y_2.out.keeps (S:=λ _=>False)) (λ _ _ q=>q));refine apL HRo.out [.int .u8 (y.toNat:Int)] ?_ (hnews:=(λ j u hu=>?c1))
 case c1=>
  obtain rfl:j=0:=by have:=(qa7.1 hu).1;simpa using this
  rw[zae,T1_2.out.cell 0];exact hu
 intro g1 cap1 w4 hown hgrow hat hlt1;have P:=H_2.out.go.push (y:=y) HM.out (Ext.refl _) hgrow hown (by rcases hat with q | q;exact .inl q.symm;exact .inr (by rw[q];rfl));have b1:=P.1.cell 1;have f1:=P.1.frozen 1;have HP:=Hd P;clear P hown hgrow hat hlt1;skip
 refine oT hK ?_;clear hK KK;refine tk2 20 21 ?_;refine rdT 22 λ KK hK=>?_;go_simp;refine oT hK ?_;clear hK KK b1 f1;refine dnT ?_;have wj:=wqz (x:=(j:Int)+1);have HU2:=Hd HUS.out;go_wp2_with fail;go_roundw
 case rel=>exact⟨j+1,_,by omega,by go_num,Hd (by rw[HU2.out];exact H_2.out.to HP.out.2.1 HP.out.2.2)⟩
 case measure=>simp[intOf];omega):p:=h
theorem Yen3 {p:Prop} (h:p:=by
 refine rdT 17 λ KK hK=>?_;have hc:=zai Y_1.out HC.out;go_simp;refine oT hK ?_;clear hK KK hc;refine rdT 18 λ KK hK=>?_;go_simp;refine oT hK ?_;clear hK KK;refine zab (λ wz=>Ext w1 wz/\Bk wz w1.heap.size #[.int .u8 (y.toNat:Int)]) ⟨Ext.alloc (Ext.refl _) _,Bk.at rfl⟩ ?_;rintro w2 ⟨h,hB⟩;have H_2:=Hd (H_1.out.ext h);have Y_2:=Hd (Y_1.out.trans h);clear h H_1 Y_1;have T1_2:=Hd (hB);clear hB;exact Yen5):p:=h
theorem Yen4 {p:Prop} (h:p:=by
 exact Yen5):p:=h
theorem Yen0 {p:Prop} (h:p:=by
 have k1:=H_1.out.bk.cell 1;go_simp;refine oT hK ?_;clear hK KK k1;refine rdT 12 λ KK hK=>?_;have k1:=H_1.out.bk.cell 1;go_simp;refine oT hK ?_;clear hK KK k1;refine tk3 13 15 16 ?_;exact Yen3):p:=h
theorem Yen1 {p:Prop} (h:p:=by
 refine rdT 8 λ KK hK=>?_;have k1:=H_1.out.bk.cell 1;go_simp;refine oT hK ?_;clear hK KK k1;refine tkH 16 ?_;exact Yen3):p:=h
theorem Yen2 {p:Prop} (h:p:=by
 refine rdT2 4 17 (λ KK hK=>?_) λ KK hK=>?_
 ·have k1:=H_1.out.bk.cell 1;go_simp;refine oT hK ?_;clear hK KK k1;exact Yen3
 have hc:=zai Y_1.out HC.out;go_simp;refine oT hK ?_;clear hK KK hc;refine rdT2 4 18 (λ KK hK=>?_) λ KK hK=>?_
 ·have k1:=H_1.out.bk.cell 1;go_simp;refine oT hK ?_;clear hK KK k1;refine rdT 18 λ KK hK=>?_;go_simp;refine oT hK ?_;clear hK KK;refine zab (λ wz=>Ext w1 wz/\Bk wz w1.heap.size #[.int .u8 (y.toNat:Int)]) ⟨Ext.alloc (Ext.refl _) _,Bk.at rfl⟩ ?_;rintro w2 ⟨h,hB⟩;have H_2:=Hd (H_1.out.ext h);have Y_2:=Hd (Y_1.out.trans h);clear h H_1 Y_1;have T1_2:=Hd (hB);clear hB;exact Yen4
 go_simp;refine oT hK ?_;clear hK KK;refine zab (λ wz=>Ext w1 wz/\Bk wz w1.heap.size #[.int .u8 (y.toNat:Int)]) ⟨Ext.alloc (Ext.refl _) _,Bk.at rfl⟩ ?_;rintro w2 ⟨h,hB⟩;have H_2:=Hd (H_1.out.ext h);have Y_2:=Hd (Y_1.out.trans h);clear h H_1 Y_1;have T1_2:=Hd (hB);clear hB;refine rdT 4 λ KK hK=>?_;have k1:=H_2.out.bk.cell 1;go_simp;refine oT hK ?_;clear hK KK k1;exact Yen4):p:=h
set_option maxHeartbeats 4000000 in
theorem zeD (dn:Nat) (cs:Array Value) (D:World->Value->Prop) (R B T a most len gen FF:Nat) (f g:Nat->Int) (s:ByteArray) (v0:Value) (out:List UInt8) (tr:List Inf.Ev) (w0 w:World) (E:Nat->Addr) (hE:Errs w0 E) (hTb:Tabs w0) (hD:Dist dn cs w0 R B s most E g gen D) (hI:ISt w0 w R B s a v0 out most) (hT:Tr w T f len R B v0) (hd:D w v0) (hF:8*s.size-a<FF) (hmost:most<=300000) (hsz:s.size<=300000) (hout:out.length<=most):
  Calls Tryz.prog 159 #[.pointer (some ⟨R,0,none⟩),.pointer (some ⟨T,0,none⟩),.func (.func dn) #[] cs] w λ e w'=>IPost w0 w R B s most v0 E (Inf.pr (Inf.toks s.data.toList most f len g gen FF a out tr)) e w':=by
 have HE:=Hd hE;have HTb:=Hd hTb;have HD:=Hd hD;have hen:=hD.enters;have H_0:Hid (TGo D w0 w w R B s a v0 v0 out most T f len):=Hd ⟨IGo.start hI,hT,hd,hD.stab⟩;obtain⟨r,hr⟩:=nmE (Inf.toks s.data.toList most f len g gen FF a out tr);rw[hr];have HR:=Hd hr;have HFF:=Hd hF;obtain⟨i0,hi0,hz0,hz1,hz2⟩:=qbb u8inf;clear hE hTb hD hI hT hd hr hF;go_enter Tryz.func159,Tryz.ntmps159
 go_wp2_with fail;go_loopg [] (8*s.size-a) (λ k wr=>∃(a:Nat) (v:Value) (out:List UInt8) (tr:List Inf.Ev) (FF:Nat),Hid (TGo D w0 w wr R B s a v0 v out most T f len)/\Hid (Inf.toks s.data.toList most f len g gen FF a out tr=r)/\Hid (8*s.size-a<FF/\k=8*s.size-a)/\out.length<=most)
 case atStart=>exact⟨a,v0,out,tr,FF,H_0,HR,Hd ⟨HFF.out,rfl⟩,hout⟩
 case round=>
  clear H_0 HR HFF hout;obtain⟨a,v,out,tr,FF,H_0,HR,HK,hout⟩:=hrel;have HF0:Hid (0<FF):=Hd (by have:=HK.out;omega);go_wp2_with fail;cases hn:Inf.nxt s.data.toList f len a with
  | error c=>
   refine (ze7 R B T a c most len f s v0 v out w0 w _ E HE.out H_0.out.go H_0.out.tr hn).mono ?_;rintro e w9 ⟨rfl,h9⟩;exact⟨rfl,zaC (Inf.zlU HF0.out HR.out hn) h9⟩
  | ok q=>
   obtain⟨k,a1⟩:=q;have hal:=Inf.zbn hn;rw[zag] at hal;obtain⟨hal1,hal2,hal3⟩:=hal;have hlen:len<=300:=H_0.out.tr.good.1.1;have HN:=Hd hn;refine (zd8 R B T a k a1 most len f s v0 v out w0 w _ E HE.out H_0.out.go H_0.out.tr hn).mono ?_;clear hn;rintro e w1 ⟨rfl,hG,hS⟩;have H_1:=Hd (H_0.out.rd hG hS);clear H_0;clear hG hS;by_cases hk:k=256
   ·subst hk;go_wp2_with fail;first | go_end0 | refine qaZ (results_none rfl _ _ _) rfl ?_
    exact zhQ (Inf.zmV HF0.out HR.out HN.out) H_1.out.go
   have t1:((k:Int) ==256)=false:=qak.2 (by omega);have HKN:=Hd hk;by_cases hk2:k<256
   ·have t2:=dT (p:=(k:Int)<256);obtain⟨Lo,hLo⟩:=nmE (out.length);have HL:=Hd hLo;have hro:=H_1.out.row;rw[hLo] at hro hout;obtain⟨xo,co,rfl⟩:=zam hro;clear hLo hro hk;have c0:=H_1.out.bk.cell 0;have c1:=H_1.out.bk.cell 1;have c2:=H_1.out.bk.cell 2;have ee:=zaj HE.out H_1.out.old;have e0:=ee.1;have e1:=ee.2;clear ee;by_cases hm:Lo<most
    ·have t3:=dT (p:=(Lo:Int)<(most:Int));have HQ:=Hd (Inf.zex HF0.out HR.out HN.out HKN.out (Inf.zjj (L:=s.data.toList) (g:=g) (gen:=gen) (a:=a1) (out:=out) (most:=most) hk2 (by rw[HL.out];omega)));clear HR;go_wp2_with fail;refine qaD 12 (by kernel_rfl) (by kernel_rfl) ?_;simp only[qao,qaH,qaw,qaS];repeat still_step
     refine qbB ?_;change wpList _ _ _ _ _ w1.drew;go_wp2_with fail;refine (zaP _ _ _).mono ?_;rintro e _ ⟨rfl,rfl⟩;have H_2:=Hd (H_1.out.ext (show Ext w1 w1.drew from qag (Ext.refl _)));clear H_1;clear t1 t2 t3;have wk:∀z,z=(k:Int)->IntKind.u8.wrap z=z:=by rintro _ rfl;unfold IntKind.wrap;simp[IntKind.bits,IntKind.signed];omega
     have hro:=H_2.out.row;rw[HL.out] at hro;have HO:=Hd hro;clear hro;have hky:(((UInt8.ofNat k).toNat:Nat):Int)=(k:Int):=by rw[qbI,qaF (by omega)]
     have HKY:=Hd hky;have hkm:(k:Int)%256=(k:Int):=by omega
     clear hky;go_wp2_with (at_builtin;refine apA (HO.out.alloc _) [.int .u8 (k:Int)] ?_);intro v' w4 hown hgrow _ hat;obtain⟨x4,c4,rfl⟩:=zam hown;have P:=H_2.out.go.push (y:=UInt8.ofNat k) HL.out ((Ext.refl _).alloc _) hgrow (by rw[HKY.out];exact hown) (by rcases hat with q | q;exact .inl q;exact .inr (by rw[q];simp));have b1:=P.1.cell 1;have f1:=P.1.frozen 1;have HP:=Hd P;clear P hown hgrow hat c0 c1 c2 e0 e1 wk;go_wp2_with fail;obtain⟨F2,hF2,HR2⟩:=HQ.out;have HR3:=Hd HR2;have HF3:Hid (8*s.size-a1<F2):=Hd (by have:=HK.out;omega);clear HR2 HQ;go_roundg (8*s.size-a1)
     case measure=>have:=HK.out;omega
     case rel=>exact⟨a1,_,_,_,F2,Hd (H_2.out.to HP.out.2.1 HP.out.2.2),HR3,Hd ⟨HF3.out,rfl⟩,by rw[qaa,HL.out];simp;omega⟩
    have t3:=dF (p:=(Lo:Int)<(most:Int));have HQ:=Hd (Inf.zbq HF0.out HR.out HN.out HKN.out (Inf.zhJ (L:=s.data.toList) (g:=g) (gen:=gen) (a:=a1) (out:=out) (most:=most) hk2 (by rw[HL.out];omega)));go_wp2_with fail;refine qaD 12 (by kernel_rfl) (by kernel_rfl) ?_;simp only[qao,qaH,qaw,qaS];repeat still_step
    refine qbB ?_;change wpList _ _ _ _ _ w1.drew;go_wp2_with fail;refine (zbf _ (E 1) _).mono ?_;rintro e _ ⟨rfl,rfl⟩;exact⟨rfl,zaC HQ.out (H_1.out.ext (qag (Ext.refl _))).old⟩
   have t2:=dF (p:=(k:Int)<256);obtain⟨kk,rfl⟩:∃kk,k=kk+257:=⟨k-257,by omega⟩;have hkk:((kk+257:Nat):Int)-257=(kk:Int):=by omega
   have wkk:=wqz (x:=(kk:Int));have ee:=zaj HE.out H_1.out.old;have e0:=ee.1;clear ee;clear hk;by_cases hk3:29<=kk
   ·have t3:=dF (p:=(kk:Int)<29);go_wp2_with fail;refine (zbf _ (E 0) _).mono ?_;rintro e _ ⟨rfl,rfl⟩;exact⟨rfl,zaC (Inf.zbq HF0.out HR.out HN.out HKN.out (Inf.zjk (by omega))) H_1.out.old⟩
   have t3:=dT (p:=(kk:Int)<29);go_wp2_with fail;refine (zaP _ _ _).mono ?_;rintro e _ ⟨rfl,rfl⟩;clear t1 t2 t3;obtain⟨lb,hlb⟩:=nmE (Inf.lensB.getD kk 0);obtain⟨ln,hln⟩:=nmE (Inf.lensL.getD kk 0);have hlb5:lb<=5:=by rw[<- hlb];exact Inf.zis kk
   have hln5:ln<=258:=by rw[<- hln];exact Inf.zin kk
   have HLB:=Hd hlb;have HLN:=Hd hln;have tl:=HTb.out.lens kk (by omega);have tb:=HTb.out.lenB kk (by omega);rw[hlb] at tb;rw[hln] at tl;have TL:=Hd tl;have TB:=Hd tb;clear tl tb hlb hln e0 hkk wkk;have hkI:(0:Int)<=(kk:Int):=by omega
   have hkI2:(kk:Int)<29:=by omega
   go_wp2_with fail;cases hx:Inf.get s.data.toList lb a1 with
   | error c=>
    have HX:=Hd hx;have HQ:=Hd (Inf.zbq HF0.out HR.out HN.out HKN.out (Inf.zoG (L:=s.data.toList) (most:=most) (g:=g) (gen:=gen) (out:=out) (by omega) (by omega) (by rw[qaX,HLB.out];exact hx)));clear hx;refine qar (S:=λ w'=>w'.cell? ⟨11,kk,none⟩=some (.int .i64 (ln:Int))/\w'.cell? ⟨12,kk,none⟩=some (.int .i64 (lb:Int))) (by kernel_rfl) ⟨(zai H_1.out.old TL.out),(zai H_1.out.old TB.out)⟩ (λ hHeld=>?_);clear hHeld;refine zab (λ wz=>Ext w1 wz) (show Ext w1 w1.drew from qag (Ext.refl w1)) ?_;rintro w2 h;have H_2:=Hd (H_1.out.ext h);clear h H_1;have hHeld:w2.cell? ⟨11,kk,none⟩=some (.int .i64 (ln:Int))/\w2.cell? ⟨12,kk,none⟩=some (.int .i64 (lb:Int)):=⟨(zai H_2.out.old TL.out),(zai H_2.out.old TB.out)⟩;refine tk5 0 1 2 3 4 ?_;refine tk2 5 6 ?_;refine rdH 7 rfl λ KK hK=>?_;clear hHeld;go_simp;refine (za6 R B a1 lb c most s v0 v out w0 w _ E HE.out H_2.out.go (by omega) HX.out).mono ?_;rintro e w9 ⟨rfl,h9⟩;exact⟨rfl,zaC HQ.out h9⟩
   | ok q=>
    obtain⟨x,a2⟩:=q;obtain⟨z1,z2,z3,z4⟩:=Inf.zax hx;clear z4;rw[zag] at z2;have hx32:x<32:=qaA z3 (qaq (n:=2) (by decide) hlb5);clear z3;have HX:=Hd hx;clear hx;have wn:=wqz (x:=(ln:Int)+(x:Int));obtain⟨n,hn⟩:∃n:Nat,ln+x=n:=⟨_,rfl⟩;have hnI:(ln:Int)+(x:Int)=(n:Int):=by omega
    have HNN:=Hd hn;have hn290:n<=290:=by omega
    clear hn;refine qar (S:=λ w'=>w'.cell? ⟨11,kk,none⟩=some (.int .i64 (ln:Int))/\w'.cell? ⟨12,kk,none⟩=some (.int .i64 (lb:Int))) (by kernel_rfl) ⟨(zai H_1.out.old TL.out),(zai H_1.out.old TB.out)⟩ (λ hHeld=>?_);clear hHeld;refine zab (λ wz=>Ext w1 wz) (show Ext w1 w1.drew from qag (Ext.refl w1)) ?_;rintro w2 h;have H_2:=Hd (H_1.out.ext h);clear h H_1;have hHeld:w2.cell? ⟨11,kk,none⟩=some (.int .i64 (ln:Int))/\w2.cell? ⟨12,kk,none⟩=some (.int .i64 (lb:Int)):=⟨(zai H_2.out.old TL.out),(zai H_2.out.old TB.out)⟩;refine tk5 0 1 2 3 4 ?_;refine tk2 5 6 ?_;refine rdH 7 rfl λ KK hK=>?_;clear hHeld;go_simp;refine (zaS R B a1 lb x a2 most s v0 v out w0 w _ E HE.out H_2.out.go (by omega) HX.out).mono ?_;rintro e w3 ⟨rfl,hG,hS⟩;have H_3:=Hd (H_2.out.rd hG hS);clear H_2;clear hG hS;go_simp;refine oS hK ⟨(zai H_3.out.old TL.out),(zai H_3.out.old TB.out)⟩ λ hHeld=>?_;clear hK KK;refine tk2 8 9 ?_;refine dnT ?_;clear hHeld;clear wn hnI;go_wp2_with fail;cases hd:Inf.nxt s.data.toList g gen a2 with
    | error c=>
     refine (HD.out.no w _ a2 v0 v out c H_3.out.go H_3.out.d hd).mono ?_;rintro e w9 ⟨rfl,h9⟩;exact⟨rfl,zaC (Inf.zbq HF0.out HR.out HN.out HKN.out (Inf.zoK (by omega) (by omega) (by rw[qaX,HLB.out];exact HX.out) hd)) h9⟩
    | ok q=>
     obtain⟨d,a3⟩:=q;have hal3:=Inf.zbn hd;rw[zag] at hal3;obtain⟨hb1,hb2,-⟩:=hal3;have HDD:=Hd hd;refine (HD.out.yes w _ a2 v0 v out d a3 H_3.out.go H_3.out.d hd).mono ?_;clear hd;rintro e w7 ⟨rfl,hG,hS⟩;have H_4:=Hd (H_3.out.to hG hS);clear H_3;clear hG hS;have HTF:=Hd (Inf.zoH (L:=s.data.toList) (most:=most) (g:=g) (gen:=gen) (out:=out) (k:=kk+257) (by omega) (by omega) (by rw[qaX,HLB.out];exact HX.out) HDD.out);have ee:=zaj HE.out H_4.out.old;have e0:=ee.1;clear ee;by_cases hd3:30<=d
     ·have t3:=dF (p:=(d:Int)<30);go_wp2_with fail;refine (zbf _ (E 0) _).mono ?_;rintro e _ ⟨rfl,rfl⟩;exact⟨rfl,zaC (Inf.zbq HF0.out HR.out HN.out HKN.out (HTF.out.trans (Inf.zjJ hd3))) H_4.out.old⟩
     have t3:=dT (p:=(d:Int)<30);go_wp2_with fail;refine (zaP _ _ _).mono ?_;rintro e _ ⟨rfl,rfl⟩;clear t3 e0;obtain⟨db,hdb⟩:=nmE (Inf.zaQ.getD d 0);obtain⟨dl,hdl⟩:=nmE (Inf.zak.getD d 0);have hdb13:db<=13:=by rw[<- hdb];exact Inf.zgx d
     have hdl5:dl<=24577:=by rw[<- hdl];exact Inf.zgT d
     have hdl1:1<=dl:=by rw[<- hdl];exact Inf.zfp d (by omega)
     have HDB:=Hd hdb;have HDL:=Hd hdl;have tl:=HTb.out.dists d (by omega);have tb:=HTb.out.distB d (by omega);rw[hdb] at tb;rw[hdl] at tl;have TDL:=Hd tl;have TDB:=Hd tb;clear tl tb hdb hdl;have hdI:(0:Int)<=(d:Int):=by omega
     have hdI2:(d:Int)<30:=by omega
     go_wp2_with fail;cases hy:Inf.get s.data.toList db a3 with
     | error c=>
      have HY:=Hd hy;have HQ:=Hd (Inf.zbq HF0.out HR.out HN.out HKN.out (HTF.out.trans (Inf.zoJ (by omega) (by rw[HDB.out];exact hy))));clear hy;refine qar (S:=λ w'=>w'.cell? ⟨13,d,none⟩=some (.int .i64 (dl:Int))/\w'.cell? ⟨14,d,none⟩=some (.int .i64 (db:Int))) (by kernel_rfl) ⟨(zai H_4.out.old TDL.out),(zai H_4.out.old TDB.out)⟩ (λ hHeld=>?_);clear hHeld;refine zab (λ wz=>Ext w7 wz) (show Ext w7 w7.drew from qag (Ext.refl w7)) ?_;rintro w5 h;have H_5:=Hd (H_4.out.ext h);clear h H_4;have hHeld:w5.cell? ⟨13,d,none⟩=some (.int .i64 (dl:Int))/\w5.cell? ⟨14,d,none⟩=some (.int .i64 (db:Int)):=⟨(zai H_5.out.old TDL.out),(zai H_5.out.old TDB.out)⟩;refine tk5 0 1 2 3 4 ?_;refine tk2 5 6 ?_;refine rdH 7 rfl λ KK hK=>?_;clear hHeld;go_simp;refine (za6 R B a3 db c most s v0 v out w0 w _ E HE.out H_5.out.go (by omega) HY.out).mono ?_;rintro e w9 ⟨rfl,h9⟩;exact⟨rfl,zaC HQ.out h9⟩
     | ok q=>
      obtain⟨y,a4⟩:=q;obtain⟨z1,z2,z3,z4⟩:=Inf.zax hy;clear z4;rw[zag] at z2;have hy32:y<8192:=qaA z3 (qaq (n:=2) (by decide) hdb13);clear z3;have HY:=Hd hy;clear hy;have wn:=wqz (x:=(dl:Int)+(y:Int));obtain⟨bk,hbk⟩:∃bk:Nat,dl+y=bk:=⟨_,rfl⟩;have hbI:(dl:Int)+(y:Int)=(bk:Int):=by omega
      have hbk2:1<=bk/\bk<=40000:=by omega
      have HBK:=Hd hbk;clear hbk;refine qar (S:=λ w'=>w'.cell? ⟨13,d,none⟩=some (.int .i64 (dl:Int))/\w'.cell? ⟨14,d,none⟩=some (.int .i64 (db:Int))) (by kernel_rfl) ⟨(zai H_4.out.old TDL.out),(zai H_4.out.old TDB.out)⟩ (λ hHeld=>?_);clear hHeld;refine zab (λ wz=>Ext w7 wz) (show Ext w7 w7.drew from qag (Ext.refl w7)) ?_;rintro w5 h;have H_5:=Hd (H_4.out.ext h);clear h H_4;have hHeld:w5.cell? ⟨13,d,none⟩=some (.int .i64 (dl:Int))/\w5.cell? ⟨14,d,none⟩=some (.int .i64 (db:Int)):=⟨(zai H_5.out.old TDL.out),(zai H_5.out.old TDB.out)⟩;refine tk5 0 1 2 3 4 ?_;refine tk2 5 6 ?_;refine rdH 7 rfl λ KK hK=>?_;clear hHeld;go_simp;refine (zaS R B a3 db y a4 most s v0 v out w0 w _ E HE.out H_5.out.go (by omega) HY.out).mono ?_;rintro e w6 ⟨rfl,hG,hS⟩;have H_6:=Hd (H_5.out.rd hG hS);clear H_5;clear hG hS;go_simp;refine oS hK ⟨(zai H_6.out.old TDL.out),(zai H_6.out.old TDB.out)⟩ λ hHeld=>?_;clear hK KK;refine tk2 8 9 ?_;refine dnT ?_;clear hHeld;clear wn hbI;obtain⟨Lo,hLo⟩:=nmE (out.length);have HL:=Hd hLo;have hro:=H_6.out.row;rw[hLo] at hro hout;obtain⟨xo,co,rfl⟩:=zam hro;clear hLo hro;have c0:=H_6.out.bk.cell 0;have c1:=H_6.out.bk.cell 1;have c2:=H_6.out.bk.cell 2;have ee:=zaj HE.out H_6.out.old;have e0:=ee.1;have e1:=ee.2;clear ee
      by_cases hbo:Lo<bk
      ·have t3:=dF (p:=(bk:Int)<=(Lo:Int));have n3:¬ bk<=Lo:=by omega
       have HQ:=Hd (Inf.zbq HF0.out HR.out HN.out HKN.out (HTF.out.trans (Inf.zhP (by omega) (by rw[HDB.out];exact HY.out) (by rw[HL.out,HDL.out,HBK.out];exact hbo))));go_wp2_with fail;refine qaD 9 (by kernel_rfl) (by kernel_rfl) ?_;simp only[qao,qaH,qaw,qaS];repeat still_step
       refine qbB ?_;change wpList _ _ _ _ _ w6.drew;go_wp2_with fail;refine (zbf _ (E 0) _).mono ?_;rintro e _ ⟨rfl,rfl⟩;exact⟨rfl,zaC HQ.out (H_6.out.ext (qag (Ext.refl _))).old⟩
      have t3:=dT (p:=(bk:Int)<=(Lo:Int));have n3:bk<=Lo:=by omega
      have HBO:=Hd hbo;go_wp2_with fail;refine qaD 9 (by kernel_rfl) (by kernel_rfl) ?_;simp only[qao,qaH,qaw,qaS];repeat still_step
      refine qbB ?_;change wpList _ _ _ _ _ w6.drew;go_wp2_with fail;refine (zaP _ _ _).mono ?_;rintro e _ ⟨rfl,rfl⟩;have H_7:=Hd (H_6.out.ext (show Ext w6 w6.drew from qag (Ext.refl _)));clear H_6;clear t3 n3;have wl:=wqz (x:=(Lo:Int)+(n:Int));go_wp2_with fail;clear c0 c1 c2 e0 e1;refine zac (λ wz=>Ext w6.drew wz) (Ext.refl _) ?_;rintro w8 h;have H_8:=Hd (H_7.out.ext h);clear h H_7;have c0:=H_8.out.bk.cell 0;have c1:=H_8.out.bk.cell 1;have c2:=H_8.out.bk.cell 2;have ee:=zaj HE.out H_8.out.old;have e0:=ee.1;have e1:=ee.2;clear ee;by_cases hmo:most<Lo+n
      ·have t4:=dF (p:=(Lo:Int)+(n:Int)<=(most:Int));have HQ:=Hd (Inf.zbq HF0.out HR.out HN.out HKN.out (HTF.out.trans (Inf.zh2 (by omega) (by rw[HDB.out];exact HY.out) (by rw[HL.out,HDL.out,HBK.out];exact HBO.out) (by rw[HL.out,qaX,HLN.out,HNN.out];exact hmo))));refine qaD 14 (by kernel_rfl) (by kernel_rfl) ?_;simp only[qao,qaH,qaw,qaS];repeat still_step
       refine qbB ?_;change wpList _ _ _ _ _ w8.drew;go_wp2_with fail;refine (zbf _ (E 1) _).mono ?_;rintro e _ ⟨rfl,rfl⟩;exact⟨rfl,zaC HQ.out (H_8.out.ext (qag (Ext.refl _))).old⟩
      have t4:=dT (p:=(Lo:Int)+(n:Int)<=(most:Int));have HQ:=Hd (Inf.zex HF0.out HR.out HN.out HKN.out (HTF.out.trans (Inf.zlJ (by omega) (by rw[HDB.out];exact HY.out) (by rw[HL.out,HDL.out,HBK.out];exact HBO.out) (by rw[HL.out,qaX,HLN.out,HNN.out];exact hmo))));rw[qaX,HLN.out,HNN.out,HDL.out,HBK.out] at HQ;clear HR;refine qaD 14 (by kernel_rfl) (by kernel_rfl) ?_;simp only[qao,qaH,qaw,qaS];repeat still_step
      refine qbB ?_;change wpList _ _ _ _ _ w8.drew;go_wp2_with fail;refine (zaP _ _ _).mono ?_;rintro e _ ⟨rfl,rfl⟩;have H_9:=Hd (H_8.out.ext (show Ext w8 w8.drew from qag (Ext.refl _)));clear H_8;clear t4 wl c0 c1 c2 e0 e1;have HB:Hid (Lo+n<=most/\bk<=Lo/\1<=bk):=Hd ⟨by omega,by omega,by omega⟩;have HA4:Hid (a<a4/\a4<=8*s.size):=Hd ⟨by omega,by omega⟩;clear hmo hbo;go_wp2_with fail;go_loopw [101] (λ c wr=>∃(j:Nat) (v:Value),j<=n/\c=.int .i64 j/\Hid (TGo D w0 w wr R B s a4 v0 v (copyL out bk j) most T f len)) (λ c _=>n-(intOf c).toNat)
      case atStart=>exact⟨0,_,by omega,rfl,H_9⟩
      case round=>
       clear H_9;obtain⟨j,v,hj,rfl,H_0⟩:=hrel;by_cases hjn:j<n
       ·obtain⟨U,hU⟩:=nmE (copyL out bk j);have HUS:Hid (copyL out bk (j+1)=U ++ [U.getD (U.length-bk) 0]):=Hd (by simp only[copyL,hU]);have hUl:U.length=Lo+j:=by rw[<- hU,za1,HL.out]
        rw[hU] at H_0;obtain⟨M,hM⟩:=nmE (U.length);have hro:=H_0.out.row;rw[hM] at hro hUl HUS;have HM:=Hd hM;have hBq:=HB.out;obtain⟨gb,cp,rfl,_,_⟩:=zaw hro (by omega);obtain⟨y,hy⟩:=nmE (U.getD (M-bk) 0);rw[hy] at HUS;obtain⟨q,hq⟩:∃q:Nat,M-bk=q:=⟨_,rfl⟩;have hc:wr.cell? ⟨gb,q,none⟩=some (.int .u8 (y.toNat:Int)):=by
         have hql:q<U.length:=by omega
         rw[hro.cellAt q (by omega),zaN U q hql,<- hy,hq];simp[List.getD,hql]
        have hqI:(M:Int)-(bk:Int)=(q:Int):=by omega
        have wq:=wqz (x:=(q:Int));have hqM:q<M:=by omega
        have hM2:M<300000:=by omega
        have hqMI:(q:Int)<(M:Int):=by omega
        have hq0:(0:Int)<=(q:Int):=by omega
        have hqn:((q:Nat):Int).toNat=q:=by omega
        have tj:=dT (p:=(j:Int)<(n:Int));have HO:=Hd hro;have HC:=Hd hc;clear hU hy hM hq hUl hBq hc hro;go_wp2_with fail;have Y_0:=Hd (Ext.refl wr);refine rgW λ w1 h=>?_;have H_1:=Hd (H_0.out.ext h);have Y_1:=Hd (Y_0.out.trans h);clear h H_0 Y_0;refine tk5 0 1 2 3 5 ?_;refine tk5 6 7 9 10 11 ?_;refine tkH 14 ?_;refine qch (rs:=[4,8,12]) (by kernel_rfl) (by simp) ?_;refine qaM rfl (λ KK hK=>?_) (qaM rfl (λ KK hK=>?_) (qaM rfl (λ KK hK=>?_) qcb))
        ·have k1:=H_1.out.bk.cell 1;go_simp;refine oT hK ?_;clear hK KK k1;refine rdT2 8 12 (λ KK hK=>?_) λ KK hK=>?_
         ·exact Yen0
         have k1:=H_1.out.bk.cell 1;go_simp;refine oT hK ?_;clear hK KK k1;refine tk2 13 15 ?_;exact Yen1
        ·have k1:=H_1.out.bk.cell 1;go_simp;refine oT hK ?_;clear hK KK k1;refine rdT2 4 12 (λ KK hK=>?_) λ KK hK=>?_
         ·exact Yen0
         have k1:=H_1.out.bk.cell 1;go_simp;refine oT hK ?_;clear hK KK k1;refine tk3 13 15 16 ?_;exact Yen2
        have k1:=H_1.out.bk.cell 1;go_simp;refine oT hK ?_;clear hK KK k1;refine tk2 13 15 ?_;refine rdT2 4 8 (λ KK hK=>?_) λ KK hK=>?_
        ·have k1:=H_1.out.bk.cell 1;go_simp;refine oT hK ?_;clear hK KK k1;exact Yen1
        have k1:=H_1.out.bk.cell 1;go_simp;refine oT hK ?_;clear hK KK k1;refine tkH 16 ?_;exact Yen2
       obtain rfl:j=n:=by omega
       have tj:=dF (p:=(j:Int)<(j:Int));go_wp2_with fail;obtain⟨F2,hF2,HR2⟩:=HQ.out;have HR3:=Hd HR2;have HF3:Hid (8*s.size-a4<F2):=Hd (by have:=HK.out;have:=HA4.out;omega);clear HR2 HQ;go_roundg (8*s.size-a4)
       case measure=>have:=HK.out;have:=HA4.out;omega
       case rel=>exact⟨a4,v,_,_,F2,H_0,HR3,Hd ⟨HF3.out,rfl⟩,by rw[za1,HL.out];exact HB.out.1⟩
end Go.Proofs.YthlibiocadimhaaGreatDoor
