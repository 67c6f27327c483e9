/-
  PngReads' walk.
-/
import Derived.Test.YthlibiocadimhaaGreatDoorPngReadsG39
set_option linter.all false
set_option maxRecDepth 100000
namespace Go.Proofs.YthlibiocadimhaaGreatDoor
open Go.RowKit
theorem zip (w:World) (px:Nat->P4):Pxs w none 0 px:=⟨λ _=>rfl,λ a h=>by cases h⟩
theorem zmn {s:ByteArray} {w1 w2:World} {E:Nat->Addr} {e:Ending} (hre:zl0 w1 w2 E (Png.picR s) e) (hn:∀W H px,Png.picR s≠.ok W H px):
  ∃(v:Value) (c1 a:Int),e=.returned (.tuple #[zaH,v])/\ErrV w2 E v c1 a/\0<c1/\∀w3 w4 e',zmF w3 w4 (Png.picR s) e'->Ext w3 w4/\e'=.returned (.tuple #[zaH,.agg #[.int .i64 c1,.int .i64 a]]):=by
 obtain⟨_,hre⟩:=hre;cases hr:Png.picR s with
 | fault c i=>
  rw[hr] at hre;obtain⟨F,hc,hi,rfl,hF⟩:=hre;exact⟨_,(c:Int)+1,(i:Int),rfl,.fault c F (i:Int) hc hF (by omega) hi,by omega,λ w3 w4 e' h=>⟨h.1,h.2.2⟩⟩
 | bad c=>
  rw[hr] at hre;obtain⟨hc,rfl⟩:=hre;exact⟨_,(c:Int)+1,-1,rfl,.sent c hc,by omega,λ w3 w4 e' h=>⟨h.1,h.2.2⟩⟩
 | ok W H px=>exact absurd hr (hn W H px)
set_option maxHeartbeats 4000000 in
theorem zia (s:ByteArray) (w:World) (E:Nat->Addr) (hE:Errs w E) (hT:Tabs w) (hs:s.size<=maxLen):
  Calls Tryz.prog 5 #[.string s] w λ e w'=>e=.returned (.bool true)/\Ext w w':=by
 have HER:=Hd hE;have HTB:=Hd hT;unfold maxLen at hs;clear hE hT;go_enter Tryz.func5,Tryz.ntmps5
 go_wp2_with fail;refine (zqf w E HER.out HTB.out).mono ?_;rintro e w1 ⟨rfl,hX⟩;have X1:=Hd hX;clear hX;by_cases hsl:5000<s.size
 ·have t1:=dT (p:=(5000:Int)<(s.size:Int));go_wp2_with fail;go_ret;exact⟨rfl,X1.out⟩
 have t1:=dF (p:=(5000:Int)<(s.size:Int));have HPO:=Hd (λ wz=>zgZ s wz (by omega));have HRD:=Hd (zgH s w1 E (HER.out.ext X1.out) (HTB.out.ext X1.out) (by omega));clear hs;go_wp2_with fail;refine HRD.out.mono ?_;intro e w2 hre;have X2:=Hd (X1.out.trans hre.1);clear HRD X1 t1 hsl;by_cases hn:∀W H px,Png.picR s≠.ok W H px
 ·obtain⟨v,c1,a,rfl,hv,hc,hp⟩:=zmn hre hn;have HV:=Hd hv;have HP:=Hd hp;clear hre hn hv hp;unfold zaH at HP⊢;go_upto_region 5 with fail;refine zac (λ wz=>Ext w2 wz/\Bk wz w2.heap.size #[.int .i64 0,.int .i64 0,.slice none 0 0]) ⟨(Ext.refl _).alloc _,Bk.at rfl⟩ ?_;rintro w3 ⟨hE,hB⟩;obtain⟨TA,hTA⟩:=nmE (w2.heap.size);rw[hTA] at hB⊢;have X3:=Hd (X2.out.trans hE);have V3:=Hd (HV.out.ext hE);have B3:=Hd hB;clear hE hB hTA X2 HV;go_wp2_with fail;refine (HPO.out w3).mono ?_;intro e w4 hpo;obtain⟨hX,rfl⟩:=HP.out _ _ _ hpo;have X4:=Hd (X3.out.trans hX);have V4:=Hd (V3.out.ext hX);have B4:=Hd (B3.out.ext hX);clear hX hpo HPO HP X3 V3 B3;go_upto_region 6 with fail;refine zac (λ wz=>Ext w4 wz/\Bk wz (w4.heap.size+1) #[.int .i64 c1,.int .i64 a]) ⟨((Ext.refl _).alloc _).alloc _,Bk.at (by simp)⟩ ?_;rintro w5 ⟨hE,hB⟩;obtain⟨TB,hTB⟩:=nmE (w4.heap.size);rw[hTB] at hB⊢;have X5:=Hd (X4.out.trans hE);have V5:=Hd (V4.out.ext hE);have B5:=Hd (B4.out.ext hE);have C5:=Hd hB;clear hE hB hTB X4 V4 B4;have k0:=C5.out.cell 0;have k1:=C5.out.cell 1;have t0:decide (0<c1)=true:=qae hc;go_wp2_with fail;refine (ziL w5 E (HER.out.ext X5.out) v c1 a c1 a V5.out).mono ?_;rintro e w6 ⟨rfl,hX⟩;have X6:=Hd (X5.out.trans hX);have B6:=Hd (B5.out.ext hX);clear hX X5 V5 B5 C5 k0 k1 t0;rw[show decide (c1=c1/\(c1=0\/a=a))=true by simp];have k0:=B6.out.cell 0;have k1:=B6.out.cell 1;have k2:=B6.out.cell 2
  go_wp2_with fail;refine (zeO 0 0 none none 0 0 0 (λ _=>⟨0,0,0,0⟩) w6 (zip _ _) (zip _ _) (by omega)).mono ?_;rintro e w7 ⟨rfl,hX⟩;have X7:=Hd (X6.out.trans hX);clear hX;go_wp2_with fail;go_ret;exact⟨rfl,X7.out⟩
 obtain⟨W,H,px,hr⟩:∃W H px,Png.picR s=.ok W H px:=by
  refine Classical.byContradiction λ h=>hn λ W H px e=>h ⟨W,H,px,e⟩
 obtain⟨_,hre⟩:=hre;rw[hr] at hre;obtain⟨x,c,rfl,hx⟩:=hre;have HPX:=Hd hx;have HRR:=Hd hr;clear hn hx hr;go_upto_region 5 with fail;refine zac (λ wz=>Ext w2 wz/\Bk wz w2.heap.size #[.int .i64 (W:Int),.int .i64 (H:Int),.slice x (H*W) c]) ⟨(Ext.refl _).alloc _,Bk.at rfl⟩ ?_;rintro w3 ⟨hE,hB⟩;obtain⟨TA,hTA⟩:=nmE (w2.heap.size);rw[hTA] at hB⊢;have X3:=Hd (X2.out.trans hE);have P3:=Hd (HPX.out.ext hE);have B3:=Hd hB;clear hE hB hTA X2 HPX;go_wp2_with fail;refine (HPO.out w3).mono ?_;rintro e w4 ⟨hX,hpo⟩;rw[HRR.out] at hpo;obtain⟨y,d,rfl,hy⟩:=hpo;have X4:=Hd (X3.out.trans hX);have Q4:=Hd (P3.out.ext hX);have B4:=Hd (B3.out.ext hX);have Y4:=Hd hy;clear hX hy HPO X3 P3 B3;go_upto_region 6 with fail;refine zac (λ wz=>Ext w4 wz/\Bk wz w4.heap.size #[.int .i64 (W:Int),.int .i64 (H:Int),.slice y (H*W) d]/\Bk wz (w4.heap.size+1) #[.int .i64 0,.int .i64 (-1)]) ?hw ?_
 case hw=>exact⟨((Ext.refl _).alloc _).alloc _,(show Bk (w4.alloc _) w4.heap.size _ from Bk.at rfl).ext ((Ext.refl _).alloc _),Bk.at (by simp)⟩
 rintro w5 ⟨hE,hA,hB⟩;obtain⟨TB,hTB⟩:=nmE (w4.heap.size);rw[hTB] at hA hB⊢;have X5:=Hd (X4.out.trans hE);have P5:=Hd (Q4.out.ext hE);have Y5:=Hd (Y4.out.ext hE);have B5:=Hd (B4.out.ext hE);have A5:=Hd hA;have C5:=Hd hB;clear hE hA hB hTB X4 Q4 Y4 B4;have k0:=C5.out.cell 0;have k1:=A5.out.cell 0;have k2:=A5.out.cell 1;have k3:=A5.out.cell 2;have k4:=B5.out.cell 0;have k5:=B5.out.cell 1;have k6:=B5.out.cell 2;have hb:Hid (H*W<=10000000):=Hd (by have h:=Png.zmm HRR.out;exact qam (qaE h.2.1.2 h.1.2) (by decide));go_wp2_with fail;refine (zeO (W:Int) (H:Int) x y (H*W) c d px w5 P5.out Y5.out hb.out).mono ?_;rintro e w7 ⟨rfl,hX⟩;have X7:=Hd (X5.out.trans hX);clear hX;go_wp2_with fail;go_ret;exact⟨rfl,X7.out⟩
end Go.Proofs.YthlibiocadimhaaGreatDoor
