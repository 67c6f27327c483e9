/-
  chunk.Write.
-/
import Derived.Test.YthlibiocadimhaaGreatDoorPngReadsG6
import Derived.Test.YthlibiocadimhaaGreatDoorPngReadsG7
set_option linter.all false
set_option maxRecDepth 100000
namespace Go.Proofs.YthlibiocadimhaaGreatDoor
open Go.RowKit
structure ErrC (w:World) (E:Nat->Addr):Prop where
 var:∀k,k<4->w.cell? ⟨gk k,0,none⟩=some (sentV (E k))
theorem ErrC.ext {w w':World} {E:Nat->Addr} (h:ErrC w E) (hE:Ext w w'):ErrC w' E:=⟨λ k hk=>(hE.cell (p:=⟨gk k,0,none⟩) (qab w _ (h.var k hk))).trans (h.var k hk)⟩
theorem Errs.c {w:World} {E:Nat->Addr} (h:Errs w E):ErrC w E:=⟨λ k hk=>h.var k (by omega)⟩
theorem anyHw {P:Program} {md:Region.Mode} {ops:Array Oper} {Q:Exit->Act->World->Prop} {S:World->Prop} {fuel:Nat} {listed:Array Bool} {a:Act} {W:World} (F:World->Prop) (h1:F W) (h2:∀wz,F wz->wpAnyH P md ops Q S fuel listed a wz):wpAnyH P md ops Q S fuel listed a W:=h2 W h1
def FPost (w w':World) (E:Nat->Addr) (r:FRes) (e:Ending):Prop:=
 Ext w w'/\((∃out,r=.ok out/\e=.returned (.tuple #[.string ⟨out.toArray⟩,.nilIface]))\/(∃c i F:Nat,c<9/\(i:Int)<=9223372036854775807/\r=.bad c i/\e=.returned (.tuple #[.string ⟨#[]⟩,.iface 107 (.pointer (some ⟨F,0,none⟩))])/\w'.heap[F]? =some (.cells #[.int .i64 (i:Int),sentV (E c)] 109 (0,0))))
theorem zhR {w wz:World} {E:Nat->Addr} {k c:Nat} {r:FRes} (hX:Ext w wz) (hc:c<9) (hk:(k:Int)<=9223372036854775807) (h:r=.bad c k):
  FPost w (wz.drew.alloc (.cells #[.int .i64 (k:Int),.iface 275 (.pointer (some (E c)))] 109)) E r (.returned (.tuple #[.string ⟨#[]⟩,.iface 107 (.pointer (some ⟨wz.heap.size,0,none⟩))])):=
 ⟨(show Ext w wz.drew from qag hX).alloc _,.inr ⟨c,k,wz.heap.size,hc,hk,h,rfl,qbP wz.drew _⟩⟩
theorem znN {w wz:World} {E:Nat->Addr} {r:FRes} {out:List UInt8} (hX:Ext w wz) (h:r=.ok out):FPost w wz E r (.returned (.tuple #[.string ⟨out.toArray⟩,.nilIface])):=⟨hX,.inl ⟨out,h,rfl⟩⟩
theorem zkk {c:Ck} {k:Nat} {out:List UInt8} (h:kindB c.k.data.toList=false):fstep c k out=.bad 2 k:=by unfold fstep;rw[qac (by rw[h];decide)]
theorem zl8 {c:Ck} {k:Nat} {out:List UInt8} (h:kindB c.k.data.toList=true) (hb:300000<out.length+12+c.d.size):fstep c k out=.bad 1 k:=by unfold fstep;rw[qad h,qad hb]
theorem znK {c:Ck} {k:Nat} {out:List UInt8} (h:kindB c.k.data.toList=true) (hb:¬ 300000<out.length+12+c.d.size):fstep c k out=.ok (out++enc c):=by unfold fstep;rw[qad h,qac hb]
theorem zlZ {s:ByteArray} (h:kindB s.data.toList=true):s.size=4:=by unfold kindB at h;simp at h;exact h.1
theorem zdV (a b:ByteArray):(a++b).data.toList=a.data.toList++b.data.toList:=by rw[ByteArray.data_append,Array.toList_append]
theorem Cb.others {b:Nat} {w w':World} {K:Nat} {T:TypeId} {k d:ByteArray} (h:Cb w K T k d) (ho:Lib.OthersKept 5 (some b) w w') (hb:K≠b) (hT:T≠5):Cb w' K T k d:=by
 refine ho K _ h (λ e=>hb (by injection e)) (λ c fz e=>hT (by injection e))
set_option maxHeartbeats 4000000 in
theorem zlz (x:Option Addr) (cap:Nat) (L:List Ck) (w:World) (E:Nat->Addr) (hE:ErrC w E) (hx:Cks w x L) (hn:L.length<=100000) (hO:∀c∈L,c.Ok):
  Calls Tryz.prog 25 #[.slice x L.length cap] w λ e w'=>FPost w w' E (fileL L L.length) e:=by
 have HE:=Hd hE;have HX:=Hd hx;have HO:=Hd hO;clear hE hx hO;obtain⟨n,hn0⟩:=nmE (L.length);have HN:=Hd hn0;rw[hn0] at hn⊢;clear hn0;go_enter Tryz.func25,Tryz.ntmps25
 go_wp2_with fail;refine zaM (λ wz=>Ext w wz/\Bld w.heap.size w.heap.size [] wz) ⟨(Ext.refl _).alloc _,Bld.fresh w⟩ ?_;rintro w1 ⟨hX,hB⟩;have HX1:=Hd hX;clear hX;refine (zgA w.heap.size w.heap.size [] ⟨sigB.toArray⟩ w1 hB (by decide) HX1.out.size).mono ?_;rintro e w2 ⟨rfl,hB2,hX2,hO2⟩;have HB2:=Hd hB2;have HX2:=Hd (Below.trans HX1.out hX2);clear hB hB2 hX2 hO2 HX1;go_wp2_with fail;go_loopw [10] (λ c wr=>∃(k:Nat) (out:List UInt8),k<=n/\c=.int .i64 k/\Hid (fileL L k=.ok out)/\Hid (Bld w.heap.size w.heap.size out wr)/\Hid (Ext w wr)) (λ c _=>n-(intOf c).toNat)
 case atStart=>exact⟨0,sigB,by omega,rfl,Hd rfl,HB2,HX2⟩
 case round=>
  clear HB2 HX2;obtain⟨k,out,hk,rfl,HL,HB,HW⟩:=hrel;have hlen:=zlm HL.out;by_cases hlt:k<n
  ·obtain⟨a,rfl⟩:=HX.out.isSome (i:=k) (by rw[HN.out];exact hlt);obtain⟨c,hc⟩:∃c,L[k]? =some c:=⟨_,qai (by rw[HN.out];exact hlt)⟩;obtain⟨c0,c1⟩:=(HX.out.ext HW.out).2 a rfl k c hc;obtain⟨okk,okd⟩:=HO.out c (qa5 hc);have HSt:=Hd (zdJ HL.out hc);have HBad:=Hd (λ q (h:fstep c k out=.bad q k)=>zl6 (n:=n) HL.out hc h hlt);clear hc;obtain⟨ck,cd⟩:=c;simp only at c0 c1 okk okd;obtain⟨ol,hol⟩:=nmE (out.length);have HOL:=Hd hol;rw[hol] at hlen;clear hol;by_cases qk:kindB ck.data.toList=true
   ·have hck:=zlZ qk;have HK:=Hd qk;go_wp2_with fail;refine zaM (λ wz=>Ext wr wz/\Cb wz wr.heap.size 58 ck cd) ⟨(Ext.refl _).alloc _,qbP wr _⟩ ?_;rintro w3 ⟨hX,hC⟩;have X_3:=Hd (HW.out.trans hX);have B_3:=Hd (HB.out.ext hX);have HKB:=Hd (Nat.ne_of_gt HB.out.lt);obtain⟨K,hK0⟩:=nmE (wr.heap.size);rw[hK0] at hC HKB⊢;have C_3:=Hd hC;clear hX hC hK0 HW HB c0 c1 wr;refine (zdD ck w3 okk).mono ?_;rintro e w9 ⟨rfl,rfl⟩;rw[HK.out];clear qk;go_wp2_with fail;have hbl:=λ wz (h:Bld w.heap.size w.heap.size out wz)=>zpf w.heap.size w.heap.size out wz h;rw[HOL.out] at hbl;have HBL:=Hd hbl;clear hbl;have hw1:IntKind.i64.wrap ((ol:Int)+12)=(ol:Int)+12:=by unfold IntKind.wrap;simp[IntKind.bits,IntKind.signed];omega
    have hw2:IntKind.i64.wrap ((ol:Int)+12+(cd.size:Int))=(ol:Int)+12+(cd.size:Int):=by unfold IntKind.wrap;simp[IntKind.bits,IntKind.signed];omega
    refine qar (S:=λ w'=>w'.cell? ⟨K,0,none⟩=some (.string ck)/\w'.cell? ⟨K,1,none⟩=some (.string cd)) (by kernel_rfl) ⟨C_3.out.cell 0,C_3.out.cell 1⟩ (λ hHeld=>?_);clear hHeld;refine anyHw (λ wz=>Ext w3 wz) (show Ext w3 w3.drew from qag (Ext.refl w3)) ?_;rintro w4 h;have X_4:=Hd (X_3.out.trans h);have B_4:=Hd (B_3.out.ext h);have C_4:=Hd (C_3.out.ext h);clear h X_3 B_3 C_3;have hHeld:w4.cell? ⟨K,0,none⟩=some (.string ck)/\w4.cell? ⟨K,1,none⟩=some (.string cd):=⟨C_4.out.cell 0,C_4.out.cell 1⟩;refine tk3 2 3 4 ?_;refine rdH 0 rfl λ KK hK=>?_;clear hHeld;go_simp;refine (HBL.out _ B_4.out).mono ?_;rintro e w9 ⟨rfl,rfl⟩;go_simp;refine oS hK ⟨C_4.out.cell 0,C_4.out.cell 1⟩ λ hHeld=>?_;clear hK KK;refine tk3 1 5 6 ?_;refine dnT ?_;clear hHeld;clear hw1 hw2;by_cases qb:300000<ol+12+cd.size
    ·have tq:=dT (p:=(300000:Int)<(ol:Int)+12+(cd.size:Int));have HBB:=Hd (HBad.out 1 (zl8 HK.out (by rw[HOL.out];exact qb)));clear HSt HBad HL HOL;have hv:=(HE.out.ext X_4.out).var 1 (by decide);simp only[gk,sentV] at hv;go_wp2_with fail;go_region;all_goals
      (try go_wp2_with fail);go_ret2;exact zhR X_4.out (by decide) (by omega) HBB.out
    have tq:=dF (p:=(300000:Int)<(ol:Int)+12+(cd.size:Int));have HS2:=Hd (HSt.out.trans (znK HK.out (by rw[HOL.out];exact qb)));clear HSt HBad HL;obtain⟨N1,hN1⟩:∃N:ByteArray,N=⟨(big4 cd.size).toArray⟩:=⟨_,rfl⟩;have hN1s:N1.size=4:=by rw[hN1];rfl
    obtain⟨z,hz⟩:=nmE (Crc.crc (ck.data.toList++cd.data.toList));have hzl:z<4294967296:=by rw[<- hz];exact Crc.zge (Crc.zid (by decide) _)
    obtain⟨N2,hN2⟩:∃N:ByteArray,N=⟨(big4 z).toArray⟩:=⟨_,rfl⟩;have hN2s:N2.size=4:=by rw[hN2];rfl
    have hn1:=λ w=>zdK cd.size (by omega) w;rw[<- hN1] at hn1;have HN1:=Hd hn1;have hcr:=λ w=>zjY (ck++cd) w (by unfold maxLen;rw[qbz];omega);rw[zdV,hz] at hcr;have HCR:=Hd hcr;have hn2:=λ w=>zdK z hzl w;rw[<- hN2] at hn2;have HN2:=Hd hn2;have henc:(N1++ck++cd++N2).data.toList=enc ⟨ck,cd⟩:=by rw[zdV,zdV,zdV,hN1,hN2,<- hz];rfl
    have HENC:=Hd henc;clear henc hn1 hcr hn2 hz hN1 hN2;have hw32:IntKind.u32.wrap (cd.size:Int)=(cd.size:Int):=by unfold IntKind.wrap;simp[IntKind.bits,IntKind.signed];omega
    have s5:¬ 9223372036854775807<N1.size+ck.size+cd.size:=by (try simp only[qbz]);omega
    have s6:¬ 9223372036854775807<N1.size+ck.size+cd.size+N2.size:=by (try simp only[qbz]);omega
    have s1:¬ 9223372036854775807<N1.size+ck.size:=by (try simp only[qbz]);omega
    have s2:¬ 9223372036854775807<(N1++ck).size+cd.size:=by (try simp only[qbz]);omega
    have s3:¬ 9223372036854775807<ck.size+cd.size:=by (try simp only[qbz]);omega
    have s4:¬ 9223372036854775807<(N1++ck++cd).size+N2.size:=by (try simp only[qbz]);omega
    have hsum:N1.size+ck.size+cd.size+N2.size<=301000:=by omega
    have HSUM:=Hd hsum;clear hck hN1s hN2s hsum;go_wp2_with fail;refine qar (S:=λ w'=>w'.cell? ⟨K,0,none⟩=some (.string ck)/\w'.cell? ⟨K,1,none⟩=some (.string cd)) (by kernel_rfl) ⟨C_4.out.cell 0,C_4.out.cell 1⟩ (λ hHeld=>?_);clear hHeld;refine anyHw (λ wz=>Ext w4 wz) (show Ext w4 w4.drew from qag (Ext.refl w4)) ?_;rintro w5 h;have X_5:=Hd (X_4.out.trans h);have B_5:=Hd (B_4.out.ext h);have C_5:=Hd (C_4.out.ext h);clear h X_4 B_4 C_4;have hHeld:w5.cell? ⟨K,0,none⟩=some (.string ck)/\w5.cell? ⟨K,1,none⟩=some (.string cd):=⟨C_5.out.cell 0,C_5.out.cell 1⟩;refine tk5 0 1 2 3 5 ?_;refine tk5 6 8 9 11 12 ?_;refine tk3 13 14 15 ?_;refine rdH 4 rfl λ KK hK=>?_;clear hHeld;go_simp;refine (HN1.out _).mono ?_;rintro e w6 ⟨rfl,h⟩;have X_6:=Hd (X_5.out.trans h);have B_6:=Hd (B_5.out.ext h);have C_6:=Hd (C_5.out.ext h);clear h X_5 B_5 C_5;go_simp;refine oS hK ⟨C_6.out.cell 0,C_6.out.cell 1⟩ λ hHeld=>?_;clear hK KK;refine tk2 7 10 ?_;refine rdH 16 rfl λ KK hK=>?_;clear hHeld;go_simp;refine (HCR.out _).mono ?_;rintro e w7 ⟨rfl,h⟩;have X_7:=Hd (X_6.out.trans h);have B_7:=Hd (B_6.out.ext h);have C_7:=Hd (C_6.out.ext h);clear h X_6 B_6 C_6;go_simp;refine oS hK ⟨C_7.out.cell 0,C_7.out.cell 1⟩ λ hHeld=>?_;clear hK KK;refine rdH 17 rfl λ KK hK=>?_;clear hHeld;go_simp;refine (HN2.out _).mono ?_;rintro e w8 ⟨rfl,h⟩;have X_8:=Hd (X_7.out.trans h);have B_8:=Hd (B_7.out.ext h);have C_8:=Hd (C_7.out.ext h)
    clear h X_7 B_7 C_7;go_simp;refine oS hK ⟨C_8.out.cell 0,C_8.out.cell 1⟩ λ hHeld=>?_;clear hK KK;refine tkH 18 ?_;refine rdH 19 rfl λ KK hK=>?_;clear hHeld;go_simp;refine (zgA w.heap.size w.heap.size out (N1++ck++cd++N2) _ B_8.out (by have:=HSUM.out;simp only[qbz,HOL.out];omega) X_8.out.size).mono ?_;rintro e w9 ⟨rfl,hB,hX,hOt⟩;rw[HENC.out] at hB;have HC2:=Hd (C_8.out.others hOt HKB.out (by decide));have HB3:=Hd hB;have HX3:=Hd (Below.trans X_8.out hX);clear hB hX hOt;go_simp;refine oS hK ⟨HC2.out.cell 0,HC2.out.cell 1⟩ λ hHeld=>?_;clear hK KK;refine dnT ?_;clear hHeld;go_wp2_with fail;go_roundw
    case rel=>exact⟨k+1,out++enc ⟨ck,cd⟩,by omega,by go_num,HS2,HB3,HX3⟩
    case measure=>simp[intOf];omega
   have qk':kindB ck.data.toList=false:=by simpa using qk
   have HBB:=Hd (HBad.out 2 (zkk qk'));clear HSt HBad HL qk;go_wp2_with fail;refine zaM (λ wz=>Ext wr wz/\Cb wz wr.heap.size 58 ck cd) ⟨(Ext.refl _).alloc _,qbP wr _⟩ ?_;rintro w3 ⟨hX,hC⟩;have X_3:=Hd (HW.out.trans hX);have B_3:=Hd (HB.out.ext hX);have HKB:=Hd (Nat.ne_of_gt HB.out.lt);obtain⟨K,hK0⟩:=nmE (wr.heap.size);rw[hK0] at hC HKB⊢;have C_3:=Hd hC;clear hX hC hK0 HW HB c0 c1 wr;refine (zdD ck w3 okk).mono ?_;rintro e w9 ⟨rfl,rfl⟩;rw[qk'];clear qk';have hv:=(HE.out.ext X_3.out).var 2 (by decide);simp only[gk,sentV] at hv;go_wp2_with fail;go_region;all_goals
    (try go_wp2_with fail);go_ret2;exact zhR X_3.out (by decide) (by omega) HBB.out
  obtain rfl:k=n:=by omega
  go_wp2_with fail;refine (zk3 _ _ _ _ HB.out (zkO HL.out)).mono ?_;rintro e w3 ⟨rfl,hX⟩;have HX3:=Hd (Below.trans HW.out hX);clear hX;go_wp2_with fail;go_ret2;exact znN HX3.out HL.out
end Go.Proofs.YthlibiocadimhaaGreatDoor
