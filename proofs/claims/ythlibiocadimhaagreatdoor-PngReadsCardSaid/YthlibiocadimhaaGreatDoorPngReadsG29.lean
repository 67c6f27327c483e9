/-
  png.Head.
-/
import Derived.Test.YthlibiocadimhaaGreatDoorPngReadsG28
set_option linter.all false
set_option maxRecDepth 100000
namespace Go.Proofs.YthlibiocadimhaaGreatDoor
open Go.RowKit
theorem Yfh2 {p:Prop} (h:p:=by
 refine rdT 15 λ KK hK=>?_;have t0:=R_5.out.cell 0;have f0:=R_5.out.frozen 0;have t1:=R_5.out.cell 1;have f1:=R_5.out.frozen 1;have HE:=Hd (qaL (qaL X_5.out (p:=⟨w.heap.size,0,none⟩) (qaj _) (.string Png.ihdr)) (p:=⟨w.heap.size,1,none⟩) (qaj _) (.string (S1++S2++S3)));have HR:=Hd ((R_5.out.set_ 0 (.string Png.ihdr)).set_ 1 (.string (S1++S2++S3)));unfold Png.ihdr at HE HR;go_simp;refine oT hK ?_;clear hK KK;refine dnT ?_;have k0:=HR.out.cell 0;have k1:=HR.out.cell 1;clear t0 t1 f0 f1;go_wp2_with fail;exact qaZ (v:=.agg #[.string ⟨#[73,72,68,82]⟩,.string (S1++S2++S3)]) (by simp[results,Tryz.results21,go_sem,k0,k1]) rfl ⟨by rw[<- zm8,HS.out.1,HS.out.2.1,HS.out.2.2];rfl,HE.out⟩):p:=h
theorem Yfh0 {p:Prop} (h:p:=by
 exact Yfh2):p:=h
theorem Yfh1 {p:Prop} (h:p:=by
 refine rdT2 5 12 (λ KK hK=>?_) λ KK hK=>?_
 ·go_simp;refine (HN2.out _).mono ?_;rintro e w5 ⟨rfl,h⟩;have X_5:=Hd (X_4.out.trans h);have R_5:=Hd (R_4.out.ext h);have K_5:=Hd (K_4.out.ext h);clear h X_4 R_4 K_4;go_simp;refine oT hK ?_;clear hK KK;refine tkH 6 ?_;refine rdT 12 λ KK hK=>?_;have hcv:=zcZ hd hk K_5.out;rw[HS.out.2.2] at hcv;go_simp;clear hcv;refine oT hK ?_;clear hK KK;refine tk2 13 14 ?_;exact Yfh2
 have hcv:=zcZ hd hk K_4.out;rw[HS.out.2.2] at hcv;go_simp;clear hcv;refine oT hK ?_;clear hK KK;refine rdT 5 λ KK hK=>?_;go_simp;refine (HN2.out _).mono ?_;rintro e w5 ⟨rfl,h⟩;have X_5:=Hd (X_4.out.trans h);have R_5:=Hd (R_4.out.ext h);have K_5:=Hd (K_4.out.ext h);clear h X_4 R_4 K_4;go_simp;refine oT hK ?_;clear hK KK;refine tk3 6 13 14 ?_;exact Yfh2):p:=h
namespace Png
def headL (W H d k:Nat):List UInt8:=big4 W++big4 H ++ [UInt8.ofNat d,UInt8.ofNat k,0,0,0]
def ihdr:ByteArray:=⟨#[73,72,68,82]⟩
end Png
theorem zqi {w:World} {b n:Nat} {l:List UInt8} (hn:l.length=n) (h:∀j,j<l.length->w.cell? ⟨b,j,none⟩=some (.int .u8 ((l.getD j 0).toNat:Int))):(convert 62 9 (.slice (some ⟨b,0,none⟩) n n)).run Tryz.prog w=.ok (.string ⟨l.toArray⟩) w:=by
 subst hn;refine qbt (P:=Tryz.prog) w 62 9 5 ⟨b,0,none⟩ l.length l Tryz.underlying62 Tryz.underlying5 Tryz.underlying9 (λ j hj=>?_);rw[zae,h j hj];simp[List.getD,hj]
theorem zcZ {w:World} {b d k:Nat} (hd:d<256) (hk:k<256) (h:Bk w b #[.int .u8 (d:Int),.int .u8 (k:Int),.int .u8 0,.int .u8 0,.int .u8 0]):(convert 62 9 (.slice (some ⟨b,0,none⟩) 5 5)).run Tryz.prog w=.ok (.string ⟨#[UInt8.ofNat d,UInt8.ofNat k,0,0,0]⟩) w:=by
 refine zqi (l:=[UInt8.ofNat d,UInt8.ofNat k,0,0,0]) rfl (λ j hj=>?_);have e1:((UInt8.ofNat d).toNat:Int)=d:=by rw[qbI];omega
 have e2:((UInt8.ofNat k).toNat:Int)=k:=by rw[qbI];omega
 have hj5:j<5:=hj;match j,hj5 with
 | 0,_=>rw[h.cell 0];show some (Value.int .u8 (d:Int))=some (Value.int .u8 (((UInt8.ofNat d).toNat:Nat):Int));rw[e1]
 | 1,_=>rw[h.cell 1];show some (Value.int .u8 (k:Int))=some (Value.int .u8 (((UInt8.ofNat k).toNat:Nat):Int));rw[e2]
 | 2,_=>exact h.cell 2
 | 3,_=>exact h.cell 3
 | 4,_=>exact h.cell 4
theorem zm8 (W H d k:Nat):(⟨(big4 W).toArray⟩:ByteArray)++⟨(big4 H).toArray⟩++⟨#[UInt8.ofNat d,UInt8.ofNat k,0,0,0]⟩=⟨(Png.headL W H d k).toArray⟩:=by
 refine zbe ?_;rw[zc3,zc3];rfl
set_option maxHeartbeats 4000000 in
theorem znh (W H d k:Nat) (w:World) (hW:W<=256) (hH:H<=256) (hd:d<256) (hk:k<256):
  Calls Tryz.prog 21 #[.int .i64 (W:Int),.int .i64 (H:Int),.int .i64 (d:Int),.int .i64 (k:Int)] w λ e w'=>e=.returned (.agg #[.string Png.ihdr,.string ⟨(Png.headL W H d k).toArray⟩])/\Ext w w':=by
 have hN:=Hd (λ n (h:n<4294967296) w=>zdK n h w);obtain⟨S1,hS1⟩:∃S:ByteArray,(⟨(big4 W).toArray⟩:ByteArray)=S:=⟨_,rfl⟩;obtain⟨S2,hS2⟩:∃S:ByteArray,(⟨(big4 H).toArray⟩:ByteArray)=S:=⟨_,rfl⟩;obtain⟨S3,hS3⟩:∃S:ByteArray,(⟨#[UInt8.ofNat d,UInt8.ofNat k,0,0,0]⟩:ByteArray)=S:=⟨_,rfl⟩;have HN1:=Hd (λ w=>hS1▸hN.out W (by omega) w);have HN2:=Hd (λ w=>hS2▸hN.out H (by omega) w);clear hN;have z1:S1.size=4:=by rw[<- hS1];rfl
 have z2:S2.size=4:=by rw[<- hS2];rfl
 have z3:S3.size=5:=by rw[<- hS3];rfl
 have HS:=Hd (qaB hS1 (qaB hS2 hS3));clear hS1 hS2 hS3;have v1:IntKind.u32.wrap (W:Int)=(W:Int):=by unfold IntKind.wrap;simp[IntKind.bits,IntKind.signed];omega
 have v2:IntKind.u32.wrap (H:Int)=(H:Int):=by unfold IntKind.wrap;simp[IntKind.bits,IntKind.signed];omega
 have v3:IntKind.u8.wrap (d:Int)=(d:Int):=by unfold IntKind.wrap;simp[IntKind.bits,IntKind.signed];omega
 have v4:IntKind.u8.wrap (k:Int)=(k:Int):=by unfold IntKind.wrap;simp[IntKind.bits,IntKind.signed];omega
 have q1:¬ 9223372036854775807<S1.size+S2.size:=by omega
 have q2:¬ 9223372036854775807<(S1++S2).size+S3.size:=by rw[qbz];omega
 go_enter Tryz.func21,Tryz.ntmps21
 go_wp2_with fail;refine zac (λ wz=>Ext w wz/\Bk wz w.heap.size #[.string ⟨#[]⟩,.string ⟨#[]⟩]) ⟨(Ext.refl w).alloc _,Bk.at rfl⟩ ?_;rintro w1 ⟨hX,hB⟩;have hlt:=hB.lt;have RB:=Hd hlt;clear hlt;have X_1:=Hd (hX);have R_1:=Hd (hB);clear hX hB;go_wp2_with fail;refine rgW λ w2 h=>?_;have X_2:=Hd (X_1.out.trans h);have R_2:=Hd (R_1.out.ext h);clear h X_1 R_1;refine tk5 0 1 3 4 7 ?_;refine tk3 8 9 10 ?_;refine rdT2 2 11 (λ KK hK=>?_) λ KK hK=>?_
 ·go_simp;refine (HN1.out _).mono ?_;rintro e w3 ⟨rfl,h⟩;have X_3:=Hd (X_2.out.trans h);have R_3:=Hd (R_2.out.ext h);clear h X_2 R_2;go_simp;refine oT hK ?_;clear hK KK;refine rdT2 5 11 (λ KK hK=>?_) λ KK hK=>?_
  ·go_simp;refine (HN2.out _).mono ?_;rintro e w4 ⟨rfl,h⟩;have X_4:=Hd (X_3.out.trans h);have R_4:=Hd (R_3.out.ext h);clear h X_3 R_3;go_simp;refine oT hK ?_;clear hK KK;refine tkH 6 ?_;refine rdT 11 λ KK hK=>?_;go_simp;refine oT hK ?_;clear hK KK;have NE_R_K:=Hd (Nat.ne_of_lt R_4.out.lt);have GE_K:=Hd X_4.out.size;refine zab (λ wz=>Ext w4 wz/\Bk wz w4.heap.size #[.int .u8 (d:Int),.int .u8 (k:Int),.int .u8 0,.int .u8 0,.int .u8 0]) ⟨Ext.alloc (Ext.refl _) _,Bk.at rfl⟩ ?_;rintro w5 ⟨h,hB⟩;have X_5:=Hd (X_4.out.trans h);have R_5:=Hd (R_4.out.ext h);clear h X_4 R_4;have K_5:=Hd (hB);clear hB;refine rdT 12 λ KK hK=>?_;have hcv:=zcZ hd hk K_5.out;rw[HS.out.2.2] at hcv;go_simp;clear hcv;refine oT hK ?_;clear hK KK;refine tk2 13 14 ?_;exact Yfh0
  go_simp;refine oT hK ?_;clear hK KK;have NE_R_K:=Hd (Nat.ne_of_lt R_3.out.lt);have GE_K:=Hd X_3.out.size;refine zab (λ wz=>Ext w3 wz/\Bk wz w3.heap.size #[.int .u8 (d:Int),.int .u8 (k:Int),.int .u8 0,.int .u8 0,.int .u8 0]) ⟨Ext.alloc (Ext.refl _) _,Bk.at rfl⟩ ?_;rintro w4 ⟨h,hB⟩;have X_4:=Hd (X_3.out.trans h);have R_4:=Hd (R_3.out.ext h);clear h X_3 R_3;have K_4:=Hd (hB);clear hB;exact Yfh1
 go_simp;refine oT hK ?_;clear hK KK;have NE_R_K:=Hd (Nat.ne_of_lt R_2.out.lt);have GE_K:=Hd X_2.out.size;refine zab (λ wz=>Ext w2 wz/\Bk wz w2.heap.size #[.int .u8 (d:Int),.int .u8 (k:Int),.int .u8 0,.int .u8 0,.int .u8 0]) ⟨Ext.alloc (Ext.refl _) _,Bk.at rfl⟩ ?_;rintro w3 ⟨h,hB⟩;have X_3:=Hd (X_2.out.trans h);have R_3:=Hd (R_2.out.ext h);clear h X_2 R_2;have K_3:=Hd (hB);clear hB;refine rdT2 2 12 (λ KK hK=>?_) λ KK hK=>?_
 ·go_simp;refine (HN1.out _).mono ?_;rintro e w4 ⟨rfl,h⟩;have X_4:=Hd (X_3.out.trans h);have R_4:=Hd (R_3.out.ext h);have K_4:=Hd (K_3.out.ext h);clear h X_3 R_3 K_3;go_simp;refine oT hK ?_;clear hK KK;exact Yfh1
 have hcv:=zcZ hd hk K_3.out;rw[HS.out.2.2] at hcv;go_simp;clear hcv;refine oT hK ?_;clear hK KK;refine rdT 2 λ KK hK=>?_;go_simp;refine (HN1.out _).mono ?_;rintro e w4 ⟨rfl,h⟩;have X_4:=Hd (X_3.out.trans h);have R_4:=Hd (R_3.out.ext h);have K_4:=Hd (K_3.out.ext h);clear h X_3 R_3 K_3;go_simp;refine oT hK ?_;clear hK KK;refine rdT 5 λ KK hK=>?_;go_simp;refine (HN2.out _).mono ?_;rintro e w5 ⟨rfl,h⟩;have X_5:=Hd (X_4.out.trans h);have R_5:=Hd (R_4.out.ext h);have K_5:=Hd (K_4.out.ext h);clear h X_4 R_4 K_4;go_simp;refine oT hK ?_;clear hK KK;refine tk3 6 13 14 ?_;exact Yfh0
end Go.Proofs.YthlibiocadimhaaGreatDoor
