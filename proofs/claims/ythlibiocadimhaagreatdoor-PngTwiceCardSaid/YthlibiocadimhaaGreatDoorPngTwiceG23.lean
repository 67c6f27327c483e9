/-
  png.Head.
  Reading a file of a picture, plain: the head, one chunk more, the pixels. No function of the program is named.
  A picture that grows, pixel by pixel, in a variable of its own.
-/
import Derived.Test.YthlibiocadimhaaGreatDoorPngTwiceG1
import Derived.Test.YthlibiocadimhaaGreatDoorPngTwiceG22
import Derived.Test.YthlibiocadimhaaGreatDoorPngTwiceG4
import Derived.Test.YthlibiocadimhaaGreatDoorPngTwiceG6
set_option linter.unusedSimpArgs false
set_option linter.unusedVariables false
set_option maxRecDepth 100000
namespace Go.Proofs.YthlibiocadimhaaGreatDoor
open Go.RowKit
namespace Png
/-- a file's head: its bytes -/
def headL (W H d k:Nat):List UInt8:=big4 W++big4 H ++ [UInt8.ofNat d,UInt8.ofNat k,0,0,0]
def ihdr:ByteArray:=⟨#[73,72,68,82]⟩
end Png
theorem conv_bk {w:World} {b n:Nat} {l:List UInt8} (hn:l.length=n) (h:∀j,j<l.length→w.cell? ⟨b,j,none⟩=some (.int .u8 ((l.getD j 0).toNat:Int))):(convert 62 9 (.slice (some ⟨b,0,none⟩) n n)).run Tryz.prog w=.ok (.string ⟨l.toArray⟩) w:=by
 subst hn;refine run_convert_bytes_back (P:=Tryz.prog) w 62 9 5 ⟨b,0,none⟩ l.length l Tryz.underlying62 Tryz.underlying5 Tryz.underlying9 (fun j hj=>?_);rw[add_plain,h j hj];simp[List.getD,hj]
theorem conv_five {w:World} {b d k:Nat} (hd:d<256) (hk:k<256) (h:Bk w b #[.int .u8 (d:Int),.int .u8 (k:Int),.int .u8 0,.int .u8 0,.int .u8 0]):(convert 62 9 (.slice (some ⟨b,0,none⟩) 5 5)).run Tryz.prog w=.ok (.string ⟨#[UInt8.ofNat d,UInt8.ofNat k,0,0,0]⟩) w:=by
 refine conv_bk (l:=[UInt8.ofNat d,UInt8.ofNat k,0,0,0]) rfl (fun j hj=>?_);have e1:((UInt8.ofNat d).toNat:Int)=d:=by rw[UInt8.toNat_ofNat'];omega
 have e2:((UInt8.ofNat k).toNat:Int)=k:=by rw[UInt8.toNat_ofNat'];omega
 have hj5:j<5:=hj;match j,hj5 with
 | 0,_=>rw[h.cell 0];show some (Value.int .u8 (d:Int))=some (Value.int .u8 (((UInt8.ofNat d).toNat:Nat):Int));rw[e1]
 | 1,_=>rw[h.cell 1];show some (Value.int .u8 (k:Int))=some (Value.int .u8 (((UInt8.ofNat k).toNat:Nat):Int));rw[e2]
 | 2,_=>exact h.cell 2
 | 3,_=>exact h.cell 3
 | 4,_=>exact h.cell 4
theorem head_cat (W H d k:Nat):(⟨(big4 W).toArray⟩:ByteArray)++⟨(big4 H).toArray⟩++⟨#[UInt8.ofNat d,UInt8.ofNat k,0,0,0]⟩=⟨(Png.headL W H d k).toArray⟩:=by
 refine bytes_ext ?_;rw[bytes_cat,bytes_cat];rfl
set_option maxHeartbeats 4000000 in
theorem head_any (W H d k:Nat) (w:World) (hW:W≤256) (hH:H≤256) (hd:d<256) (hk:k<256):
  Calls Tryz.prog 21 #[.int .i64 (W:Int),.int .i64 (H:Int),.int .i64 (d:Int),.int .i64 (k:Int)] w fun e w'=>e=.returned (.agg #[.string Png.ihdr,.string ⟨(Png.headL W H d k).toArray⟩])∧Ext w w':=by
 have hN:=Hd (fun n (h:n<4294967296) w=>number_any n h w);obtain⟨S1,hS1⟩:∃S:ByteArray,(⟨(big4 W).toArray⟩:ByteArray)=S:=⟨_,rfl⟩;obtain⟨S2,hS2⟩:∃S:ByteArray,(⟨(big4 H).toArray⟩:ByteArray)=S:=⟨_,rfl⟩;obtain⟨S3,hS3⟩:∃S:ByteArray,(⟨#[UInt8.ofNat d,UInt8.ofNat k,0,0,0]⟩:ByteArray)=S:=⟨_,rfl⟩;have HN1:=Hd (fun w=>hS1▸hN.out W (by omega) w);have HN2:=Hd (fun w=>hS2▸hN.out H (by omega) w);clear hN;have z1:S1.size=4:=by rw[← hS1];rfl
 have z2:S2.size=4:=by rw[← hS2];rfl
 have z3:S3.size=5:=by rw[← hS3];rfl
 have HS:=Hd (And.intro hS1 (And.intro hS2 hS3));clear hS1 hS2 hS3;have v1:IntKind.u32.wrap (W:Int)=(W:Int):=by unfold IntKind.wrap;simp[IntKind.bits,IntKind.signed];omega
 have v2:IntKind.u32.wrap (H:Int)=(H:Int):=by unfold IntKind.wrap;simp[IntKind.bits,IntKind.signed];omega
 have v3:IntKind.u8.wrap (d:Int)=(d:Int):=by unfold IntKind.wrap;simp[IntKind.bits,IntKind.signed];omega
 have v4:IntKind.u8.wrap (k:Int)=(k:Int):=by unfold IntKind.wrap;simp[IntKind.bits,IntKind.signed];omega
 have q1:¬ 9223372036854775807<S1.size+S2.size:=by omega
 have q2:¬ 9223372036854775807<(S1++S2).size+S3.size:=by rw[ByteArray.size_append];omega
 go_enter Tryz.func21,Tryz.ntmps21
 go_wp2_with fail;refine wp_world (fun wz=>Ext w wz∧Bk wz w.heap.size #[.string ⟨#[]⟩,.string ⟨#[]⟩]) ⟨(Ext.refl w).alloc _,Bk.at rfl⟩ ?_;rintro w1 ⟨hX,hB⟩;have hlt:=hB.lt;have RB:=Hd hlt;clear hlt;have X_1:=Hd (hX);have R_1:=Hd (hB);clear hX hB;go_wp2_with fail;refine wp_region_held_drew (S:=fun w'=>True) (by kernel_rfl) trivial (fun hHeld=>?_);clear hHeld;refine anyH_world (fun wz=>Ext w1 wz) (show Ext w1 w1.drew from Below.drew (Ext.refl w1)) ?_;rintro w2 h;have X_2:=Hd (X_1.out.trans h);have R_2:=Hd (R_1.out.ext h);clear h X_1 R_1;have hHeld:True:=trivial;refine tkH 0 rfl hHeld ?_;(try simp only[Act.put,xz]);refine tkH 1 rfl hHeld ?_;(try simp only[Act.put,xz]);refine tkH 3 rfl hHeld ?_;(try simp only[Act.put,xz]);refine tkH 4 rfl hHeld ?_;(try simp only[Act.put,xz]);refine tkH 7 rfl hHeld ?_;(try simp only[Act.put,xz]);refine tkH 8 rfl hHeld ?_;(try simp only[Act.put,xz]);refine tkH 9 rfl hHeld ?_;(try simp only[Act.put,xz]);refine tkH 10 rfl hHeld ?_;(try simp only[Act.put,xz]);refine rdH2 2 11 rfl rfl (fun KK hK=>?_) fun KK hK=>?_
 ·clear hHeld;go_simp;refine (HN1.out _).mono ?_;rintro e w3 ⟨rfl,h⟩;have X_3:=Hd (X_2.out.trans h);have R_3:=Hd (R_2.out.ext h);clear h X_2 R_2;go_simp;refine hK.out _ _ trivial (fun hHeld=>?_);clear hK KK;(try simp only[Act.put,xz]);refine rdH2 5 11 rfl rfl (fun KK hK=>?_) fun KK hK=>?_
  ·clear hHeld;go_simp;refine (HN2.out _).mono ?_;rintro e w4 ⟨rfl,h⟩;have X_4:=Hd (X_3.out.trans h);have R_4:=Hd (R_3.out.ext h);clear h X_3 R_3;go_simp;refine hK.out _ _ trivial (fun hHeld=>?_);clear hK KK;(try simp only[Act.put,xz]);refine tkH 6 rfl hHeld ?_;(try simp only[Act.put,xz]);refine rdH 11 rfl fun KK hK=>?_;clear hHeld;go_simp;refine hK.out _ _ trivial (fun hHeld=>?_);clear hK KK hHeld;(try simp only[Act.put,xz]);have NE_R_K:=Hd (Nat.ne_of_lt R_4.out.lt);have GE_K:=Hd X_4.out.size;refine anyH_world (fun wz=>Ext w4 wz∧Bk wz w4.heap.size #[.int .u8 (d:Int),.int .u8 (k:Int),.int .u8 0,.int .u8 0,.int .u8 0]) ⟨Ext.alloc (Ext.refl _) _,Bk.at rfl⟩ ?_;rintro w5 ⟨h,hB⟩;have X_5:=Hd (X_4.out.trans h);have R_5:=Hd (R_4.out.ext h);clear h X_4 R_4;have K_5:=Hd (hB);clear hB;have hHeld:True:=trivial;refine rdH 12 rfl fun KK hK=>?_;clear hHeld;have hcv:=conv_five hd hk K_5.out;rw[HS.out.2.2] at hcv;go_simp;clear hcv;refine hK.out _ _ trivial (fun hHeld=>?_);clear hK KK;(try simp only[Act.put,xz]);refine tkH 13 rfl hHeld ?_;(try simp only[Act.put,xz]);refine tkH 14 rfl hHeld ?_;(try simp only[Act.put,xz]);refine rdH 15 rfl fun KK hK=>?_;clear hHeld;have t0:=R_5.out.cell 0;have f0:=R_5.out.frozen 0;have t1:=R_5.out.cell 1;have f1:=R_5.out.frozen 1;have HE:=Hd (Below.setCell (Below.setCell X_5.out (p:=⟨w.heap.size,0,none⟩) (Nat.le_refl _) (.string Png.ihdr)) (p:=⟨w.heap.size,1,none⟩) (Nat.le_refl _) (.string (S1++S2++S3)))
   have HR:=Hd ((R_5.out.set_ 0 (.string Png.ihdr)).set_ 1 (.string (S1++S2++S3)));unfold Png.ihdr at HE HR;go_simp;refine hK.out _ _ trivial (fun hHeld=>?_);clear hK KK;(try simp only[Act.put,xz]);refine wpAnyH_done (by kernel_rfl) ?_ _;clear hHeld;have k0:=HR.out.cell 0;have k1:=HR.out.cell 1;clear t0 t1 f0 f1;go_wp2_with fail;exact bodyPost_ret (v:=.agg #[.string ⟨#[73,72,68,82]⟩,.string (S1++S2++S3)]) (by simp[results,Tryz.results21,go_sem,k0,k1]) rfl ⟨by rw[← head_cat,HS.out.1,HS.out.2.1,HS.out.2.2];rfl,HE.out⟩
  ·clear hHeld;go_simp;refine hK.out _ _ trivial (fun hHeld=>?_);clear hK KK hHeld;(try simp only[Act.put,xz]);have NE_R_K:=Hd (Nat.ne_of_lt R_3.out.lt);have GE_K:=Hd X_3.out.size;refine anyH_world (fun wz=>Ext w3 wz∧Bk wz w3.heap.size #[.int .u8 (d:Int),.int .u8 (k:Int),.int .u8 0,.int .u8 0,.int .u8 0]) ⟨Ext.alloc (Ext.refl _) _,Bk.at rfl⟩ ?_;rintro w4 ⟨h,hB⟩;have X_4:=Hd (X_3.out.trans h);have R_4:=Hd (R_3.out.ext h);clear h X_3 R_3;have K_4:=Hd (hB);clear hB;have hHeld:True:=trivial;refine rdH2 5 12 rfl rfl (fun KK hK=>?_) fun KK hK=>?_
   ·clear hHeld;go_simp;refine (HN2.out _).mono ?_;rintro e w5 ⟨rfl,h⟩;have X_5:=Hd (X_4.out.trans h);have R_5:=Hd (R_4.out.ext h);have K_5:=Hd (K_4.out.ext h);clear h X_4 R_4 K_4;go_simp;refine hK.out _ _ trivial (fun hHeld=>?_);clear hK KK;(try simp only[Act.put,xz]);refine tkH 6 rfl hHeld ?_;(try simp only[Act.put,xz]);refine rdH 12 rfl fun KK hK=>?_;clear hHeld;have hcv:=conv_five hd hk K_5.out;rw[HS.out.2.2] at hcv;go_simp;clear hcv;refine hK.out _ _ trivial (fun hHeld=>?_);clear hK KK;(try simp only[Act.put,xz]);refine tkH 13 rfl hHeld ?_;(try simp only[Act.put,xz]);refine tkH 14 rfl hHeld ?_;(try simp only[Act.put,xz]);refine rdH 15 rfl fun KK hK=>?_;clear hHeld;have t0:=R_5.out.cell 0;have f0:=R_5.out.frozen 0;have t1:=R_5.out.cell 1;have f1:=R_5.out.frozen 1;have HE:=Hd (Below.setCell (Below.setCell X_5.out (p:=⟨w.heap.size,0,none⟩) (Nat.le_refl _) (.string Png.ihdr)) (p:=⟨w.heap.size,1,none⟩) (Nat.le_refl _) (.string (S1++S2++S3)));have HR:=Hd ((R_5.out.set_ 0 (.string Png.ihdr)).set_ 1 (.string (S1++S2++S3)));unfold Png.ihdr at HE HR;go_simp;refine hK.out _ _ trivial (fun hHeld=>?_);clear hK KK;(try simp only[Act.put,xz]);refine wpAnyH_done (by kernel_rfl) ?_ _;clear hHeld;have k0:=HR.out.cell 0;have k1:=HR.out.cell 1;clear t0 t1 f0 f1;go_wp2_with fail;exact bodyPost_ret (v:=.agg #[.string ⟨#[73,72,68,82]⟩,.string (S1++S2++S3)]) (by simp[results,Tryz.results21,go_sem,k0,k1]) rfl ⟨by rw[← head_cat,HS.out.1,HS.out.2.1,HS.out.2.2];rfl,HE.out⟩
   ·clear hHeld;have hcv:=conv_five hd hk K_4.out;rw[HS.out.2.2] at hcv;go_simp;clear hcv;refine hK.out _ _ trivial (fun hHeld=>?_);clear hK KK;(try simp only[Act.put,xz]);refine rdH 5 rfl fun KK hK=>?_;clear hHeld;go_simp;refine (HN2.out _).mono ?_;rintro e w5 ⟨rfl,h⟩;have X_5:=Hd (X_4.out.trans h);have R_5:=Hd (R_4.out.ext h);have K_5:=Hd (K_4.out.ext h);clear h X_4 R_4 K_4;go_simp;refine hK.out _ _ trivial (fun hHeld=>?_);clear hK KK;(try simp only[Act.put,xz]);refine tkH 6 rfl hHeld ?_;(try simp only[Act.put,xz]);refine tkH 13 rfl hHeld ?_;(try simp only[Act.put,xz]);refine tkH 14 rfl hHeld ?_;(try simp only[Act.put,xz]);refine rdH 15 rfl fun KK hK=>?_;clear hHeld;have t0:=R_5.out.cell 0;have f0:=R_5.out.frozen 0;have t1:=R_5.out.cell 1;have f1:=R_5.out.frozen 1;have HE:=Hd (Below.setCell (Below.setCell X_5.out (p:=⟨w.heap.size,0,none⟩) (Nat.le_refl _) (.string Png.ihdr)) (p:=⟨w.heap.size,1,none⟩) (Nat.le_refl _) (.string (S1++S2++S3)));have HR:=Hd ((R_5.out.set_ 0 (.string Png.ihdr)).set_ 1 (.string (S1++S2++S3)));unfold Png.ihdr at HE HR;go_simp;refine hK.out _ _ trivial (fun hHeld=>?_);clear hK KK;(try simp only[Act.put,xz]);refine wpAnyH_done (by kernel_rfl) ?_ _;clear hHeld;have k0:=HR.out.cell 0;have k1:=HR.out.cell 1;clear t0 t1 f0 f1;go_wp2_with fail;exact bodyPost_ret (v:=.agg #[.string ⟨#[73,72,68,82]⟩,.string (S1++S2++S3)]) (by simp[results,Tryz.results21,go_sem,k0,k1]) rfl ⟨by rw[← head_cat,HS.out.1,HS.out.2.1,HS.out.2.2];rfl,HE.out⟩
 ·clear hHeld;go_simp;refine hK.out _ _ trivial (fun hHeld=>?_);clear hK KK hHeld;(try simp only[Act.put,xz]);have NE_R_K:=Hd (Nat.ne_of_lt R_2.out.lt);have GE_K:=Hd X_2.out.size;refine anyH_world (fun wz=>Ext w2 wz∧Bk wz w2.heap.size #[.int .u8 (d:Int),.int .u8 (k:Int),.int .u8 0,.int .u8 0,.int .u8 0]) ⟨Ext.alloc (Ext.refl _) _,Bk.at rfl⟩ ?_;rintro w3 ⟨h,hB⟩;have X_3:=Hd (X_2.out.trans h);have R_3:=Hd (R_2.out.ext h);clear h X_2 R_2;have K_3:=Hd (hB);clear hB;have hHeld:True:=trivial;refine rdH2 2 12 rfl rfl (fun KK hK=>?_) fun KK hK=>?_
  ·clear hHeld;go_simp;refine (HN1.out _).mono ?_;rintro e w4 ⟨rfl,h⟩;have X_4:=Hd (X_3.out.trans h);have R_4:=Hd (R_3.out.ext h);have K_4:=Hd (K_3.out.ext h);clear h X_3 R_3 K_3;go_simp;refine hK.out _ _ trivial (fun hHeld=>?_);clear hK KK;(try simp only[Act.put,xz]);refine rdH2 5 12 rfl rfl (fun KK hK=>?_) fun KK hK=>?_
   ·clear hHeld;go_simp;refine (HN2.out _).mono ?_;rintro e w5 ⟨rfl,h⟩;have X_5:=Hd (X_4.out.trans h);have R_5:=Hd (R_4.out.ext h);have K_5:=Hd (K_4.out.ext h);clear h X_4 R_4 K_4;go_simp;refine hK.out _ _ trivial (fun hHeld=>?_);clear hK KK;(try simp only[Act.put,xz]);refine tkH 6 rfl hHeld ?_;(try simp only[Act.put,xz]);refine rdH 12 rfl fun KK hK=>?_;clear hHeld;have hcv:=conv_five hd hk K_5.out;rw[HS.out.2.2] at hcv;go_simp;clear hcv;refine hK.out _ _ trivial (fun hHeld=>?_);clear hK KK;(try simp only[Act.put,xz]);refine tkH 13 rfl hHeld ?_;(try simp only[Act.put,xz]);refine tkH 14 rfl hHeld ?_;(try simp only[Act.put,xz]);refine rdH 15 rfl fun KK hK=>?_;clear hHeld;have t0:=R_5.out.cell 0;have f0:=R_5.out.frozen 0;have t1:=R_5.out.cell 1;have f1:=R_5.out.frozen 1;have HE:=Hd (Below.setCell (Below.setCell X_5.out (p:=⟨w.heap.size,0,none⟩) (Nat.le_refl _) (.string Png.ihdr)) (p:=⟨w.heap.size,1,none⟩) (Nat.le_refl _) (.string (S1++S2++S3)));have HR:=Hd ((R_5.out.set_ 0 (.string Png.ihdr)).set_ 1 (.string (S1++S2++S3)));unfold Png.ihdr at HE HR;go_simp;refine hK.out _ _ trivial (fun hHeld=>?_);clear hK KK;(try simp only[Act.put,xz]);refine wpAnyH_done (by kernel_rfl) ?_ _;clear hHeld;have k0:=HR.out.cell 0;have k1:=HR.out.cell 1;clear t0 t1 f0 f1;go_wp2_with fail;exact bodyPost_ret (v:=.agg #[.string ⟨#[73,72,68,82]⟩,.string (S1++S2++S3)]) (by simp[results,Tryz.results21,go_sem,k0,k1]) rfl ⟨by rw[← head_cat,HS.out.1,HS.out.2.1,HS.out.2.2];rfl,HE.out⟩
   ·clear hHeld;have hcv:=conv_five hd hk K_4.out;rw[HS.out.2.2] at hcv;go_simp;clear hcv;refine hK.out _ _ trivial (fun hHeld=>?_);clear hK KK;(try simp only[Act.put,xz]);refine rdH 5 rfl fun KK hK=>?_;clear hHeld;go_simp;refine (HN2.out _).mono ?_;rintro e w5 ⟨rfl,h⟩;have X_5:=Hd (X_4.out.trans h);have R_5:=Hd (R_4.out.ext h);have K_5:=Hd (K_4.out.ext h);clear h X_4 R_4 K_4;go_simp;refine hK.out _ _ trivial (fun hHeld=>?_);clear hK KK;(try simp only[Act.put,xz]);refine tkH 6 rfl hHeld ?_;(try simp only[Act.put,xz]);refine tkH 13 rfl hHeld ?_;(try simp only[Act.put,xz]);refine tkH 14 rfl hHeld ?_;(try simp only[Act.put,xz]);refine rdH 15 rfl fun KK hK=>?_;clear hHeld;have t0:=R_5.out.cell 0;have f0:=R_5.out.frozen 0;have t1:=R_5.out.cell 1;have f1:=R_5.out.frozen 1;have HE:=Hd (Below.setCell (Below.setCell X_5.out (p:=⟨w.heap.size,0,none⟩) (Nat.le_refl _) (.string Png.ihdr)) (p:=⟨w.heap.size,1,none⟩) (Nat.le_refl _) (.string (S1++S2++S3)));have HR:=Hd ((R_5.out.set_ 0 (.string Png.ihdr)).set_ 1 (.string (S1++S2++S3)));unfold Png.ihdr at HE HR;go_simp;refine hK.out _ _ trivial (fun hHeld=>?_);clear hK KK;(try simp only[Act.put,xz]);refine wpAnyH_done (by kernel_rfl) ?_ _;clear hHeld;have k0:=HR.out.cell 0;have k1:=HR.out.cell 1;clear t0 t1 f0 f1;go_wp2_with fail;exact bodyPost_ret (v:=.agg #[.string ⟨#[73,72,68,82]⟩,.string (S1++S2++S3)]) (by simp[results,Tryz.results21,go_sem,k0,k1]) rfl ⟨by rw[← head_cat,HS.out.1,HS.out.2.1,HS.out.2.2];rfl,HE.out⟩
  ·clear hHeld;have hcv:=conv_five hd hk K_3.out;rw[HS.out.2.2] at hcv;go_simp;clear hcv;refine hK.out _ _ trivial (fun hHeld=>?_);clear hK KK;(try simp only[Act.put,xz]);refine rdH 2 rfl fun KK hK=>?_;clear hHeld;go_simp;refine (HN1.out _).mono ?_;rintro e w4 ⟨rfl,h⟩;have X_4:=Hd (X_3.out.trans h);have R_4:=Hd (R_3.out.ext h);have K_4:=Hd (K_3.out.ext h);clear h X_3 R_3 K_3;go_simp;refine hK.out _ _ trivial (fun hHeld=>?_);clear hK KK;(try simp only[Act.put,xz]);refine rdH 5 rfl fun KK hK=>?_;clear hHeld;go_simp;refine (HN2.out _).mono ?_;rintro e w5 ⟨rfl,h⟩;have X_5:=Hd (X_4.out.trans h);have R_5:=Hd (R_4.out.ext h);have K_5:=Hd (K_4.out.ext h);clear h X_4 R_4 K_4;go_simp;refine hK.out _ _ trivial (fun hHeld=>?_);clear hK KK;(try simp only[Act.put,xz]);refine tkH 6 rfl hHeld ?_;(try simp only[Act.put,xz]);refine tkH 13 rfl hHeld ?_;(try simp only[Act.put,xz]);refine tkH 14 rfl hHeld ?_;(try simp only[Act.put,xz]);refine rdH 15 rfl fun KK hK=>?_;clear hHeld;have t0:=R_5.out.cell 0;have f0:=R_5.out.frozen 0;have t1:=R_5.out.cell 1;have f1:=R_5.out.frozen 1;have HE:=Hd (Below.setCell (Below.setCell X_5.out (p:=⟨w.heap.size,0,none⟩) (Nat.le_refl _) (.string Png.ihdr)) (p:=⟨w.heap.size,1,none⟩) (Nat.le_refl _) (.string (S1++S2++S3)));have HR:=Hd ((R_5.out.set_ 0 (.string Png.ihdr)).set_ 1 (.string (S1++S2++S3)));unfold Png.ihdr at HE HR;go_simp;refine hK.out _ _ trivial (fun hHeld=>?_);clear hK KK;try simp only[Act.put,xz]
   refine wpAnyH_done (by kernel_rfl) ?_ _;clear hHeld;have k0:=HR.out.cell 0;have k1:=HR.out.cell 1;clear t0 t1 f0 f1;go_wp2_with fail;exact bodyPost_ret (v:=.agg #[.string ⟨#[73,72,68,82]⟩,.string (S1++S2++S3)]) (by simp[results,Tryz.results21,go_sem,k0,k1]) rfl ⟨by rw[← head_cat,HS.out.1,HS.out.2.1,HS.out.2.2];rfl,HE.out⟩
theorem pwq {x:Int} (h: -9223372036854775808≤x∧x≤9223372036854775807):(∀z,z=x→IntKind.i64.wrap z=z)∧(∀z,z=x→wrap64 z=z):=⟨by rintro _ rfl;rw[IntKind.wrap_i64];omega,by rintro _ rfl;unfold wrap64;omega⟩
namespace Png
/-- samples of a pixel, 0: no such kind -/
def byN (k:Nat):Nat:=if k=0 then 1 else if k=2 then 3 else if k=3 then 1 else if k=6 then 4 else 0
theorem smp_by (k:Nat):smp (k:Int)=if byN k=0 then none else some (byN k):=by
 unfold smp updI byN;by_cases h6:k=6
 ·subst h6;rfl
 by_cases h3:k=3
 ·subst h3;rfl
 by_cases h2:k=2
 ·subst h2;rfl
 by_cases h0:k=0
 ·subst h0;rfl
 ·rw[if_neg (by omega),if_neg (by omega),if_neg (by omega),if_neg (by omega),if_neg h0,if_neg h2,if_neg h3,if_neg h6];rfl
theorem byN_le (k:Nat):byN k≤4:=by unfold byN;split;omega;split;omega;split;omega;split <;> omega
def depOk (k d:Nat):Prop:=d=8∨(k=3∧(d=1∨d=2∨d=4))
instance (k d:Nat):Decidable (depOk k d):=by unfold depOk;infer_instance
inductive HdR where
 | bad (c:Nat)
 | ok (W H d k:Nat)
def headR (c:Ck):HdR:=
 if c.k=ihdr∧c.d.size=13 then
  let l:=c.d.data.toList;let W:=valN (l.take 4);let H:=valN ((l.drop 4).take 4);if 1≤W∧W≤256∧1≤H∧H≤256 then
   if byN (l.getD 9 0).toNat≠0∧depOk (l.getD 9 0).toNat (l.getD 8 0).toNat∧l.drop 10=[0,0,0] then .ok W H (l.getD 8 0).toNat (l.getD 9 0).toNat
   else .bad 0
  else .bad 1
 else .bad 0
/-- the state ahead of a chunk -/
def stN (r:Rd) (c:Ck):Nat:=if c.k≠idat∧r.st=1 then 2 else r.st
def mostN (r:Rd):Nat:=if r.kind=3 then 2^r.depth else 256
def onB (r:Rd) (c:Ck):Bool:=
 if c.k=ihdr∨c.k=iend then false
 else if c.k=idat then decide (stN r c<2)
 else if c.k=plte then decide (r.hc=false∧r.ha=false∧stN r c=0∧r.kind≠0∧0<c.d.size∧c.d.size%3=0∧c.d.size/3≤mostN r)
 else if c.k=trns then decide (r.hc=true∧r.ha=false∧stN r c=0∧r.kind=3∧3*c.d.size≤r.colors.size)
 else decide (97≤(c.k.data.toList.getD 0 0).toNat)
def onR (r:Rd) (c:Ck):Rd:=
 if c.k=ihdr∨c.k=iend then { r with st:=stN r c }
 else if c.k=idat then { r with data:=r.data++c.d.data.toList,st:=1 }
 else if c.k=plte then { r with colors:=c.d,hc:=true,st:=stN r c }
 else if c.k=trns then { r with alphas:=c.d,ha:=true,st:=stN r c }
 else { r with st:=stN r c }
def runR (r:Rd):List Ck→Rd
 | []=>r
 | c ::L=>runR (onR r c) L
def runB (r:Rd):List Ck→Bool
 | []=>true
 | c ::L=>onB r c&&runB (onR r c) L
theorem runR_snoc (r:Rd) (L:List Ck) (c:Ck):runR r (L ++ [c])=onR (runR r L) c:=by
 induction L generalizing r with
 | nil=>rfl
 | cons x L ih=>exact ih _
theorem runB_snoc (r:Rd) (L:List Ck) (c:Ck):runB r (L ++ [c])=(runB r L&&onB (runR r L) c):=by
 induction L generalizing r with
 | nil=>simp[runB,runR]
 | cons x L ih=>simp only[List.cons_append,runB,runR,ih,Bool.and_assoc]
/-- what a chunk leaves alone -/
theorem onR_same (r:Rd) (c:Ck):(onR r c).wide=r.wide∧(onR r c).high=r.high∧(onR r c).depth=r.depth∧(onR r c).kind=r.kind:=by
 unfold onR;split
 ·exact⟨rfl,rfl,rfl,rfl⟩
 split
 ·exact⟨rfl,rfl,rfl,rfl⟩
 split
 ·exact⟨rfl,rfl,rfl,rfl⟩
 split <;> exact⟨rfl,rfl,rfl,rfl⟩
theorem runR_same (r:Rd) (L:List Ck):(runR r L).wide=r.wide∧(runR r L).high=r.high∧(runR r L).depth=r.depth∧(runR r L).kind=r.kind:=by
 induction L generalizing r with
 | nil=>exact⟨rfl,rfl,rfl,rfl⟩
 | cons c L ih=>
  obtain⟨a,b,d,e⟩:=ih (onR r c);obtain⟨a',b',d',e'⟩:=onR_same r c;exact⟨a.trans a',b.trans b',d.trans d',e.trans e'⟩
theorem onR_len (r:Rd) (c:Ck):(onR r c).data.length≤r.data.length+c.d.size:=by
 unfold onR;have hz:c.d.data.toList.length=c.d.size:=rfl;split
 ·exact Nat.le_add_right _ _
 split
 ·show (r.data++c.d.data.toList).length≤_;rw[List.length_append,hz];exact Nat.le_refl _
 split
 ·exact Nat.le_add_right _ _
 split <;> exact Nat.le_add_right _ _
theorem onR_col (r:Rd) (c:Ck) (hr:r.colors.size≤300000∧r.alphas.size≤300000) (hc:c.Ok):(onR r c).colors.size≤300000∧(onR r c).alphas.size≤300000:=by
 unfold onR;split
 ·exact hr
 split
 ·exact hr
 split
 ·exact⟨hc.d,hr.2⟩
 split
 ·exact⟨hr.1,hc.d⟩
 ·exact hr
/-- the number of pixel i -/
def numAt (r:Rd) (l:List UInt8) (wide i:Nat):Nat:=(l.getD (i/r.wide*wide+i%r.wide*r.depth/8) 0).toNat/2^sft r.depth (i%r.wide)%2^r.depth
/-- is pixel i one? -/
def goodAt (r:Rd) (l:List UInt8) (wide i:Nat):Prop:=r.kind=3→3*numAt r l wide i<r.colors.size
instance (r:Rd) (l:List UInt8) (wide i:Nat):Decidable (goodAt r l wide i):=by unfold goodAt;infer_instance
def bI (l:List UInt8) (i:Nat):Int:=((l.getD i 0).toNat:Int)
def pxAt (r:Rd) (l:List UInt8) (wide i:Nat):P4:=
 let y:=i/r.wide;let x:=i%r.wide;if r.kind=0 then ⟨bI l (y*wide+x),bI l (y*wide+x),bI l (y*wide+x),255⟩
 else if r.kind=2 then ⟨bI l (y*wide+3*x),bI l (y*wide+3*x+1),bI l (y*wide+3*x+2),255⟩
 else if r.kind=6 then ⟨bI l (y*wide+4*x),bI l (y*wide+4*x+1),bI l (y*wide+4*x+2),bI l (y*wide+4*x+3)⟩
 else
  let n:=numAt r l wide i;⟨bI r.colors.data.toList (3*n),bI r.colors.data.toList (3*n+1),bI r.colors.data.toList (3*n+2),if n<r.alphas.size then bI r.alphas.data.toList n else 255⟩
theorem bI_byte (l:List UInt8) (i:Nat):Pix.Byte (bI l i):=by
 unfold bI;have:=(l.getD i 0).toNat_lt;exact⟨by omega,by omega⟩
theorem pxAt_ok (r:Rd) (l:List UInt8) (wide i:Nat):(pxAt r l wide i).Ok:=by
 have b255:Pix.Byte 255:=⟨by decide,by decide⟩;unfold pxAt;split
 ·exact⟨bI_byte _ _,bI_byte _ _,bI_byte _ _,b255⟩
 split
 ·exact⟨bI_byte _ _,bI_byte _ _,bI_byte _ _,b255⟩
 split
 ·exact⟨bI_byte _ _,bI_byte _ _,bI_byte _ _,bI_byte _ _⟩
 ·refine⟨bI_byte _ _,bI_byte _ _,bI_byte _ _,?_⟩;show Pix.Byte (if _ then _ else _);split
  ·exact bI_byte _ _
  ·exact b255
/-- the bytes of a row -/
def rowN (r:Rd):Nat:=(r.wide*byN r.kind*r.depth+7)/8
/-- a reader at its start -/
def rd0 (W H d k:Nat):Rd:=⟨W,H,d,k,⟨#[]⟩,⟨#[]⟩,false,false,[],0⟩
inductive PcR where
 | fault (c i:Nat)
 | bad (c:Nat)
 | ok (W H:Nat) (px:Nat→P4)
/-- rows that are unpacked: their pixels -/
noncomputable def pixR (r:Rd) (t:List UInt8):PcR:=
 if t.length=r.high*(rowN r+1)∧(∀j,j<r.high→kdT (tx t) (rowN r) j≤4) then
  if ∀i,i<r.high*r.wide→goodAt r (unS (tx t) (rowN r) (byN r.kind) r.high).data.toList (rowN r) i then .ok r.wide r.high (pxAt r (unS (tx t) (rowN r) (byN r.kind) r.high).data.toList (rowN r))
  else .bad 0
 else .bad 0
/-- the chunks behind the head -/
noncomputable def bodyR (r:Rd) (L:List Ck):PcR:=
 if L≠[]∧(L.getLast?.map fun c=>(c.k,c.d))=some (iend,⟨#[]⟩)∧runB r L.dropLast=true then
  let r':=runR r L.dropLast;if r'.st=0∨(r'.kind=3∧r'.hc=false) then .bad 0
  else match Inf.unz ⟨r'.data.toArray⟩ ((r'.high*(rowN r'+1):Nat):Int) with
   | .error c=>.bad c
   | .ok t=>pixR r' t
 else .bad 0
noncomputable def picR (s:ByteArray):PcR:=
 match readL s with
 | .bad c i=>.fault c i
 | .ok []=>.bad 0
 | .ok (h ::L)=>match headR h with
  | .bad c=>.bad c
  | .ok W H d k=>bodyR (rd0 W H d k) L
end Png
/-- the result's variable, the picture's variable, its pixels so far -/
structure PxE (w wr:World) (W H:Int) (v:Value) (k:Nat) (px:Nat→P4):Prop where
 e:EAt w wr W H v k px
theorem PxE.ext {w wr wz:World} {W H:Int} {v:Value} {k:Nat} {px:Nat→P4} (h:PxE w wr W H v k px) (hE:Ext wr wz):PxE w wz W H v k px:=by
 obtain⟨h1,h2,h3,h4,h5,h6,h7⟩:=h;have l0:w.heap.size<wr.heap.size:=World.block_lt_of_cell? wr _ h2.c0;have l1:w.heap.size+1<wr.heap.size:=World.block_lt_of_cell? wr _ h3.c0;exact⟨h1.trans hE,h2.ext hE,h3.ext hE,fun j=>(hE.keeps.frozen (S:=fun _=>False) (p:=⟨w.heap.size,j,none⟩) l0 id).trans (h4 j),fun j=>(hE.keeps.frozen (S:=fun _=>False) (p:=⟨w.heap.size+1,j,none⟩) l1 id).trans (h5 j),ownsRow_kept (S:=fun _=>False) h6 hE.keeps (fun _ _=>id),h7⟩
theorem PxE.lit {w wr:World} {W H:Int} {v:Value} {k:Nat} {px:Nat→P4} (h:PxE w wr W H v k px):∃x c,v=.slice x k c:=own_slice h.e.own
theorem p4_one (p:P4):∀u∈ [Value.int .u8 p.r,.int .u8 p.g,.int .u8 p.b,.int .u8 p.a],u.oneCell'=true:=by
 intro u hu;simp only[List.mem_cons,List.not_mem_nil,or_false] at hu;rcases hu with hu | hu | hu | hu <;> (subst hu;rfl)
theorem PxE.start {w wz:World} {W H:Int} {px:Nat→P4} (hX:Ext w wz) (hQ:Bk wz w.heap.size #[.int .i64 0,.int .i64 0,.slice none 0 0]) (hP:Bk wz (w.heap.size+1) #[.int .i64 W,.int .i64 H,.slice none 0 0]):PxE w wz W H (.slice none 0 0) 0 px:=
 ⟨⟨hX,hQ.pic,hP.pic,fun j=>hQ.frozen j,fun j=>hP.frozen j,World.ownsRow_nil _ _ _ _,⟨fun h=>(by cases h),fun h=>(by cases h)⟩⟩⟩
/-- the row has grown -/
theorem PxE.grown {w wr w3:World} {W H:Int} {x:Option Addr} {c k:Nat} {px:Nat→P4} {v':Value} (h:PxE w wr W H (.slice x k c) k px) (hown:w3.ownsRow w.heap.size 53 4 v' (k+1) (pxV k px ++ [.int .u8 (px k).r,.int .u8 (px k).g,.int .u8 (px k).b,.int .u8 (px k).a])) (hgrow:wr.grownBy w3 (Value.slice x k c).ownBlock) (hat:v'.ownBlock=(Value.slice x k c).ownBlock∨v'.ownBlock=some wr.heap.size):
  w3.cell? ⟨w.heap.size+1,2,none⟩=some (.slice x k c)∧w3.frozen? ⟨w.heap.size+1,2,none⟩=false∧PxE w (w3.setCell ⟨w.heap.size+1,2,none⟩ v') W H v' (k+1) px:=by
 have h:=h.e;have hT:w.heap.size+1<wr.heap.size:=World.block_lt_of_cell? wr _ h.pic.c0;have hkk:Keeps (fun q=>(Value.slice x k c).ownBlock=some q) wr w3:=Keeps.grown hgrow;have n0:¬ (Value.slice x k c).ownBlock=some w.heap.size:=h.ne.1;have n1:¬ (Value.slice x k c).ownBlock=some (w.heap.size+1):=h.ne.2;have cc:∀b j,b<wr.heap.size→¬ (Value.slice x k c).ownBlock=some b→w3.cell? ⟨b,j,none⟩=wr.cell? ⟨b,j,none⟩:=fun b j hb hn=>hkk.cell (p:=⟨b,j,none⟩) hb hn;have ff:∀b j,b<wr.heap.size→¬ (Value.slice x k c).ownBlock=some b→w3.frozen? ⟨b,j,none⟩=wr.frozen? ⟨b,j,none⟩:=fun b j hb hn=>hkk.frozen (p:=⟨b,j,none⟩) hb hn;have hng:v'.ownBlock≠some w.heap.size∧v'.ownBlock≠some (w.heap.size+1):=by
  rcases hat with q | q
  ·exact⟨fun e=>n0 (q.symm.trans e),fun e=>n1 (q.symm.trans e)⟩
  ·exact⟨fun e=>by rw[q] at e;injection e with e;omega,fun e=>by rw[q] at e;injection e with e;omega⟩
 have hE:Ext w w3:=Below.trans h.ext (hkk.below h.ext.size (fun q hq e=>by have:=(h.own.lt q e).1;omega));have e0:∀j,(⟨w.heap.size+1,2,none⟩:Addr)≠⟨w.heap.size,j,none⟩:=fun j e=>by injection e with e;omega
 have e1:∀j,j≠2→(⟨w.heap.size+1,2,none⟩:Addr)≠⟨w.heap.size+1,j,none⟩:=fun j hj e=>by injection e with _ e;exact hj e.symm
 refine⟨(cc _ 2 hT n1).trans h.pic.c2,(ff _ 2 hT n1).trans (h.fp 2),⟨⟨hE.setCell (by show w.heap.size≤w.heap.size+1;omega) _,⟨?_,?_,?_⟩,⟨?_,?_,?_⟩,?_,?_,?_,hng⟩⟩⟩
 ·exact (World.cell?_setCell_other _ _ _ _ (e0 0)).trans ((cc _ 0 (by omega) n0).trans h.res.c0)
 ·exact (World.cell?_setCell_other _ _ _ _ (e0 1)).trans ((cc _ 1 (by omega) n0).trans h.res.c1)
 ·exact (World.cell?_setCell_other _ _ _ _ (e0 2)).trans ((cc _ 2 (by omega) n0).trans h.res.c2)
 ·exact (World.cell?_setCell_other _ _ _ _ (e1 0 (by decide))).trans ((cc _ 0 hT n1).trans h.pic.c0)
 ·exact (World.cell?_setCell_other _ _ _ _ (e1 1 (by decide))).trans ((cc _ 1 hT n1).trans h.pic.c1)
 ·exact World.cell?_setCell_same _ _ _ ((cc _ 2 hT n1).trans h.pic.c2)
 ·intro j;rw[World.frozen?_setCell];exact (ff _ j (by omega) n0).trans (h.fr j)
 ·intro j;rw[World.frozen?_setCell];exact (ff _ j hT n1).trans (h.fp j)
 ·rw[pxV_succ];exact ownsRow_setCell_other hown hng.2 _
/-- one pixel more -/
theorem PxE.push {w wr:World} {W H:Int} {x:Option Addr} {c k:Nat} {px:Nat→P4} (h:PxE w wr W H (.slice x k c) k px) {p:P4} (hp:px k=p) {T:Nat} (hB:Bk wr T #[.int .u8 p.r,.int .u8 p.g,.int .u8 p.b,.int .u8 p.a]) (hk:k≤1000000):
  ∃y d w',(Builtin.append_ #[22,22] 22 #[.slice x k c,.slice (some ⟨T,0,none⟩) 1 1]).run Tryz.prog wr=.ok (.slice y (k+1) d) w'∧
   w'.cell? ⟨w.heap.size+1,2,none⟩=some (.slice x k c)∧w'.frozen? ⟨w.heap.size+1,2,none⟩=false∧PxE w (w'.setCell ⟨w.heap.size+1,2,none⟩ (.slice y (k+1) d)) W H (.slice y (k+1) d) (k+1) px:=by
 subst hp;obtain⟨i0,hi0,hz0,hz1,hz2⟩:=info_parts pixinfo;obtain⟨v',w3,hr,hown,hgrow,_,hat⟩:=run_append_own_at (P:=Tryz.prog) wr w.heap.size 22 22 53 i0 _ 4 4 Tryz.underlying22 hi0 hz0 hz1 hz2 rfl (by decide) (.slice x k c) k (pxV k px) h.e.own ⟨T,0,none⟩ 1 1 [.int .u8 (px k).r,.int .u8 (px k).g,.int .u8 (px k).b,.int .u8 (px k).a] rfl
  (fun j u hu=>by rw[add_plain,hB.cell j,← Array.getElem?_toList];exact hu) (p4_one _) (by unfold maxLen;omega) (by omega) h.e.ext.size
 obtain⟨q1,q2,q3⟩:=h.grown hown hgrow hat;obtain⟨g,d,rfl,_,_⟩:=ownsRow_some hown (by omega);exact⟨_,d,w3,hr,q1,q2,q3⟩
/-- the picture is the result -/
theorem PxE.done {w wr:World} {W H:Int} {x:Option Addr} {c k:Nat} {px:Nat→P4} (h:PxE w wr W H (.slice x k c) k px) (hok:∀i,i<k→(px i).Ok):
  PicAt (((wr.setCell ⟨w.heap.size,0,none⟩ (.int .i64 W)).setCell ⟨w.heap.size,1,none⟩ (.int .i64 H)).setCell ⟨w.heap.size,2,none⟩ (.slice x k c)) w.heap.size W H (.slice x k c)∧Ext w (((wr.setCell ⟨w.heap.size,0,none⟩ (.int .i64 W)).setCell ⟨w.heap.size,1,none⟩ (.int .i64 H)).setCell ⟨w.heap.size,2,none⟩ (.slice x k c))∧
   Pxs (((wr.setCell ⟨w.heap.size,0,none⟩ (.int .i64 W)).setCell ⟨w.heap.size,1,none⟩ (.int .i64 H)).setCell ⟨w.heap.size,2,none⟩ (.slice x k c)) x k px∧(∀a,x=some a→w.heap.size≤a.block):=by
 refine⟨h.e.res.set,h.e.ext.set3 (Nat.le_refl _) _ _ _,?_⟩;obtain⟨y,d,e,hP,hb⟩:=Pxs.of_own (ownsRow_set3 h.e.own h.e.ne.1 (.int .i64 W) (.int .i64 H) (.slice x k c)) hok;injection e with e1 _ _;subst e1;exact⟨hP,hb⟩
theorem set4_all {w0 w:World} {b:Nat} {x y z u x' y' z' u':Value} (hX:Ext w0 w) (hb:w0.heap.size≤b) (hB:Bk w b #[x,y,z,u]):
  Ext w0 ((((w.setCell ⟨b,0,none⟩ x').setCell ⟨b,1,none⟩ y').setCell ⟨b,2,none⟩ z').setCell ⟨b,3,none⟩ u')∧Bk ((((w.setCell ⟨b,0,none⟩ x').setCell ⟨b,1,none⟩ y').setCell ⟨b,2,none⟩ z').setCell ⟨b,3,none⟩ u') b #[x',y',z',u']∧Keeps (fun k=>k=b) w ((((w.setCell ⟨b,0,none⟩ x').setCell ⟨b,1,none⟩ y').setCell ⟨b,2,none⟩ z').setCell ⟨b,3,none⟩ u'):=
 ⟨Below.setCell (Below.setCell (Below.setCell (Below.setCell hX (by exact hb) _) (by exact hb) _) (by exact hb) _) (by exact hb) _,(((hB.set_ 0 x').set_ 1 y').set_ 2 z').set_ 3 u',((((Keeps.refl (fun k=>k=b) w).setCell (.inl rfl) _).setCell (.inl rfl) _).setCell (.inl rfl) _).setCell (.inl rfl) _⟩
theorem i64_and_nat (x y:Nat) (hx:x<65536) (hy:y<65536):bits BinOp.and IntKind.i64 (x:Int) (y:Int)=((x &&& y:Nat):Int):=by
 show IntKind.i64.wrap ((BitVec.ofInt 64 (x:Int) &&& BitVec.ofInt 64 (y:Int)).toNat:Int)=_;have h:x &&& y≤x:=Nat.and_le_left;rw[BitVec.ofInt_natCast,BitVec.ofInt_natCast,BitVec.toNat_and,BitVec.toNat_ofNat,BitVec.toNat_ofNat,Nat.mod_eq_of_lt (by omega),Nat.mod_eq_of_lt (by omega),IntKind.wrap_i64];omega
theorem and_num {x sh dep:Nat} (hx:x<256) (hd:Png.IsDep dep):bits BinOp.and IntKind.i64 ((x:Int)/2^sh) (IntKind.i64.wrap (IntKind.i64.wrap (2^dep)-1))=((x/2^sh%2^dep:Nat):Int):=by
 have e:(x:Int)/2^sh=((x/2^sh:Nat):Int):=by push_cast;rfl
 have hq:x/2^sh≤x:=Nat.div_le_self _ _;obtain⟨q,hq2⟩:∃q,x/2^sh=q:=⟨_,rfl⟩;rw[e,hq2];rw[hq2] at hq;rw[← Nat.and_two_pow_sub_one_eq_mod];rcases hd with rfl | rfl | rfl | rfl
 ·rw[show IntKind.i64.wrap (IntKind.i64.wrap (2^1)-1)=((1:Nat):Int) by decide,i64_and_nat q 1 (by omega) (by omega)]
 ·rw[show IntKind.i64.wrap (IntKind.i64.wrap (2^2)-1)=((3:Nat):Int) by decide,i64_and_nat q 3 (by omega) (by omega)]
 ·rw[show IntKind.i64.wrap (IntKind.i64.wrap (2^4)-1)=((15:Nat):Int) by decide,i64_and_nat q 15 (by omega) (by omega)]
 ·rw[show IntKind.i64.wrap (IntKind.i64.wrap (2^8)-1)=((255:Nat):Int) by decide,i64_and_nat q 255 (by omega) (by omega)]
theorem ex_getD {s:ByteArray} {a b j:Nat} (h:j<b-a):(s.extract a b).data.toList.getD j 0=s.data.toList.getD (a+j) 0:=by
 have e:(s.extract a b).data.toList=(s.data.toList.drop a).take (b-a):=by
  rw[ByteArray.data_extract,Array.toList_extract,List.extract_eq_take_drop]
 rw[e,List.getD_eq_getElem?_getD,List.getElem?_take_of_lt h,List.getElem?_drop,← List.getD_eq_getElem?_getD]
theorem MI.get {w:World} {b n:Nat} {p:Int} {g:Int→Option Nat} (h:MI w b g) (hp:OkI p) (hg:g p=some n):
  (Instr.lookup 75 (.map (some b)) (.int .i64 p) false).run Tryz.prog w=.ok (.int .i64 (n:Int)) w:=by
 obtain⟨es,clock,hb,h1,h2,h3⟩:=h;obtain⟨l,hl⟩:=keyi_of p hp;have hzv:(zeroValue 3).run Tryz.prog w=.ok (.int .i64 0) w:=by kernel_rfl
 have hes:∀e∈es.toList,∃l,keyOf Tryz.prog 3 e.key=some l:=by
  intro e he;obtain⟨q,n,hk',q1,_⟩:=h1 e he;rw[hk'];exact keyi_of q q1
 have hcheck:=keyi_law.check w es.isEmpty hl;show (Instr.lookup 75 (.map (some b)) (kI p) false).run Tryz.prog w=_;rcases keyi_law.find w hl es.toList hes with⟨hf,hno⟩ | ⟨j,e,hf,hj,he⟩
 ·obtain⟨e,hm,hk2⟩:=h2 p n hp hg;exact absurd hk2 (hno e hm)
 ·obtain⟨q,m,hk',_,hv,hg2⟩:=h1 e (List.mem_of_getElem? hj);obtain rfl:=ki_inj (hk'.symm.trans he);rw[hg] at hg2;injection hg2 with hg2;subst hg2;simp[Instr.lookup,run_underlying Tryz.underlying75,MapKept.run_getObj_map hb,hcheck,hf,hv,Result.andThen]
/-- what pixels tells -/
def PixPost (w w':World) (r:Rd) (l:List UInt8) (wide:Nat) (e:Ending):Prop:=
 Ext w w'∧((∃x c,e=.returned (.tuple #[.agg #[.int .i64 (r.wide:Int),.int .i64 (r.high:Int),.slice x (r.high*r.wide) c],.bool true])∧Pxs w' x (r.high*r.wide) (Png.pxAt r l wide)∧(∀i,i<r.high*r.wide→Png.goodAt r l wide i)∧(∀a,x=some a→w.heap.size≤a.block))∨
  (e=.returned (.tuple #[.agg #[.int .i64 0,.int .i64 0,.slice none 0 0],.bool false])∧∃i,i<r.high*r.wide∧¬ Png.goodAt r l wide i))
end Go.Proofs.YthlibiocadimhaaGreatDoor
