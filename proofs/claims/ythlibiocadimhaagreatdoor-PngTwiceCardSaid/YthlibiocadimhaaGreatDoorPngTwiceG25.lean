/-
  (*png.reader).head.
  png.Unpack.
  Two rows of bytes that grow beside each other. No function of the program is named.
  The chunks and the rows of a picture's file, plain. No function of the program is named.
  What is read is written as it was, what is written is read: files of any length.
-/
import Derived.Test.YthlibiocadimhaaGreatDoorPngTwiceG1
import Derived.Test.YthlibiocadimhaaGreatDoorPngTwiceG23
import Derived.Test.YthlibiocadimhaaGreatDoorPngTwiceG24
import Derived.Test.YthlibiocadimhaaGreatDoorPngTwiceG21
import Derived.Test.YthlibiocadimhaaGreatDoorPngTwiceG4
set_option linter.unusedSimpArgs false
set_option linter.unusedVariables false
set_option maxRecDepth 100000
namespace Go.Proofs.YthlibiocadimhaaGreatDoor
open Go.RowKit
theorem index_any (T n c:Nat) (f:Nat→Int) (v:Int) (w:World) (hn:n≤1000) (h:∀i,i<n→w.cell? ⟨T,i,none⟩=some (.int .i64 (f i))):
  Calls Tryz.prog 94 #[.slice (some ⟨T,0,none⟩) n c,.int .i64 v] w fun e w'=>(∃k:Int,e=.returned (.int .i64 k)∧(0≤k↔∃i,i<n∧f i=v))∧w=w':=by
 have HC:=Hd h;clear h;go_enter Tryz.func94,Tryz.ntmps94
 go_wp2_with fail;go_loopw [8] (fun iv wr=>wr=w∧∃k:Nat,iv=.int .i64 (k:Int)∧k≤n∧Hid (∀i,i<k→f i≠v)) (fun iv _=>n-(intOf iv).toNat)
 case atStart=>exact⟨by first | trivial | rfl,0,rfl,by omega,Hd (fun i hi=>by omega)⟩
 case round=>
  obtain⟨rfl,k,rfl,hk,HN⟩:=hrel;by_cases hlt:k<n
  ·have t0:decide ((k:Int)<(n:Int))=true:=decide_eq_true (by omega);have c0:=HC.out k hlt;have i1:(0:Int)≤(k:Int):=by omega
   have i2:(k:Int)<(n:Int):=by omega
   obtain⟨q,hq⟩:∃q,f k=q:=⟨_,rfl⟩;have HQ:=Hd hq;rw[hq] at c0;clear hq;by_cases hv:v=q
   ·have t1:(v ==q)=true:=beq_iff_eq.2 hv;have HV:=Hd hv;clear hv;go_wp2_with fail;go_ret;exact⟨⟨_,rfl,fun _=>⟨k,hlt,by rw[HQ.out,HV.out]⟩,fun _=>by omega⟩,rfl⟩
   ·have t1:(v ==q)=false:=beq_eq_false_iff_ne.2 hv;go_wp2_with fail;go_roundw
    case rel=>exact⟨by first | trivial | rfl,k+1,by go_num,by omega,Hd (fun i hi=>by
     by_cases hik:i=k
     ·rw[hik,HQ.out];exact fun e=>hv e.symm
     ·exact HN.out i (by omega))⟩
    case measure=>simp[intOf];omega
  ·obtain rfl:k=n:=by omega
   have t0:decide ((k:Int)<(k:Int))=false:=decide_eq_false (by omega);go_wp2_with fail;go_ret;exact⟨⟨_,rfl,fun h=>absurd h (by decide),fun⟨i,hi,e⟩=>absurd e (HN.out i hi)⟩,rfl⟩
theorem contains_any (T n c:Nat) (f:Nat→Int) (v:Int) (w:World) (hn:n≤1000) (h:∀i,i<n→w.cell? ⟨T,i,none⟩=some (.int .i64 (f i))):
  Calls Tryz.prog 64 #[.slice (some ⟨T,0,none⟩) n c,.int .i64 v] w fun e w'=>(∃b:Bool,e=.returned (.bool b)∧(b=true↔∃i,i<n∧f i=v))∧w=w':=by
 have HI:=Hd (index_any T n c f v w hn h);clear h;go_enter Tryz.func64,Tryz.ntmps64
 go_wp2_with fail;refine HI.out.mono ?_;rintro e w9 ⟨⟨k,rfl,hk⟩,rfl⟩;have HK:=Hd hk;clear hk;by_cases h0:0≤k
 ·have t0:decide ((0:Int)≤k)=true:=decide_eq_true h0;go_wp2_with fail;go_ret;exact⟨⟨_,rfl,by rw[← HK.out];simp[h0]⟩,rfl⟩
 ·have t0:decide ((0:Int)≤k)=false:=decide_eq_false h0;go_wp2_with fail;go_ret;exact⟨⟨_,rfl,by rw[← HK.out];simp[h0]⟩,rfl⟩
theorem hside_any (n:Nat) (w:World):Calls Tryz.prog 63 #[.int .u32 (n:Int)] w fun e w'=>e=.returned (.bool (decide (1≤n∧n≤256)))∧w=w':=by
 by_cases h1:1≤n
 ·have t0:decide ((1:Int)≤(n:Int))=true:=decide_eq_true (by omega);by_cases h2:n≤256
  ·have t1:decide ((n:Int)≤256)=true:=decide_eq_true (by omega);have HV:Hid (decide (1≤n∧n≤256)=true):=Hd (decide_eq_true ⟨h1,h2⟩);rw[HV.out];go_enter Tryz.func63,Tryz.ntmps63
   go_wp2_with fail;go_ret;exact⟨rfl,rfl⟩
  ·have t1:decide ((n:Int)≤256)=false:=decide_eq_false (by omega);have HV:Hid (decide (1≤n∧n≤256)=false):=Hd (decide_eq_false (fun h=>h2 h.2));rw[HV.out];go_enter Tryz.func63,Tryz.ntmps63
   go_wp2_with fail;go_ret;exact⟨rfl,rfl⟩
 ·have t0:decide ((1:Int)≤(n:Int))=false:=decide_eq_false (by omega);have HV:Hid (decide (1≤n∧n≤256)=false):=Hd (decide_eq_false (fun h=>h1 h.1));rw[HV.out];go_enter Tryz.func63,Tryz.ntmps63
  go_wp2_with fail;go_ret;exact⟨rfl,rfl⟩
theorem smp_get (k:Nat):(smp (k:Int)).getD 0=Png.byN k∧(smp (k:Int)).isSome=decide (Png.byN k≠0):=by
 rw[Png.smp_by];by_cases h:Png.byN k=0
 ·rw[if_pos h,h];exact⟨rfl,rfl⟩
 ·rw[if_neg h];exact⟨rfl,(decide_eq_true h).symm⟩
/-- a reader whose head is read: the chunk's variable beside it -/
structure HdS (B b:Nat) (w wz:World) (E:Nat→Addr) (k d:ByteArray) (r:Rd):Prop where
 r:RdAt B b r wz
 bl:Below B w wz
 c:Bk wz w.heap.size #[.string k,.string d]
 e:ErrC wz E
 z:w.heap.size≤wz.heap.size
 hB:B≤w.heap.size
 hg:∀c,c<4→gk c<B
 ne:w.heap.size≠b
theorem HdS.ext {B b:Nat} {w wz wy:World} {E:Nat→Addr} {k d:ByteArray} {r:Rd} (h:HdS B b w wz E k d r) (hE:Ext wz wy):HdS B b w wy E k d r:=
 ⟨h.r.ext hE,h.bl.trans (Below.mono hE (Nat.le_trans h.hB h.z)),h.c.ext hE,h.e.ext hE,Nat.le_trans h.z hE.size,h.hB,h.hg,h.ne⟩
theorem HdS.put {B b:Nat} {w wz:World} {E:Nat→Addr} {k d:ByteArray} {r r':Rd} (h:HdS B b w wz E k d r) (i:Nat) (u:Value) (hi:∀p v,(rdV r p v).setIfInBounds i u=rdV r' p v) (hd:r'.data=r.data):HdS B b w (wz.setCell ⟨b,i,none⟩ u) E k d r':=by
 obtain⟨q1,q2⟩:=h.r.put i u hi hd;refine⟨q1,h.bl.trans q2,h.c.far h.ne _,⟨fun c hc=>?_⟩,by simpa using h.z,h.hB,h.hg,h.ne⟩;have hne:(⟨b,i,none⟩:Addr)≠⟨gk c,0,none⟩:=fun e=>by
  injection e with e _;have h1:=h.r.le;have h2:=h.hg c hc;omega
 rw[World.cell?_setCell_other _ _ _ _ hne];exact h.e.var c hc
/-- what head tells of a reader at its start -/
def HdPost (B b:Nat) (w w':World) (E:Nat→Addr) (r:Png.HdR) (e:Ending):Prop:=
 Below B w w'∧match r with
 | .bad c=>e=.returned (sentV (E c))
 | .ok W H d k=>e=.returned .nilIface∧RdAt B b (Png.rd0 W H d k) w'
set_option maxHeartbeats 4000000 in
theorem head_rd (B b:Nat) (k d:ByteArray) (w:World) (E:Nat→Addr) (hE:ErrC w E) (h:RdAt B b (Png.rd0 0 0 0 0) w) (hk:k.size≤maxLen) (hd:d.size≤300000) (hBw:B≤w.heap.size) (hgB:∀c,c<4→gk c<B):
  Calls Tryz.prog 27 #[.pointer (some ⟨b,0,none⟩),.agg #[.string k,.string d]] w fun e w'=>HdPost B b w w' E (Png.headR ⟨k,d⟩) e:=by
 have HR:=Hd h;have HER:=Hd hE;have HGK:=Hd hgB;have HBW:=Hd hBw;have hbne:Hid (w.heap.size≠b):=Hd (Nat.ne_of_gt h.lt);clear h hE hBw hgB;obtain⟨res,hres⟩:∃r,Png.headR ⟨k,d⟩=r:=⟨_,rfl⟩;rw[hres];unfold Png.headR at hres;go_enter Tryz.func27,Tryz.ntmps27
 go_upto_region 1 with fail;refine wp_world (fun wz=>Ext w wz∧Bk wz w.heap.size #[.string k,.string d]) ⟨(Ext.refl w).alloc _,Bk.at rfl⟩ ?_;rintro w1 ⟨hX,hC⟩;have R1:=Hd (HR.out.ext hX);have C1:=Hd hC;have B1:Hid (Below B w w1):=Hd (Below.mono hX HBW.out);have ER1:=Hd (HER.out.ext hX);have Z1:=Hd hX.size;clear hX hC HR HER;have cc0:=C1.out.cell 0;have cc1:=C1.out.cell 1;by_cases h_k:k=Png.ihdr
 ·have e_k:=pkyes h_k;have HK:=Hd h_k;clear h_k;by_cases h13:d.size=13
  ·have t0:(((d.size:Nat):Int) ==13)=true:=int_eq (by omega);have t1:(((d.size:Nat):Int) !=13)=false:=int_eq2 (by omega);rw[if_pos ⟨HK.out,h13⟩] at hres;dsimp only at hres;obtain⟨l,hl⟩:∃l,d.data.toList=l:=⟨_,rfl⟩;have HL:=Hd hl;rw[hl] at hres;have hll:l.length=13:=by rw[← hl];exact h13
   obtain⟨W,hW⟩:∃W,valN (l.take 4)=W:=⟨_,rfl⟩;obtain⟨H,hH⟩:∃H,valN ((l.drop 4).take 4)=H:=⟨_,rfl⟩;rw[hW,hH] at hres;obtain⟨D4,hD4⟩:∃D:ByteArray,d.extract 0 4=D:=⟨_,rfl⟩;obtain⟨D8,hD8⟩:∃D:ByteArray,d.extract 4 8=D:=⟨_,rfl⟩;obtain⟨D10,hD10⟩:∃D:ByteArray,d.extract 10 13=D:=⟨_,rfl⟩;have v4:valN D4.data.toList=W:=by rw[← hD4,exl,hl,List.drop_zero];exact hW
   have v8:valN D8.data.toList=H:=by rw[← hD8,exl,hl];exact hH
   have v10:D10.data.toList=l.drop 10:=by rw[← hD10,exl,hl,List.take_of_length_le (by rw[List.length_drop];omega)]
   have HWl:W<4294967296:=by rw[← hW];exact valN_lt _
   have HHl:H<4294967296:=by rw[← hH];exact valN_lt _
   have s4:D4.size≤maxLen:=by rw[← hD4,ByteArray.size_extract];unfold maxLen;omega
   have s8:D8.size≤maxLen:=by rw[← hD8,ByteArray.size_extract];unfold maxLen;omega
   have HV4:=Hd (fun w=>still_of (value_any D4 w s4));have HV8:=Hd (fun w=>still_of (value_any D8 w s8));rw[v4] at HV4;rw[v8] at HV8;have HD10:=Hd v10;clear v4 v8 v10 s4 s8 hW hH hl;have n8:8<d.size:=by omega
   have n9:9<d.size:=by omega
   have n8i:(8:Int)<(d.size:Int):=by omega
   have n9i:(9:Int)<(d.size:Int):=by omega
   obtain⟨bd,hbd⟩:∃q:UInt8,d[8]=q:=⟨_,rfl⟩;obtain⟨bk,hbk⟩:∃q:UInt8,d[9]=q:=⟨_,rfl⟩;have g8:l.getD 8 0=bd:=by rw[← HL.out,← row_at d 8 n8,hbd]
   have g9:l.getD 9 0=bk:=by rw[← HL.out,← row_at d 9 n9,hbk]
   rw[g8,g9] at hres;clear g8 g9;have q4:(4:Int)≤(d.size:Int):=by omega
   have q8:(8:Int)≤(d.size:Int):=by omega
   have q10:(10:Int)≤(d.size:Int):=by omega
   have q4n:4≤d.size:=by omega
   have q8n:8≤d.size:=by omega
   have q10n:10≤d.size:=by omega
   go_wp2_with fail;refine wp_regionQ (by kernel_rfl) (by kernel_rfl) ?_;(iterate 3 (refine wpQ_yes (by kernel_rfl) fun K hK=>?_;go_simp;refine hK _ ?_;clear hK K));refine wpQ_yes (by kernel_rfl) fun K hK=>?_;go_simp;refine⟨_,HV4.out _,hK _ ?_⟩;(iterate 3 (clear hK K;refine wpQ_yes (by kernel_rfl) fun K hK=>?_;go_simp;refine hK _ ?_));clear hK K;refine wpQ_yes (by kernel_rfl) fun K hK=>?_;go_simp;refine⟨_,HV8.out _,hK _ ?_⟩;(iterate 2 (clear hK K;refine wpQ_yes (by kernel_rfl) fun K hK=>?_;go_simp;refine hK _ ?_));clear hK K;refine wpQ_nil ?_;clear cc0 cc1 HV4 HV8 q4 q8 q4n q8n hD4 hD8;obtain⟨w2,hw2⟩:∃z,w1.drew=z:=⟨_,rfl⟩;rw[hw2];have hE9:Ext w1 w2:=by rw[← hw2];exact Below.drew (Ext.refl _)
   clear hw2;have R2:=Hd (R1.out.ext hE9);have C2:=Hd (C1.out.ext hE9);have ER2:=Hd (ER1.out.ext hE9);have B2:Hid (Below B w w2):=Hd (B1.out.trans (Below.mono hE9 (Nat.le_trans HBW.out Z1.out)));have Z2:=Hd (Nat.le_trans Z1.out hE9.size);clear R1 C1 ER1 B1 hE9 Z1;by_cases hWb:1≤W∧W≤256
   ·have HSW:=Hd (hside_any W);rw[show decide (1≤W∧W≤256)=true from decide_eq_true hWb] at HSW;have HSH:=Hd (hside_any H);go_wp2_with fail;refine (HSW.out _).mono ?_;rintro e w9 ⟨rfl,rfl⟩;by_cases hHb:1≤H∧H≤256
    ·rw[show decide (1≤H∧H≤256)=true from decide_eq_true hHb] at HSH;rw[if_pos ⟨hWb.1,hWb.2,hHb.1,hHb.2⟩] at hres;go_wp2_with fail;refine (HSH.out _).mono ?_;rintro e w10 ⟨rfl,rfl⟩;clear HSW HSH;obtain⟨f0,f1,f2,f3,_⟩:=R2.out.flds;have z0:=R2.out.froz 0;have z1:=R2.out.froz 1;have z2:=R2.out.froz 2;have z3:=R2.out.froz 3;have wW:∀z,z=(W:Int)→IntKind.i64.wrap z=z:=by rintro _ rfl;rw[IntKind.wrap_i64];omega
     have wH:∀z,z=(H:Int)→IntKind.i64.wrap z=z:=by rintro _ rfl;rw[IntKind.wrap_i64];omega
     go_upto_region 8 with fail;refine wp_world (fun wz=>HdS B b w wz E k d (Png.rd0 W H 0 0)) ?hw ?_
     case hw=>exact ((HdS.mk R2.out B2.out C2.out ER2.out Z2.out HBW.out HGK.out hbne.out).put (r':=Png.rd0 W 0 0 0) 0 (.int .i64 (W:Int)) (fun _ _=>rfl) rfl).put (r':=Png.rd0 W H 0 0) 1 (.int .i64 (H:Int)) (fun _ _=>rfl) rfl
     intro v0 hS;have S_0:=Hd hS;have C_0:=Hd hS.c;clear hS R2 B2 C2 ER2 Z2 f0 f1 f2 f3 z0 z1 z2 z3 wW wH;have hbdl:=bd.toNat_lt;have hbkl:=bk.toNat_lt;have wD:∀z,z=(bd.toNat:Int)→IntKind.i64.wrap z=z:=by rintro _ rfl;rw[IntKind.wrap_i64];omega
     have wK:∀z,z=(bk.toNat:Int)→IntKind.i64.wrap z=z:=by rintro _ rfl;rw[IntKind.wrap_i64];omega
     have k0:=C_0.out.cell 0;have k1:=C_0.out.cell 1;refine wp_region_held_drew (S:=fun w'=>w'.cell? ⟨w.heap.size,0,none⟩=some (.string k)∧w'.cell? ⟨w.heap.size,1,none⟩=some (.string d)) (by kernel_rfl) ⟨C_0.out.cell 0,C_0.out.cell 1⟩ (fun hHeld=>?_);clear hHeld;clear k0 k1;refine anyH_world (fun wz=>Ext v0 wz) (show Ext v0 v0.drew from Below.drew (Ext.refl v0)) ?_;rintro v1 h;have S_1:=Hd (S_0.out.ext h);have C_1:=Hd (C_0.out.ext h);clear h S_0 C_0;have hHeld:v1.cell? ⟨w.heap.size,0,none⟩=some (.string k)∧v1.cell? ⟨w.heap.size,1,none⟩=some (.string d):=⟨C_1.out.cell 0,C_1.out.cell 1⟩;refine tkH 0 rfl hHeld ?_;(try simp only[Act.put,xz]);refine tkH 1 rfl hHeld ?_;(try simp only[Act.put,xz]);refine tkH 2 rfl hHeld ?_;(try simp only[Act.put,xz]);refine tkH 3 rfl hHeld ?_;(try simp only[Act.put,xz]);refine tkH 4 rfl hHeld ?_;(try simp only[Act.put,xz]);refine tkH 5 rfl hHeld ?_;(try simp only[Act.put,xz]);refine tkH 6 rfl hHeld ?_;(try simp only[Act.put,xz]);refine tkH 7 rfl hHeld ?_;(try simp only[Act.put,xz]);refine tkH 8 rfl hHeld ?_;(try simp only[Act.put,xz]);refine tkH 9 rfl hHeld ?_;(try simp only[Act.put,xz]);refine tkH 10 rfl hHeld ?_;(try simp only[Act.put,xz]);refine tkH 11 rfl hHeld ?_;(try simp only[Act.put,xz]);refine rdH 12 rfl fun KK hK=>?_;clear hHeld;have y2:=S_1.out.r.froz 2;obtain⟨f0,f1,f2,f3,_⟩:=S_1.out.r.flds;go_simp;clear f0 f1 f2 f3 y2;have SN:=Hd (S_1.out.put (r':=Png.rd0 W H bd.toNat 0) 2 (.int .i64 (bd.toNat:Int)) (fun _ _=>rfl) rfl)
     refine hK.out _ _ ⟨SN.out.c.cell 0,SN.out.c.cell 1⟩ (fun hHeld=>?_);clear hK KK hHeld;(try simp only[Act.put,xz]);refine anyH_world (fun wz=>HdS B b w wz E k d (Png.rd0 W H bd.toNat 0)) SN.out ?_;intro v2 hSN;have S_2:=Hd hSN;have C_2:=Hd hSN.c;clear hSN SN S_1 C_1;have hHeld:v2.cell? ⟨w.heap.size,0,none⟩=some (.string k)∧v2.cell? ⟨w.heap.size,1,none⟩=some (.string d):=⟨C_2.out.cell 0,C_2.out.cell 1⟩;refine tkH 13 rfl hHeld ?_;(try simp only[Act.put,xz]);refine tkH 14 rfl hHeld ?_;(try simp only[Act.put,xz]);refine rdH 15 rfl fun KK hK=>?_;clear hHeld;have y3:=S_2.out.r.froz 3;obtain⟨f0,f1,f2,f3,_⟩:=S_2.out.r.flds;go_simp;clear f0 f1 f2 f3 y3;have SN:=Hd (S_2.out.put (r':=Png.rd0 W H bd.toNat bk.toNat) 3 (.int .i64 (bk.toNat:Int)) (fun _ _=>rfl) rfl);refine hK.out _ _ ⟨SN.out.c.cell 0,SN.out.c.cell 1⟩ (fun hHeld=>?_);clear hK KK hHeld;(try simp only[Act.put,xz]);refine anyH_world (fun wz=>HdS B b w wz E k d (Png.rd0 W H bd.toNat bk.toNat)) SN.out ?_;intro v3 hSN;have S_3:=Hd hSN;have C_3:=Hd hSN.c;clear hSN SN S_2 C_2;have hHeld:v3.cell? ⟨w.heap.size,0,none⟩=some (.string k)∧v3.cell? ⟨w.heap.size,1,none⟩=some (.string d):=⟨C_3.out.cell 0,C_3.out.cell 1⟩;refine wpAnyH_done (by kernel_rfl) ?_ _;clear hHeld;clear wD wK n8 n9 n8i n9i hbd hbk;have SX:=S_3;clear C_3;obtain⟨dp,hdp⟩:∃q,bd.toNat=q:=⟨_,rfl⟩;obtain⟨kd,hkd⟩:∃q,bk.toNat=q:=⟨_,rfl⟩;have SY:Hid (HdS B b w v3 E k d (Png.rd0 W H dp kd)):=Hd (by rw[← hdp,← hkd];exact SX.out)
     rw[hdp,hkd] at hres;clear SX S_3;have hkl:kd<256:=by omega
     have hdl:dp<256:=by omega
     clear hdp hkd hbdl hbkl;obtain⟨m,hm⟩:∃m,Png.byN kd=m:=⟨_,rfl⟩;obtain⟨ob,hob⟩:∃q:Bool,decide (m≠0)=q:=⟨_,rfl⟩;have HSG:Hid ((smp (kd:Int)).getD 0=m∧(smp (kd:Int)).isSome=ob):=Hd (by rw[← hob,← hm];exact smp_get kd);rw[hm] at hres;have HOB:=Hd hob;clear hob hm;have HKO:Hid (OkI (kd:Int)):=Hd (by unfold OkI;omega);have S_0:=SY;clear SY;obtain⟨f0,f1,f2,f3,_⟩:=S_0.out.r.flds;have h3:v3.cell? ⟨b,3,none⟩=some (.int .i64 (kd:Int)):=f3;clear f0 f1 f2 f3;go_upto_region 9 with fail;refine wp_region_held_drew (S:=fun w'=>w'.cell? ⟨b,3,none⟩=some (.int .i64 (kd:Int))) (by kernel_rfl) (S_0.out.r.flds.2.2.2.1) (fun hHeld=>?_);clear hHeld;refine anyH_world (fun wz=>Ext v3 wz) (show Ext v3 v3.drew from Below.drew (Ext.refl v3)) ?_;rintro y1 h;have S_1:=Hd (S_0.out.ext h);clear h S_0;have hHeld:y1.cell? ⟨b,3,none⟩=some (.int .i64 (kd:Int)):=(S_1.out.r.flds.2.2.2.1);refine tkH 1 rfl hHeld ?_;(try simp only[Act.put,xz]);refine tkH 2 rfl hHeld ?_;(try simp only[Act.put,xz]);refine tkH 3 rfl hHeld ?_;(try simp only[Act.put,xz]);refine tkH 4 rfl hHeld ?_;(try simp only[Act.put,xz]);refine rdH 0 rfl fun KK hK=>?_;clear hHeld;go_simp;refine (samples_any y1).mono ?_;rintro e y2 ⟨mb,rfl,hmi,h⟩;have HMI:=Hd hmi;clear hmi;have S_2:=Hd (S_1.out.ext h);clear h S_1;go_simp;refine hK.out _ _ (S_2.out.r.flds.2.2.2.1) (fun hHeld=>?_);clear hK KK;(try simp only[Act.put,xz]);refine rdH 5 rfl fun KK hK=>?_
     clear hHeld;have tl:=HMI.out.look HKO.out;unfold kI at tl;rw[HSG.out.1,HSG.out.2] at tl;go_simp;refine hK.out _ _ (S_2.out.r.flds.2.2.2.1) (fun hHeld=>?_);clear hK KK tl HMI;(try simp only[Act.put,xz]);refine tkH 6 rfl hHeld ?_;(try simp only[Act.put,xz]);refine tkH 7 rfl hHeld ?_;(try simp only[Act.put,xz]);refine tkH 8 rfl hHeld ?_;(try simp only[Act.put,xz]);refine tkH 9 rfl hHeld ?_;(try simp only[Act.put,xz]);refine tkH 10 rfl hHeld ?_;(try simp only[Act.put,xz]);refine wpAnyH_done (by kernel_rfl) ?_ _;clear hHeld;have h3:y2.cell? ⟨b,3,none⟩=some (.int .i64 (kd:Int)):=S_2.out.r.flds.2.2.2.1;clear HKO HSG;go_upto_region 11 with fail;obtain⟨fd,hfd⟩:∃f:Nat→Int,(fun i=>if kd=3 then (if i=0 then (1:Int) else if i=1 then 2 else if i=2 then 4 else 8) else 8)=f:=⟨_,rfl⟩;have HFD:=Hd hfd;clear hfd;obtain⟨nd,hnd⟩:∃q:Nat,(if kd=3 then 4 else 1)=q:=⟨_,rfl⟩;have HND:=Hd hnd;clear hnd;have hdle:nd≤4:=by rw[← HND.out];split <;> omega
     refine wp_world (fun wz=>HdS B b w wz E k d (Png.rd0 W H dp kd)∧Bk wz y2.heap.size #[.int .i64 8]) ⟨S_2.out.ext ((Ext.refl _).alloc _),Bk.at rfl⟩ ?_;rintro u0 ⟨hS,hB⟩;obtain⟨T0,hT0⟩:∃q,y2.heap.size=q:=⟨_,rfl⟩;rw[hT0] at hB⊢;have SU:=Hd hS;have BU:=Hd hB;clear hS hB h3 hT0 S_2;have h3:u0.cell? ⟨b,3,none⟩=some (.int .i64 (kd:Int)):=SU.out.r.flds.2.2.2.1;go_upto_if 78 with fail
     go_cut [10] (fun s10 wx=>∃T,s10=.slice (some ⟨T,0,none⟩) nd nd∧Hid (HdS B b w wx E k d (Png.rd0 W H dp kd))∧Hid (∀i,i<nd→wx.cell? ⟨T,i,none⟩=some (.int .i64 (fd i))))
     case first=>
      by_cases q3:kd=3
      ·have t0:(((kd:Nat):Int) ==3)=true:=int_eq (by omega);have hnd:nd=4:=by rw[← HND.out,if_pos q3]
       have HF:Hid (∀i,fd i=if i=0 then (1:Int) else if i=1 then 2 else if i=2 then 4 else 8):=Hd (fun i=>by rw[← HFD.out];show (if kd=3 then _ else _)=_;rw[if_pos q3]);subst hnd;go_wp2_with fail;go_meet
       refine⟨_,rfl,Hd (SU.out.ext ((Ext.refl _).alloc _)),Hd (fun i hi=>?_)⟩;have hb:=Bk.at (w:=u0) (cs:=#[.int .i64 1,.int .i64 2,.int .i64 4,.int .i64 8]) (t:=3) rfl;rw[HF.out,hb.cell i];match i,hi with
       | 0,_=>rfl
       | 1,_=>rfl
       | 2,_=>rfl
       | 3,_=>rfl
      ·have t0:(((kd:Nat):Int) ==3)=false:=int_ne (by omega);have hnd:nd=1:=by rw[← HND.out,if_neg q3]
       have HF:Hid (∀i,fd i=8):=Hd (fun i=>by rw[← HFD.out];show (if kd=3 then _ else _)=_;rw[if_neg q3]);subst hnd;go_wp2_with fail;go_meet
       refine⟨_,rfl,SU,Hd (fun i hi=>?_)⟩;rw[HF.out,BU.out.cell i];match i,hi with
       | 0,_=>rfl
     case rest=>
      obtain⟨T,rfl,S5,F5⟩:=hcut;clear h3 SU BU;rename World=>w5;have HIN:Hid ((∃i,i<nd∧fd i=(dp:Int))↔Png.depOk kd dp):=Hd (by
       unfold Png.depOk;by_cases q3:kd=3
       ·have hnd:nd=4:=by rw[← HND.out,if_pos q3]
        have HF:∀i,fd i=if i=0 then (1:Int) else if i=1 then 2 else if i=2 then 4 else 8:=fun i=>by rw[← HFD.out];show (if kd=3 then _ else _)=_;rw[if_pos q3]
        constructor
        ·rintro⟨i,hi,e⟩;rw[HF] at e;rw[hnd] at hi;have:i=0∨i=1∨i=2∨i=3:=by omega
         rcases this with rfl | rfl | rfl | rfl
         ·exact .inr ⟨q3,.inl (by simp at e;omega)⟩
         ·exact .inr ⟨q3,.inr (.inl (by simp at e;omega))⟩
         ·exact .inr ⟨q3,.inr (.inr (by simp at e;omega))⟩
         ·exact .inl (by simp at e;omega)
        ·rintro (h | ⟨_,h | h | h⟩)
         ·exact⟨3,by omega,by rw[HF,h];rfl⟩
         ·exact⟨0,by omega,by rw[HF,h];rfl⟩
         ·exact⟨1,by omega,by rw[HF,h];rfl⟩
         ·exact⟨2,by omega,by rw[HF,h];rfl⟩
       ·have hnd:nd=1:=by rw[← HND.out,if_neg q3]
        have HF:∀i,fd i=8:=fun i=>by rw[← HFD.out];show (if kd=3 then _ else _)=_;rw[if_neg q3]
        constructor
        ·rintro⟨i,_,e⟩;rw[HF] at e;exact .inl (by omega)
        ·rintro (h | ⟨h,_⟩)
         ·exact⟨0,by omega,by rw[HF,h];rfl⟩
         ·exact absurd h q3)
      have cc1:=S5.out.c.cell 1;have f2:=S5.out.r.flds.2.2.1;have f2:w5.cell? ⟨b,2,none⟩=some (.int .i64 (dp:Int)):=f2;have HCT:=Hd (contains_any T nd nd fd (dp:Int) w5 (by omega) F5.out);have hq10:(10:Int)≤(d.size:Int):=by omega
      cases ob
      ·have hm0:m=0:=by have:=of_decide_eq_false HOB.out;omega
       rw[if_neg (fun q=>q.1 hm0)] at hres;clear hm0;have ec0:w5.cell? ⟨1,0,none⟩=some (sentV (E 0)):=S5.out.e.var 0 (by decide);subst hres;go_wp2_with fail;go_ret;exact⟨S5.out.bl,rfl⟩
      ·have hm0:m≠0:=of_decide_eq_true HOB.out;go_wp2_with fail;refine HCT.out.mono ?_;rintro e w9 ⟨⟨cb,rfl,hcb⟩,rfl⟩;have HCB:=Hd (hcb.trans HIN.out);clear hcb HCT;cases cb
       ·rw[if_neg (fun q=>by have:=HCB.out.2 q.2.1;cases this)] at hres;clear hm0;have ec0:w5.cell? ⟨1,0,none⟩=some (sentV (E 0)):=S5.out.e.var 0 (by decide);subst hres;go_wp2_with fail;go_ret;exact⟨S5.out.bl,rfl⟩
       ·have hdo:=HCB.out.1 rfl;by_cases hz:l.drop 10=[0,0,0]
        ·rw[if_pos ⟨hm0,hdo,hz⟩] at hres;have HDZ:Hid (D10=⟨#[0,0,0]⟩):=Hd (bext (by rw[HD10.out,hz]));have e10:(D10.toList ==[0,0,0])=true:=pkyes HDZ.out;clear hm0 hdo hz;subst hres;go_wp2_with fail;go_ret;exact⟨S5.out.bl,rfl,S5.out.r⟩
        ·rw[if_neg (fun q=>hz q.2.2)] at hres;have e10:(D10.toList ==[0,0,0])=false:=pkno (fun e=>hz (by rw[← HD10.out,e]));clear hm0 hdo hz;have ec0:w5.cell? ⟨1,0,none⟩=some (sentV (E 0)):=S5.out.e.var 0 (by decide);subst hres;go_wp2_with fail;go_ret;exact⟨S5.out.bl,rfl⟩
    ·rw[show decide (1≤H∧H≤256)=false from decide_eq_false hHb] at HSH;rw[if_neg (fun q=>hHb ⟨q.2.2.1,q.2.2.2⟩)] at hres;go_wp2_with fail;refine (HSH.out _).mono ?_;rintro e w10 ⟨rfl,rfl⟩;have ec1:w2.cell? ⟨2,0,none⟩=some (sentV (E 1)):=ER2.out.var 1 (by decide);subst hres;go_wp2_with fail;go_ret;exact⟨B2.out,rfl⟩
   ·have HSW:=Hd (hside_any W);rw[show decide (1≤W∧W≤256)=false from decide_eq_false hWb] at HSW;rw[if_neg (fun q=>hWb ⟨q.1,q.2.1⟩)] at hres;go_wp2_with fail;refine (HSW.out _).mono ?_;rintro e w9 ⟨rfl,rfl⟩;have ec1:w2.cell? ⟨2,0,none⟩=some (sentV (E 1)):=ER2.out.var 1 (by decide);subst hres;go_wp2_with fail;go_ret;exact⟨B2.out,rfl⟩
  ·have t0:(((d.size:Nat):Int) ==13)=false:=int_ne (by omega);have t1:(((d.size:Nat):Int) !=13)=true:=int_ne2 (by omega);rw[if_neg (fun q=>h13 q.2)] at hres;have ec0:w1.cell? ⟨1,0,none⟩=some (sentV (E 0)):=ER1.out.var 0 (by decide);subst hres;go_wp2_with fail;go_ret;exact⟨B1.out,rfl⟩
 ·have e_k:=pkno h_k;rw[if_neg (fun q=>h_k q.1)] at hres;have ec0:w1.cell? ⟨1,0,none⟩=some (sentV (E 0)):=ER1.out.var 0 (by decide);subst hres;go_wp2_with fail;go_ret;exact⟨B1.out,rfl⟩
namespace Png
/-- rows that are unpacked -/
noncomputable def unp (data:ByteArray) (high wide step:Nat):Except Nat ByteArray:=
 match Inf.unz data ((high*(wide+1):Nat):Int) with
 | .error c=>.error c
 | .ok t=>if t.length=high*(wide+1)∧(∀j,j<high→kdT (tx t) wide j≤4) then .ok (unS (tx t) wide step high) else .error 0
theorem unz_len {s:ByteArray} {most:Nat} {t:List UInt8} (h:Inf.unz s (most:Int)=.ok t):t.length≤most:=by
 unfold Inf.unz at h;split at h
 ·cases h
 split at h
 ·cases h
 split at h
 ·cases h
 ·rename_i out used bs hi;split at h
  ·cases h
  split at h
  ·cases h
  ·injection h with h;subst h;have:=(Inf.infl_most hi).1;omega
theorem unz_err {s:ByteArray} {most:Int} {c:Nat} (h:Inf.unz s most=.error c):c<4:=by
 unfold Inf.unz at h;split at h
 ·injection h with h;omega
 split at h
 ·injection h with h;omega
 split at h
 ·rename_i c' hi;injection h with h;have:=Inf.infl_err hi;omega
 ·split at h
  ·injection h with h;omega
  split at h
  ·injection h with h;omega
  ·cases h
end Png
def UpPost (w w':World) (E:Nat→Addr) (r:Except Nat ByteArray) (e:Ending):Prop:=
 Ext w w'∧match r with
 | .ok t=>e=.returned (.tuple #[.string t,.nilIface])
 | .error c=>e=.returned (.tuple #[.string ⟨#[]⟩,sentV (E c)])
theorem tb_tx (l:List UInt8):tb l=tx l:=bext (by rw[tb_list,tx_list])
set_option maxHeartbeats 4000000 in
theorem unpack_any (data:ByteArray) (high wide step:Nat) (w:World) (E:Nat→Addr) (hE:Errs w E) (hT:Tabs w) (hd:data.size≤maxLen) (hb:high*(wide+1)≤300000) (hw:1≤wide∧wide≤2000) (hh:high≤300) (hst:1≤step∧step≤8):
  Calls Tryz.prog 30 #[.string data,.int .i64 (high:Int),.int .i64 (wide:Int),.int .i64 (step:Int)] w fun e w'=>UpPost w w' E (Png.unp data high wide step) e:=by
 obtain⟨M,hM⟩:∃M:Nat,high*(wide+1)=M:=⟨_,rfl⟩;have HMM:=Hd hM;obtain⟨res,hres⟩:∃r,Png.unp data high wide step=r:=⟨_,rfl⟩;rw[hres];unfold Png.unp at hres;rw[hM] at hb hres;have m2:(wide:Int)+1=((wide+1:Nat):Int):=by omega
 have m1:(high:Int)*((wide+1:Nat):Int)=(M:Int):=by rw[← hM];push_cast;rfl
 obtain⟨wp,hwp⟩:∃q:Nat,wide+1=q:=⟨_,rfl⟩;rw[hwp] at m1 m2;have HWP:=Hd hwp;clear hM hwp;obtain⟨wa,wb⟩:=pwq (x:=(M:Int)) ⟨by omega,by omega⟩;obtain⟨wc,wd⟩:=pwq (x:=(wp:Int)) ⟨by omega,by omega⟩;have HER:=Hd hE;have HTB:=Hd hT;have HU:=Hd (unzip_any data (M:Int) w E hE hT hd);clear hE hT;go_enter Tryz.func30,Tryz.ntmps30
 go_wp2_with fail;refine HU.out.mono ?_;rintro e w1 ⟨hX,he⟩;have X1:=Hd hX;clear hX HU;cases hz:Inf.unz data (M:Int) with
 | error c=>
  rw[hz] at he hres;simp only at he hres;subst he;subst hres;clear hz;unfold sentV;go_wp2_with fail;go_ret2;exact⟨X1.out,rfl⟩
 | ok t=>
  have hlen:=Png.unz_len hz;rw[hz] at he hres;simp only at he hres;subst he;clear hz;have hsz:(tb t).size=t.length:=by rw[tb_tx,tx_size]
  have HTB2:=Hd (tb_tx t);obtain⟨S,hS⟩:∃S,tb t=S:=⟨_,rfl⟩;rw[hS] at hsz HTB2⊢;clear hS;by_cases hl:t.length<M
  ·have t0:decide ((S.size:Int)<(M:Int))=true:=decide_eq_true (by omega);have t1:S.size<M:=by omega
   rw[if_neg (fun q=>by have:=q.1;omega)] at hres;have e0:=(err_cells HER.out X1.out).1;have e0:w1.drew.cell? ⟨1,0,none⟩=some (.iface 275 (.pointer (some (E 0)))):=e0;have e0b:w1.cell? ⟨1,0,none⟩=some (.iface 275 (.pointer (some (E 0)))):=e0;have HSZ:=Hd hsz;subst hres;clear hsz hl hlen;go_wp2_with fail;refine wp_regionQ (by kernel_rfl) (by kernel_rfl) ?_;(iterate 3 (refine wpQ_yes (by kernel_rfl) fun K hK=>?_;go_simp;refine hK _ ?_;clear hK K));refine wpQ_nil ?_;go_wp2_with fail;go_ret2;exact⟨Below.drew X1.out,rfl⟩
  ·have hl2:t.length=M:=by omega
   have t0:decide ((S.size:Int)<(M:Int))=false:=decide_eq_false (by omega);have t1:¬ S.size<M:=by omega
   have hSM:S.size=high*(wide+1):=by rw[hsz,hl2,HMM.out]
   have HB:=Hd (back_any S wide step high w1 E (HER.out.ext X1.out) hSM (by omega) hst (by omega));clear hSM hsz hl hlen;go_wp2_with fail;refine HB.out.mono ?_;rintro e w2 ⟨hX2,h2⟩;have X2:=Hd (X1.out.trans hX2);clear hX2 HB;rcases h2 with⟨hk,rfl⟩ | ⟨i,F,hi,ha,hk,hib,rfl,hF⟩
   ·rw[HTB2.out] at hk⊢;rw[if_pos ⟨hl2,hk⟩] at hres;subst hres;clear hk hl2 t0 t1;go_wp2_with fail;go_ret2;exact⟨X2.out,rfl⟩
   ·rw[if_neg (fun q=>by have:=q.2 i hi;rw[← HTB2.out] at this;omega)] at hres;subst hres;have e0:=(err_cells HER.out X2.out).1;have e0:w2.drew.cell? ⟨1,0,none⟩=some (.iface 275 (.pointer (some (E 0)))):=e0;have e0b:w2.cell? ⟨1,0,none⟩=some (.iface 275 (.pointer (some (E 0)))):=e0;clear ha hk hib hF hi hl2;go_wp2_with fail;refine wp_regionQ (by kernel_rfl) (by kernel_rfl) ?_;(iterate 3 (refine wpQ_yes (by kernel_rfl) fun K hK=>?_;go_simp;refine hK _ ?_;clear hK K));refine wpQ_nil ?_;go_wp2_with fail;go_ret2;exact⟨Below.drew X2.out,rfl⟩
structure CoS (w5 wr:World) (v9 v10:Value) (a b:List UInt8):Prop where
 fr:Ext w5 wr
 o9:wr.ownsRow w5.heap.size 5 1 v9 a.length (bytesV a)
 o10:wr.ownsRow w5.heap.size 5 1 v10 b.length (bytesV b)
 ne:∀k,v9.ownBlock=some k→v10.ownBlock≠some k
theorem CoS.start (w:World):CoS w w (.slice none 0 0) (.slice none 0 0) [] []:=⟨Ext.refl w,World.ownsRow_nil _ _ _ _,World.ownsRow_nil _ _ _ _,fun k h=>by cases h⟩
theorem CoS.ext {w5 wr wz:World} {v9 v10:Value} {a b:List UInt8} (h:CoS w5 wr v9 v10 a b) (hE:Ext wr wz):CoS w5 wz v9 v10 a b:=
 ⟨h.fr.trans hE,ownsRow_kept (S:=fun _=>False) h.o9 hE.keeps (fun _ _=>id),ownsRow_kept (S:=fun _=>False) h.o10 hE.keeps (fun _ _=>id),h.ne⟩
theorem CoS.swap {w5 wr:World} {v9 v10:Value} {a b:List UInt8} (h:CoS w5 wr v9 v10 a b):CoS w5 wr v10 v9 b a:=⟨h.fr,h.o10,h.o9,fun k h1 h2=>h.ne k h2 h1⟩
theorem bytesV_app (a c:List UInt8):bytesV (a++c)=bytesV a++bytesV c:=by unfold bytesV;rw[List.map_append]
/-- bytes more behind the first row -/
theorem CoS.push {w5 wr:World} {v9 v10:Value} {a b:List UInt8} (h:CoS w5 wr v9 v10 a b) {kb m:Nat} (c:List UInt8) (hm:c.length=m) {cs:Array Value} (hcs:cs.toList=bytesV c) (hB:Bk wr kb cs) (hs:a.length+m≤1000000):
  ∃y d w',(Builtin.append_ #[62,62] 62 #[v9,.slice (some ⟨kb,0,none⟩) m m]).run Tryz.prog wr=.ok (.slice y (a.length+m) d) w'∧CoS w5 w' (.slice y (a.length+m) d) v10 (a++c) b∧wr.grownBy w' v9.ownBlock:=by
 obtain⟨i0,hi0,hz0,hz1,hz2⟩:=info_parts byteinfo;have hl:(bytesV c).length=m*1:=by rw[bytesV_length,hm,Nat.mul_one]
 obtain⟨v',w',hr,ho,hg,_,hat⟩:=run_append_own_at (P:=Tryz.prog) wr w5.heap.size 62 62 5 i0 _ 1 1 Tryz.underlying62 hi0 hz0 hz1 hz2 rfl (by decide) v9 a.length (bytesV a) h.o9 ⟨kb,0,none⟩ m m (bytesV c) hl
  (fun j u hu=>by rw[add_plain,hB.cell j,← Array.getElem?_toList,hcs];exact hu) (bytesV_one c) (by unfold maxLen;omega) (by omega) h.fr.size
 obtain⟨y,d,rfl⟩:=own_lit4 ho;have hK:=Keeps.grown hg;refine⟨y,d,w',hr,⟨Below.trans h.fr (hK.below h.fr.size (fun k hk q=>by have:=(h.o9.lt k q).1;omega)),?_,?_,?_⟩,hg⟩
 ·rw[List.length_append,hm,bytesV_app];exact ho
 ·exact ownsRow_kept h.o10 hK (fun k hk q=>h.ne k q hk)
 ·intro k hk hk2;rcases hat with e | e
  ·exact h.ne k (e.symm.trans hk) hk2
  ·have h1:=(h.o10.lt k hk2).2;rw[e] at hk;injection hk with hk;omega
theorem CoS.push2 {w5 wr:World} {v9 v10:Value} {a b:List UInt8} (h:CoS w5 wr v9 v10 a b) {kb m:Nat} (c:List UInt8) (hm:c.length=m) {cs:Array Value} (hcs:cs.toList=bytesV c) (hB:Bk wr kb cs) (hs:b.length+m≤1000000):
  ∃y d w',(Builtin.append_ #[62,62] 62 #[v10,.slice (some ⟨kb,0,none⟩) m m]).run Tryz.prog wr=.ok (.slice y (b.length+m) d) w'∧CoS w5 w' v9 (.slice y (b.length+m) d) a (b++c)∧wr.grownBy w' v10.ownBlock:=by
 obtain⟨y,d,w',h1,h2,h3⟩:=h.swap.push c hm hcs hB hs;exact⟨y,d,w',h1,h2.swap,h3⟩
/-- a box is kept when a row grows -/
theorem grown_box {wr w':World} {v:Value} {kb:Nat} {cs:Array Value} (hg:wr.grownBy w' v.ownBlock) (hB:Bk wr kb cs) (hne:v.ownBlock≠some kb):Bk w' kb cs:=
 hB.keeps (Keeps.grown hg) hne
theorem row_cap {w:World} {b n c size:Nat} {e:TypeId} {x:Option Addr} {xs:List Value} (h:w.ownsRow b e size (.slice x n c) n xs):n≤c:=by
 rcases h.2 with⟨hn,_⟩ | ⟨g,cap,cur,he,_,_,hc,_⟩
 ·injection hn with _ q _;omega
 ·injection he with _ q1 q2;omega
/-- the first bytes of a row, as a string -/
theorem conv_take {w:World} {base n m c:Nat} {x:Option Addr} {l:List UInt8} (h:w.ownsRow base 5 1 (.slice x n c) n (bytesV l)) (hm:m≤n) (h0:0<m):(convert 62 9 (.slice x m c)).run Tryz.prog w=.ok (.string ⟨(l.take m).toArray⟩) w:=by
 have hl:l.length=n:=by have:=h.1;rw[bytesV_length,Nat.mul_one] at this;exact this
 rcases ownsRow_slice h with⟨e,e0⟩ | ⟨g,cap,e⟩
 ·omega
 ·injection e with e1 e2 e3;subst e1 e3;have q:=run_convert_bytes_back (P:=Tryz.prog) w 62 9 5 ⟨g,0,none⟩ c (l.take m) Tryz.underlying62 Tryz.underlying5 Tryz.underlying9 (fun j hj=>by
   have hj1:j<m:=by rw[List.length_take] at hj;omega
   rw[add_plain,h.cellAt j (by omega),bytesV_get l j (by omega),List.getElem_take])
  have e4:(l.take m).length=m:=by rw[List.length_take];omega
  rw[e4] at q;exact q
/-- a row of bytes is kept when a row of older blocks grows -/
theorem CoS.kept10 {w5 wr w8:World} {v9 v10 v:Value} {a b:List UInt8} {o:Obj} (h:CoS w5 wr v9 v10 a b) (hv:∀k,v.ownBlock=some k→k<w5.heap.size) (hg:(wr.alloc o).grownBy w8 v.ownBlock):w8.ownsRow w5.heap.size 5 1 v10 b.length (bytesV b):=
 ownsRow_kept h.o10 ((Keeps.alloc (Ext.keeps (S:=fun i=>v.ownBlock=some i) (Ext.refl wr)) o).trans (Keeps.grown hg) (fun _ _ q=>q)) (fun k hk q=>by have:=(h.o10.lt k hk).1;have:=hv k q;omega)
namespace Png
theorem colL_push (l:List P4) (p:P4):colL (l ++ [p])=colL l ++ [u8i p.r,u8i p.g,u8i p.b]:=by unfold colL;rw[List.flatMap_append];rfl
theorem alpL_push (l:List P4) (p:P4):alpL (l ++ [p])=alpL l ++ [u8i p.a]:=by unfold alpL;rw[List.map_append];rfl
theorem colL_len (l:List P4):(colL l).length=3*l.length:=by
 induction l with
 | nil=>rfl
 | cons p l ih=>unfold colL at ih⊢;rw[List.flatMap_cons,List.length_append,ih,List.length_cons];show 3+3*l.length=3*(l.length+1);omega
theorem alpL_len (l:List P4):(alpL l).length=l.length:=by unfold alpL;rw[List.length_map]
theorem take_push (l:List P4) {k:Nat} (hk:k<l.length):l.take (k+1)=l.take k ++ [atL l k]:=by
 unfold atL;rw[List.getD_eq_getElem?_getD,List.getElem?_eq_getElem hk];exact (List.take_append_getElem hk).symm
end Png
namespace Png
/-- the chunks ahead of IDAT, and the rows -/
def planC (W H:Nat) (px:Nat→P4) (n:Nat):List Ck:=
 if 256<(pals px n).length then [⟨ihdr,⟨(headL W H 8 6).toArray⟩⟩]
 else [⟨ihdr,⟨(headL W H (depN (pals px n).length) 3).toArray⟩⟩,⟨plte,⟨(colL (pals px n)).toArray⟩⟩] ++
  (if 0<covs (pals px n) (pals px n).length then [⟨trns,⟨((alpL (pals px n)).take (covs (pals px n) (pals px n).length)).toArray⟩⟩] else [])
def planR (W H:Nat) (px:Nat→P4) (n:Nat):List UInt8:=
 if 256<(pals px n).length then rowsL (tx (rawL px n)) (4*W) 4 H
 else rowsP (depN (pals px n).length) W (fun i=>(pals px n).idxOf (px i)) H
/-- all the chunks -/
def fullC (L:List Ck) (z:List UInt8):List Ck:=L ++ [⟨idat,⟨z.toArray⟩⟩] ++ [⟨iend,⟨#[]⟩⟩]
theorem planR_len {W H n:Nat} {px:Nat→P4} (hH:H≤256) (hn:n=H*W) (hs:n≤3000):(planR W H px n).length≤20000:=by
 unfold planR;split
 ·rw[rowsL_length (n:=H) (by rw[tx_size,rawL_len,hn];rw[Nat.mul_left_comm]) H (Nat.le_refl _),Nat.mul_add,Nat.mul_left_comm,← hn];omega
 ·have hd:depN (pals px n).length≤8:=by unfold depN;split;omega;split;omega;split <;> omega
  rw[rowsP_len];have h1:(W*depN (pals px n).length+7)/8≤W:=by
   have:W*depN (pals px n).length≤W*8:=Nat.mul_le_mul_left _ hd;omega
  have h2:H*((W*depN (pals px n).length+7)/8+1)≤H*(W+1):=Nat.mul_le_mul_left _ (by omega);have e:H*(W+1)=n+H:=by rw[Nat.mul_succ,← hn]
  omega
theorem planC_ok {W H n:Nat} {px:Nat→P4}:(planC W H px n).length≤3∧∀c∈planC W H px n,c.Ok:=by
 have hl:=pals_len px n;have h4:∀d k,Ck.Ok ⟨ihdr,⟨(headL W H d k).toArray⟩⟩:=fun d k=>⟨by show (4:Nat)≤_;unfold maxLen;omega,by show (13:Nat)≤_;omega⟩;unfold planC;split
 ·refine⟨by simp,fun c hc=>?_⟩;rw[List.mem_singleton.1 hc];exact h4 _ _
 ·have hp:Ck.Ok ⟨plte,⟨(colL (pals px n)).toArray⟩⟩:=⟨by show (4:Nat)≤_;unfold maxLen;omega,by show (colL (pals px n)).toArray.size≤_;rw[List.size_toArray,colL_len];omega⟩;have ht:Ck.Ok ⟨trns,⟨((alpL (pals px n)).take (covs (pals px n) (pals px n).length)).toArray⟩⟩:=⟨by show (4:Nat)≤_;unfold maxLen;omega,by
   show ((alpL (pals px n)).take _).toArray.size≤_;rw[List.size_toArray,List.length_take,alpL_len];omega⟩
  split
  ·refine⟨by simp,fun c hc=>?_⟩;simp only[List.cons_append,List.nil_append,List.mem_cons,List.not_mem_nil,or_false] at hc;rcases hc with rfl | rfl | rfl
   ·exact h4 _ _
   ·exact hp
   ·exact ht
  ·refine⟨by simp,fun c hc=>?_⟩;simp only[List.append_nil,List.mem_cons,List.not_mem_nil,or_false] at hc;rcases hc with rfl | rfl
   ·exact h4 _ _
   ·exact hp
theorem fullC_ok {L:List Ck} {z R:List UInt8} (hL:∀c∈L,c.Ok) (hz:z.length≤(Sto.all (R.length+1) R).length) (hR:R.length≤20000):∀c∈fullC L (zipL z R),c.Ok:=by
 intro c hc;unfold fullC at hc;rcases List.mem_append.1 hc with hc | hc
 ·rcases List.mem_append.1 hc with hc | hc
  ·exact hL c hc
  ·rw[List.mem_singleton.1 hc];refine⟨by show (4:Nat)≤_;unfold maxLen;omega,?_⟩;show (zipL z R).toArray.size≤_;have:=Sto.all_length (R.length+1) R;rw[List.size_toArray,zipL_length];omega
 ·rw[List.mem_singleton.1 hc];exact⟨by show (4:Nat)≤_;unfold maxLen;omega,by show (0:Nat)≤_;omega⟩
end Png
theorem parse_fileG {s:ByteArray} {B:Nat} (hB:B≤300000) (hs:s.size≤B):∀(f p:Nat) (acc L:List Ck),p≤s.size→s.size-p<f→acc.length≤p→(∀c∈acc,c.Ok)→fileL acc acc.length=.ok (s.data.toList.take p)→parse s f p acc=.ok L→
  fileL L L.length=.ok s.data.toList∧(∀c∈L,c.Ok)∧L.length≤B:=by
 intro f;induction f with
 | zero=>intro p acc L _ h;omega
 | succ f ih=>
  intro p acc L hp hf hl hok hfile h;unfold parse at h;have hlen:s.data.toList.length=s.size:=rfl;split at h
  ·rename_i hge;injection h with h;subst h;rw[List.take_of_length_le (by omega)] at hfile;exact⟨hfile,hok,by omega⟩
  ·rename_i hlt;split at h
   ·cases h
   ·rename_i n c hstep;obtain⟨i1,i2,i3,i4,i5⟩:=pstep_inv hstep;rw[ByteArray.size_extract] at i1;have hw:fstep c acc.length (s.data.toList.take p)=.ok (s.data.toList.take (p+12+n)):=by
     unfold fstep;rw[if_pos i2,if_neg (by rw[List.length_take];omega)];rw[exl,List.take_of_length_le (l:=List.drop p s.data.toList) (by rw[List.length_drop];omega)] at i5;rw[← i5,show p+12+n=p+(12+n) by omega,List.take_add (i:=p)]
    refine ih (p+12+n) (acc ++ [c]) L (by omega) (by omega) (by rw[List.length_append];simp;omega) ?_ ((fileL_snoc hfile).trans hw) h;intro q hq;rcases List.mem_append.1 hq with hq | hq
    ·exact hok q hq
    ·rw[List.mem_singleton.1 hq];exact⟨by rw[i4];unfold maxLen;omega,by omega⟩
theorem read_writeG {s:ByteArray} {L:List Ck} {B:Nat} (hB:B≤300000) (hs:s.size≤B) (h:readL s=.ok L):fileL L L.length=.ok s.data.toList∧(∀c∈L,c.Ok)∧L.length≤B:=by
 unfold readL at h;split at h
 ·rename_i hq;have hl:8≤s.size:=by
   have:=congrArg List.length hq;rw[List.length_take] at this;have e1:s.data.toList.length=s.size:=rfl;have e2:sigB.length=8:=rfl;omega
  exact parse_fileG hB hs (s.size+1) 8 [] L hl (by omega) (by simp) (fun c h=>by cases h) (by rw[hq];rfl) h
 ·cases h
theorem pstep_encG {T:ByteArray} {c:Ck} {rest:List UInt8} (hk:kindB c.k.data.toList=true) (hd:c.d.size≤300000) (hT:T.data.toList=enc c++rest):pstep T=.next c.d.size c:=by
 have h4:c.k.data.toList.length=4:=by unfold kindB at hk;simp at hk;simpa using hk.1
 have hks:c.k.size=4:=h4;have hdl:c.d.data.toList.length=c.d.size:=rfl;have hlen:T.size=12+c.d.size+rest.length:=by
  have:T.data.toList.length=T.size:=rfl;rw[← this,hT,List.length_append,enc_length c hk]
 obtain⟨z,hz⟩:∃z,Crc.crc (c.k.data.toList++c.d.data.toList)=z:=⟨_,rfl⟩;have hzl:z<4294967296:=by rw[← hz];exact Crc.flip_lt (Crc.run_lt (by decide) _)
 unfold enc at hT;rw[hz] at hT;have x1:T.extract 0 4=⟨(big4 c.d.size).toArray⟩:=ex_mid (x:=[]) (z:=c.k.data.toList++c.d.data.toList++big4 z++rest) (by rw[hT];simp) rfl rfl;have x2:T.extract 4 8=c.k:=ex_mid (x:=big4 c.d.size) (z:=c.d.data.toList++big4 z++rest) (by rw[hT];simp) rfl (by omega);have x3:T.extract (8+c.d.size) (12+c.d.size)=⟨(big4 z).toArray⟩:=ex_mid (x:=big4 c.d.size++c.k.data.toList++c.d.data.toList) (z:=rest) (by rw[hT];simp) (by rw[List.length_append,List.length_append,big4_length,h4,hdl]) (by show _+4=_;omega);have x4:T.extract 4 (8+c.d.size)=c.k++c.d:=ex_mid (x:=big4 c.d.size) (z:=big4 z++rest) (by rw[hT,ByteArray.data_append,Array.toList_append];simp) rfl (by rw[ByteArray.size_append];omega);have x5:T.extract 8 (8+c.d.size)=c.d:=ex_mid (x:=big4 c.d.size++c.k.data.toList) (z:=big4 z++rest) (by rw[hT];simp) (by rw[List.length_append,big4_length,h4]) rfl;exact pstep_next (n:=c.d.size) (u:=z) (v:=z) (by omega) x1 (valN_big4 _ (by omega)) (by omega) x2 hk x3 x4 x5 (valN_big4 _ hzl) (by rw[ByteArray.data_append,Array.toList_append];exact hz) (fun h=>h rfl)
theorem parse_encG {s:ByteArray}:∀(M:List Ck) (f p:Nat) (acc:List Ck),(∀c∈M,kindB c.k.data.toList=true∧c.d.size≤300000)→p≤s.size→s.data.toList.drop p=M.flatMap enc→s.size-p<f→parse s f p acc=.ok (acc++M):=by
 intro M;induction M with
 | nil=>
  intro f p acc _ hp hd hf;have:s.size≤p:=by
   have:=congrArg List.length hd;rw[List.length_drop] at this;have e:s.data.toList.length=s.size:=rfl;simp at this;omega
  rw[parse_end this,List.append_nil]
 | cons c M ih=>
  intro f p acc hM hp hd hf;obtain⟨hk,hs⟩:=hM c (List.mem_cons_self ..);have hle:=enc_length c hk;have e:s.data.toList.length=s.size:=rfl;have hlen:=congrArg List.length hd;rw[List.length_drop,List.flatMap_cons,List.length_append,hle] at hlen;have hT:(s.extract p s.size).data.toList=enc c++M.flatMap enc:=by
   rw[exl,List.take_of_length_le (by rw[List.length_drop];omega),hd,List.flatMap_cons]
  obtain⟨f',hf',hp'⟩:=parse_next (acc:=acc) (show p<s.size by omega) hf rfl (pstep_encG hk hs hT);rw[hp',ih f' _ (acc ++ [c]) (fun q hq=>hM q (List.mem_cons_of_mem _ hq)) (by omega) ?_ hf',List.append_assoc]
  ·rfl
  ·rw[show p+12+c.d.size=p+(12+c.d.size) by omega,← List.drop_drop,hd,List.flatMap_cons,← hle,List.drop_left]
theorem write_readG {L:List Ck} {out:List UInt8} (hO:∀c∈L,c.d.size≤300000) (h:fileL L L.length=.ok out):readL ⟨out.toArray⟩=.ok L:=by
 obtain⟨h1,h2⟩:=fileL_enc (Nat.le_refl _) h;rw[List.take_length] at h1 h2;unfold readL;have hd:(⟨out.toArray⟩:ByteArray).data.toList=out:=rfl;rw[hd];have e8:sigB.length=8:=rfl;rw[if_pos (by rw[h1,← e8,List.take_left])];have hsz:(⟨out.toArray⟩:ByteArray).size=out.length:=rfl;have:=parse_encG (s:=⟨out.toArray⟩) L ((⟨out.toArray⟩:ByteArray).size+1) 8 [] (fun c hc=>⟨h2 c hc,hO c hc⟩) (by rw[hsz,h1,List.length_append,e8];omega) (by rw[hd,h1,← e8,List.drop_left]) (by omega);simpa using this
end Go.Proofs.YthlibiocadimhaaGreatDoor
