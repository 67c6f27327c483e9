/-
  deflate.fixed: tokens in one fixed block.
-/
import Derived.Test.YthlibiocadimhaaGreatDoorPngReadsG18
import Derived.Test.YthlibiocadimhaaGreatDoorPngReadsG15
set_option linter.all false
set_option maxRecDepth 100000
namespace Go.Proofs.YthlibiocadimhaaGreatDoor
open Go.RowKit
theorem Yea0 {p:Prop} (h:p:=by
 simp only[xg,xh,xi] at k0;go_simp;refine oT hK ?_;clear hK KK k0;revert Z_1;revert v1;exact node_9.out):p:=h
theorem Yea1 {p:Prop} (h:p:=by
 clear hB;revert Z_3;revert C_3;revert A_3;revert LC;revert Cb;revert LA;revert Ab;revert v3;exact node_12.out):p:=h
theorem za8 {T G:Prop} (h:Hid T->G) (k:T):G:=h (Hd k)
def u32V (n:Nat):List Value:=(List.range n).map λ i:Nat=>Value.int .u32 (i:Int)
def FixAt (w4 wz:World) (B D Wb:Nat) (la:Addr) (lc cb i:Nat):Prop:=
 ∃x2 c2 x4 c4,Keeps (λ k=>k=D) w4 wz/\Bk wz D #[.pointer (some ⟨Wb,0,none⟩),.slice (some la) 288 lc,.slice x2 i c2,.slice (some ⟨cb,0,none⟩) 288 288,.slice x4 i c4]/\
  OwnR wz B 3 (.slice x2 i c2) i (intsV i Inf.fiveF)/\OwnR wz B 85 (.slice x4 i c4) i (u32V i)
theorem zqd {w4 wz:World} {B D Wb:Nat} {la:Addr} {lc cb i c2 c4:Nat} {x2 x4:Option Addr} (hX:Keeps (λ k=>k=D) w4 wz)
  (hD:Bk wz D #[.pointer (some ⟨Wb,0,none⟩),.slice (some la) 288 lc,.slice x2 (i+1) c2,.slice (some ⟨cb,0,none⟩) 288 288,.slice x4 (i+1) c4])
  (h2:OwnR wz B 3 (.slice x2 (i+1) c2) (i+1) (intsV i Inf.fiveF ++ [.int .i64 5])) (h4:OwnR wz B 85 (.slice x4 (i+1) c4) (i+1) (u32V i ++ [.int .u32 (i:Int)])):FixAt w4 wz B D Wb la lc cb (i+1):=by
 refine⟨x2,c2,x4,c4,hX,hD,?_,?_⟩
 ·rw[show intsV (i+1) Inf.fiveF=intsV i Inf.fiveF ++ [.int .i64 5] by unfold intsV;rw[qbC,qbs];rfl];exact h2
 rw[show u32V (i+1)=u32V i ++ [.int .u32 (i:Int)] by unfold u32V;rw[qbC,qbs];rfl];exact h4
theorem zof {w:World} {base:Nat} {x:Option Addr} {n c:Nat} (h:OwnR w base 85 (.slice x n c) n (u32V n)):U32s w x n (λ i=>i):=by
 rcases zah h with⟨q1,q2⟩ | ⟨g,cap,q⟩
 ·injection q1 with q1;subst q1;subst q2;exact⟨λ _=>rfl,λ a h=>by cases h⟩
 injection q with q _ _;subst q;refine⟨λ h=>(by cases h),λ a ha i hi=>?_⟩;injection ha with ha;subst ha;rw[zae,World.ownsRow.cellAt h i (by omega)];simp[u32V,hi]
theorem FixAt.df {w4 wr:World} {B D Wb:Nat} {la:Addr} {lc cb:Nat} (h:FixAt w4 wr B D Wb la lc cb 32) (hB:w4.heap.size=B) (hl:Ints w4 (some la) 288 Inf.fixF) (hld:la.block<D) (hc:Cs w4 cb 288 .u32 (λ i=>(word Inf.fixF 288 i:Int))) (hcd:D<cb) (hcb:cb<B):
  ∃(da:Addr) (dc:Nat) (ea:Addr) (ec:Nat),DF wr D Wb la da ⟨cb,0,none⟩ ea 288 lc 32 dc 288 ec Inf.fixF Inf.fiveF/\B<=da.block/\da.block<wr.heap.size/\B<=ea.block/\ea.block<wr.heap.size:=by
 obtain⟨x2,c2,x4,c4,hX,hD,h2,h4⟩:=h;obtain⟨da,rfl⟩:∃da,x2=some ⟨da,0,none⟩:=by
  rcases zah h2 with⟨_,q⟩ | ⟨g,c,q⟩
  ·omega
  injection q with q;exact⟨g,q⟩
 obtain⟨ea,rfl⟩:∃ea,x4=some ⟨ea,0,none⟩:=by
  rcases zah h4 with⟨_,q⟩ | ⟨g,c,q⟩
  ·omega
  injection q with q;exact⟨g,q⟩
 have b2:=qbv h2 da rfl;have b4:=qbv h4 ea rfl;have hdi:Ints wr (some ⟨da,0,none⟩) 32 Inf.fiveF:=by
  obtain⟨y,c,e,q⟩:=Ints.of_own h2 (λ i _=>by unfold Inf.fiveF;omega);injection e with e;subst e;exact q
 have hdw:=zof h4;refine⟨_,c2,_,c4,⟨hD.cell 0,hD.cell 1,hD.cell 2,hD.cell 3,hD.cell 4,hl.on hX (λ a ha q=>?_),hdi,⟨λ h=>(by cases h),λ a ha i hi=>?_⟩,⟨λ h=>(by cases h),λ a ha i hi=>?_⟩⟩,b2.1,b2.2,b4.1,b4.2⟩
 ·injection ha with ha;have q:a.block=D:=q;rw[<- ha] at q;omega
 ·injection ha with ha;subst ha;rw[zae];have q:=hc i hi;exact (hX.cell (p:=⟨cb,i,none⟩) (qab w4 _ q.1) (show ¬ cb=D by omega)).trans q.1
 have:=hdw.2 a ha i hi;rw[this,Inf.zd6 i hi]
structure FX (w4 wr z:World) (B D Wb:Nat) (la:Addr) (lc cb:Nat) (s2 s4 v2:Value) (n2:Nat) (l2:List Value) (v4:Value) (n4:Nat) (l4:List Value):Prop where
 k:Keeps (λ k=>k=D) w4 z
 d:Bk z D #[.pointer (some ⟨Wb,0,none⟩),.slice (some la) 288 lc,s2,.slice (some ⟨cb,0,none⟩) 288 288,s4]
 o2:OwnR z B 3 v2 n2 l2
 o4:OwnR z B 85 v4 n4 l4
 sz:wr.heap.size<=z.heap.size
 b:w4.heap.size=B
 db:D<B
section
variable {w4 wr z:World} {B D Wb:Nat} {la:Addr} {lc cb:Nat} {s2 s4 v2 v4:Value} {n2 n4:Nat} {l2 l4:List Value}
theorem FX.ext {z':World} (h:FX w4 wr z B D Wb la lc cb s2 s4 v2 n2 l2 v4 n4 l4) (hE:Ext z z'):FX w4 wr z' B D Wb la lc cb s2 s4 v2 n2 l2 v4 n4 l4:=
 ⟨h.k.trans hE.keeps (S':=λ _=>False) (λ _ _ q=>q.elim),h.d.ext hE,h.o2.ext hE,h.o4.ext hE,qam h.sz hE.size,h.b,h.db⟩
theorem FX.big (h:FX w4 wr z B D Wb la lc cb s2 s4 v2 n2 l2 v4 n4 l4):B<=z.heap.size:=by have:=h.k.size;have:=h.b;omega
theorem FX.run2 {x:Option Addr} {i c a:Nat} {val:Value} (h:FX w4 wr z B D Wb la lc cb s2 s4 (.slice x i c) i l2 v4 n4 l4) (hA:Bk z a #[val]) (h1:val.oneCell'=true) (hi:i<1000):
  ∃x' c' z',(Builtin.append_ #[88,88] 88 #[.slice x i c,.slice (some ⟨a,0,none⟩) 1 1]).run Tryz.prog z=.ok (.slice x' (i+1) c') z'/\
   FX w4 wr z' B D Wb la lc cb s2 s4 (.slice x' (i+1) c') (i+1) (l2 ++ [val]) v4 n4 l4/\z.grownBy z' (Value.slice x i c).ownBlock:=by
 obtain⟨i0,hi0,hz0,hz1,hz2⟩:∃i,Tryz.prog.info? 3 =some i/\i.zero=some (.int .i64 0)/\i.size=1/\i.bytes=8:=⟨_,rfl,rfl,rfl,rfl⟩;obtain⟨v',z',hr,q2,q3,_,_⟩:=qcH (P:=Tryz.prog) z B 88 88 3 i0 (.int .i64 0) 1 8 Tryz.underlying88 hi0 hz0 hz1 hz2 rfl (by decide) (.slice x i c) i l2 h.o2 ⟨a,0,none⟩ 1 1 [val] rfl (λ j u hj=>by
  rw[zae];exact (hA.cell _).trans (by simpa using hj)) (by intro u hu;simp at hu;subst hu;exact h1) (by unfold maxLen;omega) (by omega) h.big
 obtain⟨x',c',rfl⟩:=zf2 (show OwnR z' B 3 v' (i+1) (l2 ++ [val]) from q2);exact⟨x',c',z',hr,⟨h.k.trans (Keeps.grown q3) (λ k hk e=>by have:=(qbv h.o2 k e).1;have:=h.b;omega),h.d.grown h.o2 (.inl h.db) q3,q2,h.o4.grown h.o2 (by decide) q3,qam h.sz (Keeps.grown q3).size,h.b,h.db⟩,q3⟩
theorem FX.run4 {x:Option Addr} {i c a:Nat} {val:Value} (h:FX w4 wr z B D Wb la lc cb s2 s4 v2 n2 l2 (.slice x i c) i l4) (hA:Bk z a #[val]) (h1:val.oneCell'=true) (hi:i<1000):
  ∃x' c' z',(Builtin.append_ #[178,178] 178 #[.slice x i c,.slice (some ⟨a,0,none⟩) 1 1]).run Tryz.prog z=.ok (.slice x' (i+1) c') z'/\
   FX w4 wr z' B D Wb la lc cb s2 s4 v2 n2 l2 (.slice x' (i+1) c') (i+1) (l4 ++ [val])/\z.grownBy z' (Value.slice x i c).ownBlock:=by
 obtain⟨i0,hi0,hz0,hz1,hz2⟩:∃i,Tryz.prog.info? 85 =some i/\i.zero=some (.int .u32 0)/\i.size=1/\i.bytes=4:=⟨_,rfl,rfl,rfl,rfl⟩;obtain⟨v',z',hr,q2,q3,_,_⟩:=qcH (P:=Tryz.prog) z B 178 178 85 i0 (.int .u32 0) 1 4 Tryz.underlying178 hi0 hz0 hz1 hz2 rfl (by decide) (.slice x i c) i l4 h.o4 ⟨a,0,none⟩ 1 1 [val] rfl (λ j u hj=>by
  rw[zae];exact (hA.cell _).trans (by simpa using hj)) (by intro u hu;simp at hu;subst hu;exact h1) (by unfold maxLen;omega) (by omega) h.big
 obtain⟨x',c',rfl⟩:=zf2 (show OwnR z' B 85 v' (i+1) (l4 ++ [val]) from q2);exact⟨x',c',z',hr,⟨h.k.trans (Keeps.grown q3) (λ k hk e=>by have:=(qbv h.o4 k e).1;have:=h.b;omega),h.d.grown h.o4 (.inl h.db) q3,h.o2.grown h.o4 (by decide) q3,q2,qam h.sz (Keeps.grown q3).size,h.b,h.db⟩,q3⟩
theorem FX.st2 (h:FX w4 wr z B D Wb la lc cb s2 s4 v2 n2 l2 v4 n4 l4) (u:Value):FX w4 wr (z.setCell ⟨D,2,none⟩ u) B D Wb la lc cb u s4 v2 n2 l2 v4 n4 l4:=by
 refine⟨Keeps.setCell h.k (p:=⟨D,2,none⟩) (.inl rfl) _,by simpa using h.d.set_ 2 u,qaI h.o2 (λ e=>by have:=(qbv h.o2 D e).1;have:=h.db;omega) _,qaI h.o4 (λ e=>by have:=(qbv h.o4 D e).1;have:=h.db;omega) _,by have:=h.sz;simpa using this,h.b,h.db⟩
theorem FX.st4 (h:FX w4 wr z B D Wb la lc cb s2 s4 v2 n2 l2 v4 n4 l4) (u:Value):FX w4 wr (z.setCell ⟨D,4,none⟩ u) B D Wb la lc cb s2 u v2 n2 l2 v4 n4 l4:=by
 refine⟨Keeps.setCell h.k (p:=⟨D,4,none⟩) (.inl rfl) _,by simpa using h.d.set_ 4 u,qaI h.o2 (λ e=>by have:=(qbv h.o2 D e).1;have:=h.db;omega) _,qaI h.o4 (λ e=>by have:=(qbv h.o4 D e).1;have:=h.db;omega) _,by have:=h.sz;simpa using this,h.b,h.db⟩
end
theorem FixAt.start {w4:World} {B D Wb:Nat} {la:Addr} {lc cb:Nat} (h:Bk w4 D #[.pointer (some ⟨Wb,0,none⟩),.slice (some la) 288 lc,.slice none 0 0,.slice (some ⟨cb,0,none⟩) 288 288,.slice none 0 0]):FixAt w4 w4 B D Wb la lc cb 0:=
 ⟨none,0,none,0,Keeps.refl _ _,h,⟨rfl,.inl ⟨rfl,rfl⟩⟩,⟨rfl,.inl ⟨rfl,rfl⟩⟩⟩
set_option maxHeartbeats 8000000 in
theorem zkf (x:Option Addr) (n cap:Nat) (tk:Nat->Tk) (w:World) (hT:Toks w x n tk) (hTb:Tabs w) (EB ES:Value) (hB:w.cell? ⟨2,0,none⟩=some EB) (hS:w.cell? ⟨0,0,none⟩=some ES) (hn:n<=310000)
  (hok:∀i,i<n->(tk i).l=0\/(3<=(tk i).l/\(tk i).l<=258/\1<=(tk i).d/\(tk i).d<=32768)):
  Calls Tryz.prog 88 #[.slice x n cap] w λ e w'=>(∃l:List UInt8,l.length=((Bts.low 3 3++(Dfl.toksB Inf.fixF 288 Inf.fiveF 32 ((List.range n).map tk)++Dfl.wordB Inf.fixF 288 256)).length+7)/8/\Crc.num l=Bts.val (Bts.low 3 3++(Dfl.toksB Inf.fixF 288 Inf.fiveF 32 ((List.range n).map tk)++Dfl.wordB Inf.fixF 288 256))/\e=.returned (.string ⟨l.toArray⟩))/\Ext w w':=by
 have HT:=Hd hT;have HTb:=Hd hTb;have HB:=Hd hB;have HS:=Hd hS;have HOK:=Hd hok;clear hT hTb hB hS hok;go_enter Tryz.func88,Tryz.ntmps88
 go_wp2_with fail;refine zaM (λ wz=>Ext w wz/\Bk wz w.heap.size #[.slice none 0 0,.int .i64 0]) ⟨(Ext.refl _).alloc _,Bk.at rfl⟩ ?_;rintro w1 ⟨hX,hW⟩;obtain⟨Wb,hWb⟩:=nmE (w.heap.size);rw[hWb] at hW;rw[hWb];have HWb:=Hd hWb;have HX1:=Hd hX;have HW1:=Hd hW;clear hX hW hWb;refine (zgO w1).mono ?_;rintro e w2 ⟨⟨lx,lc,rfl,hl,hown⟩,hX⟩;obtain⟨la,rfl,hla⟩:∃la:Addr,lx=some la/\Wb<la.block:=by
  rcases zah hown with⟨_,q⟩ | ⟨g,c,q⟩
  ·omega
  injection q with q;subst q;have:=(qbv hown g rfl).1;have:=HW1.out.lt;exact⟨⟨g,0,none⟩,rfl,by show Wb<g;omega⟩
 have HLW:=Hd hla;clear hla hown;have HL2:=Hd hl;have HX2:=Hd (HX1.out.trans hX);have HW2:=Hd (HW1.out.ext hX);clear HX1 HW1 hX hl;go_wp2_with fail;refine zaM (λ wz=>Ext w2 wz/\Bk wz w2.heap.size #[.pointer (some ⟨Wb,0,none⟩),.slice (some la) 288 lc,.slice none 0 0,.slice none 0 0,.slice none 0 0]) ⟨(Ext.refl _).alloc _,Bk.at rfl⟩ ?_;rintro w3 ⟨hX,hD⟩;obtain⟨D,hD'⟩:∃D,w2.heap.size=D:=⟨_,rfl⟩;rw[hD'] at hD;have HDs:=Hd hD';rw[hD'];have HD3:=Hd hD;have HX3:=Hd (HX2.out.trans hX);have HW3:=Hd (HW2.out.ext hX);have HL3:=Hd (HL2.out.ext hX);have HWD:=Hd (show Wb<D by have:=HW2.out.lt;have:=HDs.out;omega);have HLD:=Hd (show la.block<D by have:=HL2.out.block (by decide);have:=HDs.out;omega);clear HX2 HW2 HL2 hX hD hD';refine (zcE (some la) 288 lc Inf.fixF w3 HL3.out (by decide) Inf.zbr.1 Inf.zbr.2 EB ES ((HX3.out.cell (qab w _ HB.out)).trans HB.out) ((HX3.out.cell (qab w _ HS.out)).trans HS.out)).mono ?_;rintro e w4' ⟨hX,cb,hcb,rfl,hC⟩;have HC:=Hd hC;have HX4:=Hd (HX3.out.trans hX);have HW4:=Hd (HW3.out.ext hX);have HD4:=Hd (HD3.out.ext hX);have HL4:=Hd (HL3.out.ext hX);have HCD:=Hd (show D<cb by have:=HD3.out.lt;omega);clear HX3 HW3 HL3 HD3 hX hC hcb;have k0:=HD4.out.cell 3;have f0:=HD4.out.frozen 3;simp only[qaz,qaC,qay] at k0;go_wp2_with fail;refine zac (λ wz=>Ext w wz/\Ints wz (some la) 288 Inf.fixF/\Bk wz Wb #[.slice none 0 0,.int .i64 0]/\Cs wz cb 288 .u32 (λ i=>(word Inf.fixF 288 i:Int))/\Bk wz D #[.pointer (some ⟨Wb,0,none⟩),.slice (some la) 288 lc,.slice none 0 0,.slice (some ⟨cb,0,none⟩) 288 288,.slice none 0 0]) ?_ ?_
 ·refine⟨qaL HX4.out (by have:=HWb.out;have:=HWD.out;show w.heap.size<=D;omega) _,HL4.out.on (Keeps.setCell (S:=λ k=>k=D) (p:=⟨D,3,none⟩) (Keeps.refl _ _) (.inl rfl) _) (λ a ha q=>by have:=HLD.out;injection ha with ha;have q:a.block=D:=q;rw[<- ha] at q;omega),HW4.out.far (p:=⟨D,3,none⟩) (by have:=HWD.out;show Wb≠D;omega) _,HC.out.other _ _ (by have:=HCD.out;show D≠cb;omega),?_⟩;have:=HD4.out.set_ 3 (.slice (some ⟨cb,0,none⟩) 288 288);simpa using this
 rintro w4 ⟨h1,h2,h3,h4,h5⟩;clear HX4 HL4 HW4 HC HD4;have HX4:=Hd h1;have HL4:=Hd h2;have HW4:=Hd h3;have HC4:=Hd h4;have HD4:=Hd h5;clear h1 h2 h3 h4 h5 k0 f0;obtain⟨B,hB⟩:=nmE (w4.heap.size);have HBe:=Hd hB;have HDB:=Hd (show D<B by have:=HD4.out.lt;omega);clear hB;obtain⟨i0,hi0,hz0,hz1,hz2⟩:∃i,Tryz.prog.info? 3 =some i/\i.zero=some (.int .i64 0)/\i.size=1/\i.bytes=8:=⟨_,rfl,rfl,rfl,rfl⟩;obtain⟨j0,hj0,hy0,hy1,hy2⟩:∃i,Tryz.prog.info? 85 =some i/\i.zero=some (.int .u32 0)/\i.size=1/\i.bytes=4:=⟨_,rfl,rfl,rfl,rfl⟩;go_loopw [21] (λ c wr=>∃i:Nat,c=.int .u32 i/\i<=32/\Hid (FixAt w4 wr B D Wb la lc cb i)) (λ c _=>32-(intOf c).toNat)
 case atStart=>exact⟨0,rfl,by omega,Hd (FixAt.start HD4.out)⟩
 case round=>
  obtain⟨i,rfl,hi,HF⟩:=hrel;by_cases hlt:i<32
  ·have t0:=dT (p:=(i:Int)<32);have wu:IntKind.u32.wrap ((i:Int)+1)=((i+1:Nat):Int):=by rw[qcs];omega
   obtain⟨x2,c2,x4,c4,hX,hD,h2,h4⟩:=HF.out;have Z_0:=Hd (⟨hX,hD,h2,h4,qaj _,HBe.out,HDB.out⟩:FX w4 wr wr B D Wb la lc cb _ _ _ _ _ _ _ _);have HO2L:=Hd (show ∀k,(Value.slice x2 i c2).ownBlock=some k->k<wr.heap.size from λ k e=>(qbv h2 k e).2);have HO4L:=Hd (show ∀k,(Value.slice x4 i c4).ownBlock=some k->k<wr.heap.size from λ k e=>(qbv h4 k e).2);clear hX hD h2 h4 HF;go_wp2_with fail;refine rgW λ v1 h=>?_;have Z_1:=Hd (Z_0.out.ext h);clear h Z_0;revert Z_1;revert v1;apply za8
   ·intro node_0;apply za8
    ·intro node_1;apply za8
     ·intro node_2;apply za8
      ·intro node_3;apply za8
       ·intro node_4;apply za8
        ·intro node_5;apply za8
         ·intro node_6;apply za8
          ·intro node_7;apply za8
           ·intro node_8;apply za8
            ·intro node_9;apply za8
             ·intro node_10;apply za8
              ·intro node_11;apply za8
               ·intro node_12;apply za8
                ·intro node_13;intro v1 Z_1;refine tk5 0 1 2 3 4 ?_;refine tk4 8 9 10 12 ?_;refine qch (rs:=[5,6,11,13]) (by kernel_rfl) (by simp) ?_;refine qaM rfl (λ KK hK=>?_) (qaM rfl (λ KK hK=>?_) (qaM rfl (λ KK hK=>?_) (qaM rfl (λ KK hK=>?_) qcb)))
                 ·have k0:=Z_1.out.d.cell 2;simp only[xg,xh,xi] at k0;go_simp;refine oT hK ?_;clear hK KK k0;refine qch (rs:=[6,11,13]) (by kernel_rfl) (by simp) ?_;refine qaM rfl (λ KK hK=>?_) (qaM rfl (λ KK hK=>?_) (qaM rfl (λ KK hK=>?_) qcb))
                  ·go_simp;refine oT hK ?_;clear hK KK;refine zab (λ wz=>Ext v1 wz/\Bk wz v1.heap.size #[.int .i64 5]) ⟨(Ext.refl v1).alloc _,Bk.at rfl⟩ ?_;rintro v2 ⟨hE,hB⟩;obtain⟨Ab,hb⟩:=nmE (v1.heap.size);rw[hb] at hB;(try rw[hb]);have LA:=Hd (show wr.heap.size<=Ab from hb▸Z_1.out.sz);have Z_2:=Hd (Z_1.out.ext hE);clear hE hb Z_1;have A_2:=Hd (hB);clear hB;revert Z_2;revert A_2;revert LA;revert Ab;revert v2;exact node_8.out
                  ·have k0:=Z_1.out.d.cell 4;exact Yea0
                  go_simp;refine oT hK ?_;clear hK KK;refine zab (λ wz=>Ext v1 wz/\Bk wz v1.heap.size #[.int .u32 (i:Int)]) ⟨(Ext.refl v1).alloc _,Bk.at rfl⟩ ?_;rintro v2 ⟨hE,hB⟩;obtain⟨Cb,hb⟩:=nmE (v1.heap.size);rw[hb] at hB;(try rw[hb]);have LC:=Hd (show wr.heap.size<=Cb from hb▸Z_1.out.sz);have Z_2:=Hd (Z_1.out.ext hE);clear hE hb Z_1;have C_2:=Hd (hB);clear hB;revert Z_2;revert C_2;revert LC;revert Cb;revert v2;exact node_10.out
                 ·go_simp;refine oT hK ?_;clear hK KK;refine zab (λ wz=>Ext v1 wz/\Bk wz v1.heap.size #[.int .i64 5]) ⟨(Ext.refl v1).alloc _,Bk.at rfl⟩ ?_;rintro v2 ⟨hE,hB⟩;obtain⟨Ab,hb⟩:=nmE (v1.heap.size);rw[hb] at hB;(try rw[hb]);have LA:=Hd (show wr.heap.size<=Ab from hb▸Z_1.out.sz);have Z_2:=Hd (Z_1.out.ext hE);clear hE hb Z_1;have A_2:=Hd (hB);clear hB;refine qch (rs:=[5,11,13]) (by kernel_rfl) (by simp) ?_;refine qaM rfl (λ KK hK=>?_) (qaM rfl (λ KK hK=>?_) (qaM rfl (λ KK hK=>?_) qcb))
                  ·have k0:=Z_2.out.d.cell 2;simp only[xg,xh,xi] at k0;go_simp;refine oT hK ?_;clear hK KK k0;revert Z_2;revert A_2;revert LA;revert Ab;revert v2;exact node_8.out
                  ·have k0:=Z_2.out.d.cell 4;simp only[xg,xh,xi] at k0;go_simp;refine oT hK ?_;clear hK KK k0;revert Z_2;revert A_2;revert LA;revert Ab;revert v2;exact node_11.out
                  go_simp;refine oT hK ?_;clear hK KK;refine zab (λ wz=>Ext v2 wz/\Bk wz v2.heap.size #[.int .u32 (i:Int)]) ⟨(Ext.refl v2).alloc _,Bk.at rfl⟩ ?_;rintro v3 ⟨hE,hB⟩;obtain⟨Cb,hb⟩:=nmE (v2.heap.size);rw[hb] at hB;(try rw[hb]);have LC:=Hd (show wr.heap.size<=Cb from hb▸Z_2.out.sz);have Z_3:=Hd (Z_2.out.ext hE);have A_3:=Hd (A_2.out.ext hE);clear hE hb Z_2 A_2;have C_3:=Hd (hB);exact Yea1
                 ·have k0:=Z_1.out.d.cell 4;simp only[xg,xh,xi] at k0;go_simp;refine oT hK ?_;clear hK KK k0;refine qch (rs:=[5,6,13]) (by kernel_rfl) (by simp) ?_;refine qaM rfl (λ KK hK=>?_) (qaM rfl (λ KK hK=>?_) (qaM rfl (λ KK hK=>?_) qcb))
                  ·have k0:=Z_1.out.d.cell 2;exact Yea0
                  ·go_simp;refine oT hK ?_;clear hK KK;refine zab (λ wz=>Ext v1 wz/\Bk wz v1.heap.size #[.int .i64 5]) ⟨(Ext.refl v1).alloc _,Bk.at rfl⟩ ?_;rintro v2 ⟨hE,hB⟩;obtain⟨Ab,hb⟩:=nmE (v1.heap.size);rw[hb] at hB;(try rw[hb]);have LA:=Hd (show wr.heap.size<=Ab from hb▸Z_1.out.sz);have Z_2:=Hd (Z_1.out.ext hE);clear hE hb Z_1;have A_2:=Hd (hB);clear hB;revert Z_2;revert A_2;revert LA;revert Ab;revert v2;exact node_11.out
                  go_simp;refine oT hK ?_;clear hK KK;refine zab (λ wz=>Ext v1 wz/\Bk wz v1.heap.size #[.int .u32 (i:Int)]) ⟨(Ext.refl v1).alloc _,Bk.at rfl⟩ ?_;rintro v2 ⟨hE,hB⟩;obtain⟨Cb,hb⟩:=nmE (v1.heap.size);rw[hb] at hB;(try rw[hb]);have LC:=Hd (show wr.heap.size<=Cb from hb▸Z_1.out.sz);have Z_2:=Hd (Z_1.out.ext hE);clear hE hb Z_1;have C_2:=Hd (hB);clear hB;revert Z_2;revert C_2;revert LC;revert Cb;revert v2;exact node_13.out
                 go_simp;refine oT hK ?_;clear hK KK;refine zab (λ wz=>Ext v1 wz/\Bk wz v1.heap.size #[.int .u32 (i:Int)]) ⟨(Ext.refl v1).alloc _,Bk.at rfl⟩ ?_;rintro v2 ⟨hE,hB⟩;obtain⟨Cb,hb⟩:=nmE (v1.heap.size);rw[hb] at hB;(try rw[hb]);have LC:=Hd (show wr.heap.size<=Cb from hb▸Z_1.out.sz);have Z_2:=Hd (Z_1.out.ext hE);clear hE hb Z_1;have C_2:=Hd (hB);clear hB;refine qch (rs:=[5,6,11]) (by kernel_rfl) (by simp) ?_;refine qaM rfl (λ KK hK=>?_) (qaM rfl (λ KK hK=>?_) (qaM rfl (λ KK hK=>?_) qcb))
                 ·have k0:=Z_2.out.d.cell 2;simp only[xg,xh,xi] at k0;go_simp;refine oT hK ?_;clear hK KK k0;revert Z_2;revert C_2;revert LC;revert Cb;revert v2;exact node_10.out
                 ·go_simp;refine oT hK ?_;clear hK KK;refine zab (λ wz=>Ext v2 wz/\Bk wz v2.heap.size #[.int .i64 5]) ⟨(Ext.refl v2).alloc _,Bk.at rfl⟩ ?_;rintro v3 ⟨hE,hB⟩;obtain⟨Ab,hb⟩:=nmE (v2.heap.size);rw[hb] at hB;(try rw[hb]);have LA:=Hd (show wr.heap.size<=Ab from hb▸Z_2.out.sz);have Z_3:=Hd (Z_2.out.ext hE);have C_3:=Hd (C_2.out.ext hE);clear hE hb Z_2 C_2;have A_3:=Hd (hB);exact Yea1
                 have k0:=Z_2.out.d.cell 4;simp only[xg,xh,xi] at k0;go_simp;refine oT hK ?_;clear hK KK k0;revert Z_2;revert C_2;revert LC;revert Cb;revert v2;exact node_13.out
                intro v560 Cb LC C_560 Z_560;refine rdT2 5 6 (λ KK hK=>?_) λ KK hK=>?_
                ·have k0:=Z_560.out.d.cell 2;simp only[xg,xh,xi] at k0;go_simp;refine oT hK ?_;clear hK KK k0;revert Z_560;revert C_560;revert LC;revert Cb;revert v560;exact node_6.out
                go_simp;refine oT hK ?_;clear hK KK;refine zab (λ wz=>Ext v560 wz/\Bk wz v560.heap.size #[.int .i64 5]) ⟨(Ext.refl v560).alloc _,Bk.at rfl⟩ ?_;rintro v561 ⟨hE,hB⟩;obtain⟨Ab,hb⟩:=nmE (v560.heap.size);rw[hb] at hB;(try rw[hb]);have LA:=Hd (show wr.heap.size<=Ab from hb▸Z_560.out.sz);have C_561:=Hd (C_560.out.ext hE);have Z_561:=Hd (Z_560.out.ext hE);clear hE hb C_560 Z_560;have A_561:=Hd (hB);clear hB;revert Z_561;revert C_561;revert A_561;revert LC;revert Cb;revert LA;revert Ab;revert v561;exact node_7.out
               intro v520 Ab LA Cb LC A_520 C_520 Z_520;refine rdT2 5 11 (λ KK hK=>?_) λ KK hK=>?_
               ·have k0:=Z_520.out.d.cell 2;simp only[xg,xh,xi] at k0;go_simp;refine oT hK ?_;clear hK KK k0;revert Z_520;revert C_520;revert A_520;revert LC;revert Cb;revert LA;revert Ab;revert v520;exact node_5.out
               have k0:=Z_520.out.d.cell 4;simp only[xg,xh,xi] at k0;go_simp;refine oT hK ?_;clear hK KK k0;revert Z_520;revert C_520;revert A_520;revert LC;revert Cb;revert LA;revert Ab;revert v520;exact node_7.out
              intro v480 Ab LA A_480 Z_480;refine rdT2 5 13 (λ KK hK=>?_) λ KK hK=>?_
              ·have k0:=Z_480.out.d.cell 2;simp only[xg,xh,xi] at k0;go_simp;refine oT hK ?_;clear hK KK k0;revert Z_480;revert A_480;revert LA;revert Ab;revert v480;exact node_4.out
              go_simp;refine oT hK ?_;clear hK KK;refine zab (λ wz=>Ext v480 wz/\Bk wz v480.heap.size #[.int .u32 (i:Int)]) ⟨(Ext.refl v480).alloc _,Bk.at rfl⟩ ?_;rintro v481 ⟨hE,hB⟩;obtain⟨Cb,hb⟩:=nmE (v480.heap.size);rw[hb] at hB;(try rw[hb]);have LC:=Hd (show wr.heap.size<=Cb from hb▸Z_480.out.sz);have A_481:=Hd (A_480.out.ext hE);have Z_481:=Hd (Z_480.out.ext hE);clear hE hb A_480 Z_480;have C_481:=Hd (hB);clear hB;revert Z_481;revert C_481;revert A_481;revert LC;revert Cb;revert LA;revert Ab;revert v481;exact node_7.out
             intro v440 Cb LC C_440 Z_440;refine rdT2 6 11 (λ KK hK=>?_) λ KK hK=>?_
             ·go_simp;refine oT hK ?_;clear hK KK;refine zab (λ wz=>Ext v440 wz/\Bk wz v440.heap.size #[.int .i64 5]) ⟨(Ext.refl v440).alloc _,Bk.at rfl⟩ ?_;rintro v441 ⟨hE,hB⟩;obtain⟨Ab,hb⟩:=nmE (v440.heap.size);rw[hb] at hB;(try rw[hb]);have LA:=Hd (show wr.heap.size<=Ab from hb▸Z_440.out.sz);have C_441:=Hd (C_440.out.ext hE);have Z_441:=Hd (Z_440.out.ext hE);clear hE hb C_440 Z_440;have A_441:=Hd (hB);clear hB;revert Z_441;revert C_441;revert A_441;revert LC;revert Cb;revert LA;revert Ab;revert v441;exact node_5.out
             have k0:=Z_440.out.d.cell 4;simp only[xg,xh,xi] at k0;go_simp;refine oT hK ?_;clear hK KK k0;revert Z_440;revert C_440;revert LC;revert Cb;revert v440;exact node_6.out
            intro v400 Z_400;refine rdT2 6 13 (λ KK hK=>?_) λ KK hK=>?_
            ·go_simp;refine oT hK ?_;clear hK KK;refine zab (λ wz=>Ext v400 wz/\Bk wz v400.heap.size #[.int .i64 5]) ⟨(Ext.refl v400).alloc _,Bk.at rfl⟩ ?_;rintro v401 ⟨hE,hB⟩;obtain⟨Ab,hb⟩:=nmE (v400.heap.size);rw[hb] at hB;(try rw[hb]);have LA:=Hd (show wr.heap.size<=Ab from hb▸Z_400.out.sz);have Z_401:=Hd (Z_400.out.ext hE);clear hE hb Z_400;have A_401:=Hd (hB);clear hB;revert Z_401;revert A_401;revert LA;revert Ab;revert v401;exact node_4.out
            go_simp;refine oT hK ?_;clear hK KK;refine zab (λ wz=>Ext v400 wz/\Bk wz v400.heap.size #[.int .u32 (i:Int)]) ⟨(Ext.refl v400).alloc _,Bk.at rfl⟩ ?_;rintro v401 ⟨hE,hB⟩;obtain⟨Cb,hb⟩:=nmE (v400.heap.size);rw[hb] at hB;(try rw[hb]);have LC:=Hd (show wr.heap.size<=Cb from hb▸Z_400.out.sz);have Z_401:=Hd (Z_400.out.ext hE);clear hE hb Z_400;have C_401:=Hd (hB);clear hB;revert Z_401;revert C_401;revert LC;revert Cb;revert v401;exact node_6.out
           intro v360 Ab LA A_360 Z_360;refine qch (rs:=[7,11,13]) (by kernel_rfl) (by simp) ?_;refine qaM rfl (λ KK hK=>?_) (qaM rfl (λ KK hK=>?_) (qaM rfl (λ KK hK=>?_) qcb))
           ·obtain⟨y2,d2,v361,hr,hz,h3⟩:=Z_360.out.run2 A_360.out rfl (by omega);rw[qad (show _=true by kernel_rfl)];unfold Oper.wp execOp;simp only[resolve,invoke,builtin,qbu,qbM,qas,qbg,qaG,qa9,Act.eval,xa,xb,xc];simp only[qaO,xg,xh,xi,qbn,hr,qas,Oper.upon];refine oT hK ?_;clear hK KK hr;have Z_361:=Hd hz;clear A_360 Z_360 hz h3;refine rdT2 11 13 (λ KK hK=>?_) λ KK hK=>?_
            ·have k0:=Z_361.out.d.cell 4;simp only[xg,xh,xi] at k0;go_simp;refine oT hK ?_;clear hK KK k0;revert Z_361;revert d2;revert y2;revert LA;revert Ab;revert v361;exact node_1.out
            go_simp;refine oT hK ?_;clear hK KK;refine zab (λ wz=>Ext v361 wz/\Bk wz v361.heap.size #[.int .u32 (i:Int)]) ⟨(Ext.refl v361).alloc _,Bk.at rfl⟩ ?_;rintro v362 ⟨hE,hB⟩;obtain⟨Cb,hb⟩:=nmE (v361.heap.size);rw[hb] at hB;(try rw[hb]);have LC:=Hd (show wr.heap.size<=Cb from hb▸Z_361.out.sz);have Z_362:=Hd (Z_361.out.ext hE);clear hE hb Z_361;have C_362:=Hd (hB);clear hB;revert Z_362;revert C_362;revert LC;revert Cb;revert d2;revert y2;revert LA;revert Ab;revert v362;exact node_2.out
           ·have k0:=Z_360.out.d.cell 4;simp only[xg,xh,xi] at k0;go_simp;refine oT hK ?_;clear hK KK k0;revert Z_360;revert A_360;revert LA;revert Ab;revert v360;exact node_4.out
           go_simp;refine oT hK ?_;clear hK KK;refine zab (λ wz=>Ext v360 wz/\Bk wz v360.heap.size #[.int .u32 (i:Int)]) ⟨(Ext.refl v360).alloc _,Bk.at rfl⟩ ?_;rintro v361 ⟨hE,hB⟩;obtain⟨Cb,hb⟩:=nmE (v360.heap.size);rw[hb] at hB;(try rw[hb]);have LC:=Hd (show wr.heap.size<=Cb from hb▸Z_360.out.sz);have A_361:=Hd (A_360.out.ext hE);have Z_361:=Hd (Z_360.out.ext hE);clear hE hb A_360 Z_360;have C_361:=Hd (hB);clear hB;revert Z_361;revert C_361;revert A_361;revert LC;revert Cb;revert LA;revert Ab;revert v361;exact node_5.out
          intro v320 Ab LA Cb LC A_320 C_320 Z_320;refine rdT 5 λ KK hK=>?_;have k0:=Z_320.out.d.cell 2;simp only[xg,xh,xi] at k0;go_simp;refine oT hK ?_;clear hK KK k0;revert Z_320;revert C_320;revert A_320;revert LC;revert Cb;revert LA;revert Ab;revert v320;exact node_3.out
         intro v280 Cb LC C_280 Z_280;refine rdT 6 λ KK hK=>?_;go_simp;refine oT hK ?_;clear hK KK;refine zab (λ wz=>Ext v280 wz/\Bk wz v280.heap.size #[.int .i64 5]) ⟨(Ext.refl v280).alloc _,Bk.at rfl⟩ ?_;rintro v281 ⟨hE,hB⟩;obtain⟨Ab,hb⟩:=nmE (v280.heap.size);rw[hb] at hB;(try rw[hb]);have LA:=Hd (show wr.heap.size<=Ab from hb▸Z_280.out.sz);have C_281:=Hd (C_280.out.ext hE);have Z_281:=Hd (Z_280.out.ext hE);clear hE hb C_280 Z_280;have A_281:=Hd (hB);clear hB;revert Z_281;revert C_281;revert A_281;revert LC;revert Cb;revert LA;revert Ab;revert v281;exact node_3.out
        intro v240 Ab LA Cb LC A_240 C_240 Z_240;refine rdT2 7 11 (λ KK hK=>?_) λ KK hK=>?_
        ·obtain⟨y2,d2,v241,hr,hz,h3⟩:=Z_240.out.run2 A_240.out rfl (by omega);rw[qad (show _=true by kernel_rfl)];unfold Oper.wp execOp;simp only[resolve,invoke,builtin,qbu,qbM,qas,qbg,qaG,qa9,Act.eval,xa,xb,xc];simp only[qaO,xg,xh,xi,qbn,hr,qas,Oper.upon];refine oT hK ?_;clear hK KK hr;have Z_241:=Hd hz;have C_241:=Hd (C_240.out.grown Z_240.out.o2 (.inr (λ k e=>by have:=HO2L.out k e;have:=LC.out;omega)) h3);clear A_240 C_240 Z_240 hz h3;revert Z_241;revert C_241;revert LC;revert Cb;revert d2;revert y2;revert LA;revert Ab;revert v241;exact node_2.out
        have k0:=Z_240.out.d.cell 4;simp only[xg,xh,xi] at k0;go_simp;refine oT hK ?_;clear hK KK k0;revert Z_240;revert C_240;revert A_240;revert LC;revert Cb;revert LA;revert Ab;revert v240;exact node_3.out
       intro v200 Ab LA A_200 Z_200;refine rdT2 7 13 (λ KK hK=>?_) λ KK hK=>?_
       ·obtain⟨y2,d2,v201,hr,hz,h3⟩:=Z_200.out.run2 A_200.out rfl (by omega);rw[qad (show _=true by kernel_rfl)];unfold Oper.wp execOp;simp only[resolve,invoke,builtin,qbu,qbM,qas,qbg,qaG,qa9,Act.eval,xa,xb,xc];simp only[qaO,xg,xh,xi,qbn,hr,qas,Oper.upon];refine oT hK ?_;clear hK KK hr;have Z_201:=Hd hz;clear A_200 Z_200 hz h3;revert Z_201;revert d2;revert y2;revert LA;revert Ab;revert v201;exact node_1.out
       go_simp;refine oT hK ?_;clear hK KK;refine zab (λ wz=>Ext v200 wz/\Bk wz v200.heap.size #[.int .u32 (i:Int)]) ⟨(Ext.refl v200).alloc _,Bk.at rfl⟩ ?_;rintro v201 ⟨hE,hB⟩;obtain⟨Cb,hb⟩:=nmE (v200.heap.size);rw[hb] at hB;(try rw[hb]);have LC:=Hd (show wr.heap.size<=Cb from hb▸Z_200.out.sz);have A_201:=Hd (A_200.out.ext hE);have Z_201:=Hd (Z_200.out.ext hE);clear hE hb A_200 Z_200;have C_201:=Hd (hB);clear hB;revert Z_201;revert C_201;revert A_201;revert LC;revert Cb;revert LA;revert Ab;revert v201;exact node_3.out
      intro v160 Ab LA Cb LC A_160 C_160 Z_160;refine rdT 7 λ KK hK=>?_;obtain⟨y2,d2,v161,hr,hz,h3⟩:=Z_160.out.run2 A_160.out rfl (by omega);rw[qad (show _=true by kernel_rfl)];unfold Oper.wp execOp;simp only[resolve,invoke,builtin,qbu,qbM,qas,qbg,qaG,qa9,Act.eval,xa,xb,xc];simp only[qaO,xg,xh,xi,qbn,hr,qas,Oper.upon];refine oT hK ?_;clear hK KK hr;have Z_161:=Hd hz;have C_161:=Hd (C_160.out.grown Z_160.out.o2 (.inr (λ k e=>by have:=HO2L.out k e;have:=LC.out;omega)) h3);clear A_160 C_160 Z_160 hz h3;revert Z_161;revert C_161;revert LC;revert Cb;revert d2;revert y2;revert LA;revert Ab;revert v161;exact node_0.out
     intro v120 Ab LA y2 d2 Cb LC C_120 Z_120;refine rdT 11 λ KK hK=>?_;have k0:=Z_120.out.d.cell 4;simp only[xg,xh,xi] at k0;go_simp;refine oT hK ?_;clear hK KK k0;revert Z_120;revert C_120;revert LC;revert Cb;revert d2;revert y2;revert LA;revert Ab;revert v120;exact node_0.out
    intro v80 Ab LA y2 d2 Z_80;refine rdT 13 λ KK hK=>?_;go_simp;refine oT hK ?_;clear hK KK;refine zab (λ wz=>Ext v80 wz/\Bk wz v80.heap.size #[.int .u32 (i:Int)]) ⟨(Ext.refl v80).alloc _,Bk.at rfl⟩ ?_;rintro v81 ⟨hE,hB⟩;obtain⟨Cb,hb⟩:=nmE (v80.heap.size);rw[hb] at hB;(try rw[hb]);have LC:=Hd (show wr.heap.size<=Cb from hb▸Z_80.out.sz);have Z_81:=Hd (Z_80.out.ext hE);clear hE hb Z_80;have C_81:=Hd (hB);clear hB;revert Z_81;revert C_81;revert LC;revert Cb;revert d2;revert y2;revert LA;revert Ab;revert v81;exact node_0.out
   intro v40 Ab LA y2 d2 Cb LC C_40 Z_40;refine rdT 14 λ KK hK=>?_;obtain⟨y4,d4,v41,hr,hz,h3⟩:=Z_40.out.run4 C_40.out rfl (by omega);rw[qad (show _=true by kernel_rfl)];unfold Oper.wp execOp;simp only[resolve,invoke,builtin,qbu,qbM,qas,qbg,qaG,qa9,Act.eval,xa,xb,xc];simp only[qaO,xg,xh,xi,qbn,hr,qas,Oper.upon];refine oT hK ?_;clear hK KK hr;have Z_41:=Hd hz;clear C_40 Z_40 hz h3;refine tk2 15 16 ?_;refine rdT 17 λ KK hK=>?_;have k0:=Z_41.out.d.cell 2;have f0:=Z_41.out.d.frozen 2;simp only[xg,xh,xi] at k0;go_simp;refine oT hK ?_;clear hK KK k0 f0;refine zab (λ wz=>FX w4 wr wz B D Wb la lc cb _ _ _ _ _ _ _ _) (Z_41.out.st2 (.slice y2 (i+1) d2)) ?_;rintro v42 hz;have Z_42:=Hd hz;clear hz Z_41;refine tk2 18 19 ?_;refine rdT 20 λ KK hK=>?_;have k0:=Z_42.out.d.cell 4;have f0:=Z_42.out.d.frozen 4;simp only[xg,xh,xi] at k0;go_simp;refine oT hK ?_;clear hK KK k0 f0;refine zab (λ wz=>FX w4 wr wz B D Wb la lc cb _ _ _ _ _ _ _ _) (Z_42.out.st4 (.slice y4 (i+1) d4)) ?_;rintro v43 hz;have Z_43:=Hd hz;clear hz Z_42;refine dnT ?_;go_wp2_with fail;refine⟨⟨i+1,rfl,by omega,Hd (zqd Z_43.out.k Z_43.out.d Z_43.out.o2 Z_43.out.o4)⟩,by simp[intOf];omega⟩
  have t0:=dF (p:=(i:Int)<32);obtain rfl:i=32:=by omega
  have hF:=HF.out;obtain⟨da,dc,ea,ec,hDF,hd1,hd2,he1,he2⟩:=hF.df HBe.out HL4.out HLD.out HC4.out HCD.out (by have:=zqK HC4.out (by decide);have:=HBe.out;omega);have hX:Keeps (λ k=>k=D) w4 wr:=by obtain⟨_,_,_,_,hX,_⟩:=hF;exact hX
  have hW:=ziu (HW4.out.keeps hX (show ¬ Wb=D by have:=HWD.out;omega));have hBW:B<=wr.heap.size:=by have:=hX.size;have:=HBe.out;omega
  have HXr:=Hd (show Ext w wr from Below.trans HX4.out (hX.below (B:=w.heap.size) HX4.out.size (λ k hk e=>by have e:k=D:=e;have:=HWb.out;have:=HWD.out;omega)));have HDF:=Hd hDF;have HW:=Hd hW;have HDA:=Hd (qaB hd1 he1);have HBW:=Hd hBW;have k0:=hDF.c0;clear hF hd1 hd2 he1 he2 hX hW hBW hDF HF HX4 HL4 HW4 HC4 HD4;go_wp2_with fail;refine (zbu Wb 3 3 _ [] wr HW.out (by decide) (by decide) (by decide)).mono ?_;rintro e w5 ⟨rfl,u1,hW5,hS5⟩;have hkeep:∀w6,Keeps (λ k=>k=Wb\/u1.ownBlock=some k) w5 w6->Keeps (λ k=>k=Wb) wr w6:=λ w6 h6=>by
   refine Keeps.trans (hS5.keeps.mono (S':=λ k=>k=Wb) (λ k _ q=>?_)) h6 (λ k hk q=>?_)
   ·rcases q with q | q
    ·exact q
    simp[Value.ownBlock] at q
   rcases q with q | q
   ·exact q
   rcases hS5.new k q with q | q
   ·simp[Value.ownBlock] at q
   omega
  have hext:∀w6,Keeps (λ k=>k=Wb) wr w6->Ext w w6:=λ w6 h6=>Below.trans HXr.out (h6.below (B:=w.heap.size) HXr.out.size (λ k hk e=>by have e:k=Wb:=e;have:=HWb.out;omega));have hbase:∀w6,Keeps (λ k=>k=Wb\/u1.ownBlock=some k) w5 w6->Base w6 D Wb la da ⟨cb,0,none⟩ ea 288 lc 32 dc 288 ec Inf.fixF Inf.fiveF x n tk:=λ w6 h6=>by
   have h7:=hkeep w6 h6;have hq:=HWD.out;have:=HLD.out;have:=HCD.out;have:=HDA.out;have:=HDB.out;have:=HLW.out;exact⟨HDF.out.keeps h7 (show ¬ D=Wb by omega) (show ¬ la.block=Wb by omega) (show ¬ da.block=Wb by omega) (show ¬ cb=Wb by omega) (show ¬ ea.block=Wb by omega),HT.out.ext (hext w6 h7),HTb.out.ext (hext w6 h7)⟩
  have HK:=Hd hkeep;have HE:=Hd hext;have HBs:=Hd hbase;have HW5:=Hd hW5;clear hkeep hext hbase hS5 hW5 k0;go_wp2_with fail;refine (zd0 D Wb la da ⟨cb,0,none⟩ ea 288 lc 32 dc 288 ec Inf.fixF Inf.fiveF x n cap tk u1 _ w5 HBs.out HW5.out Inf.zbr.2 Inf.zcs.2 (by decide) (by decide) (by decide) (by decide) (λ k hk=>by have:=Inf.zbr.1.2 k hk;omega) (λ k hk=>by have:=Inf.zcs.1.2 k hk;omega) hn (by decide) HOK.out).mono ?_;rintro e w6 ⟨rfl,u2,hW6,hS6⟩;have k0:=(HBs.out w6 hS6.keeps).df.c0;have HE6:=Hd (HE.out w6 (HK.out w6 hS6.keeps));have HW6:=Hd hW6;clear hW6 hS6;go_wp2_with fail;refine (zdP Wb 0 _ _ u2 w6 HW6.out).mono ?_;rintro e w7 ⟨⟨l,hl1,hl2,rfl⟩,rfl⟩;have HQ:=Hd (qaB hl1 hl2);clear hl1 hl2;go_wp2_with fail;go_ret;exact⟨⟨l,HQ.out.1,HQ.out.2,by first | rfl | trivial⟩,HE6.out⟩
