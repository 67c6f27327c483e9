/-
  deflate.dynamic: what its writing rests on.
  deflate.dynamic walked.
  match.Expand.
  Tokens that mean something are not too many, and each is right.
  deflate.Dynamic.
-/
import Derived.Test.YthlibiocadimhaaGreatDoorPngTwiceG1
import Derived.Test.YthlibiocadimhaaGreatDoorPngTwiceG12
import Derived.Test.YthlibiocadimhaaGreatDoorPngTwiceG5
import Derived.Test.YthlibiocadimhaaGreatDoorPngTwiceG3
import Derived.RegionTactic
import Derived.Test.YthlibiocadimhaaGreatDoorPngTwiceG7
set_option linter.unusedSimpArgs false
set_option linter.unusedVariables false
set_option maxRecDepth 100000
namespace Go.Proofs.YthlibiocadimhaaGreatDoor
open Go.RowKit
/-- what the writing of a dynamic block rests on -/
structure DW (w wP:World) (B D Wb la da cb eb gr sb kb:Nat) (f g h:Nat→Int) (rs:List Dfl.Rn):Prop where
 z:DB w wP B D Wb la da cb eb f g
 r:Rnc wP gr rs
 s:Ints wP (some ⟨sb,0,none⟩) 19 h
 k:Cs wP kb 19 .u32 (fun i=>(word h 19 i:Int))
 hr:B≤gr
 hs:B≤sb
 hk:B≤kb
theorem DW.old {w wP z:World} {B D Wb la da cb eb gr sb kb:Nat} {f g h:Nat→Int} {rs:List Dfl.Rn} (H:DW w wP B D Wb la da cb eb gr sb kb f g h rs) (hk:Keeps (fun k=>k=Wb) wP z):Ext w z:=
 Below.trans H.z.a.old (hk.below (B:=w.heap.size) H.z.a.old.size (fun k hk q=>by have q:k=Wb:=q;have:=H.z.a.hw;omega))
theorem DW.df {w wP z:World} {B D Wb la da cb eb gr sb kb:Nat} {f g h:Nat→Int} {rs:List Dfl.Rn} (H:DW w wP B D Wb la da cb eb gr sb kb f g h rs) (hk:Keeps (fun k=>k=Wb) wP z):DF z D Wb ⟨la,0,none⟩ ⟨da,0,none⟩ ⟨cb,0,none⟩ ⟨eb,0,none⟩ 286 286 30 30 286 30 f g:=
 H.z.a.df.keeps hk H.z.a.n1 H.z.a.n2 H.z.a.n3 H.z.a.n4 H.z.a.n5
theorem DW.runs {w wP z:World} {B D Wb la da cb eb gr sb kb:Nat} {f g h:Nat→Int} {rs:List Dfl.Rn} (H:DW w wP B D Wb la da cb eb gr sb kb f g h rs) (hk:Keeps (fun k=>k=Wb) wP z):Rnc z gr rs:=
 H.r.keeps hk (fun q=>by have q:gr=Wb:=q;have:=H.hr;have:=H.z.lt.2.2.2.2.2;omega)
theorem DW.lens {w wP z:World} {B D Wb la da cb eb gr sb kb:Nat} {f g h:Nat→Int} {rs:List Dfl.Rn} (H:DW w wP B D Wb la da cb eb gr sb kb f g h rs) (hk:Keeps (fun k=>k=Wb) wP z):Ints z (some ⟨sb,0,none⟩) 19 h:=
 H.s.on hk (fun a ha q=>by injection ha with ha;subst ha;have q:sb=Wb:=q;have:=H.hs;have:=H.z.lt.2.2.2.2.2;omega)
theorem DW.words {w wP z:World} {B D Wb la da cb eb gr sb kb:Nat} {f g h:Nat→Int} {rs:List Dfl.Rn} (H:DW w wP B D Wb la da cb eb gr sb kb f g h rs) (hk:Keeps (fun k=>k=Wb) wP z):Cs z kb 19 .u32 (fun i=>(word h 19 i:Int)):=
 H.k.keeps hk (fun q=>by have q:kb=Wb:=q;have:=H.hk;have:=H.z.lt.2.2.2.2.2;omega)
/-- bits that are being written -/
structure WS (wP z:World) (Wb:Nat) (u:Value) (L:List Bool):Prop where
 wb:WB z Wb u L
 st:WStep wP z Wb 0 (.slice none 0 0) u
theorem WS.keeps {wP z:World} {Wb:Nat} {u:Value} {L:List Bool} (h:WS wP z Wb u L):Keeps (fun k=>k=Wb) wP z:=
 h.st.keeps.mono (fun k _ q=>by
  rcases q with q | q
  ·exact q
  ·simp[Value.ownBlock] at q)
theorem WS.more {wP z z':World} {Wb:Nat} {u:Value} {L:List Bool} (h:WS wP z Wb u L) (h6:Keeps (fun k=>k=Wb∨u.ownBlock=some k) z z'):Keeps (fun k=>k=Wb) wP z':=
 h.keeps.trans h6 (fun k hk q=>by
  rcases q with q | q
  ·exact q
  ·rcases h.st.new k q with q | q
   ·simp[Value.ownBlock] at q
   ·omega)
theorem WS.start {wP:World} {Wb:Nat} (h:Bk wP Wb #[.slice none 0 0,.int .i64 0]):WS wP wP Wb (.slice none 0 0) []:=⟨wb_start h,WStep.refl _ _ _ _⟩
theorem WS.step {wP z z':World} {Wb:Nat} {u u':Value} {L L':List Bool} (h:WS wP z Wb u L) (hW:WB z' Wb u' L') (hS:WStep z z' Wb 0 u u'):WS wP z' Wb u' L':=⟨hW,h.st.trans hS⟩
theorem WS.lt {wP z:World} {Wb:Nat} {u:Value} {L:List Bool} (h:WS wP z Wb u L):Wb<z.heap.size:=World.block_lt_of_cell? z _ h.wb.c0
theorem WS.ext {wP z z':World} {Wb:Nat} {u:Value} {L:List Bool} (h:WS wP z Wb u L) (hE:Ext z z'):WS wP z' Wb u L:=⟨h.wb.ext hE,h.st.ext hE h.lt⟩
theorem WS.drew {wP z:World} {Wb:Nat} {u:Value} {L:List Bool} (h:WS wP z Wb u L):WS wP z.drew Wb u L:=⟨h.wb.drew,h.st.redrew⟩
theorem WS.undrew {wP z z':World} {Wb:Nat} {u u':Value} {L L':List Bool} (h:WS wP z Wb u L) (hW:WB z' Wb u' L') (hS:WStep z.drew z' Wb 0 u u'):WS wP z' Wb u' L':=⟨hW,h.st.trans hS.undrew⟩
/-- a box of the call's own beside the bits -/
structure WX (wP z:World) (Wb T:Nat) (u:Value) (L:List Bool) (cs:Array Value):Prop where
 ws:WS wP z Wb u L
 bk:Bk z T cs
 o1:u.ownBlock≠some T
 o2:T≠Wb
theorem WX.new {wP z:World} {Wb:Nat} {u:Value} {L:List Bool} (h:WS wP z Wb u L) (cs:Array Value) (ty:TypeId):WX wP (z.alloc (.cells cs ty)) Wb z.heap.size u L cs:=by
 have hb:=h.lt;refine⟨h.ext ((Ext.refl _).alloc _),Bk.at rfl,?_,fun e=>by omega⟩;intro e;obtain⟨l,_,_,h3⟩:=h.wb.row;exact Nat.lt_irrefl _ (ownsRow_lt h3 e)
theorem WX.drew {wP z:World} {Wb T:Nat} {u:Value} {L:List Bool} {cs:Array Value} (h:WX wP z Wb T u L cs):WX wP z.drew Wb T u L cs:=⟨h.ws.drew,h.bk.drew,h.o1,h.o2⟩
theorem WX.step {wP z z':World} {Wb T:Nat} {u u':Value} {L L':List Bool} {cs:Array Value} (h:WX wP z Wb T u L cs) (hW:WB z' Wb u' L') (hS:WStep z z' Wb 0 u u'):WX wP z' Wb T u' L' cs:=by
 refine⟨h.ws.step hW hS,h.bk.keeps hS.keeps (by rintro (e | e);exact h.o2 e;exact h.o1 e),fun e=>?_,h.o2⟩;rcases hS.new T e with q | q
 ·exact h.o1 q
 ·have:=h.bk.lt;omega
/-- a text of a dynamic block -/
def DynT (ts:List Tk) (e:Ending):Prop:=∃(many far few:Nat) (rs:List Dfl.Rn) (l:List UInt8),Dfl.DynOk ts many far few rs∧l.length=((Dfl.dynB ts many far few rs).length+7)/8∧Crc.num l=Bts.val (Dfl.dynB ts many far few rs)∧e=.returned (.string ⟨l.toArray⟩)
set_option maxHeartbeats 16000000 in
theorem dynamic_any (x:Option Addr) (n cap:Nat) (tk:Nat→Tk) (w:World) (hT:Toks w x n tk) (hTb:Tabs w) (EB ES:Value) (hB:w.cell? ⟨2,0,none⟩=some EB) (hS:w.cell? ⟨0,0,none⟩=some ES) (hn:n≤310000)
  (hok:∀i,i<n→(tk i).l=0∨(3≤(tk i).l∧(tk i).l≤258∧1≤(tk i).d∧(tk i).d≤32768)):
  Calls Tryz.prog 89 #[.slice x n cap] w fun e w'=>DynT ((List.range n).map tk) e∧Ext w w':=by
 have HT:=Hd hT;have HTb:=Hd hTb;have HB:=Hd hB;have HS:=Hd hS;have HOK:=Hd hok;clear hT hTb hB hS hok;go_enter Tryz.func89,Tryz.ntmps89
 go_wp2_with fail;refine (counts_any x n cap tk w HT.out HTb.out hn HOK.out).mono ?_;rintro e w1 ⟨g1,g2,rfl,hC⟩;obtain⟨ts,hts⟩:∃ts,(List.range n).map tk=ts:=⟨_,rfl⟩;have HTS:=Hd hts;have htl:ts.length=n:=by rw[← hts];simp
 rw[hts] at hC;have HC1:=Hd hC;have HCS:=Hd (show ∀k,Dfl.cntS ts k≤310001 from fun k=>by have:=Dfl.cntS_le ts k;omega);have HCD:=Hd (show ∀k,Dfl.cntD ts k≤310001 from fun k=>by have:=Dfl.cntD_le ts k;omega);clear hC hts htl;go_wp2_with fail;refine calls_world (fun wz=>Ext w1 wz∧Bk wz w1.heap.size #[.slice none 0 0,.int .i64 0]∧Bk wz (w1.heap.size+1) #[.pointer (some ⟨w1.heap.size,0,none⟩),.slice none 0 0,.slice none 0 0,.slice none 0 0,.slice none 0 0]) ⟨((Ext.refl _).alloc _).alloc _,(Bk.at rfl).old,Bk.at (by simp)⟩ ?_;rintro w2 ⟨hX,hW,hD⟩;obtain⟨Wb,hWb⟩:∃Wb,w1.heap.size=Wb:=⟨_,rfl⟩;rw[hWb] at hW hD;rw[hWb];obtain⟨D,hDe⟩:∃D,Wb+1=D:=⟨_,rfl⟩;rw[hDe] at hD;rw[hDe];have HW2:=Hd hW;have HD2:=Hd hD;have HC2:=Hd (HC1.out.grow hX);have HWD:=Hd (show Wb<D∧w.heap.size≤Wb∧g1<Wb∧g2<Wb from⟨by omega,by have:=HC1.out.ext.size;omega,by have:=HC1.out.l1;omega,by have:=HC1.out.l2;omega⟩);clear hX hW hD hWb hDe HC1;refine (lengths_good (some ⟨g1,0,none⟩) 286 286 (fun k=>((Dfl.cntS ts k:Nat):Int)) 15 w2 (ints_cs HC2.out.c1 (fun k _=>by have:=HCS.out k;omega)) ES ((HC2.out.ext.cell (World.block_lt_of_cell? w _ HS.out)).trans HS.out) (lenGood_cnt (by decide) (by decide) (by decide) (fun k=>by have:=HCS.out k;omega))).mono ?_;rintro e w3 ⟨hX,hr⟩;rcases hr with⟨hbad,_⟩ | ⟨_,la,rfl,hI,hge⟩
 ·have:=used_len (cntN fun k=>((Dfl.cntS ts k:Nat):Int)) 286;omega
 have HC3:=Hd (HC2.out.grow hX);have HW3:=Hd (HW2.out.ext hX);have HD3:=Hd (HD2.out.ext hX);have HL3:=Hd (show Ints w3 (some ⟨la,0,none⟩) 286 (lnS ts) from hI);have HLA:=Hd (show D<la from by have:=HD2.out.lt;omega);clear hX hI hge HC2 HW2 HD2;have k0:=HD3.out.cell 1;have f0:=HD3.out.frozen 1;simp only[xg,xh,xi] at k0;go_wp2_with fail;refine calls_world (fun wz=>Ints wz (some ⟨la,0,none⟩) 286 (lnS ts)∧CG w wz g1 g2 (Dfl.cntS ts) (Dfl.cntD ts)∧Bk wz Wb #[.slice none 0 0,.int .i64 0]∧Bk wz D #[.pointer (some ⟨Wb,0,none⟩),.slice (some ⟨la,0,none⟩) 286 286,.slice none 0 0,.slice none 0 0,.slice none 0 0]) ?_ ?_
 ·have h1:=HWD.out;have h2:=HLA.out;exact⟨HL3.out.far ⟨D,1,none⟩ (show la≠D by omega) _,HC3.out.far ⟨D,1,none⟩ (show w.heap.size≤D by omega) (show D≠g1 by omega) (show D≠g2 by omega) _,HW3.out.far (p:=⟨D,1,none⟩) (show Wb≠D by omega) _,by simpa using HD3.out.set_ 1 (.slice (some ⟨la,0,none⟩) 286 286)⟩
 rintro w4 ⟨h1,h2,h3,h4⟩;clear HL3 HC3 HW3 HD3 k0 f0;have HL4:=Hd h1;have HC4:=Hd h2;have HW4:=Hd h3;have HD4:=Hd h4;clear h1 h2 h3 h4;refine (lengths_good (some ⟨g2,0,none⟩) 30 30 (fun k=>((Dfl.cntD ts k:Nat):Int)) 15 w4 (ints_cs HC4.out.c2 (fun k _=>by have:=HCD.out k;omega)) ES ((HC4.out.ext.cell (World.block_lt_of_cell? w _ HS.out)).trans HS.out) (lenGood_cnt (by decide) (by decide) (by decide) (fun k=>by have:=HCD.out k;omega))).mono ?_;rintro e w5 ⟨hX,hr⟩;rcases hr with⟨hbad,_⟩ | ⟨_,da,rfl,hI,hge⟩
 ·have:=used_len (cntN fun k=>((Dfl.cntD ts k:Nat):Int)) 30;omega
 have HX5:=Hd (HC4.out.ext.trans hX);have HW5:=Hd (HW4.out.ext hX);have HD5:=Hd (HD4.out.ext hX);have HL5:=Hd (HL4.out.ext hX);have HM5:=Hd (show Ints w5 (some ⟨da,0,none⟩) 30 (lnD ts) from hI);have HDA:=Hd (show D<da from by have:=HD4.out.lt;omega);have HGS:=Hd (lnS_good (ts:=ts));have HGD:=Hd (lnD_good (ts:=ts));clear hX hI hge HC4 HW4 HD4 HL4;have k0:=HD5.out.cell 2;have f0:=HD5.out.frozen 2;simp only[xg,xh,xi] at k0;go_upto_region 5 with fail;refine wp_world (fun wz=>Ext w wz∧Ints wz (some ⟨la,0,none⟩) 286 (lnS ts)∧Ints wz (some ⟨da,0,none⟩) 30 (lnD ts)∧Bk wz Wb #[.slice none 0 0,.int .i64 0]∧Bk wz D #[.pointer (some ⟨Wb,0,none⟩),.slice (some ⟨la,0,none⟩) 286 286,.slice (some ⟨da,0,none⟩) 30 30,.slice none 0 0,.slice none 0 0]) ?_ ?_
 ·have h1:=HWD.out;have h2:=HLA.out;have h3:=HDA.out;exact⟨Below.setCell HX5.out (show w.heap.size≤D by omega) _,HL5.out.far ⟨D,2,none⟩ (show la≠D by omega) _,HM5.out.far ⟨D,2,none⟩ (show da≠D by omega) _,HW5.out.far (p:=⟨D,2,none⟩) (show Wb≠D by omega) _,by simpa using HD5.out.set_ 2 (.slice (some ⟨da,0,none⟩) 30 30)⟩
 rintro w6 ⟨h1,h2,h3,h4,h5⟩;clear HX5 HL5 HM5 HW5 HD5 k0 f0;have HX6:=Hd h1;have HL6:=Hd h2;have HM6:=Hd h3;have HW6:=Hd h4;have HD6:=Hd h5;clear h1 h2 h3 h4 h5;have k0:=HD6.out.cell 1;simp only[xg,xh,xi] at k0;go_wp2_with fail;refine (codes_good (some ⟨la,0,none⟩) 286 286 (lnS ts) w6 HL6.out (by decide) HGS.out.2.1 HGS.out.2.2 EB ES ((HX6.out.cell (World.block_lt_of_cell? w _ HB.out)).trans HB.out) ((HX6.out.cell (World.block_lt_of_cell? w _ HS.out)).trans HS.out)).mono ?_;rintro e w7 ⟨hX,cb,hcb,rfl,hC⟩;have HX7:=Hd (HX6.out.trans hX);have HW7:=Hd (HW6.out.ext hX);have HD7:=Hd (HD6.out.ext hX);have HL7:=Hd (HL6.out.ext hX);have HM7:=Hd (HM6.out.ext hX);have HC7:=Hd hC;have HCB:=Hd (show D<cb from by have:=HD6.out.lt;omega);clear hX hC hcb HX6 HW6 HD6 HL6 HM6 k0;have k0:=HD7.out.cell 3;have f0:=HD7.out.frozen 3;simp only[xg,xh,xi] at k0;go_upto_region 6 with fail;refine wp_world (fun wz=>Ext w wz∧Ints wz (some ⟨la,0,none⟩) 286 (lnS ts)∧Ints wz (some ⟨da,0,none⟩) 30 (lnD ts)∧Bk wz Wb #[.slice none 0 0,.int .i64 0]∧Bk wz D #[.pointer (some ⟨Wb,0,none⟩),.slice (some ⟨la,0,none⟩) 286 286,.slice (some ⟨da,0,none⟩) 30 30,.slice (some ⟨cb,0,none⟩) 286 286,.slice none 0 0]∧Cs wz cb 286 .u32 (fun i=>(word (lnS ts) 286 i:Int))) ?_ ?_
 ·have h1:=HWD.out;have h2:=HLA.out;have h3:=HDA.out;have h4:=HCB.out;exact⟨Below.setCell HX7.out (show w.heap.size≤D by omega) _,HL7.out.far ⟨D,3,none⟩ (show la≠D by omega) _,HM7.out.far ⟨D,3,none⟩ (show da≠D by omega) _,HW7.out.far (p:=⟨D,3,none⟩) (show Wb≠D by omega) _,by simpa using HD7.out.set_ 3 (.slice (some ⟨cb,0,none⟩) 286 286),HC7.out.other ⟨D,3,none⟩ _ (show D≠cb by omega)⟩
 rintro w8 ⟨h1,h2,h3,h4,h5,h6⟩;clear HX7 HL7 HM7 HW7 HD7 HC7 k0 f0;have HX8:=Hd h1;have HL8:=Hd h2;have HM8:=Hd h3;have HW8:=Hd h4;have HD8:=Hd h5;have HC8:=Hd h6;clear h1 h2 h3 h4 h5 h6;have k0:=HD8.out.cell 2;simp only[xg,xh,xi] at k0;go_wp2_with fail;refine (codes_good (some ⟨da,0,none⟩) 30 30 (lnD ts) w8 HM8.out (by decide) HGD.out.2.1 HGD.out.2.2 EB ES ((HX8.out.cell (World.block_lt_of_cell? w _ HB.out)).trans HB.out) ((HX8.out.cell (World.block_lt_of_cell? w _ HS.out)).trans HS.out)).mono ?_;rintro e w9 ⟨hX,eb,heb,rfl,hC⟩;have HX9:=Hd (HX8.out.trans hX);have HW9:=Hd (HW8.out.ext hX);have HD9:=Hd (HD8.out.ext hX);have HL9:=Hd (HL8.out.ext hX);have HM9:=Hd (HM8.out.ext hX);have HC9:=Hd (HC8.out.ext hX);have HE9:=Hd hC;have HEB:=Hd (show D<eb from by have:=HD8.out.lt;omega);clear hX hC heb HX8 HW8 HD8 HL8 HM8 HC8 k0;have k0:=HD9.out.cell 4;have f0:=HD9.out.frozen 4;simp only[xg,xh,xi] at k0;go_upto_block 0 with fail;refine wp_world (fun wz=>DA w wz D Wb la da cb eb (lnS ts) (lnD ts)) ?_ ?_
 ·have h1:=HWD.out;have h2:=HLA.out;have h3:=HDA.out;have h4:=HCB.out;have h5:=HEB.out;have hD:=HD9.out.set_ 4 (.slice (some ⟨eb,0,none⟩) 30 30);exact⟨Below.setCell HX9.out (show w.heap.size≤D by omega) _,⟨hD.cell 0,hD.cell 1,hD.cell 2,hD.cell 3,hD.cell 4,HL9.out.far ⟨D,4,none⟩ (show la≠D by omega) _,HM9.out.far ⟨D,4,none⟩ (show da≠D by omega) _,u32s_cs (HC9.out.other ⟨D,4,none⟩ _ (show D≠cb by omega)),u32s_cs (HE9.out.other ⟨D,4,none⟩ _ (show D≠eb by omega))⟩,HW9.out.far (p:=⟨D,4,none⟩) (show Wb≠D by omega) _,h1.2.1,by omega,by omega,by omega,by omega,by omega⟩
 rintro wA hDA;clear HX9 HL9 HM9 HW9 HD9 HC9 HE9 k0 f0 HWD HLA HDA HCB HEB HCS HCD;have HDA:=Hd hDA;clear hDA;go_cut [6] (fun sx wx=>∃m:Nat,sx=.int .i64 (m:Int)∧257≤m∧m≤286∧Hid (∀j,m≤j→j<286→lnS ts j=0)∧Hid (DA w wx D Wb la da cb eb (lnS ts) (lnD ts)))
 case first=>
  go_wp2_with fail;go_loopw [6] (fun sx wx=>∃m:Nat,sx=.int .i64 (m:Int)∧257≤m∧m≤286∧Hid (∀j,m≤j→j<286→lnS ts j=0)∧Hid (DA w wx D Wb la da cb eb (lnS ts) (lnD ts))) (fun sx _=>(intOf sx).toNat)
  case atStart=>exact⟨286,rfl,by omega,by omega,Hd (fun j h1 h2=>by omega),HDA⟩
  case round=>
   clear HDA;obtain⟨m,rfl,hm1,hm2,HZ,HDA⟩:=hrel;by_cases hlo:257<m
   ·have t0:decide ((257:Int)<(m:Int))=true:=decide_eq_true (by omega);obtain⟨m1,hm'⟩:∃m1,m-1=m1:=⟨_,rfl⟩;have em:(m:Int)-1=(m1:Int):=by omega
    have wm:IntKind.i64.wrap (m1:Int)=(m1:Int):=by rw[IntKind.wrap_i64];omega
    have hmi:(m1:Int)<286:=by omega
    have hmj:(0:Int)≤(m1:Int):=by omega
    obtain⟨y,hy⟩:∃y,lnS ts m1=y:=⟨_,rfl⟩;have k1:=HDA.out.df.c1;have kc:wr.cell? ⟨la,m1,none⟩=some (.int .i64 y):=by
     have q:=(HDA.out.df.li.2 _ rfl m1 (by omega)).1;rw[add_plain,hy] at q;exact q
    have HY:=Hd hy;have HM1:=Hd hm';clear hy hm';by_cases hy0:y=0
    ·have t2:(y ==0)=true:=beq_iff_eq.2 hy0;have HZ2:Hid (∀j,m1≤j→j<286→lnS ts j=0):=Hd (fun j h1 h2=>by
      rcases Nat.eq_or_lt_of_le h1 with q | q
      ·rw[← q,HY.out];exact hy0
      ·exact HZ.out j (by have:=HM1.out;omega) h2)
     clear hy0;go_wp2_with fail;refine⟨⟨m1,rfl,by have:=HM1.out;omega,by omega,HZ2,HDA⟩,by have:=HM1.out;simp[intOf];omega⟩
    ·have t2:(y ==0)=false:=beq_eq_false_iff_ne.2 hy0;clear hy0;go_wp2_with fail;go_meet
     exact⟨m,rfl,hm1,hm2,HZ,HDA⟩
   ·have t0:decide ((257:Int)<(m:Int))=false:=decide_eq_false (by omega);go_wp2_with fail;go_meet
    exact⟨m,rfl,hm1,hm2,HZ,HDA⟩
 case rest=>
 clear HDA;obtain⟨many,rfl,hmany1,hmany2,HZmany,HDA⟩:=hcut;go_upto_block 2 with fail;go_cut [7] (fun sx wx=>∃m:Nat,sx=.int .i64 (m:Int)∧1≤m∧m≤30∧Hid (∀j,m≤j→j<30→lnD ts j=0)∧Hid (DA w wx D Wb la da cb eb (lnS ts) (lnD ts)))
 case first=>
  go_wp2_with fail;go_loopw [7] (fun sx wx=>∃m:Nat,sx=.int .i64 (m:Int)∧1≤m∧m≤30∧Hid (∀j,m≤j→j<30→lnD ts j=0)∧Hid (DA w wx D Wb la da cb eb (lnS ts) (lnD ts))) (fun sx _=>(intOf sx).toNat)
  case atStart=>exact⟨30,rfl,by omega,by omega,Hd (fun j h1 h2=>by omega),HDA⟩
  case round=>
   clear HDA;obtain⟨m,rfl,hm1,hm2,HZ,HDA⟩:=hrel;by_cases hlo:1<m
   ·have t0:decide ((1:Int)<(m:Int))=true:=decide_eq_true (by omega);obtain⟨m1,hm'⟩:∃m1,m-1=m1:=⟨_,rfl⟩;have em:(m:Int)-1=(m1:Int):=by omega
    have wm:IntKind.i64.wrap (m1:Int)=(m1:Int):=by rw[IntKind.wrap_i64];omega
    have hmi:(m1:Int)<30:=by omega
    have hmj:(0:Int)≤(m1:Int):=by omega
    obtain⟨y,hy⟩:∃y,lnD ts m1=y:=⟨_,rfl⟩;have k1:=HDA.out.df.c2;have kc:wr.cell? ⟨da,m1,none⟩=some (.int .i64 y):=by
     have q:=(HDA.out.df.di.2 _ rfl m1 (by omega)).1;rw[add_plain,hy] at q;exact q
    have HY:=Hd hy;have HM1:=Hd hm';clear hy hm';by_cases hy0:y=0
    ·have t2:(y ==0)=true:=beq_iff_eq.2 hy0;have HZ2:Hid (∀j,m1≤j→j<30→lnD ts j=0):=Hd (fun j h1 h2=>by
      rcases Nat.eq_or_lt_of_le h1 with q | q
      ·rw[← q,HY.out];exact hy0
      ·exact HZ.out j (by have:=HM1.out;omega) h2)
     clear hy0;go_wp2_with fail;refine⟨⟨m1,rfl,by have:=HM1.out;omega,by omega,HZ2,HDA⟩,by have:=HM1.out;simp[intOf];omega⟩
    ·have t2:(y ==0)=false:=beq_eq_false_iff_ne.2 hy0;clear hy0;go_wp2_with fail;go_meet
     exact⟨m,rfl,hm1,hm2,HZ,HDA⟩
   ·have t0:decide ((1:Int)<(m:Int))=false:=decide_eq_false (by omega);go_wp2_with fail;go_meet
    exact⟨m,rfl,hm1,hm2,HZ,HDA⟩
 case rest=>
 clear HDA;obtain⟨far,rfl,hfar1,hfar2,HZfar,HDA⟩:=hcut;go_wp2_with fail;obtain⟨B,hBe⟩:∃B,wc.heap.size=B:=⟨_,rfl⟩;have Z_0:=Hd (hBe▸DB.start HDA.out);have hmi:(many:Int)≤286:=by omega
 have hmj:(0:Int)≤(many:Int):=by omega
 have hfi:(far:Int)≤30:=by omega
 have hfj:(0:Int)≤(far:Int):=by omega
 clear hBe HDA;refine wp_region_held_drew (S:=fun w'=>w'.cell? ⟨D,1,none⟩=some (.slice (some ⟨la,0,none⟩) 286 286)∧w'.cell? ⟨D,2,none⟩=some (.slice (some ⟨da,0,none⟩) 30 30)) (by kernel_rfl) ⟨Z_0.out.a.df.c1,Z_0.out.a.df.c2⟩ (fun hHeld=>?_);clear hHeld;refine anyH_world (fun wz=>Ext wc wz) (show Ext wc wc.drew from Below.drew (Ext.refl wc)) ?_;rintro z1 h;have Z_1:=Hd (Z_0.out.ext h);clear h Z_0;have hHeld:z1.cell? ⟨D,1,none⟩=some (.slice (some ⟨la,0,none⟩) 286 286)∧z1.cell? ⟨D,2,none⟩=some (.slice (some ⟨da,0,none⟩) 30 30):=⟨Z_1.out.a.df.c1,Z_1.out.a.df.c2⟩;refine tkH 0 rfl hHeld ?_;(try simp only[Act.put,xz]);refine tkH 1 rfl hHeld ?_;(try simp only[Act.put,xz]);refine tkH 2 rfl hHeld ?_;(try simp only[Act.put,xz]);refine tkH 3 rfl hHeld ?_;(try simp only[Act.put,xz]);refine tkH 4 rfl hHeld ?_;(try simp only[Act.put,xz]);refine tkH 5 rfl hHeld ?_;(try simp only[Act.put,xz]);refine tkH 7 rfl hHeld ?_;(try simp only[Act.put,xz]);refine tkH 8 rfl hHeld ?_;(try simp only[Act.put,xz]);refine tkH 9 rfl hHeld ?_;(try simp only[Act.put,xz]);refine tkH 10 rfl hHeld ?_;(try simp only[Act.put,xz]);refine tkH 11 rfl hHeld ?_;(try simp only[Act.put,xz]);refine tkH 12 rfl hHeld ?_;(try simp only[Act.put,xz]);refine rdH 6 rfl fun KK hK=>?_;clear hHeld;obtain⟨y1,z2,hr,hrow,hz⟩:=Z_1.out.app (show OwnR z1 B 3 (.slice none 0 0) 0 [] from World.ownsRow_nil _ _ _ _) (c:=286) Z_1.out.a.df.li (m:=many) hmany2 (by omega)
 simp only[Nat.zero_add,List.nil_append] at hrow;have Z_2:=Hd hz;have R_2:=Hd hrow;rw[if_pos (show _=true by kernel_rfl)];unfold Oper.wp execOp;simp only[resolve,invoke,builtin,Sem.run_bind,Sem.run_pure,Result.andThen_ok,List.map_toArray,List.map_cons,List.map_nil,Act.eval,xa,xb,xc];simp only[Array.getD_eq_getD_getElem?,xg,xh,xi,Option.getD_some,hr,Result.andThen_ok,Oper.upon];clear hz hrow Z_1;refine hK.out _ _ ⟨Z_2.out.a.df.c1,Z_2.out.a.df.c2⟩ (fun hHeld=>?_);clear hK KK hr;(try simp only[Act.put,xz]);refine rdH 13 rfl fun KK hK=>?_;clear hHeld;obtain⟨y2,z3,hr,hrow,hz⟩:=Z_2.out.app R_2.out (c:=30) Z_2.out.a.df.di (m:=far) hfar2 (by omega);obtain⟨x2,c2,rfl⟩:=own_lit hrow;have Z_3:=Hd hz;have R_3:=Hd (row_ints hrow (by omega) (fun j hj=>HGS.out.2.1.2 j (by omega)) (fun j hj=>HGD.out.2.1.2 j (by omega)));rw[if_pos (show _=true by kernel_rfl)];unfold Oper.wp execOp;simp only[resolve,invoke,builtin,Sem.run_bind,Sem.run_pure,Result.andThen_ok,List.map_toArray,List.map_cons,List.map_nil,Act.eval,xa,xb,xc];simp only[Array.getD_eq_getD_getElem?,xg,xh,xi,Option.getD_some,hr,Result.andThen_ok,Oper.upon];clear hz hrow Z_2 R_2;refine hK.out _ _ ⟨Z_3.out.a.df.c1,Z_3.out.a.df.c2⟩ (fun hHeld=>?_);clear hK KK hr;(try simp only[Act.put,xz]);refine rdH 14 rfl fun KK hK=>?_;clear hHeld;have HBW:=Hd Z_3.out.bz;go_simp;refine (runs_any x2 (many+far) c2 (rowL (lnS ts) (lnD ts) many far) z3 (rowL_length _ _ _ _) R_3.out (by omega) (rowL_bd (fun j hj=>HGS.out.2.1.2 j (by omega)) (fun j hj=>HGD.out.2.1.2 j (by omega)))).mono ?_
 rintro e z4 ⟨rv,rs,rfl,hrr,hsy⟩;have Z_4:=Hd (Z_3.out.ext hrr.ext);have HRR:=Hd hrr;have HSY:=Hd hsy;clear hrr hsy Z_3 R_3;go_simp;refine hK.out _ _ ⟨Z_4.out.a.df.c1,Z_4.out.a.df.c2⟩ (fun hHeld=>?_);clear hK KK;(try simp only[Act.put,xz]);refine tkH 15 rfl hHeld ?_;(try simp only[Act.put,xz]);refine wpAnyH_done (by kernel_rfl) ?_ _;clear hHeld;have hrs0:rs≠[]:=says_ne HSY.out (by rw[rowL_length];omega);obtain⟨gr,cr,rfl,hgr,hrc⟩:=HRR.out.cells hrs0;have HRC:=Hd hrc;have HRC:=Hd hrc;have hrl:rs.length≤316:=by have h:=HSY.out.grow;rw[rowL_length] at h;simp at h;omega
 obtain⟨N,hN⟩:∃N,rs.length=N:=⟨_,rfl⟩;have HN:=Hd hN;rw[hN] at hrl;have HGR:=Hd (show B≤gr from Nat.le_trans HBW.out hgr);clear hrc HRR hgr;have hmk1:=fun w=>run_make_row' (P:=Tryz.prog) 88 3 (.int .i64 0) 8 Tryz.underlying88 i64info rfl .i64 .i64 19 (by omega) (by omega) w;simp only[show ((19:Nat):Int)=19 from rfl] at hmk1;go_upto_block 4 with fail;refine wp_world (fun wz=>Ext z4 wz∧Cs wz z4.heap.size 19 .i64 (fun _=>0)) (by first | exact⟨Below.drew ((Ext.refl _).alloc _),by rw[made_eq];exact (Cs.born _ _ _ _ _).drew⟩ | exact⟨(Ext.refl _).alloc _,by rw[made_eq];exact Cs.born _ _ _ _ _⟩) ?_;rintro wU ⟨hE,hU⟩;obtain⟨U,hUe⟩:∃q,z4.heap.size=q:=⟨_,rfl⟩;rw[hUe] at hU;rw[hUe];have HZU:=Hd (Z_4.out.ext hE);have HRU:=Hd (HRC.out.ext hE);have HUB:=Hd (show B≤U from hUe▸Z_4.out.bz);have HGU:=Hd (show gr<U from hUe▸World.block_lt_of_cell? z4 _ (HRC.out 0 (rs[0]'(List.length_pos_iff.2 hrs0)) (List.getElem?_eq_getElem _)).1);have HCU:Hid (Cs wU U 19 .i64 (fun k=>((cntR (rs.take 0) k:Nat):Int))):=Hd hU;clear hE hU hUe hrs0 hmk1 HRC Z_4;clear hN;go_cut [9] (fun s9 wx=>s9=.slice (some ⟨U,0,none⟩) 19 19∧Hid (DB w wx B D Wb la da cb eb (lnS ts) (lnD ts))∧Hid (Rnc wx gr rs)∧Hid (Cs wx U 19 .i64 (fun k=>((cntR rs k:Nat):Int))))
 case first=>
  go_wp2_with fail;go_loopw [116] (fun c wr=>∃i:Nat,c=.int .i64 (i:Int)∧i≤N∧Hid (DB w wr B D Wb la da cb eb (lnS ts) (lnD ts))∧Hid (Rnc wr gr rs)∧Hid (Cs wr U 19 .i64 (fun k=>((cntR (rs.take i) k:Nat):Int)))) (fun c _=>N-(intOf c).toNat)
  case atStart=>exact⟨0,rfl,by omega,HZU,HRU,HCU⟩
  case round=>
   clear HZU HRU HCU;obtain⟨i,rfl,hi,HZ,HR,HU⟩:=hrel;by_cases hlt:i<N
   ·have n0:i<rs.length:=by rw[HN.out];exact hlt
    have t0:decide ((i:Int)<(rs.length:Int))=true:=decide_eq_true (by omega);obtain⟨r,hr⟩:∃r,rs[i]? =some r:=⟨_,List.getElem?_eq_getElem (show i<rs.length by rw[HN.out];exact hlt)⟩;obtain⟨k0,k1,k2⟩:=HR.out i r hr;have hs:=(HSY.out.bd r (List.mem_of_getElem? hr)).1;obtain⟨s,hs'⟩:∃s,r.s=s:=⟨_,rfl⟩;obtain⟨m,hm'⟩:∃m,r.m=m:=⟨_,rfl⟩;obtain⟨b,hb'⟩:∃b,r.b=b:=⟨_,rfl⟩;rw[hs'] at k0 hs;rw[hm'] at k1;rw[hb'] at k2;have HTk:=Hd (show rs.take (i+1)=rs.take i ++ [r] by rw[List.take_add_one,hr];rfl);have HRs:=Hd hs';obtain⟨c,hc⟩:∃c,cntR (rs.take i) s=c:=⟨_,rfl⟩;have hcl:c≤316:=by rw[← hc];have:=cntR_le (rs.take i) s;rw[List.length_take] at this;omega
    have HCe:=Hd hc;clear hc hr hs' hm' hb';have wi:IntKind.i64.wrap ((i:Int)+1)=((i+1:Nat):Int):=by rw[IntKind.wrap_i64];omega
    have wc1:IntKind.i64.wrap ((c:Int)+1)=((c+1:Nat):Int):=by rw[IntKind.wrap_i64];omega
    have hsi:(s:Int)<19:=by omega
    have hsj:(0:Int)≤(s:Int):=by omega
    go_upto_region 17 with fail;refine wp_world (fun wz=>Ext wr wz∧Bk wz wr.heap.size #[.int .i64 (s:Int),.int .i64 (m:Int),.int .i64 (b:Int)]) ⟨(Ext.refl _).alloc _,Bk.at rfl⟩ ?_;rintro w3 ⟨hE,hT⟩;have HZ3:=Hd (HZ.out.ext hE);have HR3:=Hd (HR.out.ext hE);have HU3:=Hd (HU.out.ext hE);have HT3:=Hd hT;have kc:w3.cell? ⟨U,s,none⟩=some (.int .i64 (c:Int)):=by rw[← HCe.out];exact (HU3.out s hs).1
    have kf:=(HU3.out s hs).2;have b0:=HT3.out.cell 0;simp only[xg,xh,xi] at b0;clear k0 k1 k2 hE hT HZ HR HU;have hk:Keeps (fun k=>k=U) w3 (w3.setCell ⟨U,s,none⟩ (.int .i64 ((c+1:Nat):Int))):=Keeps.setCell (S:=fun k=>k=U) (p:=⟨U,s,none⟩) (Keeps.refl _ _) (.inl rfl) _;have HZ4:=Hd (HZ3.out.keeps hk (fun k q=>by have q:k=U:=q;have:=HUB.out;omega));have HR4:=Hd (HR3.out.keeps hk (show ¬ gr=U by have:=HGU.out;omega));have HU4:Hid (Cs (w3.setCell ⟨U,s,none⟩ (.int .i64 ((c+1:Nat):Int))) U 19 .i64 (fun k=>((cntR (rs.take (i+1)) k:Nat):Int))):=Hd (HU3.out.put s _ _ hs (fun j _=>by
     rw[HTk.out,cntR_push _ r s HRs.out];unfold Dfl.bump;by_cases e:j=s
     ·rw[if_pos e,if_pos e,e,HCe.out]
     ·rw[if_neg e,if_neg e]))
    clear hk;go_wp2_with fail;refine⟨⟨i+1,by simp,by omega,HZ4,HR4,HU4⟩,by simp[intOf];omega⟩
   ·have n0:¬ i<rs.length:=by rw[HN.out];exact hlt
    have t0:decide ((i:Int)<(rs.length:Int))=false:=decide_eq_false (by omega);have HU4:Hid (Cs wr U 19 .i64 (fun k=>((cntR rs k:Nat):Int))):=Hd (by
     have q:=HU.out;rw[List.take_of_length_le (by rw[HN.out];omega)] at q;exact q)
    go_wp2_with fail;go_meet
    exact⟨rfl,HZ,HR,HU4⟩
 case rest=>
 clear HZU HRU HCU;obtain⟨rfl,HZ,HR,HU⟩:=hcut;have HUR:=Hd (show ∀k,cntR rs k≤1000 from fun k=>by have:=cntR_le rs k;have:=HN.out;omega);go_wp2_with fail;refine (lengths_good (some ⟨U,0,none⟩) 19 19 (fun k=>((cntR rs k:Nat):Int)) 7 wc (ints_cs HU.out (fun k _=>by have:=HUR.out k;omega)) ES ((HZ.out.a.old.cell (World.block_lt_of_cell? w _ HS.out)).trans HS.out) (lenGood_cnt (by decide) (by decide) (by decide) (fun k=>by have:=HUR.out k;omega))).mono ?_;rintro e wL ⟨hX,hr⟩;rcases hr with⟨hbad,_⟩ | ⟨_,sb,rfl,hI,hge⟩
 ·have:=used_len (cntN fun k=>((cntR rs k:Nat):Int)) 19;omega
 have HGR7:=Hd (lnR_good (rs:=rs));have HZL:=Hd (HZ.out.ext hX);have HRL:=Hd (HR.out.ext hX);have HSL:=Hd (show Ints wL (some ⟨sb,0,none⟩) 19 (lnR rs) from hI);have HSB:=Hd (show B≤sb from Nat.le_trans HZ.out.bz hge);clear hX hI hge HZ HR HU;go_wp2_with fail;refine (codes_good (some ⟨sb,0,none⟩) 19 19 (lnR rs) wL HSL.out (by decide) HGR7.out.2.1 HGR7.out.2.2 EB ES ((HZL.out.a.old.cell (World.block_lt_of_cell? w _ HB.out)).trans HB.out) ((HZL.out.a.old.cell (World.block_lt_of_cell? w _ HS.out)).trans HS.out)).mono ?_;rintro e wK ⟨hX,kb,hkb,rfl,hC⟩;have HZK:=Hd (HZL.out.ext hX);have HRK:=Hd (HRL.out.ext hX);have HSK:=Hd (HSL.out.ext hX);have HCK:=Hd hC;have HKB:=Hd (show B≤kb from Nat.le_trans HZL.out.bz hkb);clear hX hC hkb HZL HRL HSL;go_upto_block 6 with fail;have HG16:=Hd HGR7.out.1;go_cut [16] (fun sx wx=>∃m:Nat,sx=.int .i64 (m:Int)∧4≤m∧m≤19∧Hid (∀i,m≤i→i<19→lnR rs (Inf.orderL.getD i 0)=0)∧Hid (DB w wx B D Wb la da cb eb (lnS ts) (lnD ts))∧Hid (Rnc wx gr rs)∧Hid (Ints wx (some ⟨sb,0,none⟩) 19 (lnR rs))∧Hid (Cs wx kb 19 .u32 (fun i=>(word (lnR rs) 19 i:Int))))
 case first=>
  go_wp2_with fail;go_loopw [16] (fun sx wx=>∃m:Nat,sx=.int .i64 (m:Int)∧4≤m∧m≤19∧Hid (∀i,m≤i→i<19→lnR rs (Inf.orderL.getD i 0)=0)∧Hid (DB w wx B D Wb la da cb eb (lnS ts) (lnD ts))∧Hid (Rnc wx gr rs)∧Hid (Ints wx (some ⟨sb,0,none⟩) 19 (lnR rs))∧Hid (Cs wx kb 19 .u32 (fun i=>(word (lnR rs) 19 i:Int)))) (fun sx _=>(intOf sx).toNat)
  case atStart=>exact⟨19,rfl,by omega,by omega,Hd (fun i h1 h2=>by omega),HZK,HRK,HSK,HCK⟩
  case round=>
   clear HZK HRK HSK HCK;obtain⟨m,rfl,hm1,hm2,HZ,HZK,HRK,HSK,HCK⟩:=hrel;by_cases hlo:4<m
   ·have t0:decide ((4:Int)<(m:Int))=true:=decide_eq_true (by omega);obtain⟨m1,hm'⟩:∃m1,m-1=m1:=⟨_,rfl⟩;have em:(m:Int)-1=(m1:Int):=by omega
    have wm:IntKind.i64.wrap (m1:Int)=(m1:Int):=by rw[IntKind.wrap_i64];omega
    have hmi:(m1:Int)<19:=by omega
    have hmj:(0:Int)≤(m1:Int):=by omega
    have hm19:m1<19:=by omega
    obtain⟨q,hq⟩:∃q,Inf.orderL.getD m1 0=q:=⟨_,rfl⟩;have hq19:q<19:=by rw[← hq];exact (by decide:∀i,i<19→Inf.orderL.getD i 0<19) m1 hm19
    have hqi:(q:Int)<19:=by omega
    have hqj:(0:Int)≤(q:Int):=by omega
    have ko:wr.cell? ⟨10,m1,none⟩=some (.int .i64 (q:Int)):=by
     have h:=(HTb.out.ext HZK.out.a.old).order m1 hm19;rw[hq] at h;exact h
    obtain⟨y,hy⟩:∃y,lnR rs q=y:=⟨_,rfl⟩;have kc:wr.cell? ⟨sb,q,none⟩=some (.int .i64 y):=by
     have h:=(HSK.out.2 _ rfl q hq19).1;rw[add_plain,hy] at h;exact h
    have HY:=Hd (show lnR rs (Inf.orderL.getD m1 0)=y by rw[hq];exact hy);have HM1:=Hd hm';clear hy hm' hq;by_cases hy0:y=0
    ·have t2:(y ==0)=true:=beq_iff_eq.2 hy0;have HZ2:Hid (∀i,m1≤i→i<19→lnR rs (Inf.orderL.getD i 0)=0):=Hd (fun j h1 h2=>by
      rcases Nat.eq_or_lt_of_le h1 with e | e
      ·rw[← e,HY.out];exact hy0
      ·exact HZ.out j (by have:=HM1.out;omega) h2)
     clear hy0;go_wp2_with fail;refine⟨⟨m1,rfl,by have:=HM1.out;omega,by omega,HZ2,HZK,HRK,HSK,HCK⟩,by have:=HM1.out;simp[intOf];omega⟩
    ·have t2:(y ==0)=false:=beq_eq_false_iff_ne.2 hy0;clear hy0;go_wp2_with fail;go_meet
     exact⟨m,rfl,hm1,hm2,HZ,HZK,HRK,HSK,HCK⟩
   ·have t0:decide ((4:Int)<(m:Int))=false:=decide_eq_false (by omega);go_wp2_with fail;go_meet
    exact⟨m,rfl,hm1,hm2,HZ,HZK,HRK,HSK,HCK⟩
 case rest=>
 clear HZK HRK HSK HCK;obtain⟨few,rfl,hfew1,hfew2,HZfew,HZK,HRK,HSK,HCK⟩:=hcut
 
 rename World=>wP;have HDW:=Hd (⟨HZK.out,HRK.out,HSK.out,HCK.out,HGR.out,HSB.out,HKB.out⟩:DW w wP B D Wb la da cb eb gr sb kb (lnS ts) (lnD ts) (lnR rs) rs);have H0:=Hd (WS.start HZK.out.a.wb);have HOKD:=Hd (⟨⟨hmany1,hmany2⟩,⟨hfar1,hfar2⟩,⟨hfew1,hfew2⟩,HZmany.out,HZfar.out,HZfew.out,HSY.out⟩:Dfl.DynOk ts many far few rs);clear HZK HRK HSK HCK HSB HKB HGR HZmany HZfar HZfew;obtain⟨m1,hm1⟩:∃m1,many-257=m1:=⟨_,rfl⟩;obtain⟨f1,hf1⟩:∃f1,far-1=f1:=⟨_,rfl⟩;obtain⟨e1,he1⟩:∃e1,few-4=e1:=⟨_,rfl⟩;have em:(many:Int)-257=(m1:Int):=by omega
 have ef:(far:Int)-1=(f1:Int):=by omega
 have ee:(few:Int)-4=(e1:Int):=by omega
 have wm1:∀z,z=(m1:Int)→IntKind.i64.wrap z=z:=by intro z hz;rw[IntKind.wrap_i64];omega
 have wf1:∀z,z=(f1:Int)→IntKind.i64.wrap z=z:=by intro z hz;rw[IntKind.wrap_i64];omega
 have we1:∀z,z=(e1:Int)→IntKind.i64.wrap z=z:=by intro z hz;rw[IntKind.wrap_i64];omega
 have vm1:∀z,z=(m1:Int)→IntKind.u32.wrap z=z:=by intro z hz;rw[IntKind.wrap_u32];omega
 have vf1:∀z,z=(f1:Int)→IntKind.u32.wrap z=z:=by intro z hz;rw[IntKind.wrap_u32];omega
 have ve1:∀z,z=(e1:Int)→IntKind.u32.wrap z=z:=by intro z hz;rw[IntKind.wrap_u32];omega
 have bm1:m1<2^5:=by omega
 have bf1:f1<2^5:=by omega
 have be1:e1<2^4:=by omega
 have HMF:=Hd (show many-257=m1∧far-1=f1∧few-4=e1 from⟨hm1,hf1,he1⟩);have hfi1:(few:Int)≤19:=by omega
 have hfi2:(0:Int)≤(few:Int):=by omega
 clear hm1 hf1 he1;have k0:=(HDW.out.df H0.out.keeps).c0;go_wp2_with fail;refine (putB_any Wb 5 3 _ [] wP H0.out.wb (by decide) (by decide) (by decide)).mono ?_;rintro e z1 ⟨rfl,u1,hw,hs⟩;have H1:Hid (WS wP z1 Wb u1 (Bts.low 5 3)):=Hd (H0.out.step hw hs);clear hw hs k0 H0;have k0:=(HDW.out.df H1.out.keeps).c0;go_wp2_with fail;refine (putB_any Wb m1 5 _ _ z1 H1.out.wb (by decide) bm1 (by rw[Bts.low_length];decide)).mono ?_;rintro e z2 ⟨rfl,u2,hw,hs⟩;have H2:=Hd (H1.out.step hw hs);clear hw hs k0 H1;have k0:=(HDW.out.df H2.out.keeps).c0;go_wp2_with fail;refine (putB_any Wb f1 5 _ _ z2 H2.out.wb (by decide) bf1 (by simp only[List.length_append,Bts.low_length];decide)).mono ?_;rintro e z3 ⟨rfl,u3,hw,hs⟩;have H3:=Hd (H2.out.step hw hs);clear hw hs k0 H2;have k0:=(HDW.out.df H3.out.keeps).c0;go_wp2_with fail;refine (putB_any Wb e1 4 _ _ z3 H3.out.wb (by decide) be1 (by simp only[List.length_append,Bts.low_length];decide)).mono ?_;rintro e z4 ⟨rfl,u4,hw,hs⟩;obtain⟨L4,hL4⟩:∃L4,((Bts.low 5 3++Bts.low m1 5)++Bts.low f1 5)++Bts.low e1 4=L4:=⟨_,rfl⟩;have H4:=Hd (H3.out.step hw hs);rw[hL4] at H4;have HL4:=Hd hL4;have hL4l:L4.length=17:=by rw[← hL4];simp only[List.length_append,Bts.low_length]
 clear hw hs k0 H3 em ef ee wm1 wf1 we1 vm1 vf1 ve1 bm1 bf1 be1 hL4;go_upto_block 8 with fail;have H4':Hid (∃u,WS wP z4 Wb u (L4++Dfl.smallB (lnR rs) 0)):=Hd ⟨u4,by simpa [Dfl.smallB] using H4.out⟩;clear H4;go_cut [] (fun wx=>Hid (∃u,WS wP wx Wb u (L4++Dfl.smallB (lnR rs) few)))
 case first=>
  go_wp2_with fail;go_loopw [184] (fun c wr=>∃i:Nat,c=.int .i64 (i:Int)∧i≤few∧Hid (∃u,WS wP wr Wb u (L4++Dfl.smallB (lnR rs) i))) (fun c _=>few-(intOf c).toNat)
  case atStart=>exact⟨0,rfl,by omega,H4'⟩
  case round=>
   clear H4';obtain⟨i,rfl,hi,HW⟩:=hrel;by_cases hlt:i<few
   ·have t0:decide ((i:Int)<(few:Int))=true:=decide_eq_true (by omega);obtain⟨u,hu⟩:=HW.out;have HU:=Hd hu;clear hu HW;have hi19:i<19:=by omega
    have wi:IntKind.i64.wrap ((i:Int)+1)=((i+1:Nat):Int):=by rw[IntKind.wrap_i64];omega
    obtain⟨q,hq⟩:∃q,Inf.orderL.getD i 0=q:=⟨_,rfl⟩;have hq19:q<19:=by rw[← hq];exact (by decide:∀i,i<19→Inf.orderL.getD i 0<19) i hi19
    have hqi:(q:Int)<19:=by omega
    have hqj:(0:Int)≤(q:Int):=by omega
    have ko:wr.cell? ⟨10,i,none⟩=some (.int .i64 (q:Int)):=by
     have h:=(HTb.out.ext (HDW.out.old HU.out.keeps)).order i hi19;rw[hq] at h;exact h
    have hg:=HG16.out q hq19;obtain⟨y,hy⟩:∃y:Nat,lnR rs q=(y:Int):=⟨(lnR rs q).toNat,by omega⟩;have hy8:y<2^3:=by omega
    have HB:=Hd (show Dfl.smallB (lnR rs) (i+1)=Dfl.smallB (lnR rs) i++Bts.low y 3 by
     unfold Dfl.smallB;rw[List.range_succ,List.map_append,List.flatten_append];congr 1
     show [Bts.low (lnR rs (Inf.orderL.getD i 0)).toNat 3].flatten=_;rw[hq,hy,Int.toNat_natCast];simp)
    have wy:∀z,z=(y:Int)→IntKind.u32.wrap z=z:=by intro z hz;rw[IntKind.wrap_u32];omega
    have HY:=Hd hy;clear hq hg hy;go_upto_region 31 with fail;have k0:=(HDW.out.df HU.out.keeps).c0;have kc:wr.cell? ⟨sb,q,none⟩=some (.int .i64 (y:Int)):=by
     have h:=((HDW.out.lens HU.out.keeps).2 _ rfl q hq19).1;rw[add_plain,HY.out] at h;exact h
    refine wp_region_still_tail 9 (by kernel_rfl) (by kernel_rfl) ?_;simp only[List.take_succ_cons,List.take_zero,List.drop_succ_cons,List.drop_zero];repeat still_step
    refine wpStill_nil ?_;change wpList _ _ _ _ _ wr.drew;go_wp2_with fail;refine (putB_any Wb y 3 u _ wr.drew HU.out.wb.drew (by decide) hy8 (by rw[List.length_append,Dfl.smallB_len];omega)).mono ?_;rintro e z5 ⟨rfl,u5,hw,hs⟩;have H5:Hid (∃u,WS wP z5 Wb u (L4++Dfl.smallB (lnR rs) (i+1))):=Hd ⟨u5,by rw[HB.out,← List.append_assoc];exact HU.out.undrew hw hs⟩;clear hw hs HU k0 kc ko;go_wp2_with fail;refine⟨⟨i+1,by simp,by omega,H5⟩,by simp[intOf];omega⟩
   ·have t0:decide ((i:Int)<(few:Int))=false:=decide_eq_false (by omega);obtain rfl:i=few:=by omega
    go_wp2_with fail;go_meet
    exact HW
 case rest=>
 clear H4';rename World=>zB;obtain⟨u9,hu9⟩:=hcut.out;have H9:=Hd hu9;clear hcut hu9;obtain⟨L9,hL9⟩:∃L9,L4++Dfl.smallB (lnR rs) few=L9:=⟨_,rfl⟩;rw[hL9] at H9;have hL9l:L9.length≤74:=by rw[← hL9,List.length_append,Dfl.smallB_len];omega
 have HL9:=Hd hL9;have HRB:=Hd (show ∀l:List Dfl.Rn,(∀r∈l,r.s<19∧r.b≤7)→(Dfl.runsB (lnR rs) l).length≤14*l.length from fun l H=>Dfl.runsB_le (h:=lnR rs) (fun j hj=>by have h:=(HG16.out j hj).2.1;exact h) H);clear hL9;go_upto_block 10 with fail;have H9':Hid (∃u,WS wP zB Wb u (L9++Dfl.runsB (lnR rs) (rs.take 0))):=Hd ⟨u9,by simpa [Dfl.runsB] using H9.out⟩;clear H9;go_cut [] (fun wx=>Hid (∃u,WS wP wx Wb u (L9++Dfl.runsB (lnR rs) rs)))
 case first=>
  go_wp2_with fail;go_loopw [201] (fun c wr=>∃i:Nat,c=.int .i64 (i:Int)∧i≤N∧Hid (∃u,WS wP wr Wb u (L9++Dfl.runsB (lnR rs) (rs.take i)))) (fun c _=>N-(intOf c).toNat)
  case atStart=>exact⟨0,rfl,by omega,H9'⟩
  case round=>
   clear H9';obtain⟨i,rfl,hi,HW⟩:=hrel;by_cases hlt:i<N
   ·have n0:i<rs.length:=by rw[HN.out];exact hlt
    have t0:decide ((i:Int)<(rs.length:Int))=true:=decide_eq_true (by omega);obtain⟨u,hu⟩:=HW.out;have HU:=Hd hu;clear hu HW;obtain⟨r,hr⟩:∃r,rs[i]? =some r:=⟨_,List.getElem?_eq_getElem (show i<rs.length by rw[HN.out];exact hlt)⟩;obtain⟨k0,k1,k2⟩:=(HDW.out.runs HU.out.keeps) i r hr;obtain⟨hs,hmb,hb7⟩:=HSY.out.bd r (List.mem_of_getElem? hr);have HTk:=Hd (show Dfl.runsB (lnR rs) (rs.take (i+1))=Dfl.runsB (lnR rs) (rs.take i)++(Dfl.wordB (lnR rs) 19 r.s++Bts.low r.m r.b) by
     rw[List.take_add_one,hr];simp[Dfl.runsB,Dfl.runB])
    have hpos:0<lnR rs r.s:=(HG16.out r.s hs).2.2.2 (List.countP_pos_iff.2 ⟨r,List.mem_of_getElem? hr,by simp⟩);obtain⟨s,hs'⟩:∃s,r.s=s:=⟨_,rfl⟩;obtain⟨m,hm'⟩:∃m,r.m=m:=⟨_,rfl⟩;obtain⟨b,hb'⟩:∃b,r.b=b:=⟨_,rfl⟩;rw[hs'] at k0 hs hpos HTk;rw[hm'] at k1 hmb HTk;rw[hb'] at k2 hmb hb7 HTk;have hsg:=HG16.out s hs;obtain⟨y,hy⟩:∃y:Nat,lnR rs s=(y:Int):=⟨(lnR rs s).toNat,by omega⟩;have hy7:y≤7:=by have:=hsg.2.1;omega
    obtain⟨z,hz⟩:∃z,word (lnR rs) 19 s=z:=⟨_,rfl⟩;have hzy:z<2^y:=by rw[← hz];exact word_fits HGR7.out.2.2 hs hy (by omega)
    have HWB:=Hd (show Dfl.wordB (lnR rs) 19 s=Bts.high z y by unfold Dfl.wordB;rw[hy,hz];rfl);have HZY:=Hd (show lnR rs s=(y:Int)∧word (lnR rs) 19 s=z from⟨hy,hz⟩);have hblen:m<128:=Nat.lt_of_lt_of_le hmb (Nat.pow_le_pow_right (by decide) hb7:2^b≤2^7);have HLb:=Hd (show (L9++Dfl.runsB (lnR rs) (rs.take i)).length≤10000 by
     have h:=HRB.out (rs.take i) (fun r hr=>by have h:=HSY.out.bd r (List.mem_of_mem_take hr);exact⟨h.1,h.2.2⟩);rw[List.length_take] at h;rw[List.length_append];omega)
    have wi:IntKind.i64.wrap ((i:Int)+1)=((i+1:Nat):Int):=by rw[IntKind.wrap_i64];omega
    have wmm:∀q,q=(m:Int)→IntKind.u32.wrap q=q:=by intro q hq;rw[IntKind.wrap_u32];omega
    have hsi:(s:Int)<19:=by omega
    have hsj:(0:Int)≤(s:Int):=by omega
    clear hr hs' hm' hb' hpos hsg hy hz;go_upto_region 36 with fail;refine wp_world (fun wz=>WX wP wz Wb wr.heap.size u (L9++Dfl.runsB (lnR rs) (rs.take i)) #[.int .i64 (s:Int),.int .i64 (m:Int),.int .i64 (b:Int)]) (WX.new HU.out _ _) ?_;rintro w3 hX;obtain⟨T,hT⟩:∃T,wr.heap.size=T:=⟨_,rfl⟩;rw[hT] at hX;rw[hT];have H3:=Hd hX;clear hX HU k0 k1 k2 hT;have b0:=H3.out.bk.cell 0;simp only[xg,xh,xi] at b0;have k0:=(HDW.out.df H3.out.ws.keeps).c0;have kc:w3.cell? ⟨sb,s,none⟩=some (.int .i64 (y:Int)):=by
     have h:=((HDW.out.lens H3.out.ws.keeps).2 _ rfl s hs).1;rw[add_plain,HZY.out.1] at h;exact h
    have kw:w3.cell? ⟨kb,s,none⟩=some (.int .u32 (z:Int)):=by
     have h:w3.cell? ⟨kb,s,none⟩=some (.int .u32 (word (lnR rs) 19 s:Int)):=((HDW.out.words H3.out.ws.keeps) s hs).1;rw[HZY.out.2] at h;exact h
    refine wp_region_still_tail 14 (by kernel_rfl) (by kernel_rfl) ?_;simp only[List.take_succ_cons,List.take_zero,List.drop_succ_cons,List.drop_zero];repeat still_step
    refine wpStill_nil ?_;change wpList _ _ _ _ _ w3.drew;go_wp2_with fail;refine (turnedB_any Wb z y u _ w3.drew H3.out.ws.wb.drew (by omega) hzy (by have:=HLb.out;omega)).mono ?_;rintro e w4 ⟨rfl,u4,hw,hst⟩;have H4:=Hd (H3.out.drew.step hw hst);clear hw hst H3 k0 kc kw b0;go_wp2_with fail;have b1:=H4.out.bk.cell 1;have b2:=H4.out.bk.cell 2;simp only[xg,xh,xi] at b1 b2;have k0:=(HDW.out.df H4.out.ws.keeps).c0;refine wp_region_still_tail 9 (by kernel_rfl) (by kernel_rfl) ?_;simp only[List.take_succ_cons,List.take_zero,List.drop_succ_cons,List.drop_zero];repeat still_step
    refine wpStill_nil ?_;change wpList _ _ _ _ _ w4.drew;go_wp2_with fail;refine (putB_any Wb m b u4 _ w4.drew H4.out.ws.wb.drew (by omega) hmb (by have:=HLb.out;rw[List.length_append,Bts.high_length];omega)).mono ?_;rintro e w5 ⟨rfl,u5,hw,hst⟩;have H5:Hid (∃u,WS wP w5 Wb u (L9++Dfl.runsB (lnR rs) (rs.take (i+1)))):=Hd ⟨u5,by
     have h:=(H4.out.drew.step hw hst).ws;rw[HTk.out,HWB.out];simp only[List.append_assoc] at h⊢;exact h⟩
    clear hw hst H4 k0 b1 b2;go_wp2_with fail;refine⟨⟨i+1,by simp,by omega,H5⟩,by simp[intOf];omega⟩
   ·have n0:¬ i<rs.length:=by rw[HN.out];exact hlt
    have t0:decide ((i:Int)<(rs.length:Int))=false:=decide_eq_false (by omega);have H5:Hid (∃u,WS wP wr Wb u (L9++Dfl.runsB (lnR rs) rs)):=Hd (by
     have q:=HW.out;rw[List.take_of_length_le (by rw[HN.out];omega)] at q;exact q)
    go_wp2_with fail;go_meet
    exact H5
 case rest=>
 clear H9';rename World=>zR;obtain⟨u7,hu7⟩:=hcut.out;have H7:=Hd hu7;clear hcut hu7;obtain⟨L7,hL7⟩:∃L7,L9++Dfl.runsB (lnR rs) rs=L7:=⟨_,rfl⟩;rw[hL7] at H7;have hL7l:L7.length≤10000:=by
  have h:=HRB.out rs (fun r hr=>by have h:=HSY.out.bd r hr;exact⟨h.1,h.2.2⟩);have:=HN.out;rw[← hL7,List.length_append];omega
 have HL7:=Hd hL7;clear hL7;have HBs:Hid (∀w6,Keeps (fun k=>k=Wb∨u7.ownBlock=some k) zR w6→Base w6 D Wb ⟨la,0,none⟩ ⟨da,0,none⟩ ⟨cb,0,none⟩ ⟨eb,0,none⟩ 286 286 30 30 286 30 (lnS ts) (lnD ts) x n tk):=Hd (fun w6 h6=>by
  have h7:=H7.out.more h6;exact⟨HDW.out.df h7,HT.out.ext (HDW.out.old h7),HTb.out.ext (HDW.out.old h7)⟩)
 go_wp2_with fail;refine (writeToks_any D Wb ⟨la,0,none⟩ ⟨da,0,none⟩ ⟨cb,0,none⟩ ⟨eb,0,none⟩ 286 286 30 30 286 30 (lnS ts) (lnD ts) x n cap tk u7 L7 zR HBs.out H7.out.wb HGS.out.2.2 HGD.out.2.2 (by decide) (by decide) (by decide) (by decide) (fun k hk=>by have h:=HGS.out.1 k hk;exact⟨h.1,h.2.1⟩) (fun k hk=>by have h:=HGD.out.1 k hk;exact⟨h.1,h.2.1⟩) hn (by omega) HOK.out).mono ?_;rintro e w6 ⟨rfl,u8,hW6,hS6⟩;have H8:=Hd (H7.out.step hW6 hS6);clear hW6 hS6 H7 HBs;have k0:=(HDW.out.df H8.out.keeps).c0;go_wp2_with fail;refine (text_calls Wb 0 _ _ u8 w6 H8.out.wb).mono ?_;rintro e w7 ⟨⟨l,hl1,hl2,rfl⟩,rfl⟩;have HQ:=Hd (And.intro hl1 hl2);clear hl1 hl2;go_wp2_with fail;go_ret;refine⟨⟨many,far,few,rs,l,by rw[HTS.out];exact HOKD.out,?_,?_,by first | rfl | trivial⟩,HDW.out.old H8.out.keeps⟩
 ·have e:Dfl.dynB ts many far few rs=L7++(Dfl.toksB (lnS ts) 286 (lnD ts) 30 ((List.range n).map tk)++Dfl.wordB (lnS ts) 286 256):=by
   rw[HTS.out,← HL7.out,← HL9.out,← HL4.out];unfold Dfl.dynB Dfl.headB;rw[HMF.out.1,HMF.out.2.1,HMF.out.2.2];simp only[List.append_assoc]
  rw[HTS.out,e];exact HQ.out.1
 ·have e:Dfl.dynB ts many far few rs=L7++(Dfl.toksB (lnS ts) 286 (lnD ts) 30 ((List.range n).map tk)++Dfl.wordB (lnS ts) 286 256):=by
   rw[HTS.out,← HL7.out,← HL9.out,← HL4.out];unfold Dfl.dynB Dfl.headB;rw[HMF.out.1,HMF.out.2.1,HMF.out.2.2];simp only[List.append_assoc]
  rw[HTS.out,e];exact HQ.out.2
set_option maxRecDepth 100000
theorem exp_ok {tk:Nat→Tk} {n:Nat} {out:List UInt8} (h:expL tk n=.ok out):∀i,i<n→(tk i).l=0∨(3≤(tk i).l∧(tk i).l≤258∧1≤(tk i).d∧(tk i).d≤32768):=
  fun i hi=>(Dfl.means_exp n out h).ok (tk i) (List.mem_map.2 ⟨i,List.mem_range.2 hi,rfl⟩)
end Go.Proofs.YthlibiocadimhaaGreatDoor
