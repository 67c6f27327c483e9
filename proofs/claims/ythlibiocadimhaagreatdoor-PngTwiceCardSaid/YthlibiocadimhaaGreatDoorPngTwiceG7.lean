/-
  deflate.counts: how often each symbol and each distance stands among tokens.
  deflate.counts walked.
  Runs of lengths: what they say, and how they are read: plain laws. No function of the program is named.
  deflate.runs: how a row of lengths is written.
  What tokens mean, and their bits in a text: plain laws. No function of the program is named.
-/
import Derived.Test.YthlibiocadimhaaGreatDoorPngTwiceG1
import Derived.Test.YthlibiocadimhaaGreatDoorPngTwiceG6
import Derived.Deep.DeepCutAuto
import Derived.Deep.CutBlock
import Derived.Test.YthlibiocadimhaaGreatDoorPngTwiceG4
import Derived.Test.YthlibiocadimhaaGreatDoorPngTwiceG5
import Derived.Deep.AppendLies
set_option linter.unusedSimpArgs false
set_option linter.unusedVariables false
set_option maxRecDepth 100000
namespace Go.Proofs.YthlibiocadimhaaGreatDoor
open Go.RowKit
namespace Dfl
def symO (t:Tk):Nat:=if t.l=0 then t.b.toNat else 257+plc Inf.lensL t.l.toNat
def cntS (ts:List Tk) (k:Nat):Nat:=(if k=256 then 1 else 0)+ts.countP (fun t=>symO t=k)
def cntD (ts:List Tk) (d:Nat):Nat:=ts.countP (fun t=>t.l≠0∧plc Inf.distsL t.d.toNat=d)
def bump (s:Nat→Nat) (k:Nat):Nat→Nat:=fun j=>if j=k then s j+1 else s j
theorem cntS_push (ts:List Tk) (t:Tk) (k:Nat) (hk:symO t=k):cntS (ts ++ [t])=bump (cntS ts) k:=by
 funext j
 simp only[cntS,bump,List.countP_append,List.countP_singleton,hk];by_cases h:j=k
 ·have q:(if decide (k=j)=true then 1 else 0)=1:=if_pos (decide_eq_true h.symm);rw[if_pos h,q];omega
 ·have q:(if decide (k=j)=true then 1 else 0)=0:=if_neg (by simpa using fun e=>h (Eq.symm e));rw[if_neg h,q];omega
theorem cntD_lit (ts:List Tk) (t:Tk) (h:t.l=0):cntD (ts ++ [t])=cntD ts:=by
 funext j
 simp only[cntD,List.countP_append,List.countP_singleton];rw[if_neg (by simp[h])];omega
theorem cntD_push (ts:List Tk) (t:Tk) (d:Nat) (h:t.l≠0) (hd:plc Inf.distsL t.d.toNat=d):cntD (ts ++ [t])=bump (cntD ts) d:=by
 funext j
 simp only[cntD,bump,List.countP_append,List.countP_singleton,hd];by_cases e:j=d
 ·rw[if_pos e,if_pos (by simp[h,e])]
 ·rw[if_neg e,if_neg (by simpa [h] using fun q=>e (Eq.symm q))];omega
theorem cntS_le (ts:List Tk) (k:Nat):cntS ts k≤1+ts.length:=by
 unfold cntS;have:=List.countP_le_length (p:=fun t=>decide (symO t=k)) (l:=ts);split <;> omega
theorem cntD_le (ts:List Tk) (d:Nat):cntD ts d≤ts.length:=List.countP_le_length
end Dfl
/-- two rows of counts, of the call's own -/
structure CG (w wr:World) (g1 g2:Nat) (s d:Nat→Nat):Prop where
 ext:Ext w wr
 o1:w.heap.size≤g1
 o2:w.heap.size≤g2
 ne:g1≠g2
 c1:Cs wr g1 286 .i64 (fun k=>((s k:Nat):Int))
 c2:Cs wr g2 30 .i64 (fun k=>((d k:Nat):Int))
theorem CG.l1 {w wr:World} {g1 g2:Nat} {s d:Nat→Nat} (h:CG w wr g1 g2 s d):g1<wr.heap.size:=World.block_lt_of_cell? wr _ (h.c1 0 (by decide)).1
theorem CG.l2 {w wr:World} {g1 g2:Nat} {s d:Nat→Nat} (h:CG w wr g1 g2 s d):g2<wr.heap.size:=World.block_lt_of_cell? wr _ (h.c2 0 (by decide)).1
theorem CG.grow {w wr w':World} {g1 g2:Nat} {s d:Nat→Nat} (h:CG w wr g1 g2 s d) (hE:Ext wr w'):CG w w' g1 g2 s d:=by
 refine⟨h.ext.trans hE,h.o1,h.o2,h.ne,fun i hi=>?_,fun i hi=>?_⟩
 ·exact⟨(hE.cell (p:=⟨g1,i,none⟩) h.l1).trans (h.c1 i hi).1,(hE.frozen (p:=⟨g1,i,none⟩) h.l1).trans (h.c1 i hi).2⟩
 ·exact⟨(hE.cell (p:=⟨g2,i,none⟩) h.l2).trans (h.c2 i hi).1,(hE.frozen (p:=⟨g2,i,none⟩) h.l2).trans (h.c2 i hi).2⟩
theorem CG.drew {w wr:World} {g1 g2:Nat} {s d:Nat→Nat} (h:CG w wr g1 g2 s d):CG w wr.drew g1 g2 s d:=⟨Below.drew h.ext,h.o1,h.o2,h.ne,h.c1.drew,h.c2.drew⟩
theorem CG.put1 {w wr:World} {g1 g2:Nat} {s d:Nat→Nat} (h:CG w wr g1 g2 s d) (k:Nat) (hk:k<286) (c:Nat) (hc:s k=c):CG w (wr.setCell ⟨g1,k,none⟩ (.int .i64 ((c+1:Nat):Int))) g1 g2 (Dfl.bump s k) d:=by
 refine⟨Below.setCell h.ext h.o1 _,h.o1,h.o2,h.ne,h.c1.put k _ _ hk (fun j _=>?_),h.c2.other _ _ h.ne⟩;unfold Dfl.bump;by_cases e:j=k
 ·subst e;rw[if_pos rfl,if_pos rfl,hc]
 ·rw[if_neg e,if_neg e]
theorem CG.put2 {w wr:World} {g1 g2:Nat} {s d:Nat→Nat} (h:CG w wr g1 g2 s d) (k:Nat) (hk:k<30) (c:Nat) (hc:d k=c):CG w (wr.setCell ⟨g2,k,none⟩ (.int .i64 ((c+1:Nat):Int))) g1 g2 s (Dfl.bump d k):=by
 refine⟨Below.setCell h.ext h.o2 _,h.o1,h.o2,h.ne,h.c1.other _ _ (fun e=>h.ne e.symm),h.c2.put k _ _ hk (fun j _=>?_)⟩;unfold Dfl.bump;by_cases e:j=k
 ·subst e;rw[if_pos rfl,if_pos rfl,hc]
 ·rw[if_neg e,if_neg e]
def CsZ (w:World) (b n:Nat):Prop:=Cs w b n .i64 (fun _=>0)
theorem CsZ.ext {w w':World} {b n:Nat} (h:CsZ w b n) (hE:Ext w w'):CsZ w' b n:=fun i hi=>by
 have hb:=World.block_lt_of_cell? w _ (h i hi).1;exact⟨(hE.cell (p:=⟨b,i,none⟩) hb).trans (h i hi).1,(hE.frozen (p:=⟨b,i,none⟩) hb).trans (h i hi).2⟩
def CntPost (w:World) (ts:List Tk) (e:Ending) (w':World):Prop:=∃g1 g2,e=.returned (.tuple #[.slice (some ⟨g1,0,none⟩) 286 286,.slice (some ⟨g2,0,none⟩) 30 30])∧CG w w' g1 g2 (Dfl.cntS ts) (Dfl.cntD ts)
set_option maxHeartbeats 8000000 in
theorem counts_any (x:Option Addr) (n cap:Nat) (tk:Nat→Tk) (w:World) (hT:Toks w x n tk) (hTb:Tabs w) (hn:n≤310000)
  (hok:∀i,i<n→(tk i).l=0∨(3≤(tk i).l∧(tk i).l≤258∧1≤(tk i).d∧(tk i).d≤32768)):
  Calls Tryz.prog 127 #[.slice x n cap] w fun e w'=>CntPost w ((List.range n).map tk) e w':=by
 have HT:=Hd hT;have HTb:=Hd hTb;have HOK:=Hd hok;clear hT hTb hok;have hmk1:=fun w=>run_make_row' (P:=Tryz.prog) 88 3 (.int .i64 0) 8 Tryz.underlying88 i64info rfl .i64 .i64 286 (by omega) (by omega) w;have hmk2:=fun w=>run_make_row' (P:=Tryz.prog) 88 3 (.int .i64 0) 8 Tryz.underlying88 i64info rfl .i64 .i64 30 (by omega) (by omega) w;simp only[show ((286:Nat):Int)=286 from rfl,show ((30:Nat):Int)=30 from rfl] at hmk1 hmk2;go_enter Tryz.func127,Tryz.ntmps127
 go_upto_region 1 with fail;go_cut [2,3] (fun a b wx=>∃g1 g2,a=.slice (some ⟨g1,0,none⟩) 286 286∧b=.slice (some ⟨g2,0,none⟩) 30 30∧Hid (CG w wx g1 g2 (fun _=>0) (fun _=>0)))
 case first=>
  have X_0:=Hd (Ext.refl w);refine wp_region_held_drew (S:=fun w'=>True) (by kernel_rfl) trivial (fun hHeld=>?_);clear hHeld;have hHeld:True:=trivial;refine rdH2 0 1 rfl rfl (fun KK hK=>?_) fun KK hK=>?_
  ·clear hHeld;go_simp;refine hK.out _ _ trivial (fun hHeld=>?_);clear hK KK hHeld;(try simp only[Act.put,xz]);refine anyH_world (fun wz=>Ext w wz∧Cs wz w.heap.size 286 .i64 (fun _=>0)) (by first | exact⟨Below.drew ((Ext.refl _).alloc _),by rw[made_eq];exact (Cs.born _ _ _ _ _).drew⟩ | exact⟨(Ext.refl _).alloc _,by rw[made_eq];exact Cs.born _ _ _ _ _⟩) ?_;rintro v1 ⟨hE,hB⟩;obtain⟨S1b,hb⟩:∃q,w.heap.size=q:=⟨_,rfl⟩;rw[hb] at hB;(try rw[hb]);have LS1:=Hd (show w.heap.size≤S1b from hb▸X_0.out.size);have HS1:=Hd hb;have X_1:=Hd (X_0.out.trans hE);clear hE hb X_0;have S1_1:=Hd ((show CsZ _ _ _ from hB));clear hB;have hHeld:True:=trivial;refine tkH 2 rfl hHeld ?_;(try simp only[Act.put,xz]);refine rdH 1 rfl fun KK hK=>?_;clear hHeld;have LO:=Hd (World.block_lt_of_cell? v1 _ (S1_1.out 0 (by decide)).1);have LC:=Hd (show S1b<v1.heap.size from LO.out);go_simp;refine hK.out _ _ trivial (fun hHeld=>?_);clear hK KK hHeld;(try simp only[Act.put,xz]);refine anyH_world (fun wz=>Ext v1 wz∧Cs wz v1.heap.size 30 .i64 (fun _=>0)) (by first | exact⟨Below.drew ((Ext.refl _).alloc _),by rw[made_eq];exact (Cs.born _ _ _ _ _).drew⟩ | exact⟨(Ext.refl _).alloc _,by rw[made_eq];exact Cs.born _ _ _ _ _⟩) ?_;rintro v2 ⟨hE,hB⟩;obtain⟨S2b,hb⟩:∃q,v1.heap.size=q:=⟨_,rfl⟩;rw[hb] at hB;(try rw[hb]);have LS2:=Hd (show w.heap.size≤S2b from hb▸X_1.out.size);have HS2:=Hd hb;have X_2:=Hd (X_1.out.trans hE);have S1_2:=Hd (S1_1.out.ext hE)
   clear hE hb X_1 S1_1;have S2_2:=Hd ((show CsZ _ _ _ from hB));clear hB;have hHeld:True:=trivial;have NE:=Hd (show S1b≠S2b from fun e=>by have h1:=LC.out;have h2:=HS2.out;omega);refine tkH 3 rfl hHeld ?_;(try simp only[Act.put,xz]);refine wpAnyH_done (by kernel_rfl) ?_ _;clear hHeld;go_wp2_with fail;go_meet
   exact⟨S1b,S2b,rfl,rfl,Hd ⟨X_2.out,LS1.out,LS2.out,NE.out,S1_2.out,S2_2.out⟩⟩
  ·clear hHeld;go_simp;refine hK.out _ _ trivial (fun hHeld=>?_);clear hK KK hHeld;(try simp only[Act.put,xz]);refine anyH_world (fun wz=>Ext w wz∧Cs wz w.heap.size 30 .i64 (fun _=>0)) (by first | exact⟨Below.drew ((Ext.refl _).alloc _),by rw[made_eq];exact (Cs.born _ _ _ _ _).drew⟩ | exact⟨(Ext.refl _).alloc _,by rw[made_eq];exact Cs.born _ _ _ _ _⟩) ?_;rintro v1 ⟨hE,hB⟩;obtain⟨S2b,hb⟩:∃q,w.heap.size=q:=⟨_,rfl⟩;rw[hb] at hB;(try rw[hb]);have LS2:=Hd (show w.heap.size≤S2b from hb▸X_0.out.size);have HS2:=Hd hb;have X_1:=Hd (X_0.out.trans hE);clear hE hb X_0;have S2_1:=Hd ((show CsZ _ _ _ from hB));clear hB;have hHeld:True:=trivial;refine rdH 0 rfl fun KK hK=>?_;clear hHeld;have LO:=Hd (World.block_lt_of_cell? v1 _ (S2_1.out 0 (by decide)).1);have LC:=Hd (show S2b<v1.heap.size from LO.out);go_simp;refine hK.out _ _ trivial (fun hHeld=>?_);clear hK KK hHeld;(try simp only[Act.put,xz]);refine anyH_world (fun wz=>Ext v1 wz∧Cs wz v1.heap.size 286 .i64 (fun _=>0)) (by first | exact⟨Below.drew ((Ext.refl _).alloc _),by rw[made_eq];exact (Cs.born _ _ _ _ _).drew⟩ | exact⟨(Ext.refl _).alloc _,by rw[made_eq];exact Cs.born _ _ _ _ _⟩) ?_;rintro v2 ⟨hE,hB⟩;obtain⟨S1b,hb⟩:∃q,v1.heap.size=q:=⟨_,rfl⟩;rw[hb] at hB;(try rw[hb]);have LS1:=Hd (show w.heap.size≤S1b from hb▸X_1.out.size);have HS1:=Hd hb;have X_2:=Hd (X_1.out.trans hE);have S2_2:=Hd (S2_1.out.ext hE);clear hE hb X_1 S2_1;have S1_2:=Hd ((show CsZ _ _ _ from hB))
   clear hB;have hHeld:True:=trivial;have NE:=Hd (show S1b≠S2b from fun e=>by have h1:=LC.out;have h2:=HS1.out;omega);refine tkH 2 rfl hHeld ?_;(try simp only[Act.put,xz]);refine tkH 3 rfl hHeld ?_;(try simp only[Act.put,xz]);refine wpAnyH_done (by kernel_rfl) ?_ _;clear hHeld;go_wp2_with fail;go_meet
   exact⟨S1b,S2b,rfl,rfl,Hd ⟨X_2.out,LS1.out,LS2.out,NE.out,S1_2.out,S2_2.out⟩⟩
 case rest=>
  clear hmk1 hmk2;obtain⟨g1,g2,rfl,rfl,HC⟩:=hcut;have k0:=(HC.out.c1 256 (by decide)).1;have k1:=(HC.out.c1 256 (by decide)).2;go_wp2_with fail;have HC2:Hid (CG w (wc.setCell ⟨g1,256,none⟩ (.int .i64 1)) g1 g2 (Dfl.cntS []) (Dfl.cntD [])):=Hd (by
   have h:=HC.out.put1 256 (by decide) 0 rfl;have e1:Dfl.cntS []=Dfl.bump (fun _=>0) 256:=by funext j;simp[Dfl.cntS,Dfl.bump]
   have e2:Dfl.cntD []=fun _=>0:=by funext j;simp[Dfl.cntD]
   rw[e1,e2];exact h)
  clear k0 k1 HC;go_loopw [12] (fun c wr=>∃i:Nat,c=.int .i64 (i:Int)∧i≤n∧Hid (CG w wr g1 g2 (Dfl.cntS ((List.range i).map tk)) (Dfl.cntD ((List.range i).map tk)))) (fun c _=>n-(intOf c).toNat)
  case atStart=>exact⟨0,rfl,by omega,HC2⟩
  case round=>
   clear HC2;obtain⟨i,rfl,hi,HC⟩:=hrel;by_cases hlt:i<n
   ·have hbase:=HT.out.ext HC.out.ext;obtain⟨a,rfl⟩:=hbase.isSome hlt;obtain⟨k0,k1,k2,hok2⟩:=hbase.2 a rfl i hlt;obtain⟨t,ht⟩:∃t,tk i=t:=⟨_,rfl⟩;rw[ht] at k0 k1 k2;have HTK:=Hd ht;have HOK2:=Hd (HOK.out i hlt);rw[ht] at HOK2;clear ht hok2 hbase;obtain⟨b,hb⟩:∃b,t.b.toNat=b:=⟨_,rfl⟩;have hb256:b<256:=by rw[← hb];exact UInt8.toNat_lt _
    rw[hb] at k0;have HB:=Hd hb;clear hb;have wi:IntKind.i64.wrap ((i:Int)+1)=((i+1:Nat):Int):=by rw[IntKind.wrap_i64];omega
    have t0:decide ((i:Int)<(n:Int))=true:=decide_eq_true (by omega);obtain⟨vl,hvl⟩:∃n:Nat,t.l=(n:Int):=⟨t.l.toNat,by have:=HOK2.out;omega⟩;obtain⟨dd,hdd⟩:∃d:Int,t.d=d:=⟨_,rfl⟩;rw[hvl] at k1;rw[hdd] at k2;have HVL:=Hd hvl;have HDD:=Hd hdd;clear hdd;have HCL:=Hd (show ∀k,Dfl.cntS ((List.range i).map tk) k≤1+i from fun k=>by have:=Dfl.cntS_le ((List.range i).map tk) k;simpa using this);have HDL:=Hd (show ∀k,Dfl.cntD ((List.range i).map tk) k≤i from fun k=>by have:=Dfl.cntD_le ((List.range i).map tk) k;simpa using this);have HRS:=Hd (show (List.range (i+1)).map tk=(List.range i).map tk ++ [t] by rw[List.range_succ,List.map_append,← HTK.out];rfl);obtain⟨ts,hts⟩:∃ts,(List.range i).map tk=ts:=⟨_,rfl⟩;rw[hts] at HC HCL HDL HRS;clear hts;by_cases hl0:vl=0
    ·subst hl0;go_upto_region 6 with fail;refine wp_world (fun wz=>CG w wz g1 g2 (Dfl.cntS ts) (Dfl.cntD ts)∧Bk wz wr.heap.size #[.int .u8 (b:Int),.int .i64 ((0:Nat):Int),.int .i64 dd]) ⟨HC.out.grow ((Ext.refl _).alloc _),Bk.at rfl⟩ ?_;rintro w3 ⟨h3,h4⟩;obtain⟨T,hT⟩:∃T,wr.heap.size=T:=⟨_,rfl⟩;rw[hT] at h4;rw[hT];have H3:=Hd h3;have H4:=Hd h4;clear HC k0 k1 k2 h3 h4 hT;obtain⟨c,hc⟩:∃c,Dfl.cntS ts b=c:=⟨_,rfl⟩;have hcl:c≤1+i:=by rw[← hc];exact HCL.out b
     have kc:w3.cell? ⟨g1,b,none⟩=some (.int .i64 (c:Int)):=by rw[← hc];exact (H3.out.c1 b (by omega)).1
     have kf:=(H3.out.c1 b (by omega)).2;have HCe:=Hd hc;clear hc;have wc1:IntKind.i64.wrap ((c:Int)+1)=((c+1:Nat):Int):=by rw[IntKind.wrap_i64];omega
     have hbi:(b:Int)<286:=by omega
     have hbj:(0:Int)≤(b:Int):=by omega
     have b0:=H4.out.cell 0;have b1:=H4.out.cell 1;simp only[List.getElem?_toArray,List.getElem?_cons_succ,List.getElem?_cons_zero] at b0 b1;have HN:=Hd (H3.out.put1 b (by omega) c HCe.out);have HS:=Hd (show Dfl.symO t=b by unfold Dfl.symO;rw[if_pos (by rw[HVL.out];rfl)];exact HB.out);go_wp2_with fail;refine⟨⟨i+1,by simp,by omega,by rw[HRS.out,Dfl.cntS_push ts t b HS.out,Dfl.cntD_lit ts t (by rw[HVL.out];rfl)];exact HN⟩,by simp[intOf];omega⟩
    ·have hm2:3≤vl∧vl≤258∧1≤dd∧dd≤32768:=by have:=HOK2.out;have:=HVL.out;have:=HDD.out;omega
     obtain⟨vd,hvd⟩:∃n:Nat,dd=(n:Int):=⟨dd.toNat,by omega⟩;subst hvd;have HT0:Hid (t.l≠0):=Hd (by rw[HVL.out];omega);obtain⟨p1,_,_⟩:=Dfl.plc_lens (v:=vl) (by omega) (by omega);obtain⟨d1,_,_⟩:=Dfl.plc_dists (v:=vd) (by omega) (by omega);have hv0Lens:3≤vl:=by omega
     have hv0Dists:1≤vd:=by omega
     have hvlb:vl≤258:=by omega
     have hvdb:vd≤32768:=by omega
     clear hm2;obtain⟨k,hk⟩:∃k,Dfl.plc Inf.lensL vl=k:=⟨_,rfl⟩;obtain⟨d,hd⟩:∃k,Dfl.plc Inf.distsL vd=k:=⟨_,rfl⟩;rw[hk] at p1;rw[hd] at d1;have HK:=Hd hk;have HD:=Hd hd;clear hk hd;have hd30i:(d:Int)<30:=by omega
     have hd0i:(0:Int)≤(d:Int):=by omega
     obtain⟨sk,hsk⟩:∃s,257+k=s:=⟨_,rfl⟩;have ek:(257:Int)+(k:Int)=(sk:Int):=by omega
     have HSK:=Hd hsk;have hsk2:sk<286:=by omega
     have hski:(sk:Int)<286:=by omega
     have hskj:(0:Int)≤(sk:Int):=by omega
     have wk:IntKind.i64.wrap (sk:Int)=(sk:Int):=by rw[IntKind.wrap_i64];omega
     have t1:((vl:Int) ==0)=false:=beq_eq_false_iff_ne.2 (by omega);clear hsk hl0;have HS:=Hd (show Dfl.symO t=sk by unfold Dfl.symO;rw[if_neg HT0.out,HVL.out,Int.toNat_natCast,HK.out,HSK.out]);have HDs:=Hd (show Dfl.plc Inf.distsL t.d.toNat=d by rw[HDD.out,Int.toNat_natCast,HD.out]);go_upto_region 6 with fail;refine wp_world (fun wz=>CG w wz g1 g2 (Dfl.cntS ts) (Dfl.cntD ts)∧Bk wz wr.heap.size #[.int .u8 (b:Int),.int .i64 (vl:Int),.int .i64 (vd:Int)]) ⟨HC.out.grow ((Ext.refl _).alloc _),Bk.at rfl⟩ ?_;rintro w3 ⟨h3,h4⟩;obtain⟨T,hT⟩:∃T,wr.heap.size=T:=⟨_,rfl⟩;have HTT:=Hd hT;rw[hT] at h4;rw[hT];have H3:=Hd h3;have H4:=Hd h4;have HTg:=Hd (show g1<T from by have:=HC.out.l1;have:=HTT.out;omega);have HTb3:=Hd (HTb.out.ext H3.out.ext);clear HC k0 k1 k2 h3 h4 hT;obtain⟨c,hc⟩:∃c,Dfl.cntS ts sk=c:=⟨_,rfl⟩;have hcl:c≤1+i:=by rw[← hc];exact HCL.out sk
     have kc:w3.cell? ⟨g1,sk,none⟩=some (.int .i64 (c:Int)):=by rw[← hc];exact (H3.out.c1 sk (by omega)).1
     have kf:=(H3.out.c1 sk (by omega)).2;have HCe:=Hd hc;clear hc;have wc1:IntKind.i64.wrap ((c:Int)+1)=((c+1:Nat):Int):=by rw[IntKind.wrap_i64];omega
     have b1:=H4.out.cell 1;simp only[List.getElem?_toArray,List.getElem?_cons_succ,List.getElem?_cons_zero] at b1;go_wp2_with fail;have hp:=still_of (place_any ⟨11,0,none⟩ 29 29 vl Inf.lensL w3.drew rfl (by decide) (by decide) (fun k hk=>by rw[add_plain];exact HTb3.out.lens k hk) (Nat.le_trans (by decide:Inf.lensL.getD 0 0≤3) hv0Lens) (by omega));rw[HK.out] at hp;have HP:=Hd hp;clear hp;refine wp_region_tailQ 9 (by kernel_rfl) (by kernel_rfl) ?_;simp only[List.take_succ_cons,List.take_zero,List.drop_succ_cons,List.drop_zero];(iterate 4 (refine wpQ_yes (by kernel_rfl) fun K hK=>?_;go_simp;refine hK _ ?_;clear hK K));refine wpQ_yes (by kernel_rfl) fun K hK=>?_;go_simp;refine⟨_,HP.out,hK _ ?_⟩;(iterate 4 (clear hK K;refine wpQ_yes (by kernel_rfl) fun K hK=>?_;go_simp;refine hK _ ?_));clear hK K;refine wpQ_nil ?_;clear HP;have HN:=Hd (H3.out.drew.put1 sk (by omega) c HCe.out);change wpList _ _ _ _ _ w3.drew;go_wp2_with fail;refine wp_world (fun wz=>CG w wz g1 g2 (Dfl.bump (Dfl.cntS ts) sk) (Dfl.cntD ts)∧Bk wz T #[.int .u8 (b:Int),.int .i64 (vl:Int),.int .i64 (vd:Int)]) ⟨HN.out,H4.out.drew.far (p:=⟨g1,sk,none⟩) (by have:=HTg.out;show T≠g1;omega) _⟩ ?_
     rintro w4 ⟨h3,h4⟩;clear H3 H4 HN kc kf b1 HTb3;have H3:=Hd h3;have H4:=Hd h4;have HTb4:=Hd (HTb.out.ext H3.out.ext);clear h3 h4;obtain⟨c2,hc⟩:∃c,Dfl.cntD ts d=c:=⟨_,rfl⟩;have hcl2:c2≤i:=by rw[← hc];exact HDL.out d
     have kc:w4.cell? ⟨g2,d,none⟩=some (.int .i64 (c2:Int)):=by rw[← hc];exact (H3.out.c2 d (by omega)).1
     have kf:=(H3.out.c2 d (by omega)).2;have HCe2:=Hd hc;clear hc;have wc2:IntKind.i64.wrap ((c2:Int)+1)=((c2+1:Nat):Int):=by rw[IntKind.wrap_i64];omega
     have b2:=H4.out.cell 2;simp only[List.getElem?_toArray,List.getElem?_cons_succ,List.getElem?_cons_zero] at b2;have hp:=still_of (place_any ⟨13,0,none⟩ 30 30 vd Inf.distsL w4.drew rfl (by decide) (by decide) (fun k hk=>by rw[add_plain];exact HTb4.out.dists k hk) (Nat.le_trans (by decide:Inf.distsL.getD 0 0≤1) hv0Dists) (by omega));rw[HD.out] at hp;have HP:=Hd hp;clear hp;refine wp_region_tailQ 8 (by kernel_rfl) (by kernel_rfl) ?_;simp only[List.take_succ_cons,List.take_zero,List.drop_succ_cons,List.drop_zero];(iterate 4 (refine wpQ_yes (by kernel_rfl) fun K hK=>?_;go_simp;refine hK _ ?_;clear hK K));refine wpQ_yes (by kernel_rfl) fun K hK=>?_;go_simp;refine⟨_,HP.out,hK _ ?_⟩;(iterate 3 (clear hK K;refine wpQ_yes (by kernel_rfl) fun K hK=>?_;go_simp;refine hK _ ?_));clear hK K;refine wpQ_nil ?_;clear HP;have HN:=Hd (H3.out.drew.put2 d (by omega) c2 HCe2.out);change wpList _ _ _ _ _ w4.drew;go_wp2_with fail;refine⟨⟨i+1,by simp,by omega,by rw[HRS.out,Dfl.cntS_push ts t sk HS.out,Dfl.cntD_push ts t d HT0.out HDs.out];exact HN⟩,by simp[intOf];omega⟩
   ·obtain rfl:i=n:=by omega
    have t0:decide ((i:Int)<(i:Int))=false:=decide_eq_false (by omega);go_wp2_with fail;go_ret2;exact⟨g1,g2,rfl,HC.out⟩
namespace Dfl
structure Rn where
 s:Nat
 m:Nat
 b:Nat
def StepR (l:List Nat) (r:Rn) (l':List Nat):Prop:=
 (r.s≤15∧r.m=0∧r.b=0∧l'=l ++ [r.s])∨
 (r.s=16∧r.b=2∧r.m<4∧l≠[]∧l'=l++List.replicate (3+r.m) (l.getD (l.length-1) 0))∨
 (r.s=17∧r.b=3∧r.m<8∧l'=l++List.replicate (3+r.m) 0)∨
 (r.s=18∧r.b=7∧r.m<128∧l'=l++List.replicate (11+r.m) 0)
inductive Says:List Nat→List Rn→List Nat→Prop
 | nil (l:List Nat):Says l [] l
 | cons {l l1 l2:List Nat} {r:Rn} {rs:List Rn} (h:StepR l r l1) (k:Says l1 rs l2):Says l (r ::rs) l2
theorem Says.push {l l1 l2:List Nat} {r:Rn} {rs:List Rn} (h:Says l rs l1) (k:StepR l1 r l2):Says l (rs ++ [r]) l2:=by
 induction h with
 | nil l=>exact .cons k (.nil _)
 | cons h _ ih=>exact .cons h (ih k)
theorem StepR.grow {l l':List Nat} {r:Rn} (h:StepR l r l'):l.length<l'.length:=by
 rcases h with⟨_,_,_,rfl⟩ | ⟨_,_,_,_,rfl⟩ | ⟨_,_,_,rfl⟩ | ⟨_,_,_,rfl⟩ <;> simp <;> omega
theorem StepR.bd {l l':List Nat} {r:Rn} (h:StepR l r l'):r.s<19∧r.m<2^r.b∧r.b≤7:=by
 rcases h with⟨h1,h2,h3,_⟩ | ⟨h1,h2,h3,_,_⟩ | ⟨h1,h2,h3,_⟩ | ⟨h1,h2,h3,_⟩
 ·rw[h2,h3];exact⟨by omega,by decide,by decide⟩
 ·rw[h1,h2];exact⟨by decide,by omega,by decide⟩
 ·rw[h1,h2];exact⟨by decide,by omega,by decide⟩
 ·rw[h1,h2];exact⟨by decide,by omega,by decide⟩
theorem Says.grow {l l':List Nat} {rs:List Rn} (h:Says l rs l'):l.length+rs.length≤l'.length:=by
 induction h with
 | nil l=>simp
 | cons h _ ih=>have:=h.grow;simp only[List.length_cons];omega
theorem Says.bd {l l':List Nat} {rs:List Rn} (h:Says l rs l'):∀r∈rs,r.s<19∧r.m<2^r.b∧r.b≤7:=by
 induction h with
 | nil l=>intro r hr;cases hr
 | cons h _ ih=>
  intro r hr;rcases List.mem_cons.1 hr with rfl | q
  ·exact h.bd
  ·exact ih r q
def runB (f:Nat→Int) (r:Rn):List Bool:=wordB f 19 r.s++Bts.low r.m r.b
def runsB (f:Nat→Int) (rs:List Rn):List Bool:=(rs.map (runB f)).flatten
theorem runsB_cons (f:Nat→Int) (r:Rn) (rs:List Rn):runsB f (r ::rs)=runB f r++runsB f rs:=by simp[runsB]
theorem runs_read {L:List UInt8} {f:Nat→Int} (hc:complete f 19) {l l':List Nat} {rs:List Rn} (hS:Says l rs l'):
  ∀(F a:Nat) (C:List Bool),(∀r∈rs,1≤f r.s∧f r.s≤15)→rs.length<F→At L a (runsB f rs++C)→
   Inf.lens L f l'.length F a l=.ok (l',a+(runsB f rs).length):=by
 induction hS with
 | nil l=>
  intro F a C _ hF _;obtain⟨F,rfl⟩:∃F',F=F'+1:=⟨F-1,by simp at hF;omega⟩;unfold Inf.lens;rw[if_pos (Nat.le_refl _)];rfl
 | @cons l l1 l2 r rs h k ih=>
  intro F a C hu hF hA;obtain⟨F,rfl⟩:∃F',F=F'+1:=⟨F-1,by simp at hF;omega⟩;have hg:=h.grow;have hg2:=k.grow;obtain⟨b1,b2,b3⟩:=h.bd;obtain⟨u1,u2⟩:=hu r (List.mem_cons_self ..);rw[runsB_cons,runB,List.append_assoc,List.append_assoc] at hA;have n1:=hA.left.nxt hc b1 u1 u2;have A2:=hA.right;have g1:=A2.left.get b2;have A3:=A2.right;rw[Bts.low_length] at A3;have hn:=ih F (a+(wordB f 19 r.s).length+r.b) C (fun x hx=>hu x (List.mem_cons_of_mem _ hx)) (by simp at hF;omega) A3;have hlen:(runsB f (r ::rs)).length=(wordB f 19 r.s).length+r.b+(runsB f rs).length:=by
   rw[runsB_cons,runB];simp only[List.length_append,Bts.low_length]
  unfold Inf.lens;rw[if_neg (by omega),n1];simp only[];have hr:∃t what,Inf.rep L r.s (a+(wordB f 19 r.s).length) l=.ok (t,what,a+(wordB f 19 r.s).length+r.b)∧l++List.replicate t what=l1:=by
   unfold Inf.rep;rcases h with⟨h1,h2,h3,h4⟩ | ⟨h1,h2,h3,h5,h4⟩ | ⟨h1,h2,h3,h4⟩ | ⟨h1,h2,h3,h4⟩
   ·rw[if_neg (by omega),if_neg (by omega),if_neg (by omega),h3];exact⟨1,r.s,rfl,by rw[h4];rfl⟩
   ·rw[h2] at g1⊢;rw[if_pos h1,if_neg h5,g1];exact⟨_,_,rfl,h4.symm⟩
   ·rw[h2] at g1⊢;rw[if_neg (by omega),if_pos h1,g1];exact⟨_,_,rfl,h4.symm⟩
   ·rw[h2] at g1⊢;rw[if_neg (by omega),if_neg (by omega),if_pos h1,g1];exact⟨_,_,rfl,h4.symm⟩
  obtain⟨t,what,e1,e2⟩:=hr;rw[e1];simp only[];have ht:l.length+t=l1.length:=by rw[← e2];simp
  rw[if_neg (by omega),e2,hn,hlen];congr 2
  omega
theorem take_rep {l:List Nat} {x:Nat}:∀(k a:Nat),(∀j,a≤j→j<a+k→l.getD j 0=x)→a+k≤l.length→l.take a++List.replicate k x=l.take (a+k)
 | 0,a,_,_=>by simp
 | k+1,a,h,hl=>by
  have ih:=take_rep k a (fun j h1 h2=>h j h1 (by omega)) (by omega);rw[List.replicate_succ',← List.append_assoc,ih,← Nat.add_assoc,List.take_add_one];congr 1
  have q:=h (a+k) (by omega) (by omega);rw[List.getD,List.getElem?_eq_getElem (by omega)] at q;rw[List.getElem?_eq_getElem (by omega)];simp at q⊢;exact q.symm
theorem take_last {l:List Nat} {a:Nat} (h:0<a) (hl:a≤l.length):(l.take a).getD ((l.take a).length-1) 0=l.getD (a-1) 0:=by
 rw[List.length_take,Nat.min_eq_left hl,List.getD,List.getD,List.getElem?_take_of_lt (by omega)]
end Dfl
def rnV (rs:List Dfl.Rn):List Value:=rs.flatMap fun r=> [.int .i64 (r.s:Int),.int .i64 (r.m:Int),.int .i64 (r.b:Int)]
theorem rnV_push (rs:List Dfl.Rn) (r:Dfl.Rn):rnV (rs ++ [r])=rnV rs ++ [.int .i64 (r.s:Int),.int .i64 (r.m:Int),.int .i64 (r.b:Int)]:=by simp[rnV]
theorem runinf:(Tryz.prog.info? 191).map (fun i=>(i.zero,i.size,i.bytes))=some (some (.agg #[.int .i64 0,.int .i64 0,.int .i64 0]),3,24):=by kernel_rfl
/-- a row of runs, of the call's own -/
structure RR (w wr:World) (v:Value) (rs:List Dfl.Rn):Prop where
 ext:Ext w wr
 row:wr.ownsRow w.heap.size 191 3 v rs.length (rnV rs)
theorem RR.drew {w wr:World} {v:Value} {rs:List Dfl.Rn} (h:RR w wr v rs):RR w wr.drew v rs:=⟨Below.drew h.ext,ownsRow_kept h.row (Keeps.drew (S:=fun _=>False) (Keeps.refl _ _)) (fun _ _=>id)⟩
theorem RR.grow {w wr w':World} {v:Value} {rs:List Dfl.Rn} (h:RR w wr v rs) (hE:Ext wr w'):RR w w' v rs:=⟨h.ext.trans hE,ownsRow_kept h.row hE.keeps (S:=fun _=>False) (fun _ _=>id)⟩
theorem RR.push {w wr w':World} {v v':Value} {rs:List Dfl.Rn} {ob:Obj} (h:RR w wr v rs) (r:Dfl.Rn) (ho:w'.ownsRow w.heap.size 191 3 v' (rs.length+1) (rnV rs ++ [.int .i64 (r.s:Int),.int .i64 (r.m:Int),.int .i64 (r.b:Int)])) (hg:(wr.alloc ob).grownBy w' v.ownBlock):RR w w' v' (rs ++ [r]):=by
 refine⟨Below.trans (h.ext.trans ((Ext.refl wr).alloc ob)) ((Keeps.grown hg).below (h.ext.trans ((Ext.refl wr).alloc ob)).size (fun k hk e=>by have:=(World.ownsRow.lt h.row k e).1;omega)),?_⟩;rw[List.length_append,List.length_singleton,rnV_push];exact ho
def RunPost (w:World) (l:List Nat) (e:Ending) (w':World):Prop:=∃v rs,e=.returned v∧RR w w' v rs∧Dfl.Says [] rs l
/-- amid a run of lengths: d are said of those up to e -/
structure RnAt (l:List Nat) (a e x d:Nat) (rs:List Dfl.Rn):Prop where
 says:Dfl.Says [] rs (l.take d)
 lo:a≤d
 hi:d≤e
 le:e≤l.length
 eq:∀j,a≤j→j<e→l.getD j 0=x
 pos:0<x→a<d
 small:x≤15
theorem RnAt.one {l:List Nat} {a e x d:Nat} {rs:List Dfl.Rn} (h:RnAt l a e x d rs) (hd:d<e):RnAt l a e x (d+1) (rs ++ [⟨x,0,0⟩]):=by
 refine⟨h.says.push (.inl ⟨h.small,rfl,rfl,?_⟩),by have:=h.lo;omega,hd,h.le,h.eq,fun _=>by have:=h.lo;omega,h.small⟩;exact (Dfl.take_rep 1 d (fun j h1 h2=>h.eq j (by have:=h.lo;omega) (by omega)) (by have:=h.le;omega)).symm
theorem RnAt.eighteen {l:List Nat} {a e x d k:Nat} {rs:List Dfl.Rn} (h:RnAt l a e x d rs) (h0:x=0) (hk:11≤k) (hk2:k≤138) (hd:d+k≤e):RnAt l a e x (d+k) (rs ++ [⟨18,k-11,7⟩]):=by
 subst h0;refine⟨h.says.push (.inr (.inr (.inr ⟨rfl,rfl,by show k-11<128;omega,?_⟩))),by have:=h.lo;omega,hd,h.le,h.eq,fun q=>by omega,h.small⟩;rw[show 11+(k-11)=k by omega];exact (Dfl.take_rep k d (fun j h1 h2=>h.eq j (by have:=h.lo;omega) (by omega)) (by have:=h.le;omega)).symm
theorem RnAt.seventeen {l:List Nat} {a e x d k:Nat} {rs:List Dfl.Rn} (h:RnAt l a e x d rs) (h0:x=0) (hk:3≤k) (hk2:k≤10) (hd:d+k≤e):RnAt l a e x (d+k) (rs ++ [⟨17,k-3,3⟩]):=by
 subst h0;refine⟨h.says.push (.inr (.inr (.inl ⟨rfl,rfl,by show k-3<8;omega,?_⟩))),by have:=h.lo;omega,hd,h.le,h.eq,fun q=>by omega,h.small⟩;rw[show 3+(k-3)=k by omega];exact (Dfl.take_rep k d (fun j h1 h2=>h.eq j (by have:=h.lo;omega) (by omega)) (by have:=h.le;omega)).symm
theorem RnAt.sixteen {l:List Nat} {a e x d k:Nat} {rs:List Dfl.Rn} (h:RnAt l a e x d rs) (hx:0<x) (hk:3≤k) (hk2:k≤6) (hd:d+k≤e):RnAt l a e x (d+k) (rs ++ [⟨16,k-3,2⟩]):=by
 have hp:=h.pos hx;have hl:=h.le;refine⟨h.says.push (.inr (.inl ⟨rfl,rfl,by show k-3<4;omega,?_,?_⟩)),by omega,hd,h.le,h.eq,fun q=>by omega,h.small⟩
 ·intro e0;have:=congrArg List.length e0;rw[List.length_take,List.length_nil] at this;omega
 ·rw[Dfl.take_last (by omega) (by omega),h.eq (d-1) (by omega) (by omega),show 3+(k-3)=k by omega];exact (Dfl.take_rep k d (fun j h1 h2=>h.eq j (by omega) (by omega)) (by omega)).symm
set_option maxHeartbeats 8000000 in
theorem runs_any (x:Option Addr) (n cap:Nat) (l:List Nat) (w:World) (hl:l.length=n) (hx:Ints w x n (Inf.fn l)) (hn:n≤1000) (hb:∀j,j<n→l.getD j 0≤15):
  Calls Tryz.prog 129 #[.slice x n cap] w fun e w'=>RunPost w l e w':=by
 have HI:=Hd hx;have HBD:=Hd hb;have HLn:=Hd hl;obtain⟨j0,hj0,hj1,hj2,hj3⟩:=info_parts runinf;clear hx hb hl;go_enter Tryz.func129,Tryz.ntmps129
 go_wp2_with fail;go_loopw [3,4] (fun ov iv wr=>∃(a:Nat) (rs:List Dfl.Rn),iv=.int .i64 (a:Int)∧a≤n∧Hid (RR w wr ov rs)∧Hid (Dfl.Says [] rs (l.take a))) (fun _ iv _=>n-(intOf iv).toNat)
 case atStart=>exact⟨0,[],rfl,by omega,Hd ⟨Ext.refl _,World.ownsRow_nil _ _ _ _⟩,Hd (.nil _)⟩
 case round=>
  obtain⟨a,rs,rfl,ha,HR,HS⟩:=hrel;by_cases hlt:a<n
  ·have t0:decide ((a:Int)<(n:Int))=true:=decide_eq_true (by omega);obtain⟨A,rfl⟩:∃A,x=some A:=by
    cases x with
    | none=>have:=HI.out.1 rfl;omega
    | some A=>exact⟨A,rfl⟩
   obtain⟨y,hy⟩:∃y,l.getD a 0=y:=⟨_,rfl⟩;have hy15:y≤15:=by rw[← hy];exact HBD.out a hlt
   have HY:=Hd hy;clear hy;have hai:(0:Int)≤(a:Int):=by omega
   have hani:(a:Int)<(n:Int):=by omega
   go_upto_block 2 with fail;go_cut [5] (fun s5 wx=>∃m:Nat,s5=.int .i64 (m:Int)∧1≤m∧a+m≤n∧Hid (∀j,a≤j→j<a+m→l.getD j 0=y)∧Hid (RR w wx u3 rs))
   case first=>
    go_wp2_with fail;go_loopw [5] (fun s5 wx=>∃m:Nat,s5=.int .i64 (m:Int)∧1≤m∧a+m≤n∧Hid (∀j,a≤j→j<a+m→l.getD j 0=y)∧Hid (RR w wx u3 rs)) (fun s5 _=>n-(intOf s5).toNat)
    case atStart=>
     refine⟨1,rfl,Nat.le_refl _,by omega,Hd (fun j h1 h2=>?_),HR⟩;have e1:j=a:=by omega
     rw[e1];exact HY.out
    case round=>
     clear HR;obtain⟨m,rfl,hm1,hm2,HE,HR⟩:=hrel;obtain⟨s,hs⟩:∃s,a+m=s:=⟨_,rfl⟩;have es:(a:Int)+(m:Int)=(s:Int):=by omega
     have ws:IntKind.i64.wrap (s:Int)=(s:Int):=by rw[IntKind.wrap_i64];omega
     have wm:IntKind.i64.wrap ((m:Int)+1)=((m+1:Nat):Int):=by rw[IntKind.wrap_i64];omega
     have HSe:=Hd hs;clear hs;by_cases hsn:s<n
     ·have t1:decide ((s:Int)<(n:Int))=true:=decide_eq_true (by omega);have hsi:(0:Int)≤(s:Int):=by omega
      have hsni:(s:Int)<(n:Int):=by omega
      obtain⟨z,hz⟩:∃z,l.getD s 0=z:=⟨_,rfl⟩;have hcI:=HI.out.ext HR.out.ext;have k0:wr.cell? (A.add a)=some (.int .i64 (y:Int)):=by have:=(hcI.2 A rfl a hlt).1;rw[this];unfold Inf.fn;rw[HY.out]
      have k1:wr.cell? (A.add s)=some (.int .i64 (z:Int)):=by have:=(hcI.2 A rfl s hsn).1;rw[this];unfold Inf.fn;rw[hz]
      have HZ:=Hd hz;have HR2:=Hd HR.out.drew;clear hz hcI;by_cases hzy:z=y
      ·have t2:((z:Int) ==(y:Int))=true:=beq_iff_eq.2 (by omega);have HE2:Hid (∀j,a≤j→j<a+(m+1)→l.getD j 0=y):=Hd (fun j h1 h2=>by
        rcases Nat.lt_or_ge j (a+m) with q | q
        ·exact HE.out j h1 q
        ·have:j=s:=by have:=HSe.out;omega
         rw[this,HZ.out,hzy])
       clear hzy HR;go_wp2_with fail;refine wp_regionQ (by kernel_rfl) (by kernel_rfl) ?_;(iterate 17 (refine wpQ_yes (by kernel_rfl) fun K hK=>?_;go_simp;refine hK _ ?_;clear hK K));refine wpQ_yes (by kernel_rfl) fun K hK=>?_;go_simp;refine hK _ ?_
       clear hK K;refine wpQ_yes (by kernel_rfl) fun K hK=>?_;go_simp;refine hK _ ?_;clear hK K;refine wpQ_nil ?_;clear k0 k1;go_wp2_with fail;refine⟨⟨m+1,rfl,by omega,by have:=HSe.out;omega,HE2,HR2⟩,by have:=HSe.out;simp[intOf];omega⟩
      ·have t2:((z:Int) ==(y:Int))=false:=beq_eq_false_iff_ne.2 (by omega);clear hzy HR;go_wp2_with fail;refine wp_regionQ (by kernel_rfl) (by kernel_rfl) ?_;(iterate 16 (refine wpQ_yes (by kernel_rfl) fun K hK=>?_;go_simp;refine hK _ ?_;clear hK K));refine wpQ_yes (by kernel_rfl) fun K hK=>?_;go_simp;refine hK _ ?_
       (iterate 2 (clear hK K;refine wpQ_yes (by kernel_rfl) fun K hK=>?_;go_simp;refine hK _ ?_));clear hK K;refine wpQ_nil ?_;clear k0 k1;go_wp2_with fail;go_meet
       exact⟨m,rfl,hm1,hm2,HE,HR2⟩
     ·have t1:decide ((s:Int)<(n:Int))=false:=decide_eq_false (by omega);have HR2:=Hd HR.out.drew;clear HR;go_wp2_with fail;refine wp_regionQ (by kernel_rfl) (by kernel_rfl) ?_;(iterate 7 (refine wpQ_yes (by kernel_rfl) fun K hK=>?_;go_simp;refine hK _ ?_;clear hK K));(iterate 11 (refine wpQ_no (by kernel_rfl) ?_;(try simp only[Act.put,xz])));refine wpQ_yes (by kernel_rfl) fun K hK=>?_;go_simp;refine hK _ ?_
      clear hK K;refine wpQ_nil ?_;go_wp2_with fail;go_meet
      exact⟨m,rfl,hm1,hm2,HE,HR2⟩
   case rest=>
    clear HR;obtain⟨m,rfl,hm1,hm2,HE,HR⟩:=hcut;obtain⟨e,he⟩:∃e,a+m=e:=⟨_,rfl⟩;have ee:(a:Int)+(m:Int)=(e:Int):=by omega
    have we:IntKind.i64.wrap (e:Int)=(e:Int):=by rw[IntKind.wrap_i64];omega
    have wm1:IntKind.i64.wrap ((m:Int)-1)=((m-1:Nat):Int):=by rw[IntKind.wrap_i64];omega
    have k0:wc.cell? (A.add a)=some (.int .i64 (y:Int)):=by have:=((HI.out.ext HR.out.ext).2 A rfl a hlt).1;rw[this];unfold Inf.fn;rw[HY.out]
    have HEe:=Hd he;have HRA:Hid (a<e∧e≤n∧∀j,a≤j→j<e→l.getD j 0=y):=Hd ⟨by omega,by omega,by rw[← he];exact HE.out⟩;have HKB:=Hd (show rs.length≤1000 from by have:=HS.out.grow;rw[List.length_take] at this;simp at this;omega);clear he;go_upto_if 42 with fail
    go_cut [3,5] (fun s3 s5 wx=>∃(d r:Nat) (rs:List Dfl.Rn),s5=.int .i64 (r:Int)∧d+r=e∧Hid (RnAt l a e y d rs)∧Hid (RR w wx s3 rs))
    case first=>
     clear k0;by_cases hy0:0<y
     ·have t1:decide ((0:Int)<(y:Int))=true:=decide_eq_true (by omega);have HA:Hid (RnAt l a e y (a+1) (rs ++ [⟨y,0,0⟩])):=Hd (by
       obtain⟨q1,q2,q3⟩:=HRA.out;refine⟨HS.out.push (.inl ⟨hy15,rfl,rfl,?_⟩),by omega,by omega,by rw[HLn.out];omega,q3,fun _=>by omega,hy15⟩;exact (Dfl.take_rep 1 a (fun j h1 h2=>q3 j h1 (by omega)) (by rw[HLn.out];omega)).symm)
      obtain⟨K,hK⟩:∃K,rs.length=K:=⟨_,rfl⟩;have HRL:=Hd (show wc.ownsRow w.heap.size 191 3 u3 K (rnV rs) from hK▸HR.out.row);have hKb:K≤1000:=by rw[← hK];exact HKB.out
      have hzc:w.heap.size≤wc.heap.size:=HR.out.ext.size;go_wp2_with (at_builtin;refine wpList_append_own_at _ rfl _ _ 188 rfl w.heap.size 191 j0 (.agg #[.int .i64 0,.int .i64 0,.int .i64 0]) 3 24 Tryz.underlying188 hj0 hj1 hj2 hj3 rfl (by decide) _ _ _ rfl (HRL.out.alloc _) ⟨wc.heap.size,0,none⟩ 1 1 [.int .i64 (y:Int),.int .i64 ((0:Nat):Int),.int .i64 ((0:Nat):Int)] rfl rfl ?d1 ?d2 ?d3 ?d4 ?d5 ?_)
      case d1=>
       intro j u hu;rw[add_plain];exact (Bk.at (w:=wc) rfl).cell j |>.trans (by simpa using hu)
      case d2=>
       intro u hu;simp only[List.mem_cons,List.not_mem_nil,or_false] at hu;rcases hu with rfl | rfl | rfl <;> rfl
      case d3=>unfold maxLen;omega
      case d4=>omega
      case d5=>rw[World.size_alloc];omega
      intro v4 w4 hown hgrow _ hat;have HN:=Hd (HR.out.push ⟨y,(0:Nat),(0:Nat)⟩ (by rw[hK];exact hown) hgrow);clear hown hgrow hat HRL hzc;go_wp2_with fail;go_meet
      exact⟨a+1,m-1,_,rfl,by have:=HEe.out;omega,HA,HN⟩
     ·obtain rfl:y=0:=by omega
      have t1:decide ((0:Int)<((0:Nat):Int))=false:=by decide
      have HA:Hid (RnAt l a e 0 a rs):=Hd ⟨HS.out,Nat.le_refl _,by have:=HRA.out.1;omega,by rw[HLn.out];exact HRA.out.2.1,HRA.out.2.2,fun q=>by omega,by omega⟩;go_wp2_with fail;go_meet
      exact⟨a,m,rs,rfl,by have:=HEe.out;omega,HA,HR⟩
    case rest=>
     clear HR HS k0 wm1 HKB;obtain⟨d,r,rs,rfl,hdr,HA,HR⟩:=hcut;have hen:=HRA.out.2.1;go_wp2_with fail;go_loopw [3,5] (fun s3 s5 wx=>∃(d r:Nat) (rs:List Dfl.Rn),s5=.int .i64 (r:Int)∧d+r=e∧Hid (RnAt l a e y d rs)∧Hid (RR w wx s3 rs)) (fun _ s5 _=>(intOf s5).toNat)
     case atStart=>exact⟨d,r,rs,rfl,hdr,HA,HR⟩
     case round=>
      clear HA HR hdr;obtain⟨d,r,rs,rfl,hdr,HA,HR⟩:=hrel;have HKB:=Hd (show rs.length≤1000 from by have:=HA.out.says.grow;have:=HA.out.hi;rw[List.length_take] at *;simp at *;omega);by_cases hr0:0<r
      ·have t1:decide ((0:Int)<(r:Int))=true:=decide_eq_true (by omega);by_cases hy0:y=0
       ·have ty:((y:Int) ==0)=true:=beq_iff_eq.2 (by omega);have ti:decide ((0:Int)<(y:Int))=false:=decide_eq_false (by omega);have n0:¬ 0<y:=by omega
        have HY0:=Hd hy0;clear hy0;by_cases h11:11≤r
        ·have tg:decide ((11:Int)≤(r:Int))=true:=decide_eq_true (by omega);obtain⟨k,hk⟩:∃k,(if 138<r then 138 else r)=k:=⟨_,rfl⟩;have hk1:11≤k:=by rw[← hk];split <;> omega
         have hk2:k≤138:=by rw[← hk];split <;> omega
         have hk3:k≤r:=by rw[← hk];split <;> omega
         have hm1:(if (138:Int)<(r:Int) then (138:Int) else (r:Int))=(k:Int):=by rw[← hk];split <;> split <;> omega
         have hm2:(if (r:Int)<138 then (r:Int) else 138)=(k:Int):=by rw[← hk];split <;> split <;> omega
         clear hk;obtain⟨q,hq⟩:∃q,k-11=q:=⟨_,rfl⟩;have eq:(k:Int)-11=(q:Int):=by omega
         have wk:IntKind.i64.wrap (q:Int)=(q:Int):=by rw[IntKind.wrap_i64];omega
         have wr2:IntKind.i64.wrap ((r:Int)-(k:Int))=((r-k:Nat):Int):=by rw[IntKind.wrap_i64];omega
         have HA2:=Hd (hq▸HA.out.eighteen HY0.out hk1 hk2 (by omega));obtain⟨K,hK⟩:∃K,rs.length=K:=⟨_,rfl⟩;have HRL:=Hd (show wr.ownsRow w.heap.size 191 3 u3 K (rnV rs) from hK▸HR.out.row);have hKb:K≤1000:=by rw[← hK];exact HKB.out
         have hzc:w.heap.size≤wr.heap.size:=HR.out.ext.size;go_wp2_with (at_builtin;refine wpList_append_own_at _ rfl _ _ 188 rfl w.heap.size 191 j0 (.agg #[.int .i64 0,.int .i64 0,.int .i64 0]) 3 24 Tryz.underlying188 hj0 hj1 hj2 hj3 rfl (by decide) _ _ _ rfl (HRL.out.alloc _) ⟨wr.heap.size,0,none⟩ 1 1 [.int .i64 (18:Int),.int .i64 (q:Int),.int .i64 (7:Int)] rfl rfl ?d1 ?d2 ?d3 ?d4 ?d5 ?_)
         case d1=>
          intro j u hu;rw[add_plain];exact (Bk.at (w:=wr) rfl).cell j |>.trans (by simpa using hu)
         case d2=>
          intro u hu;simp only[List.mem_cons,List.not_mem_nil,or_false] at hu;rcases hu with rfl | rfl | rfl <;> rfl
         case d3=>unfold maxLen;omega
         case d4=>omega
         case d5=>rw[World.size_alloc];omega
         intro v4 w4 hown hgrow _ hat;have HN:=Hd (HR.out.push ⟨18,q,7⟩ (by rw[hK];exact hown) hgrow);clear hown hgrow hat HRL hzc;go_wp2_with fail;go_roundw
         case rel=>exact⟨d+k,r-k,_,by go_num,by omega,HA2,HN⟩
         case measure=>simp[intOf];omega
        ·have tg:decide ((11:Int)≤(r:Int))=false:=decide_eq_false (by omega);by_cases h3:3≤r
         ·have th:decide ((3:Int)≤(r:Int))=true:=decide_eq_true (by omega);obtain⟨q,hq⟩:∃q,r-3=q:=⟨_,rfl⟩;have eq:(r:Int)-3=(q:Int):=by omega
          have wk:IntKind.i64.wrap (q:Int)=(q:Int):=by rw[IntKind.wrap_i64];omega
          have HA2:=Hd (hq▸HA.out.seventeen HY0.out h3 (by omega) (by omega));obtain⟨K,hK⟩:∃K,rs.length=K:=⟨_,rfl⟩;have HRL:=Hd (show wr.ownsRow w.heap.size 191 3 u3 K (rnV rs) from hK▸HR.out.row);have hKb:K≤1000:=by rw[← hK];exact HKB.out
          have hzc:w.heap.size≤wr.heap.size:=HR.out.ext.size;go_wp2_with (at_builtin;refine wpList_append_own_at _ rfl _ _ 188 rfl w.heap.size 191 j0 (.agg #[.int .i64 0,.int .i64 0,.int .i64 0]) 3 24 Tryz.underlying188 hj0 hj1 hj2 hj3 rfl (by decide) _ _ _ rfl (HRL.out.alloc _) ⟨wr.heap.size,0,none⟩ 1 1 [.int .i64 (17:Int),.int .i64 (q:Int),.int .i64 (3:Int)] rfl rfl ?d1 ?d2 ?d3 ?d4 ?d5 ?_)
          case d1=>
           intro j u hu;rw[add_plain];exact (Bk.at (w:=wr) rfl).cell j |>.trans (by simpa using hu)
          case d2=>
           intro u hu;simp only[List.mem_cons,List.not_mem_nil,or_false] at hu;rcases hu with rfl | rfl | rfl <;> rfl
          case d3=>unfold maxLen;omega
          case d4=>omega
          case d5=>rw[World.size_alloc];omega
          intro v4 w4 hown hgrow _ hat;have HN:=Hd (HR.out.push ⟨17,q,3⟩ (by rw[hK];exact hown) hgrow);clear hown hgrow hat HRL hzc;go_wp2_with fail;go_roundw
          case rel=>exact⟨d+r,0,_,by go_num,by omega,HA2,HN⟩
          case measure=>simp[intOf];omega
         ·have th:decide ((3:Int)≤(r:Int))=false:=decide_eq_false (by omega);have wr2:IntKind.i64.wrap ((r:Int)-1)=((r-1:Nat):Int):=by rw[IntKind.wrap_i64];omega
          have HA2:=Hd (HA.out.one (by omega));obtain⟨K,hK⟩:∃K,rs.length=K:=⟨_,rfl⟩;have HRL:=Hd (show wr.ownsRow w.heap.size 191 3 u3 K (rnV rs) from hK▸HR.out.row);have hKb:K≤1000:=by rw[← hK];exact HKB.out
          have hzc:w.heap.size≤wr.heap.size:=HR.out.ext.size;go_wp2_with (at_builtin;refine wpList_append_own_at _ rfl _ _ 188 rfl w.heap.size 191 j0 (.agg #[.int .i64 0,.int .i64 0,.int .i64 0]) 3 24 Tryz.underlying188 hj0 hj1 hj2 hj3 rfl (by decide) _ _ _ rfl (HRL.out.alloc _) ⟨wr.heap.size,0,none⟩ 1 1 [.int .i64 (y:Int),.int .i64 ((0:Nat):Int),.int .i64 ((0:Nat):Int)] rfl rfl ?d1 ?d2 ?d3 ?d4 ?d5 ?_)
          case d1=>
           intro j u hu;rw[add_plain];exact (Bk.at (w:=wr) rfl).cell j |>.trans (by simpa using hu)
          case d2=>
           intro u hu;simp only[List.mem_cons,List.not_mem_nil,or_false] at hu;rcases hu with rfl | rfl | rfl <;> rfl
          case d3=>unfold maxLen;omega
          case d4=>omega
          case d5=>rw[World.size_alloc];omega
          intro v4 w4 hown hgrow _ hat;have HN:=Hd (HR.out.push ⟨y,(0:Nat),(0:Nat)⟩ (by rw[hK];exact hown) hgrow);clear hown hgrow hat HRL hzc;go_wp2_with fail;go_roundw
          case rel=>exact⟨d+1,r-1,_,by go_num,by omega,HA2,HN⟩
          case measure=>simp[intOf];omega
       ·have ty:((y:Int) ==0)=false:=beq_eq_false_iff_ne.2 (by omega);have ti:decide ((0:Int)<(y:Int))=true:=decide_eq_true (by omega);by_cases h3:3≤r
        ·have tg:decide ((3:Int)≤(r:Int))=true:=decide_eq_true (by omega);obtain⟨k,hk⟩:∃k,(if 6<r then 6 else r)=k:=⟨_,rfl⟩;have hk1:3≤k:=by rw[← hk];split <;> omega
         have hk2:k≤6:=by rw[← hk];split <;> omega
         have hk3:k≤r:=by rw[← hk];split <;> omega
         have hm1:(if (6:Int)<(r:Int) then (6:Int) else (r:Int))=(k:Int):=by rw[← hk];split <;> split <;> omega
         have hm2:(if (r:Int)<6 then (r:Int) else 6)=(k:Int):=by rw[← hk];split <;> split <;> omega
         clear hk;obtain⟨q,hq⟩:∃q,k-3=q:=⟨_,rfl⟩;have eq:(k:Int)-3=(q:Int):=by omega
         have wk:IntKind.i64.wrap (q:Int)=(q:Int):=by rw[IntKind.wrap_i64];omega
         have wr2:IntKind.i64.wrap ((r:Int)-(k:Int))=((r-k:Nat):Int):=by rw[IntKind.wrap_i64];omega
         have HA2:=Hd (hq▸HA.out.sixteen (by omega) hk1 hk2 (by omega));obtain⟨K,hK⟩:∃K,rs.length=K:=⟨_,rfl⟩;have HRL:=Hd (show wr.ownsRow w.heap.size 191 3 u3 K (rnV rs) from hK▸HR.out.row);have hKb:K≤1000:=by rw[← hK];exact HKB.out
         have hzc:w.heap.size≤wr.heap.size:=HR.out.ext.size;go_wp2_with (at_builtin;refine wpList_append_own_at _ rfl _ _ 188 rfl w.heap.size 191 j0 (.agg #[.int .i64 0,.int .i64 0,.int .i64 0]) 3 24 Tryz.underlying188 hj0 hj1 hj2 hj3 rfl (by decide) _ _ _ rfl (HRL.out.alloc _) ⟨wr.heap.size,0,none⟩ 1 1 [.int .i64 (16:Int),.int .i64 (q:Int),.int .i64 (2:Int)] rfl rfl ?d1 ?d2 ?d3 ?d4 ?d5 ?_)
         case d1=>
          intro j u hu;rw[add_plain];exact (Bk.at (w:=wr) rfl).cell j |>.trans (by simpa using hu)
         case d2=>
          intro u hu;simp only[List.mem_cons,List.not_mem_nil,or_false] at hu;rcases hu with rfl | rfl | rfl <;> rfl
         case d3=>unfold maxLen;omega
         case d4=>omega
         case d5=>rw[World.size_alloc];omega
         intro v4 w4 hown hgrow _ hat;have HN:=Hd (HR.out.push ⟨16,q,2⟩ (by rw[hK];exact hown) hgrow);clear hown hgrow hat HRL hzc;go_wp2_with fail;go_roundw
         case rel=>exact⟨d+k,r-k,_,by go_num,by omega,HA2,HN⟩
         case measure=>simp[intOf];omega
        ·have tg:decide ((3:Int)≤(r:Int))=false:=decide_eq_false (by omega);have wr2:IntKind.i64.wrap ((r:Int)-1)=((r-1:Nat):Int):=by rw[IntKind.wrap_i64];omega
         have HA2:=Hd (HA.out.one (by omega));obtain⟨K,hK⟩:∃K,rs.length=K:=⟨_,rfl⟩;have HRL:=Hd (show wr.ownsRow w.heap.size 191 3 u3 K (rnV rs) from hK▸HR.out.row);have hKb:K≤1000:=by rw[← hK];exact HKB.out
         have hzc:w.heap.size≤wr.heap.size:=HR.out.ext.size;go_wp2_with (at_builtin;refine wpList_append_own_at _ rfl _ _ 188 rfl w.heap.size 191 j0 (.agg #[.int .i64 0,.int .i64 0,.int .i64 0]) 3 24 Tryz.underlying188 hj0 hj1 hj2 hj3 rfl (by decide) _ _ _ rfl (HRL.out.alloc _) ⟨wr.heap.size,0,none⟩ 1 1 [.int .i64 (y:Int),.int .i64 ((0:Nat):Int),.int .i64 ((0:Nat):Int)] rfl rfl ?d1 ?d2 ?d3 ?d4 ?d5 ?_)
         case d1=>
          intro j u hu;rw[add_plain];exact (Bk.at (w:=wr) rfl).cell j |>.trans (by simpa using hu)
         case d2=>
          intro u hu;simp only[List.mem_cons,List.not_mem_nil,or_false] at hu;rcases hu with rfl | rfl | rfl <;> rfl
         case d3=>unfold maxLen;omega
         case d4=>omega
         case d5=>rw[World.size_alloc];omega
         intro v4 w4 hown hgrow _ hat;have HN:=Hd (HR.out.push ⟨y,(0:Nat),(0:Nat)⟩ (by rw[hK];exact hown) hgrow);clear hown hgrow hat HRL hzc;go_wp2_with fail;go_roundw
         case rel=>exact⟨d+1,r-1,_,by go_num,by omega,HA2,HN⟩
         case measure=>simp[intOf];omega
      ·obtain rfl:r=0:=by omega
       have t1:decide ((0:Int)<((0:Nat):Int))=false:=rfl;have HS2:Hid (Dfl.Says [] rs (l.take e)):=Hd (by have q:=HA.out.says;rw[show d=e by omega] at q;exact q);go_wp2_with fail;refine⟨⟨e,rs,rfl,by omega,HR,HS2⟩,by have:=HRA.out.1;simp[intOf];omega⟩
  ·obtain rfl:a=n:=by omega
   have t0:decide ((a:Int)<(a:Int))=false:=decide_eq_false (by omega);have HS2:Hid (Dfl.Says [] rs l):=Hd (by have q:=HS.out;rw[List.take_of_length_le (by rw[HLn.out];exact Nat.le_refl _)] at q;exact q);go_wp2_with fail;go_ret;exact⟨_,rs,rfl,HR.out,HS2.out⟩
namespace Dfl
theorem Means.append {o o1 o2:List UInt8} {ts us:List Tk} (h:Means o ts o1) (k:Means o1 us o2):Means o (ts++us) o2:=by
 induction h with
 | nil o=>exact k
 | lit h1 h2 h ih=>exact .lit h1 h2 (ih k)
 | mat h0 h1 h2 h3 h4 h5 h ih=>exact .mat h0 h1 h2 h3 h4 h5 (ih k)
theorem Means.ok {o o1:List UInt8} {ts:List Tk} (h:Means o ts o1):∀t∈ts,t.l=0∨(3≤t.l∧t.l≤258∧1≤t.d∧t.d≤32768):=by
 induction h with
 | nil o=>intro t ht;cases ht
 | lit h1 h2 h ih=>
  intro t ht;rcases List.mem_cons.1 ht with rfl | q
  ·exact .inl h1
  ·exact ih t q
 | mat h0 h1 h2 h3 h4 h5 h ih=>
  intro t ht;rcases List.mem_cons.1 ht with rfl | q
  ·exact .inr ⟨h1,h2,h3,h4⟩
  ·exact ih t q
theorem Means.many {o o1:List UInt8} {ts:List Tk} (h:Means o ts o1):o.length+ts.length≤o1.length:=by
 induction h with
 | nil o=>simp
 | lit h1 h2 h ih=>simp at ih⊢;omega
 | mat h0 h1 h2 h3 h4 h5 h ih=>rw[copyL_length] at ih;simp;omega
theorem means_exp {tk:Nat→Tk}:∀(n:Nat) (out:List UInt8),expL tk n=.ok out→Means [] ((List.range n).map tk) out
 | 0,out,h=>by injection h with h;subst h;exact .nil _
 | n+1,out,h=>by
  simp only[expL] at h;split at h
  ·rename_i o1 h1;rw[List.range_succ,List.map_append];refine (means_exp n o1 h1).append ?_;show Means o1 [tk n] out;obtain⟨t,ht⟩:∃t,tk n=t:=⟨_,rfl⟩;rw[ht] at h⊢;unfold stepX at h;split at h
   ·rename_i hl;split at h
    ·cases h
    ·injection h with h;subst h;exact .lit hl.1 hl.2 (.nil _)
   ·rename_i hl;split at h
    ·cases h
    ·rename_i hb;split at h
     ·cases h
     ·injection h with h;subst h;unfold badP at hb;have h0:t.b=0:=by
       rcases Classical.em (t.b=0) with q | q
       ·exact q
       ·exact absurd (Or.inl q) hb
      have hb2:=fun q=>hb (Or.inr q);exact .mat h0 (by omega) (by omega) (by omega) (by omega) (by omega) (.nil _)
  ·cases h
theorem plc_l {t:Tk} (h1:3≤t.l) (h2:t.l≤258):plc Inf.lensL t.l.toNat<29:=(plc_lens (by omega) (by omega)).1
theorem plc_d {t:Tk} (h1:1≤t.d) (h2:t.d≤32768):plc Inf.distsL t.d.toNat<30:=(plc_dists (by omega) (by omega)).1
theorem tokB_pos {f g:Nat→Int} {len gen:Nat} {t:Tk} (h:Uses f len g gen t):1≤(tokB f len g gen t).length:=by
 have hw:∀k,1≤f k→1≤(wordB f len k).length:=by intro k hk;unfold wordB;rw[Bts.high_length];omega
 unfold tokB;split
 ·rename_i h0;exact hw _ (h.1 h0).2.1
 ·rename_i h0;rw[List.length_append];have:=hw _ (h.2 h0).1.2.1;omega
theorem toksB_len {f g:Nat→Int} {len gen:Nat}:∀ {ts:List Tk},(∀t∈ts,Uses f len g gen t)→ts.length≤(toksB f len g gen ts).length
 | [],_=>Nat.zero_le _
 | t ::ts,h=>by
  have h1:=toksB_len (fun x hx=>h x (List.mem_cons_of_mem _ hx));have h2:=tokB_pos (h t (List.mem_cons_self ..));have e:toksB f len g gen (t ::ts)=tokB f len g gen t++toksB f len g gen ts:=by simp[toksB]
  rw[e,List.length_append,List.length_cons];omega
theorem at_text {l post:List UInt8} {B:List Bool} (h1:l.length=(B.length+7)/8) (h2:Crc.num l=Bts.val B):At (l++post) 0 B:=by
 refine⟨by rw[List.length_append];omega,?_⟩;rw[Nat.pow_zero,Nat.div_one,numcat,h2];have q:=Bts.val_lt B;obtain⟨d,hd⟩:∃d,8*l.length=B.length+d:=⟨8*l.length-B.length,by omega⟩;rw[hd,Nat.pow_add,← Nat.mul_assoc,Nat.mul_right_comm,Nat.add_mul_mod_self_right,Nat.mod_eq_of_lt q]
end Dfl
end Go.Proofs.YthlibiocadimhaaGreatDoor
