/-
  A dynamic block's head: codes whose last lengths are 0 are cut; the head is read. Plain laws. No function of the program is named.
  A writer of a block: its tokens.
  A writer of a block: what it rests on.
  huff.Lengths: its test of the counts.
  huff.Lengths: what it does not take.
  Rows of cells of whatever values. No function of the program is named.
  slices.Grow of no row, slices.Concat of rows of whole numbers.
  Plain laws of rows sorted by a key: two sorted rows merged (the left one first where keys are alike), and a stable sort out of it.
  Rows of packs (what symbols cost together) in memory; what their sort's steps turn.
-/
import Derived.Test.YthlibiocadimhaaGreatDoorPngTwiceG1
import Derived.Test.YthlibiocadimhaaGreatDoorPngTwiceG7
import Derived.Test.YthlibiocadimhaaGreatDoorPngTwiceG6
import Derived.Deep.DeepCutAuto
import Derived.Deep.CutBlock
import Derived.Test.YthlibiocadimhaaGreatDoorPngTwiceG2
import Derived.RegionTactic
import Derived.Test.YthlibiocadimhaaGreatDoorPngTwiceG4
import Derived.Test.YthlibiocadimhaaGreatDoorProg
set_option linter.unusedSimpArgs false
set_option linter.unusedVariables false
set_option maxRecDepth 100000
namespace Go.Proofs.YthlibiocadimhaaGreatDoor
open Go.RowKit
theorem many_congr {f g:Nat→Int} {n:Nat}:∀ {len:Nat},(∀j,j<len→f j=g j)→many f n len=many g n len
 | 0,_=>rfl
 | len+1,h=>by
  simp only[many];rw[many_congr (fun j hj=>h j (by omega)),h len (by omega)]
theorem first_congr {f g:Nat→Int} {len:Nat} (h:∀j,j<len→f j=g j):∀n,first f len n=first g len n
 | 0=>rfl
 | 1=>rfl
 | n+2=>by simp only[first];rw[first_congr h (n+1),many_congr h]
theorem word_congr {f g:Nat→Int} {len k:Nat} (h:∀j,j<len→f j=g j) (hk:k<len):word f len k=word g len k:=by
 unfold word;rw[h k hk,first_congr h,many_congr (fun j hj=>h j (by omega))]
theorem kraft_congr {f g:Nat→Int} {len:Nat} (h:∀j,j<len→f j=g j):∀n,kraft f len n=kraft g len n
 | 0=>rfl
 | n+1=>by simp only[kraft];rw[kraft_congr h n,many_congr h]
theorem complete_congr {f g:Nat→Int} {len:Nat} (h:∀j,j<len→f j=g j) (hc:complete f len):complete g len:=by
 unfold complete at *;rw[← many_congr h,← many_congr h,← kraft_congr h];exact hc
theorem good_congr {f g:Nat→Int} {len:Nat} (h:∀j,j<len→f j=g j) (hc:Inf.good f len):Inf.good g len:=
 ⟨⟨hc.1.1,fun j hj=>by rw[← h j hj];exact hc.1.2 j hj⟩,complete_congr h hc.2⟩
/-- a code whose last lengths are 0 -/
theorem many_cut {f:Nat→Int} {n m:Nat} (hn:1≤n):∀ {d:Nat},(∀j,m≤j→j<m+d→f j=0)→many f n (m+d)=many f n m
 | 0,_=>rfl
 | d+1,h=>by
  rw[← Nat.add_assoc];simp only[many];rw[many_cut hn (fun j h1 h2=>h j h1 (by omega)),h (m+d) (by omega) (by omega),if_neg (by omega)];rfl
theorem many_cut0 {f:Nat→Int} {m:Nat}:∀ {d:Nat},(∀j,m≤j→j<m+d→f j=0)→many f 0 (m+d)=many f 0 m+d
 | 0,_=>rfl
 | d+1,h=>by
  rw[← Nat.add_assoc];simp only[many];rw[many_cut0 (fun j h1 h2=>h j h1 (by omega)),h (m+d) (by omega) (by omega),if_pos (by rfl)];omega
theorem first_cut {f:Nat→Int} {m d:Nat} (h:∀j,m≤j→j<m+d→f j=0):∀n,first f (m+d) n=first f m n
 | 0=>rfl
 | 1=>rfl
 | n+2=>by simp only[first];rw[first_cut h (n+1),many_cut (by omega) h]
theorem word_cut {f:Nat→Int} {m d:Nat} (h:∀j,m≤j→j<m+d→f j=0) (k:Nat):word f (m+d) k=word f m k:=by
 unfold word;rw[first_cut h]
theorem kraft_cut {f:Nat→Int} {m d:Nat} (h:∀j,m≤j→j<m+d→f j=0):∀n,kraft f (m+d) n=kraft f m n
 | 0=>rfl
 | n+1=>by simp only[kraft];rw[kraft_cut h n,many_cut (by omega) h]
theorem good_cut {f:Nat→Int} {m d:Nat} (h:∀j,m≤j→j<m+d→f j=0) (hg:Inf.good f (m+d)):Inf.good f m:=by
 refine⟨⟨by have:=hg.1.1;omega,fun j hj=>hg.1.2 j (by omega)⟩,?_⟩;have hc:=hg.2;unfold complete at *;rw[many_cut0 h,many_cut (by decide) h,kraft_cut h] at hc;rcases hc with q | ⟨q1,q2⟩ | q
 ·exact .inl (by omega)
 ·exact .inr (.inl ⟨by omega,q2⟩)
 ·exact .inr (.inr q)
namespace Dfl
theorem wordB_congr {f g:Nat→Int} {len k:Nat} (h:∀j,j<len→f j=g j) (hk:k<len):wordB f len k=wordB g len k:=by
 unfold wordB;rw[word_congr h hk,h k hk]
theorem wordB_cut {f:Nat→Int} {m d:Nat} (h:∀j,m≤j→j<m+d→f j=0) (k:Nat):wordB f (m+d) k=wordB f m k:=by
 unfold wordB;rw[word_cut h]
/-- a row's numbers -/
def rowN (f:Nat→Int) (m:Nat):List Nat:=(List.range m).map fun j=>(f j).toNat
theorem rowN_length (f:Nat→Int) (m:Nat):(rowN f m).length=m:=by simp[rowN]
theorem fn_rowN {f:Nat→Int} {m:Nat} (h:∀j,j<m→0≤f j):∀j,j<m→Inf.fn (rowN f m) j=f j:=by
 intro j hj;unfold Inf.fn rowN;rw[List.getD,List.getElem?_map,List.getElem?_range hj];have:=h j hj;simp;omega
def smallB (h:Nat→Int) (few:Nat):List Bool:=((List.range few).map fun i=>Bts.low (h (Inf.orderL.getD i 0)).toNat 3).flatten
theorem smallB_len (h:Nat→Int) (few:Nat):(smallB h few).length=3*few:=by
 induction few with
 | zero=>rfl
 | succ n ih=>
  have e:smallB h (n+1)=smallB h n++Bts.low (h (Inf.orderL.getD n 0)).toNat 3:=by simp[smallB,List.range_succ]
  rw[e,List.length_append,ih,Bts.low_length];omega
/-- what the small code's lengths are, i of them read -/
def part (h:Nat→Int) (i:Nat):Nat→Int:=fun j=>if (List.range i).any (fun t=>Inf.orderL.getD t 0=j) then h j else 0
theorem part_succ (h:Nat→Int) (i:Nat):Inf.upd (part h i) (Inf.orderL.getD i 0) (h (Inf.orderL.getD i 0))=part h (i+1):=by
 funext j
 unfold Inf.upd part;rw[List.range_succ,List.any_append];by_cases e:j=Inf.orderL.getD i 0
 ·rw[if_pos e,if_pos (by simp[e]),e]
 ·rw[if_neg e];have:(List.any [i] fun t=>decide (Inf.orderL.getD t 0=j))=false:=by simpa using fun q=>e (Eq.symm q)
  rw[this,Bool.or_false]
theorem smalls_read {L:List UInt8} {h:Nat→Int} (hh:∀j,j<19→0≤h j∧h j≤7):∀(r i a:Nat) (C:List Bool),i+r≤19→
  At L a (((List.range r).map fun t=>Bts.low (h (Inf.orderL.getD (i+t) 0)).toNat 3).flatten++C)→Inf.smalls L r i a (part h i)=.ok (part h (i+r),a+3*r)
 | 0,i,a,C,_,_=>rfl
 | r+1,i,a,C,hi,hA=>by
  have ho:∀i,i<19→Inf.orderL.getD i 0<19:=by decide
  have hb:=hh _ (ho i (by omega));rw[List.range_succ_eq_map,List.map_cons,List.flatten_cons,List.append_assoc,Nat.add_zero,List.map_map] at hA;have g1:=hA.left.get (by omega);have A2:=hA.right;rw[Bts.low_length] at A2;have e:((fun t=>Bts.low (h (Inf.orderL.getD (i+t) 0)).toNat 3) ∘ Nat.succ)=fun t=>Bts.low (h (Inf.orderL.getD (i+1+t) 0)).toNat 3:=by
   funext t
   show Bts.low (h (Inf.orderL.getD (i+(t+1)) 0)).toNat 3=_;rw[show i+(t+1)=i+1+t by omega]
  rw[e] at A2;have ih:=smalls_read hh r (i+1) (a+3) C (by omega) A2;simp only[Inf.smalls,g1];rw[show (((h (Inf.orderL.getD i 0)).toNat:Nat):Int)=h (Inf.orderL.getD i 0) by omega,part_succ,ih];congr 2
  ·congr 1;omega
  ·omega
theorem part_few {h:Nat→Int} {few:Nat} (hf:few≤19) (hz:∀i,few≤i→i<19→h (Inf.orderL.getD i 0)=0):∀j,j<19→part h few j=h j:=by
 intro j hj;unfold part;have hs:∀j,j<19→∃i,i<19∧Inf.orderL.getD i 0=j:=by decide
 obtain⟨i,hi,e⟩:=hs j hj;split
 ·rfl
 ·rename_i hn;rcases Nat.lt_or_ge i few with q | q
  ·exact absurd (List.any_eq_true.2 ⟨i,List.mem_range.2 q,by simpa using e⟩) hn
  ·have:=hz i q hi;rw[e] at this;exact this.symm
/-- the head of a dynamic block -/
def headB (many far few:Nat) (h:Nat→Int) (rs:List Rn):List Bool:=
 Bts.low (many-257) 5++(Bts.low (far-1) 5++(Bts.low (few-4) 4++(smallB h few++runsB h rs)))
theorem dyn_read {L:List UInt8} {a:Nat} {f g h:Nat→Int} {many far few:Nat} {rs:List Rn} {C:List Bool}
  (hm:257≤many∧many≤286) (hr:1≤far∧far≤30) (hw:4≤few∧few≤19) (hf:Inf.good f many) (hg:Inf.good g far) (hh:Inf.good h 19) (h7:∀j,j<19→h j≤7)
  (hz:∀i,few≤i→i<19→h (Inf.orderL.getD i 0)=0) (hS:Says [] rs (rowN f many++rowN g far)) (hu:∀r∈rs,1≤h r.s) (h256:f 256≠0)
  (hA:At L a (headB many far few h rs++C)):Inf.dyn L a=.ok (rowN f many,rowN g far,a+(headB many far few h rs).length):=by
 have hl:(headB many far few h rs).length=5+(5+(4+(3*few+(runsB h rs).length))):=by
  unfold headB;simp only[List.length_append,Bts.low_length,smallB_len]
 unfold headB at hA;simp only[List.append_assoc] at hA;have g1:=hA.left.get (by omega);have A1:=hA.right;have g2:=A1.left.get (by omega);have A2:=A1.right;have g3:=A2.left.get (by omega);have A3:=A2.right;rw[Bts.low_length] at A1 g2 A2 g3 A3;rw[Bts.low_length] at A2 g3 A3;rw[Bts.low_length] at A3;have e0:smallB h few=((List.range few).map fun t=>Bts.low (h (Inf.orderL.getD (0+t) 0)).toNat 3).flatten:=by
  unfold smallB;congr 2
  funext t
  rw[Nat.zero_add]
 have A4:=A3.right;rw[smallB_len] at A4;rw[e0] at A3;have hsm:=smalls_read (fun j hj=>⟨(hh.1.2 j hj).1,h7 j hj⟩) few 0 _ _ (by omega) A3;rw[Nat.zero_add] at hsm;have hp0:part h 0=fun _=>0:=by funext j;rfl
 rw[hp0] at hsm;have hpf:=part_few hw.2 hz;have hgood:=good_congr (fun j hj=>(hpf j hj).symm) hh;have hbd:=hS.bd;have hrb:runsB (part h few) rs=runsB h rs:=by
  unfold runsB;congr 1
  refine List.map_congr_left (fun r hr=>?_);unfold runB;rw[wordB_congr hpf (hbd r hr).1]
 rw[← hrb] at A4;have hlen:rs.length≤(rowN f many++rowN g far).length:=by have:=hS.grow;simpa using this
 have hrow:(rowN f many++rowN g far).length=many+far:=by rw[List.length_append,rowN_length,rowN_length]
 have hread:=runs_read hgood.2 hS (many+far+1) _ _ (fun r hr=>⟨by rw[hpf _ (hbd r hr).1];exact hu r hr,by rw[hpf _ (hbd r hr).1];have:=h7 _ (hbd r hr).1;omega⟩) (by omega) A4;rw[hrow] at hread;have q1:(rowN f many++rowN g far).take many=rowN f many:=by rw[List.take_append_of_le_length (by rw[rowN_length];exact Nat.le_refl _),List.take_of_length_le (by rw[rowN_length];exact Nat.le_refl _)]
 have q2:(rowN f many++rowN g far).drop many=rowN g far:=by rw[List.drop_append_of_le_length (by rw[rowN_length];exact Nat.le_refl _),List.drop_eq_nil_of_le (by rw[rowN_length];exact Nat.le_refl _),List.nil_append]
 have n1:Inf.good (Inf.fn (rowN f many)) many:=good_congr (fun j hj=>(fn_rowN (fun j hj=>(hf.1.2 j hj).1) j hj).symm) hf;have n2:Inf.good (Inf.fn (rowN g far)) far:=good_congr (fun j hj=>(fn_rowN (fun j hj=>(hg.1.2 j hj).1) j hj).symm) hg;have n3:(rowN f many++rowN g far).getD 256 0≠0:=by
  rw[List.getD,List.getElem?_append_left (by rw[rowN_length];omega)];unfold rowN;rw[List.getElem?_map,List.getElem?_range (by omega)];have:=(hf.1.2 256 (by omega)).1;simp;omega
 unfold Inf.dyn;rw[g1];simp only[];rw[g2];simp only[];rw[g3];simp only[];rw[show many-257+257=many by omega,show far-1+1=far by omega,show few-4+4=few by omega,if_neg (by omega),hsm];simp only[];rw[if_neg (fun q=>q hgood),hread];simp only[];rw[q1,q2,if_neg (fun q=>q n1),if_neg (fun q=>q n2),if_neg n3,hl];congr 3
 rw[hrb];omega
end Dfl
/-- what a call that writes a block rests on: it stays wherever but the writer's memory has turned -/
structure Base (w:World) (D Wb:Nat) (la da ca ea:Addr) (ln lc dn dc cc ec:Nat) (f g:Nat→Int) (x:Option Addr) (n:Nat) (tk:Nat→Tk):Prop where
 df:DF w D Wb la da ca ea ln lc dn dc cc ec f g
 toks:Toks w x n tk
 tabs:Tabs w
theorem WStep.redrew {w w':World} {B o:Nat} {v v':Value} (h:WStep w w' B o v v'):WStep w w'.drew B o v v':=⟨⟨h.keeps.os,h.keeps.tape,h.keeps.output,h.keeps.size,h.keeps.block⟩,h.cells,h.marks,h.new⟩
theorem wordB_len {f:Nat→Int} {ln k:Nat} (hf:∀k,k<ln→0≤f k∧f k≤15) (hk:k<ln):(Dfl.wordB f ln k).length≤15:=by
 unfold Dfl.wordB;rw[Bts.high_length];have:=hf k hk;omega
/-- the state of a call that writes tokens: the one at hand lies in T -/
structure TSt (w1 w:World) (Wb T:Nat) (u1 u:Value) (L:List Bool) (t:Tk):Prop where
 wb:WB w Wb u L
 st:WStep w1 w Wb 0 u1 u
 bk:Bk w T #[.int .u8 (t.b.toNat:Int),.int .i64 t.l,.int .i64 t.d]
 o1:u.ownBlock≠some T
 o2:T≠Wb
theorem TSt.new {w1 w:World} {Wb:Nat} {u1 u:Value} {L:List Bool} {t:Tk} (hW:WB w Wb u L) (hS:WStep w1 w Wb 0 u1 u) (ty:TypeId):TSt w1 (w.alloc (.cells #[.int .u8 (t.b.toNat:Int),.int .i64 t.l,.int .i64 t.d] ty)) Wb w.heap.size u1 u L t:=by
 have hb:=World.block_lt_of_cell? w _ hW.c0;refine⟨hW.ext ((Ext.refl w).alloc _),hS.ext ((Ext.refl w).alloc _) hb,Bk.at rfl,?_,fun e=>by have:Wb<w.heap.size:=hb;omega⟩;intro e;obtain⟨l,_,_,h3⟩:=hW.row;exact Nat.lt_irrefl _ (ownsRow_lt h3 e)
theorem TSt.drew {w1 w:World} {Wb T:Nat} {u1 u:Value} {L:List Bool} {t:Tk} (h:TSt w1 w Wb T u1 u L t):TSt w1 w.drew Wb T u1 u L t:=⟨h.wb.drew,h.st.redrew,h.bk.drew,h.o1,h.o2⟩
theorem TSt.step {w1 w w':World} {Wb T:Nat} {u1 u u':Value} {L L':List Bool} {t:Tk} (h:TSt w1 w Wb T u1 u L t) (hS:WStep w w' Wb 0 u u') (hW:WB w' Wb u' L'):TSt w1 w' Wb T u1 u' L' t:=by
 refine⟨hW,h.st.trans hS,h.bk.keeps hS.keeps (by rintro (e | e);exact h.o2 e;exact h.o1 e),fun e=>?_,h.o2⟩;rcases hS.new T e with q | q
 ·exact h.o1 q
 ·have:=h.bk.lt;omega
set_option maxHeartbeats 8000000 in
theorem writeToks_any (D Wb:Nat) (la da ca ea:Addr) (ln lc dn dc cc ec:Nat) (f g:Nat→Int) (x:Option Addr) (n cap:Nat) (tk:Nat→Tk) (u1:Value) (L0:List Bool) (w1:World)
  (hB:∀w,Keeps (fun k=>k=Wb∨u1.ownBlock=some k) w1 w→Base w D Wb la da ca ea ln lc dn dc cc ec f g x n tk) (hW:WB w1 Wb u1 L0) (hcf:complete f ln) (hcg:complete g dn) (hl1:286≤ln) (hl2:ln≤300) (hd1:30≤dn) (hd2:dn≤300)
  (hf:∀k,k<ln→0≤f k∧f k≤15) (hg:∀k,k<dn→0≤g k∧g k≤15) (hn:n≤310000) (hL:L0.length≤1000000)
  (hok:∀i,i<n→(tk i).l=0∨(3≤(tk i).l∧(tk i).l≤258∧1≤(tk i).d∧(tk i).d≤32768)):
  Calls Tryz.prog 126 #[.pointer (some ⟨D,0,none⟩),.slice x n cap] w1 fun e w'=>e=.returned (.tuple #[])∧∃u',WB w' Wb u' (L0++(Dfl.toksB f ln g dn ((List.range n).map tk)++Dfl.wordB f ln 256))∧WStep w1 w' Wb 0 u1 u':=by
 have HB:=Hd hB;have HW:=Hd hW;have HF:=Hd hf;have HG:=Hd hg;have HOK:=Hd hok;have HC:=Hd (And.intro hcf hcg);clear hB hW hf hg hok hcf hcg;go_enter Tryz.func126,Tryz.ntmps126
 go_wp2_with fail;go_loopw [10] (fun c wr=>∃i:Nat,c=.int .i64 i∧i≤n∧Hid (∃u B,B=Dfl.toksB f ln g dn ((List.range i).map tk)∧WB wr Wb u (L0++B)∧WStep w1 wr Wb 0 u1 u∧B.length≤100*i)) (fun c _=>n-(intOf c).toNat)
 case atStart=>exact⟨0,rfl,by omega,Hd ⟨u1,[],rfl,by simpa using HW.out,WStep.refl _ _ _ _,by simp⟩⟩
 case round=>
  obtain⟨i,rfl,hi,HS⟩:=hrel;by_cases hlt:i<n
  ·have t0:decide ((i:Int)<(n:Int))=true:=decide_eq_true (by omega);obtain⟨u,B,hBB,hw,hst,hbl⟩:=HS.out;have hbase:=HB.out wr hst.keeps;obtain⟨a,rfl⟩:=hbase.toks.isSome hlt;obtain⟨k0,k1,k2,hok2⟩:=hbase.toks.2 a rfl i hlt;obtain⟨t,ht⟩:∃t,tk i=t:=⟨_,rfl⟩;rw[ht] at k0 k1 k2 hok2;have HT:=Hd (TSt.new (t:=t) hw hst 165);have HBN:=Hd (show Dfl.toksB f ln g dn ((List.range (i+1)).map tk)=B++Dfl.tokB f ln g dn t by
    rw[List.range_succ,List.map_append,hBB];simp[Dfl.toksB,ht])
   have HTK:=Hd ht;have HBL:=Hd hbl;clear hBB hbl hst hw HS;have wi:∀z,z=((i+1:Nat):Int)→IntKind.i64.wrap z=z:=by intro z hz;rw[IntKind.wrap_i64];omega
   have wb:∀z,z=((t.b.toNat:Nat):Int)→IntKind.i64.wrap z=z:=by intro z hz;rw[IntKind.wrap_i64];have:=t.b.toNat_lt;omega
   by_cases hl0:t.l=0
   ·have t1:(t.l ==0)=true:=beq_iff_eq.2 hl0;have HL0:=Hd hl0;clear hl0;go_wp2_with fail;have hb256:=t.b.toNat_lt;refine (symbol_any D Wb la da ca ea ln lc dn dc cc ec f g t.b.toNat u (L0++B) _ (HB.out _ HT.out.st.keeps).df HT.out.wb HC.out.1 (by omega) (HF.out _ (by omega)) (by have:=HBL.out;rw[List.length_append];omega)).mono ?_;rintro e w3 ⟨rfl,u3,hw,hst⟩;have H3:=Hd (HT.out.step hst hw);clear hw hst HT;go_wp2_with fail;have hwl:=wordB_len HF.out (show t.b.toNat<ln by omega);refine⟨⟨i+1,by simp,by omega,Hd ⟨u3,B++Dfl.wordB f ln t.b.toNat,by rw[HBN.out];unfold Dfl.tokB;rw[if_pos HL0.out],by have:=H3.out.wb;rw[List.append_assoc] at this;exact this,H3.out.st,by have:=HBL.out;rw[List.length_append];omega⟩⟩,by simp[intOf];omega⟩
   ·have hm:=HOK.out i hlt;rw[HTK.out] at hm;have hm2:3≤t.l∧t.l≤258∧1≤t.d∧t.d≤32768:=by rcases hm with q | q;exact absurd q hl0;exact q
    obtain⟨vl,hvl⟩:∃n:Nat,t.l=(n:Int):=⟨t.l.toNat,by omega⟩;obtain⟨vd,hvd⟩:∃n:Nat,t.d=(n:Int):=⟨t.d.toNat,by omega⟩;have t1:(t.l ==0)=false:=beq_eq_false_iff_ne.2 hl0;obtain⟨p1,p2,p3⟩:=Dfl.plc_lens (v:=vl) (by omega) (by omega);obtain⟨d1,d2,d3⟩:=Dfl.plc_dists (v:=vd) (by omega) (by omega);have hv0Lens:3≤vl:=by omega
    have hv0Dists:1≤vd:=by omega
    have hvlb:vl≤258:=by omega
    have hvdb:vd≤32768:=by omega
    obtain⟨k,hk⟩:∃k,Dfl.plc Inf.lensL vl=k:=⟨_,rfl⟩;obtain⟨d,hd⟩:∃k,Dfl.plc Inf.distsL vd=k:=⟨_,rfl⟩;rw[hk] at p1 p2 p3;rw[hd] at d1 d2 d3;have HK:=Hd hk;have HD:=Hd hd;have hk29:k<29:=p1;have hd30:d<30:=d1;have hk29i:(k:Int)<29:=by omega
    have hd30i:(d:Int)<30:=by omega
    have hk0i:(0:Int)≤(k:Int):=by omega
    have hd0i:(0:Int)≤(d:Int):=by omega
    have hddn:(d:Int)<(dn:Int):=by omega
    obtain⟨lk,hlk⟩:∃n,Inf.lensL.getD k 0=n:=⟨_,rfl⟩;obtain⟨bl,hbl⟩:∃n,Inf.lensB.getD k 0=n:=⟨_,rfl⟩;obtain⟨ld,hld⟩:∃n,Inf.distsL.getD d 0=n:=⟨_,rfl⟩;obtain⟨bd,hbd⟩:∃n,Inf.distsB.getD d 0=n:=⟨_,rfl⟩;have hbl5:bl≤5:=by rw[← hbl];exact (by decide:∀k,k<29→Inf.lensB.getD k 0≤5) k hk29
    have hbd13:bd≤13:=by rw[← hbd];exact (by decide:∀k,k<30→Inf.distsB.getD k 0≤13) d hd30
    rw[hlk] at p2 p3;rw[hbl] at p3;rw[hld] at d2 d3;rw[hbd] at d3;obtain⟨xl,hxl⟩:∃n,vl-lk=n:=⟨_,rfl⟩;obtain⟨xd,hxd⟩:∃n,vd-ld=n:=⟨_,rfl⟩;rw[hxl] at p3;rw[hxd] at d3;have el:(vl:Int)-(lk:Int)=(xl:Int):=by omega
    have ed:(vd:Int)-(ld:Int)=(xd:Int):=by omega
    obtain⟨sk,hsk⟩:∃s,257+k=s:=⟨_,rfl⟩;have ek:(257:Int)+(k:Int)=(sk:Int):=by omega
    have HSK:=Hd hsk;have hsk2:sk<ln:=by omega
    have wl:∀z,z=(xl:Int)→IntKind.i64.wrap z=z:=by intro z hz;rw[IntKind.wrap_i64];omega
    have wd:∀z,z=(xd:Int)→IntKind.i64.wrap z=z:=by intro z hz;rw[IntKind.wrap_i64];omega
    have wl2:∀z,z=(xl:Int)→IntKind.u32.wrap z=z:=by intro z hz;rw[IntKind.wrap_u32];omega
    have wd2:∀z,z=(xd:Int)→IntKind.u32.wrap z=z:=by intro z hz;rw[IntKind.wrap_u32];omega
    have wk:∀z,z=(sk:Int)→IntKind.i64.wrap z=z:=by intro z hz;rw[IntKind.wrap_i64];omega
    have HLK:=Hd hlk;have HBK:=Hd hbl;have HLD:=Hd hld;have HBD:=Hd hbd;have HXL:=Hd p3;have HXD:=Hd d3;have hgd:=HG.out d (by omega);obtain⟨md,hmd⟩:∃n:Nat,g d=(n:Int):=⟨(g d).toNat,by omega⟩;obtain⟨zd,hzd⟩:∃n,word g dn d=n:=⟨_,rfl⟩;have HWD:=Hd (show word g dn d=zd∧g d=(md:Int)∧md≤15∧zd<2^md∧Dfl.wordB g dn d=Bts.high zd md from⟨hzd,hmd,by omega,by rw[← hzd];exact word_fits HC.out.2 (by omega) hmd (by omega),by unfold Dfl.wordB;rw[hmd,hzd];rfl⟩);have HTB:=Hd (show Dfl.tokB f ln g dn t=Dfl.wordB f ln sk++(Bts.low xl bl++(Bts.high zd md++Bts.low xd bd)) by
     unfold Dfl.tokB;rw[if_neg hl0,hvl,hvd,Int.toNat_natCast,Int.toNat_natCast,hk,hd,hlk,hbl,hld,hbd,hxl,hxd,hsk,HWD.out.2.2.2.2])
    have HLB:=Hd (show (L0++B).length+32<1099511627776∧(L0++B).length+1000<1099511627776∧True from by have:=HBL.out;rw[List.length_append];exact⟨by omega,by omega,trivial⟩);have HVV:=Hd (And.intro hvl hvd);rw[hvl] at k1 t1;rw[hvd] at k2;obtain⟨T,hT⟩:∃T,wr.heap.size=T:=⟨_,rfl⟩;rw[hT,hvl,hvd] at HT;have HTT:=Hd hT;clear hsk p1 p2 p3 d1 d2 d3 hk hd hlk hbl hld hbd hxl hxd hgd hmd hzd hl0 hm hm2 hok2;go_upto_region 5 with fail;refine wp_world (fun wz=>TSt w1 wz Wb T u1 u ((L0++B)) t) HT.out ?_;rintro w3 hT3;have H3:=Hd hT3;clear hT3 HT;have k1:=H3.out.bk.cell 1;have k2:=H3.out.bk.cell 2;simp only[List.getElem?_toArray,List.getElem?_cons_succ,List.getElem?_cons_zero] at k1 k2;go_wp2_with fail;have hp:=still_of (place_any ⟨11,0,none⟩ 29 29 vl Inf.lensL w3.drew rfl (by decide) (by decide) (fun k hk=>by rw[add_plain];exact (HB.out w3 H3.out.st.keeps).tabs.lens k hk) (Nat.le_trans (by decide:Inf.lensL.getD 0 0≤3) hv0Lens) (by omega));rw[HK.out] at hp;have HP:=Hd hp;clear hp;refine wp_regionQ (by kernel_rfl) (by kernel_rfl) ?_;(iterate 3 (refine wpQ_yes (by kernel_rfl) fun K hK=>?_;go_simp;refine hK _ ?_;clear hK K));refine wpQ_yes (by kernel_rfl) fun K hK=>?_;go_simp;refine⟨_,HP.out,hK _ ?_⟩;clear hK K;refine wpQ_yes (by kernel_rfl) fun K hK=>?_
    go_simp;refine hK _ ?_;clear hK K;refine wpQ_nil ?_;clear k1 k2 HP;go_wp2_with fail;refine (symbol_any D Wb la da ca ea ln lc dn dc cc ec f g sk u ((L0++B)) w3.drew (HB.out w3 H3.out.st.keeps).df.drew H3.out.wb.drew HC.out.1 hsk2 (HF.out _ hsk2) HLB.out.1).mono ?_;rintro e w4 ⟨rfl,u104,hw,hst⟩;have H4:=Hd (H3.out.drew.step hst hw);clear hw hst H3;go_wp2_with fail;have k1:=H4.out.bk.cell 1;have k2:=H4.out.bk.cell 2;simp only[List.getElem?_toArray,List.getElem?_cons_succ,List.getElem?_cons_zero] at k1 k2;have k0:=(HB.out w4 H4.out.st.keeps).df.c0;have k3:=(HB.out w4 H4.out.st.keeps).tabs.lens k hk29;have k4:=(HB.out w4 H4.out.st.keeps).tabs.lenB k hk29;rw[HLK.out] at k3;rw[HBK.out] at k4;refine wp_region_still_tail 14 (by kernel_rfl) (by kernel_rfl) ?_;simp only[List.take_succ_cons,List.take_zero,List.drop_succ_cons,List.drop_zero];repeat still_step
    refine wpStill_nil ?_;change wpList _ _ _ _ _ w4.drew;go_wp2_with fail;clear k0 k1 k2 k3 k4;refine (putB_any Wb xl bl u104 ((L0++B)++Dfl.wordB f ln sk) w4.drew H4.out.wb.drew (by omega) HXL.out (by have:=HLB.out.2.1;simp only[List.length_append] at this⊢;have:=wordB_len HF.out hsk2;omega)).mono ?_;rintro e w5 ⟨rfl,u105,hw,hst⟩;have H5:=Hd (H4.out.drew.step hst hw);clear hw hst H4;go_wp2_with fail;refine wp_world (fun wz=>TSt w1 wz Wb T u1 u105 ((L0++B)++Dfl.wordB f ln sk++Bts.low xl bl) t) H5.out ?_;rintro w6 hT6;have H6:=Hd hT6;clear hT6 H5;have k1:=H6.out.bk.cell 1;have k2:=H6.out.bk.cell 2;simp only[List.getElem?_toArray,List.getElem?_cons_succ,List.getElem?_cons_zero] at k1 k2;have hp:=still_of (place_any ⟨13,0,none⟩ 30 30 vd Inf.distsL w6.drew rfl (by decide) (by decide) (fun k hk=>by rw[add_plain];exact (HB.out w6 H6.out.st.keeps).tabs.dists k hk) (Nat.le_trans (by decide:Inf.distsL.getD 0 0≤1) hv0Dists) (by omega));rw[HD.out] at hp;have HP:=Hd hp;clear hp;refine wp_regionQ (by kernel_rfl) (by kernel_rfl) ?_;(iterate 3 (refine wpQ_yes (by kernel_rfl) fun K hK=>?_;go_simp;refine hK _ ?_;clear hK K));refine wpQ_yes (by kernel_rfl) fun K hK=>?_;go_simp;refine⟨_,HP.out,hK _ ?_⟩;clear hK K;refine wpQ_yes (by kernel_rfl) fun K hK=>?_;go_simp;refine hK _ ?_
    clear hK K;refine wpQ_nil ?_;clear k1 k2 HP;go_wp2_with fail;have H6d:=Hd H6.out.drew;clear H6;refine wp_world (fun wz=>TSt w1 wz Wb T u1 u105 ((L0++B)++Dfl.wordB f ln sk++Bts.low xl bl) t) H6d.out ?_;rintro w7 hT7;have H7:=Hd hT7;clear hT7 H6d;have k0:=(HB.out w7 H7.out.st.keeps).df.c0;have k5:=(HB.out w7 H7.out.st.keeps).df.c4;have k6:=(HB.out w7 H7.out.st.keeps).df.c2;have k7:=(HB.out w7 H7.out.st.keeps).df.dw.2 ea rfl d (by omega);have k8:=((HB.out w7 H7.out.st.keeps).df.di.2 da rfl d (by omega)).1;rw[HWD.out.1] at k7;rw[HWD.out.2.1] at k8;refine wp_region_still_tail 18 (by kernel_rfl) (by kernel_rfl) ?_;simp only[List.take_succ_cons,List.take_zero,List.drop_succ_cons,List.drop_zero];repeat still_step
    refine wpStill_nil ?_;change wpList _ _ _ _ _ w7.drew;go_wp2_with fail;clear k0 k5 k6 k7 k8;refine (turnedB_any Wb zd md u105 ((L0++B)++Dfl.wordB f ln sk++Bts.low xl bl) w7.drew H7.out.wb.drew (by have:=HWD.out.2.2.1;omega) HWD.out.2.2.2.1 (by have:=HLB.out.2.1;simp only[List.length_append,Bts.low_length] at this⊢;have:=wordB_len HF.out hsk2;omega)).mono ?_;rintro e w8 ⟨rfl,u108,hw,hst⟩;have H8:=Hd (H7.out.drew.step hst hw);clear hw hst H7;go_wp2_with fail;have k1:=H8.out.bk.cell 1;have k2:=H8.out.bk.cell 2;simp only[List.getElem?_toArray,List.getElem?_cons_succ,List.getElem?_cons_zero] at k1 k2;have k0:=(HB.out w8 H8.out.st.keeps).df.c0;have k3:=(HB.out w8 H8.out.st.keeps).tabs.dists d hd30;have k4:=(HB.out w8 H8.out.st.keeps).tabs.distB d hd30;rw[HLD.out] at k3;rw[HBD.out] at k4;refine wp_region_still_tail 14 (by kernel_rfl) (by kernel_rfl) ?_;simp only[List.take_succ_cons,List.take_zero,List.drop_succ_cons,List.drop_zero];repeat still_step
    refine wpStill_nil ?_;change wpList _ _ _ _ _ w8.drew;go_wp2_with fail;clear k0 k1 k2 k3 k4;refine (putB_any Wb xd bd u108 ((L0++B)++Dfl.wordB f ln sk++Bts.low xl bl++Bts.high zd md) w8.drew H8.out.wb.drew (by omega) HXD.out (by have:=HLB.out.2.1;simp only[List.length_append,Bts.low_length,Bts.high_length] at this⊢;have:=wordB_len HF.out hsk2;have:=HWD.out.2.2.1;omega)).mono ?_;rintro e w9 ⟨rfl,u109,hw,hst⟩;have H9:=Hd (H8.out.drew.step hst hw);clear hw hst H8;go_wp2_with fail;have hwl:=wordB_len HF.out hsk2;refine⟨⟨i+1,by simp,by omega,Hd ⟨u109,B++(Dfl.wordB f ln sk++(Bts.low xl bl++(Bts.high zd md++Bts.low xd bd))),by rw[HBN.out,HTB.out],by have:=H9.out.wb;simp only[List.append_assoc] at this⊢;exact this,H9.out.st,by have:=HBL.out;have:=HWD.out.2.2.1;simp only[List.length_append,Bts.low_length,Bts.high_length];omega⟩⟩,by simp[intOf];omega⟩
  ·have t0:decide ((i:Int)<(n:Int))=false:=decide_eq_false (by omega);obtain rfl:i=n:=by omega
   obtain⟨u,B,hBB,hw,hst,hbl⟩:=HS.out;have HE:=Hd (symbol_any D Wb la da ca ea ln lc dn dc cc ec f g 256 u (L0++B) wr (HB.out wr hst.keeps).df hw HC.out.1 (by omega) (HF.out _ (by omega)) (by rw[List.length_append];omega));have HST:=Hd hst;have HBB:=Hd hBB;clear hBB hw hst hbl HS;go_wp2_with fail;refine HE.out.mono ?_;rintro e w9 ⟨rfl,u9,hw9,hs9⟩;go_wp2_with fail;go_end0;exact⟨rfl,u9,by rw[← HBB.out,← List.append_assoc];exact hw9,HST.out.trans hs9⟩
/-- a row of one cell an element, that the call made -/
def OwnR (w:World) (base:Nat) (e:TypeId) (v:Value) (n:Nat) (xs:List Value):Prop:=w.ownsRow base e 1 v n xs
theorem OwnR.ext {w w':World} {base:Nat} {e:TypeId} {v:Value} {n:Nat} {xs:List Value} (h:OwnR w base e v n xs) (hE:Ext w w'):OwnR w' base e v n xs:=ownsRow_kept h hE.keeps (fun _ _=>id)
theorem OwnR.apart {w:World} {b1 b2:Nat} {e1 e2:TypeId} {v1 v2:Value} {n1 n2:Nat} {x1 x2:List Value} (h1:OwnR w b1 e1 v1 n1 x1) (h2:OwnR w b2 e2 v2 n2 x2) (he:e1≠e2):∀k,v1.ownBlock=some k→¬ v2.ownBlock=some k:=by
 intro k k1 k2;rcases h1.2 with⟨q1,_⟩ | ⟨g1,c1,r1,q1,_,hh1,_⟩
 ·rw[q1] at k1;cases k1
 ·rcases h2.2 with⟨q2,_⟩ | ⟨g2,c2,r2,q2,_,hh2,_⟩
  ·rw[q2] at k2;cases k2
  ·rw[q1] at k1;rw[q2] at k2;have a1:g1=k:=by simpa [Value.ownBlock] using k1
   have a2:g2=k:=by simpa [Value.ownBlock] using k2
   rw[a1] at hh1;rw[a2,hh1] at hh2;injection hh2 with hh2;injection hh2 with _ hh2;exact he hh2
theorem OwnR.grown {w w':World} {b1 b2:Nat} {e1 e2:TypeId} {v1 v2:Value} {n1 n2:Nat} {x1 x2:List Value} (h1:OwnR w b1 e1 v1 n1 x1) (h2:OwnR w b2 e2 v2 n2 x2) (he:e1≠e2) (hg:w.grownBy w' v2.ownBlock):OwnR w' b1 e1 v1 n1 x1:=
 ownsRow_kept h1 (Keeps.grown hg) (fun k hk=>h1.apart h2 he k hk)
theorem Bk.grown {w w':World} {b base:Nat} {cs:Array Value} {e:TypeId} {v:Value} {n:Nat} {xs:List Value} (h:Bk w b cs) (h2:OwnR w base e v n xs) (hb:b<base∨∀k,v.ownBlock=some k→k<b) (hg:w.grownBy w' v.ownBlock):Bk w' b cs:=
 h.keeps (Keeps.grown hg) (fun hk=>by
  rcases hb with hb | hb
  ·have:=(World.ownsRow.lt h2 b hk).1;omega
  ·have:=hb b hk;omega)
theorem own_lit {w:World} {base:Nat} {e:TypeId} {v:Value} {n:Nat} {xs:List Value} (h:OwnR w base e v n xs):∃x c,v=.slice x n c:=by
 rcases ownsRow_slice h with⟨q1,q2⟩ | ⟨g,c,q⟩
 ·exact⟨none,0,by rw[q1,q2]⟩
 ·exact⟨_,_,q⟩
theorem U32s.keeps {S:Nat→Prop} {w w':World} {a:Addr} {n:Nat} {g:Nat→Nat} (h:U32s w (some a) n g) (hk:Keeps S w w') (hS:¬ S a.block):U32s w' (some a) n g:=by
 refine⟨fun h=>(by cases h),fun b hb i hi=>?_⟩;have hc:=h.2 b hb i hi;injection hb with hb;subst hb;exact (hk.cell (World.block_lt_of_cell? w _ hc) (by unfold Addr.add;split <;> exact hS)).trans hc
theorem DF.keeps {S:Nat→Prop} {w w':World} {D Wb:Nat} {la da ca ea:Addr} {ln lc dn dc cc ec:Nat} {f g:Nat→Int} (h:DF w D Wb la da ca ea ln lc dn dc cc ec f g) (hk:Keeps S w w') (hD:¬ S D) (h1:¬ S la.block) (h2:¬ S da.block) (h3:¬ S ca.block) (h4:¬ S ea.block):
  DF w' D Wb la da ca ea ln lc dn dc cc ec f g:=by
 have hc:∀i v,w.cell? ⟨D,i,none⟩=some v→w'.cell? ⟨D,i,none⟩=some v:=fun i v q=>(hk.cell (World.block_lt_of_cell? w _ q) hD).trans q;exact⟨hc _ _ h.c0,hc _ _ h.c1,hc _ _ h.c2,hc _ _ h.c3,hc _ _ h.c4,h.li.on hk (fun a ha=>by injection ha with ha;subst ha;exact h1),h.di.on hk (fun a ha=>by injection ha with ha;subst ha;exact h2),h.lw.keeps hk h3,h.dw.keeps hk h4⟩
theorem hcs_lt {w:World} {B n:Nat} {k:IntKind} {g:Nat→Int} (h:Cs w B n k g) (hn:0<n):B<w.heap.size:=World.block_lt_of_cell? w _ (h 0 hn).1
theorem wb_start {w:World} {Wb:Nat} (h:Bk w Wb #[.slice none 0 0,.int .i64 0]):WB w Wb (.slice none 0 0) []:=
 ⟨h.cell 0,h.cell 1,h.frozen 0,h.frozen 1,⟨[],rfl,rfl,⟨rfl,.inl ⟨rfl,rfl⟩⟩⟩,by simp[Value.ownBlock],by decide⟩
theorem lenF_calls (x:Int) (w:World) (_hx1: -9223372036854775808≤x) (_hx2:x≤9223372036854775807):
  Calls Tryz.prog 152 #[.int .i64 x] w fun e w'=>e=.returned (.bool (decide (x<0∨1048576<x)))∧w=w':=by
 go_enter Tryz.func152,Tryz.ntmps152
 go_wp2_with fail
 ·go_ret;exact⟨ret_bool (by simp),rfl⟩
 ·go_ret;exact⟨rfl,rfl⟩
theorem indexL_calls (x:Option Addr) (len cap:Nat) (f:Nat→Int) (w:World) (hx:Ints w x len f) (hl:len≤maxLen):
  Calls Tryz.prog 168 #[.slice x len cap,.func (.func 152) #[] #[]] w fun e w'=>(∃i:Int,e=.returned (.int .i64 i)∧((i= -1∧∀j,j<len→0≤f j∧f j≤1048576)∨(0≤i∧∃j,j<len∧(f j<0∨1048576<f j))))∧w=w':=by
 unfold maxLen at hl;have HX:=Hd hx;clear hx;go_enter Tryz.func168,Tryz.ntmps168
 go_wp2
 go_loop [5,8] (fun _ c=>∃i:Nat,i≤len∧c=.int .i64 i∧Hid (∀j,j<i→0≤f j∧f j≤1048576)) (fun _ c=>len-(intOf c).toNat)
 case atStart=>exact⟨0,by omega,rfl,Hd fun j hj=>by omega⟩
 case round=>
  obtain⟨i,hi,rfl,HF⟩:=hrel;by_cases hlt:i<len
  ·obtain⟨a,rfl⟩:∃a,x=some a:=by
    cases x with
    | none=>have:=HX.out.1 rfl;omega
    | some a=>exact⟨a,rfl⟩
   obtain⟨hc,h1,h2⟩:=HX.out.2 a rfl i hlt;go_wp2_with fail;refine (lenF_calls _ _ h1 h2).mono ?_;rintro e w1 ⟨rfl,rfl⟩;by_cases hbad:f i<0∨1048576<f i
   ·have hb:=decide_eq_true hbad;have HBAD:=Hd hbad;clear hbad;go_wp2_with fail;go_ret;exact⟨⟨i,rfl,.inr ⟨by omega,i,hlt,HBAD.out⟩⟩,rfl⟩
   ·have hb:=decide_eq_false hbad;have HBAD:=Hd hbad;clear hbad;go_wp2_with fail;go_round
    case rel=>
     refine⟨i+1,by omega,by go_num,Hd fun j hj=>?_⟩;rcases Nat.lt_succ_iff_lt_or_eq.1 hj with q | rfl
     ·exact HF.out j q
     ·have:=HBAD.out;omega
    case measure=>simp[intOf];omega
  ·obtain rfl:i=len:=by omega
   go_wp2
   go_ret;exact⟨⟨-1,rfl,.inl ⟨rfl,HF.out⟩⟩,rfl⟩
theorem containsL_calls (x:Option Addr) (len cap:Nat) (f:Nat→Int) (w:World) (hx:Ints w x len f) (hl:len≤maxLen):
  Calls Tryz.prog 151 #[.slice x len cap,.func (.func 152) #[] #[]] w fun e w'=>(∃b:Bool,e=.returned (.bool b)∧((b=false∧∀j,j<len→0≤f j∧f j≤1048576)∨(b=true∧∃j,j<len∧(f j<0∨1048576<f j))))∧w=w':=by
 go_enter Tryz.func151,Tryz.ntmps151
 go_wp2_with fail;refine (indexL_calls x len cap f w hx hl).mono ?_;rintro e w1 ⟨⟨i,rfl,h⟩,rfl⟩;rcases h with⟨rfl,h⟩ | ⟨hi,h⟩
 ·have H:=Hd h;clear h;go_wp2_with fail;go_ret;exact⟨⟨false,rfl,.inl ⟨rfl,H.out⟩⟩,rfl⟩
 ·have H:=Hd h;have t:decide ((0:Int)≤i)=true:=decide_eq_true hi;clear h;go_wp2_with fail;go_ret;exact⟨⟨true,by simp,.inr ⟨rfl,H.out⟩⟩,rfl⟩
/-- a row of cells, none frozen -/
def Cv (w:World) (B n:Nat) (g:Nat→Value):Prop:=∀i,i<n→w.cell? ⟨B,i,none⟩=some (g i)∧w.frozen? ⟨B,i,none⟩=false
theorem Cv.congr {w:World} {B n:Nat} {g g':Nat→Value} (h:Cv w B n g) (hg:∀i,i<n→g' i=g i):Cv w B n g':=by
  intro i hi;rw[hg i hi];exact h i hi
theorem Cv.put {w:World} {B n:Nat} {g:Nat→Value} (h:Cv w B n g) (j:Nat) (x:Value) (g':Nat→Value) (hj:j<n) (hg:∀i,i<n→g' i=if i=j then x else g i):Cv (w.setCell ⟨B,j,none⟩ x) B n g':=by
  intro i hi;obtain⟨h1,h2⟩:=h i hi;rw[hg i hi,World.frozen?_setCell];refine⟨?_,h2⟩;by_cases e:i=j
  · subst e;rw[if_pos rfl];exact World.cell?_setCell_same _ _ _ h1
  · rw[if_neg e];exact (World.cell?_setCell_other _ _ _ _ (by intro q;injection q with _ q2;exact e q2.symm)).trans h1
theorem Cv.keeps {w w':World} {B n:Nat} {g:Nat→Value} {S:Nat→Prop} (h:Cv w B n g) (hk:Keeps S w w') (hB:¬ S B):Cv w' B n g:=by
  intro i hi;obtain⟨h1,h2⟩:=h i hi;have hlt:B<w.heap.size:=World.block_lt_of_cell? w _ h1;exact⟨(hk.cell (p:=⟨B,i,none⟩) hlt hB).trans h1,(hk.frozen (p:=⟨B,i,none⟩) hlt hB).trans h2⟩
theorem Cv.ext {w w':World} {B n:Nat} {g:Nat→Value} (h:Cv w B n g) (hE:Ext w w'):Cv w' B n g:=h.keeps (S:=fun _=>False) hE.keeps id
theorem Cv.drew {w:World} {B n:Nat} {g:Nat→Value} (h:Cv w B n g):Cv w.drew B n g:=h
theorem Cv.drewN {w:World} {B n:Nat} {g:Nat→Value} (h:Cv w B n g) (m:Nat):Cv (w.drewN m) B n g:=h
theorem Cv.made (w:World) (n:Nat) (z:Value) (t:TypeId):Cv (w.alloc (.cells (madeCells #[z] n) t)) w.heap.size n (fun _=>z):=by
  intro i hi;rw[World.cell?_alloc_at _ _ _ _ rfl,World.frozen?_alloc_at _ _ _ _ rfl];refine⟨?_,rfl⟩;have hs:i<(madeCells #[z] n).size:=by rw[size_madeCells];simpa using hi
  rw[Array.getElem?_eq_getElem hs];simp[madeCells,Nat.mod_one]
theorem run_append_zeros {P:Program} (w:World) (t u ty e:TypeId) (i:TypeInfo) (z:Value) (k:IntKind) (ht:P.underlying t=some (.slice e)) (hu:P.underlying u=some (.int k)) (hi:P.info? e=some i) (hz:i.zero=some z)
  (n:Nat) (h0:0<n) (h63:n≤1000000) (hby:i.bytes≤64) (hsz:0<i.size):
  (Builtin.append_ #[t,u] ty #[.slice none 0 0,.int .i64 (n:Int)]).run P w=
   .ok (.slice (some ⟨w.heap.size,0,none⟩) n (grownCap w n 0 e)) (w.drew.alloc (.cells (Builtin.zeroCells z.cells n++Builtin.zeroCells z.cells (grownCap w n 0 e-n)) e)):=by
 have hn:n≠0:=by omega
 have hw:IntKind.i64.wrap (n:Int)=(n:Int):=by rw[IntKind.wrap_i64];omega
 have h0':¬ ((n:Int)<0):=by omega
 have h63':¬ (9223372036854775807<(n:Int)):=by omega
 have hmul:n*i.bytes≤64000000:=by
  have:=Nat.mul_le_mul h63 hby
  omega
 have hb:¬ (281474976710656<(n:Int)*(i.bytes:Int)):=by
  have:(n:Int)*(i.bytes:Int)=((n*i.bytes:Nat):Int):=by simp
  omega
 have h48':¬ (281474976710656<Builtin.nextslicecap n 0*i.bytes):=by rw[nextslicecap_zero h0];omega
 simp[Builtin.append_,run_underlying ht,run_underlying hu,sizeOf,typeInfo,zeroValue,hi,hz,asInt,asIntOf,hw,h0',hb,hn,h63',h48',Question.forced,run_firstCells_none,newRow,grownCap];intro h;exact absurd h (by have:=Nat.mul_pos h0 hsz;omega)
theorem wpList_app_zeros {P:Program} {w:World} {ops:Array Oper} {rest:List Oper} {o:Oper} {a:Act} {Q:Exit→Act→World→Prop} (hgd:o.guard=none) (sl x:Operand) (t u:TypeId)
  (ho:o.op=.call { callee:=.builtin .append,args:=#[sl,x],argTypes:=#[t,u] }) (e:TypeId) (i:TypeInfo) (z:Value) (k:IntKind) (ht:P.underlying t=some (.slice e)) (hu:P.underlying u=some (.int k)) (hi:P.info? e=some i) (hz:i.zero=some z)
  (hzs:z.cells.size=i.size) (n:Nat) (hs:a.eval sl=.slice none 0 0) (hx:a.eval x=.int .i64 (n:Int)) (h0:0<n) (h63:n≤1000000) (hby:i.bytes≤64) (hsz:0<i.size)
  (h:∀C cs,n≤C→C≤maxLen→cs.size=C*i.size→wpList P ops Q rest (a.put o.dst (.slice (some ⟨w.heap.size,0,none⟩) n C)) (w.drew.alloc (.cells cs e))):wpList P ops Q (o ::rest) a w:=by
 refine wpList_plain hgd fun K hK=>?_;have hr:=run_append_zeros (P:=P) w t u o.type e i z k ht hu hi hz n h0 h63 hby hsz;have hge:=grownCap_ge w n 0 e;unfold Oper.wp execOp;simp only[ho,resolve,invoke,builtin,Sem.run_bind,Sem.run_pure,Result.andThen_ok,List.map_toArray,List.map_cons,List.map_nil,hs,hx,hr];refine hK _ _ (h _ _ hge (grownCap_le_maxLen w n 0 e (by unfold maxLen;omega)) ?_);rw[Array.size_append,size_zeroCells,size_zeroCells,← Nat.add_mul,hzs];congr 1;omega
/-- rows, one behind the other -/
def concL (ls:Nat→List Int):Nat→List Int
 | 0=> []
 | m+1=>concL ls m++ls m
theorem concL_mono (ls:Nat→List Int) (m:Nat):∀d,(concL ls m).length≤(concL ls (m+d)).length
 | 0=>Nat.le_refl _
 | d+1=>by
  have:=concL_mono ls m d;show _≤(concL ls (m+d)++ls (m+d)).length;rw[List.length_append];omega
def i64V (l:List Int):List Value:=l.map (fun x=>Value.int .i64 x)
/-- a row of whole numbers, not empty -/
def Ir (w:World) (v:Value) (l:List Int):Prop:=0<l.length∧∃g c,v=.slice (some ⟨g,0,none⟩) l.length c∧∀j,j<l.length→w.cell? ⟨g,j,none⟩=(i64V l)[j]?
theorem Ir.ext {w w':World} {v:Value} {l:List Int} (h:Ir w v l) (hE:Ext w w'):Ir w' v l:=by
 obtain⟨h0,g,c,rfl,h1⟩:=h;refine⟨h0,g,c,rfl,fun j hj=>?_⟩;have hl:g<w.heap.size:=by
  have:=h1 0 h0;rw[List.getElem?_eq_getElem (by simpa [i64V] using h0)] at this;exact World.block_lt_of_cell? w _ this
 exact (Below.cell hE (p:=⟨g,j,none⟩) hl).trans (h1 j hj)
theorem grow_nil (n:Nat) (w:World) (h0:0<n) (hn:n≤100000):
  Calls Tryz.prog 165 #[.slice none 0 0,.int .i64 (n:Int)] w fun e w'=>(∃c,e=.returned (.slice (some ⟨w.heap.size,0,none⟩) 0 c)∧w'.ownsRow w.heap.size 3 1 (.slice (some ⟨w.heap.size,0,none⟩) 0 c) 0 [])∧Ext w w':=by
 obtain⟨i0,hi0,hz0,hz1,hz2⟩:=info_parts i64info;have n1:¬ (n:Int)<0:=by omega
 have n2:decide ((0:Int)<(n:Int))=true:=decide_eq_true (by omega);have wn:∀z,z=(n:Int)→IntKind.i64.wrap z=z:=by rintro _ rfl;rw[IntKind.wrap_i64];omega
 go_enter Tryz.func165,Tryz.ntmps165
 go_wp2_with (at_builtin;refine wpList_app_zeros rfl _ _ 88 3 rfl 3 i0 (.int .i64 0) .i64 Tryz.underlying88 Tryz.underlying3 hi0 hz0 (by rw[hz1];rfl) n rfl rfl h0 (by omega) (by omega) (by omega) ?_);intro C cs hC1 hC2 hcs;have hne:¬ C=0:=by omega
 go_wp2_with fail;go_ret;refine⟨⟨C,rfl,by simp,.inr ⟨w.heap.size,C,cs,rfl,Nat.le_refl _,heap_alloc_new w.drew _,Nat.zero_le _,hC2,by omega,by simp⟩⟩,(show Ext w w.drew from Below.drew (Ext.refl _)).alloc _⟩
set_option maxHeartbeats 2000000 in
theorem concat_any (S m c:Nat) (vs:Nat→Value) (ls:Nat→List Int) (w:World) (hm:1≤m) (hmm:m≤1000) (hS:∀i,i<m→w.cell? ⟨S,i,none⟩=some (vs i)) (hr:∀i,i<m→Ir w (vs i) (ls i)) (htot:(concL ls m).length≤100000):
  Calls Tryz.prog 145 #[.slice (some ⟨S,0,none⟩) m c] w fun e w'=>(∃v,e=.returned v∧w'.ownsRow w.heap.size 3 1 v (concL ls m).length (i64V (concL ls m)))∧Ext w w':=by
 obtain⟨i0,hi0,hz0,hz1,hz2⟩:=info_parts i64info;have HS:=Hd hS;have HR:=Hd hr;have hpos:0<(concL ls m).length:=by
  have h1:=concL_mono ls 1 (m-1);rw[show 1+(m-1)=m by omega] at h1;have h2:=(hr 0 (by omega)).1;have h3:(concL ls 1).length=(ls 0).length:=by simp[concL]
  omega
 have hle:∀i,i≤m→(concL ls i).length≤100000:=fun i hi=>by
  have:=concL_mono ls i (m-i);rw[show i+(m-i)=m by omega] at this;omega
 have HL:=Hd hle;clear hS hr hle;go_enter Tryz.func145,Tryz.ntmps145
 go_wp2_with fail;go_loopw [3,11] (fun z x wr=>∃i:Nat,i≤m∧x=.int .i64 i∧z=.int .i64 ((concL ls i).length:Int)∧wr=w) (fun _ x _=>m-(intOf x).toNat)
 case atStart=>exact⟨0,by omega,rfl,by first | rfl | trivial,by first | rfl | trivial⟩
 case round=>
  obtain⟨i,hi,rfl,rfl,hw⟩:=hrel;have hw2:=hw.symm;clear hw;subst hw2;by_cases hlt:i<m
  ·obtain⟨h0,g,cc,hv,hc⟩:=HR.out i hlt;have hs:=HS.out i hlt;rw[hv] at hs;have hb:=HL.out (i+1) (by omega);have e:(concL ls (i+1)).length=(concL ls i).length+(ls i).length:=by simp[concL]
   have wi:∀z,z=(i:Int)+1→IntKind.i64.wrap z=z:=by rintro _ rfl;rw[IntKind.wrap_i64];omega
   obtain⟨P,hP⟩:∃P,(concL ls i).length=P:=⟨_,rfl⟩;obtain⟨Q,hQ⟩:∃Q,(concL ls (i+1)).length=Q:=⟨_,rfl⟩;have HQ:=Hd hQ;rw[hP] at e⊢;rw[hQ] at e hb;have hPQ:(P:Int)+((ls i).length:Int)=(Q:Int):=by omega
   have wq:∀z,z=(Q:Int)→IntKind.i64.wrap z=z:=by rintro _ rfl;rw[IntKind.wrap_i64];omega
   have hq0:¬ (Q:Int)<0:=by omega
   clear hP hQ hv hc e;go_wp2_with fail;go_roundw
   case rel=>exact⟨i+1,by omega,by go_num,by rw[HQ.out],by first | rfl | trivial⟩
   case measure=>simp[intOf];omega
  ·obtain rfl:i=m:=by omega
   obtain⟨T,hT⟩:∃T,(concL ls i).length=T:=⟨_,rfl⟩;have HT:=Hd hT;rw[hT] at hpos htot⊢;clear hT;go_wp2_with fail;refine (grow_nil T w hpos htot).mono ?_;rintro e w1 ⟨⟨C,rfl,ho⟩,hX⟩;have HX:=Hd hX;have HO:Hid (w1.ownsRow w.heap.size 3 1 (.slice (some ⟨w.heap.size,0,none⟩) 0 C) (concL ls 0).length (i64V (concL ls 0))):=Hd ho;clear ho hX;go_wp2_with fail;go_loopw [6,27] (fun z x wz=>∃k:Nat,k≤i∧x=.int .i64 k∧Hid (wz.ownsRow w.heap.size 3 1 z (concL ls k).length (i64V (concL ls k)))∧Hid (Ext w wz)) (fun _ x _=>i-(intOf x).toNat)
   case atStart=>exact⟨0,by omega,rfl,HO,HX⟩
   case round=>
    clear HO HX;obtain⟨k,hk,rfl,HO,HX⟩:=hrel;by_cases hlt:k<i
    ·obtain⟨h0,g,cc,hv,hc⟩:=HR.out k hlt;have hs:=ext_cell HX.out (HS.out k hlt);rw[hv] at hs;have hb:=HL.out (k+1) (by omega);have e:(concL ls (k+1)).length=(concL ls k).length+(ls k).length:=by simp[concL]
     have wi:∀z,z=(k:Int)+1→IntKind.i64.wrap z=z:=by rintro _ rfl;rw[IntKind.wrap_i64];omega
     obtain⟨P,hP⟩:∃P,(concL ls k).length=P:=⟨_,rfl⟩;obtain⟨Q,hQ⟩:∃Q,(concL ls (k+1)).length=Q:=⟨_,rfl⟩;have HQ:=Hd hQ;obtain⟨N,hN⟩:∃N,(ls k).length=N:=⟨_,rfl⟩;have ho:=HO.out;rw[hP] at e ho;rw[hQ] at e hb;rw[hN] at e hs hc h0;obtain⟨xo,co,rfl⟩:=lit_row ho;have HO2:=Hd ho;have HC:=Hd hc;have HN:=Hd hN;have hzz:=HX.out.size;have HEq:=Hd e;clear hP hQ hv hc ho hN HO e;go_wp2_with (at_builtin;refine wpList_append_own_at _ rfl _ _ 88 rfl w.heap.size 3 i0 (.int .i64 0) 1 8 Tryz.underlying88 hi0 hz0 hz1 hz2 rfl (by decide) _ _ _ rfl HO2.out ⟨g,0,none⟩ N cc (i64V (ls k)) rfl ?c1 ?c2 ?c6 ?c3 ?c4 hzz ?_)
     case c1=>simp[i64V,HN.out]
     case c2=>
      intro j u hj;have hj1:=(List.getElem?_eq_some_iff.1 hj).1;simp only[i64V,List.length_map,HN.out] at hj1;rw[add_plain,ext_cell HX.out ((HC.out j hj1).trans hj)]
     case c6=>intro u hu;obtain⟨x,_,rfl⟩:=List.mem_map.1 hu;rfl
     case c3=>have:=HEq.out;unfold maxLen;omega
     case c4=>have:=HEq.out;omega
     intro v' w2 hown hgrow _ _;have HO3:Hid (w2.ownsRow w.heap.size 3 1 v' (concL ls (k+1)).length (i64V (concL ls (k+1)))):=Hd (by
      rw[HQ.out,HEq.out,show i64V (concL ls (k+1))=i64V (concL ls k)++i64V (ls k) by simp[i64V,concL]];exact hown)
     have HX3:=Hd (Below.trans HX.out ((Keeps.grown hgrow).below hzz (fun q hq e=>by have:=(HO2.out.lt q e).1;omega)));clear hown hgrow;go_wp2_with fail;go_roundw
     case rel=>exact⟨k+1,by omega,by go_num,HO3,HX3⟩
     case measure=>simp[intOf];omega
    ·obtain rfl:k=i:=by omega
     go_wp2_with fail;go_ret;have h1:=HO.out;rw[HT.out] at h1;first | exact⟨⟨_,rfl,HO.out⟩,HX.out⟩ | exact⟨⟨_,rfl,by rw[HT.out];exact h1⟩,HX.out⟩
end Go.Proofs.YthlibiocadimhaaGreatDoor
namespace Go.Proofs.YthlibiocadimhaaGreatDoor
namespace Srt
variable {α:Type} (k:α→Int)
/-- sorted rows merged; where keys are alike the left row comes first. -/
def mrg:List α→List α→List α
 | [],r=>r
 | a ::l,[]=>a ::l
 | a ::l,b ::r=>if k b<k a then b ::mrg (a ::l) r else a ::mrg l (b ::r)
termination_by l r=>l.length+r.length
def Up (l:List α):Prop:=l.Pairwise (fun a b=>k a≤k b)
variable {k}
theorem mrg_nil (r:List α):mrg k [] r=r:=by unfold mrg;rfl
theorem mrg_nil' (l:List α):mrg k l []=l:=by unfold mrg;cases l <;> rfl
theorem mrg_lt {a b:α} (l r:List α) (h:k b<k a):mrg k (a ::l) (b ::r)=b ::mrg k (a ::l) r:=by rw[mrg,if_pos h]
theorem mrg_ge {a b:α} (l r:List α) (h:¬ k b<k a):mrg k (a ::l) (b ::r)=a ::mrg k l (b ::r):=by rw[mrg,if_neg h]
theorem mrg_length:∀(l r:List α),(mrg k l r).length=l.length+r.length
 | [],r=>by rw[mrg_nil];simp
 | a ::l,[]=>by rw[mrg_nil'];simp
 | a ::l,b ::r=>by
  by_cases h:k b<k a
  ·rw[mrg_lt l r h,List.length_cons,mrg_length (a ::l) r];simp only[List.length_cons];omega
  ·rw[mrg_ge l r h,List.length_cons,mrg_length l (b ::r)];simp only[List.length_cons];omega
termination_by l r=>l.length+r.length
theorem mrg_perm:∀(l r:List α),(mrg k l r).Perm (l++r)
 | [],r=>by rw[mrg_nil];exact List.Perm.refl _
 | a ::l,[]=>by rw[mrg_nil',List.append_nil]
 | a ::l,b ::r=>by
  by_cases h:k b<k a
  ·rw[mrg_lt l r h];exact ((mrg_perm (a ::l) r).cons b).trans (List.perm_middle.symm)
  ·rw[mrg_ge l r h];exact (mrg_perm l (b ::r)).cons a
termination_by l r=>l.length+r.length
theorem mem_mrg {l r:List α} {x:α}:x∈mrg k l r↔x∈l∨x∈r:=by rw[(mrg_perm l r).mem_iff,List.mem_append]
theorem Up.tail {a:α} {l:List α} (h:Up k (a ::l)):Up k l:=(List.pairwise_cons.mp h).2
theorem Up.head {a:α} {l:List α} (h:Up k (a ::l)):∀x∈l,k a≤k x:=(List.pairwise_cons.mp h).1
theorem Up.nil:Up k []:=List.Pairwise.nil
theorem Up.one (a:α):Up k [a]:=List.pairwise_singleton _ _
theorem Up.left {l r:List α} (h:Up k (l++r)):Up k l:=(List.pairwise_append.mp h).1
theorem Up.right {l r:List α} (h:Up k (l++r)):Up k r:=(List.pairwise_append.mp h).2.1
theorem Up.over {l r:List α} (h:Up k (l++r)):∀a∈l,∀b∈r,k a≤k b:=(List.pairwise_append.mp h).2.2
theorem mrg_up:∀(l r:List α),Up k l→Up k r→Up k (mrg k l r)
 | [],r,_,hr=>by rw[mrg_nil];exact hr
 | a ::l,[],hl,_=>by rw[mrg_nil'];exact hl
 | a ::l,b ::r,hl,hr=>by
  by_cases h:k b<k a
  ·rw[mrg_lt l r h];refine List.pairwise_cons.mpr ⟨fun x hx=>?_,mrg_up (a ::l) r hl hr.tail⟩;rcases mem_mrg.mp hx with q | q
   ·rcases List.mem_cons.mp q with rfl | q
    ·omega
    ·have:=hl.head x q;omega
   ·exact hr.head x q
  ·rw[mrg_ge l r h];refine List.pairwise_cons.mpr ⟨fun x hx=>?_,mrg_up l (b ::r) hl.tail hr⟩;rcases mem_mrg.mp hx with q | q
   ·exact hl.head x q
   ·rcases List.mem_cons.mp q with rfl | q
    ·omega
    ·have:=hr.head x q;omega
termination_by l r=>l.length+r.length
/-- where a row's parts stand apart, merging goes part by part. -/
theorem mrg_parts:∀(l1 r1:List α) (l2 r2:List α),(∀a∈l1,∀b∈r2,k a≤k b)→(∀a∈l2,∀b∈r1,k b<k a)→mrg k (l1++l2) (r1++r2)=mrg k l1 r1++mrg k l2 r2
 | [],[],l2,r2,_,_=>by rw[mrg_nil];rfl
 | [],b ::r1,l2,r2,h1,h2=>by
  rw[mrg_nil];have ih:=mrg_parts [] r1 l2 r2 (by simp) (fun a ha x hx=>h2 a ha x (List.mem_cons_of_mem _ hx));rw[mrg_nil] at ih;cases l2 with
  | nil=>simp only[List.nil_append,mrg_nil]
  | cons a l2=>
   simp only[List.nil_append,List.cons_append] at ih⊢;rw[mrg_lt _ _ (h2 a (List.mem_cons_self ..) b (List.mem_cons_self ..)),ih]
 | a ::l1,[],l2,r2,h1,h2=>by
  rw[mrg_nil'];have ih:=mrg_parts l1 [] l2 r2 (fun x hx=>h1 x (List.mem_cons_of_mem _ hx)) (by simp);rw[mrg_nil'] at ih;cases r2 with
  | nil=>simp only[List.append_nil,mrg_nil']
  | cons b r2=>
   simp only[List.nil_append,List.cons_append] at ih⊢;rw[mrg_ge _ _ (by have:=h1 a (List.mem_cons_self ..) b (List.mem_cons_self ..);omega),ih]
 | a ::l1,b ::r1,l2,r2,h1,h2=>by
  by_cases h:k b<k a
  ·have ih:=mrg_parts (a ::l1) r1 l2 r2 h1 (fun a ha x hx=>h2 a ha x (List.mem_cons_of_mem _ hx));simp only[List.cons_append] at ih⊢;rw[mrg_lt _ _ h,mrg_lt _ _ h,ih,List.cons_append]
  ·have ih:=mrg_parts l1 (b ::r1) l2 r2 (fun x hx=>h1 x (List.mem_cons_of_mem _ hx)) h2;simp only[List.cons_append] at ih⊢;rw[mrg_ge _ _ h,mrg_ge _ _ h,ih,List.cons_append]
termination_by l1 r1=>l1.length+r1.length
theorem mrg_done {l r:List α} (h:∀a∈l,∀b∈r,k a≤k b):mrg k l r=l++r:=by
 have:=mrg_parts l [] [] r h (by simp);simpa [mrg_nil,mrg_nil'] using this
theorem mrg_turned {l r:List α} (h:∀a∈l,∀b∈r,k b<k a):mrg k l r=r++l:=by
 have:=mrg_parts [] r l [] (by simp) h;simpa [mrg_nil,mrg_nil'] using this
theorem mrg_assoc:∀(l m r:List α),Up k l→Up k m→Up k r→mrg k (mrg k l m) r=mrg k l (mrg k m r)
 | [],m,r,_,_,_=>by rw[mrg_nil,mrg_nil]
 | a ::l,[],r,_,_,_=>by rw[mrg_nil',mrg_nil]
 | a ::l,b ::m,[],_,_,_=>by rw[mrg_nil',mrg_nil']
 | a ::l,b ::m,c ::r,hl,hm,hr=>by
  by_cases h1:k b<k a
  ·rw[mrg_lt l m h1];by_cases h2:k c<k b
   ·rw[mrg_lt _ _ h2,mrg_lt _ _ h2,mrg_lt _ _ (show k c<k a by omega),← mrg_assoc (a ::l) (b ::m) r hl hm hr.tail,mrg_lt l m h1]
   ·rw[mrg_ge _ _ h2,mrg_ge _ _ h2,mrg_lt _ _ h1,mrg_assoc (a ::l) m (c ::r) hl hm.tail hr]
  ·rw[mrg_ge l m h1];by_cases h2:k c<k b
   ·rw[mrg_lt _ _ h2];by_cases h3:k c<k a
    ·rw[mrg_lt _ _ h3,mrg_lt _ _ h3,← mrg_assoc (a ::l) (b ::m) r hl hm hr.tail,mrg_ge l m h1]
    ·rw[mrg_ge _ _ h3,mrg_ge _ _ h3,mrg_assoc l (b ::m) (c ::r) hl.tail hm hr,mrg_lt _ _ h2]
   ·rw[mrg_ge _ _ h2];rw[mrg_ge _ _ (show ¬ k c<k a by omega),mrg_ge _ _ h1,mrg_assoc l (b ::m) (c ::r) hl.tail hm hr,mrg_ge _ _ h2]
termination_by l m r=>l.length+m.length+r.length
variable (k)
/-- sorted by a key, stable. -/
def srt:List α→List α
 | []=> []
 | a ::l=>mrg k [a] (srt l)
variable {k}
theorem srt_up:∀l:List α,Up k (srt k l)
 | []=>Up.nil
 | a ::l=>mrg_up _ _ (Up.one a) (srt_up l)
theorem srt_append (l r:List α):srt k (l++r)=mrg k (srt k l) (srt k r):=by
 induction l with
 | nil=>simp only[List.nil_append,srt,mrg_nil]
 | cons a l ih=>simp only[List.cons_append,srt,ih];exact (mrg_assoc _ _ _ (Up.one a) (srt_up l) (srt_up r)).symm
theorem srt_perm:∀l:List α,(srt k l).Perm l
 | []=>List.Perm.refl _
 | a ::l=>(mrg_perm _ _).trans ((srt_perm l).cons a)
theorem srt_length (l:List α):(srt k l).length=l.length:=(srt_perm l).length_eq
theorem srt_one (a:α):srt k [a]=[a]:=by simp only[srt,mrg_nil']
theorem srt_snoc (l:List α) (a:α):srt k (l ++ [a])=mrg k (srt k l) [a]:=by rw[srt_append,srt_one]
theorem srt_of_up:∀ {l:List α},Up k l→srt k l=l
 | [],_=>rfl
 | a ::l,h=>by
  simp only[srt];rw[srt_of_up h.tail];exact mrg_done (fun x hx b hb=>by rw[List.mem_singleton.mp hx];exact h.head b hb)
end Srt
end Go.Proofs.YthlibiocadimhaaGreatDoor
namespace Go.Proofs.YthlibiocadimhaaGreatDoor
open Go.RowKit
/-- a pack: its cost, its slice, its symbols -/
structure Pk where
 c:Nat
 a:Option Addr
 n:Nat
 k:Nat
 s:List Nat
def Pk.key (p:Pk):Int:=(p.c:Int)
def pkL:List Pk→List Value
 | []=> []
 | p ::l=>.int .i64 (p.c:Int) ::.slice p.a p.n p.k ::pkL l
theorem pkL_length:∀l:List Pk,(pkL l).length=l.length*2
 | []=>rfl
 | p ::l=>by simp only[pkL,List.length_cons,pkL_length l];omega
theorem pkL_append:∀l m:List Pk,pkL (l++m)=pkL l++pkL m
 | [],m=>rfl
 | p ::l,m=>by simp only[List.cons_append,pkL,pkL_append l m]
theorem pkL_at:∀(l:List Pk) (i:Nat) (h:i<l.length) (r:List Value),(pkL l++r)[i*2]? =some (.int .i64 (l[i].c:Int))∧(pkL l++r)[i*2+1]? =some (.slice l[i].a l[i].n l[i].k)
 | p ::l,0,_,r=>⟨rfl,rfl⟩
 | p ::l,i+1,h,r=>by
  have ih:=pkL_at l i (by simpa using h) r;rw[show (i+1)*2=i*2+1+1 by omega];exact ih
theorem pkL_set:∀(l:List Pk) (i:Nat) (p:Pk) (r:List Value),i<l.length→((pkL l++r).set (i*2) (.int .i64 (p.c:Int))).set (i*2+1) (.slice p.a p.n p.k)=pkL (l.set i p)++r
 | q ::l,0,p,r,_=>rfl
 | q ::l,i+1,p,r,h=>by
  have ih:=pkL_set l i p r (by simpa using h);rw[show (i+1)*2=i*2+1+1 by omega];simp only[pkL,List.cons_append,List.set_cons_succ];rw[ih]
/-- a row of packs at the head of a block -/
def PR (w:World) (B:Nat) (l:List Pk):Prop:=∃r,w.heap[B]? =some (.cells (pkL l++r).toArray 237 (0,0))
theorem PR.bk {w:World} {B:Nat} {l:List Pk} (h:PR w B l):∃r,Bk w B (pkL l++r).toArray:=by obtain⟨r,h⟩:=h;exact⟨r,_,h⟩
theorem PR.at {w:World} {B:Nat} {l:List Pk} (h:PR w B l) {i:Nat} (hi:i<l.length):w.cell? ⟨B,i*2,none⟩=some (.int .i64 (l[i].c:Int))∧w.cell? ⟨B,i*2+1,none⟩=some (.slice l[i].a l[i].n l[i].k):=by
 obtain⟨r,h⟩:=h.bk;rw[h.cell,h.cell,List.getElem?_toArray,List.getElem?_toArray];exact pkL_at l i hi r
theorem PR.frozen {w:World} {B:Nat} {l:List Pk} (h:PR w B l) (i:Nat):w.frozen? ⟨B,i,none⟩=false:=by obtain⟨r,h⟩:=h.bk;exact h.frozen i
theorem PR.lt {w:World} {B:Nat} {l:List Pk} (h:PR w B l):B<w.heap.size:=by obtain⟨r,h⟩:=h.bk;exact h.lt
theorem PR.keeps {S:Nat→Prop} {w w':World} {B:Nat} {l:List Pk} (h:PR w B l) (hk:Keeps S w w') (hS:¬ S B):PR w' B l:=by
 have hl:=h.lt;obtain⟨r,h⟩:=h;exact⟨r,(hk.block B hl hS).trans h⟩
theorem PR.ext {w w':World} {B:Nat} {l:List Pk} (h:PR w B l) (hE:Ext w w'):PR w' B l:=h.keeps (S:=fun _=>False) hE.keeps id
theorem PR.set_ {w:World} {B:Nat} {l:List Pk} (h:PR w B l) {i:Nat} (hi:i<l.length) (p:Pk):PR ((w.setCell ⟨B,i*2,none⟩ (.int .i64 (p.c:Int))).setCell ⟨B,i*2+1,none⟩ (.slice p.a p.n p.k)) B (l.set i p):=by
 obtain⟨r,h⟩:=h;refine⟨r,?_⟩;have h2:((w.setCell ⟨B,i*2,none⟩ (.int .i64 (p.c:Int))).setCell ⟨B,i*2+1,none⟩ (.slice p.a p.n p.k)).heap[B]? =some (.cells ((((pkL l++r).toArray).setIfInBounds (i*2) (.int .i64 (p.c:Int))).setIfInBounds (i*2+1) (.slice p.a p.n p.k)) 237 (0,0)):=by
  simp[World.setCell,Array.getElem?_modify,h]
 rw[List.setIfInBounds_toArray,List.setIfInBounds_toArray,pkL_set l i p r hi] at h2;exact h2
theorem PR.drew {w:World} {B:Nat} {l:List Pk} (h:PR w B l):PR w.drew B l:=h
/-- two change their places -/
def swp (l:List Pk) (i j:Nat):List Pk:=if h:i<l.length∧j<l.length then (l.set i l[j]).set j l[i] else l
theorem swp_of {l:List Pk} {i j:Nat} (hi:i<l.length) (hj:j<l.length):swp l i j=(l.set i l[j]).set j l[i]:=dif_pos ⟨hi,hj⟩
theorem swp_length (l:List Pk) (i j:Nat):(swp l i j).length=l.length:=by unfold swp;split <;> simp
theorem PR.swap {w:World} {B:Nat} {l:List Pk} (h:PR w B l) {i j:Nat} (hi:i<l.length) (hj:j<l.length):
  PR ((((w.setCell ⟨B,i*2,none⟩ (.int .i64 (l[j].c:Int))).setCell ⟨B,i*2+1,none⟩ (.slice l[j].a l[j].n l[j].k)).setCell ⟨B,j*2,none⟩ (.int .i64 (l[i].c:Int))).setCell ⟨B,j*2+1,none⟩ (.slice l[i].a l[i].n l[i].k)) B (swp l i j):=by
 rw[swp_of hi hj];exact (h.set_ hi l[j]).set_ (i:=j) (by simpa using hj) l[i]
theorem PR.two {w:World} {B:Nat} {l:List Pk} (h:PR w B l) {i j:Nat} (hi:i<l.length) (hj:j<l.length):∃x y:Pk,l[i]? =some x∧l[j]? =some y∧
  w.cell? ⟨B,i*2,none⟩=some (.int .i64 (x.c:Int))∧w.cell? ⟨B,i*2+1,none⟩=some (.slice x.a x.n x.k)∧w.cell? ⟨B,j*2,none⟩=some (.int .i64 (y.c:Int))∧w.cell? ⟨B,j*2+1,none⟩=some (.slice y.a y.n y.k)∧
  PR ((((w.setCell ⟨B,i*2,none⟩ (.int .i64 (y.c:Int))).setCell ⟨B,i*2+1,none⟩ (.slice y.a y.n y.k)).setCell ⟨B,j*2,none⟩ (.int .i64 (x.c:Int))).setCell ⟨B,j*2+1,none⟩ (.slice x.a x.n x.k)) B (swp l i j):=
 ⟨l[i],l[j],List.getElem?_eq_getElem hi,List.getElem?_eq_getElem hj,(h.at hi).1,(h.at hi).2,(h.at hj).1,(h.at hj).2,h.swap hi hj⟩
/-- what a call that turns one row leaves alone -/
def One (B:Nat) (w w':World):Prop:=Keeps (fun k=>k=B) w w'
theorem One.refl (B:Nat) (w:World):One B w w:=Keeps.refl _ _
theorem One.trans {B:Nat} {a b c:World} (h:One B a b) (k:One B b c):One B a c:=Keeps.trans h k (fun _ _=>id)
theorem One.of_ext {B:Nat} {a b:World} (h:Ext a b):One B a b:=h.keeps
theorem One.drew {B:Nat} {a b:World} (h:One B a b):One B a b.drew:=Keeps.drew h
theorem One.four {B:Nat} {a b:World} (h:One B a b) (i j k l:Nat) (x y z t:Value):One B a ((((b.setCell ⟨B,i,none⟩ x).setCell ⟨B,j,none⟩ y).setCell ⟨B,k,none⟩ z).setCell ⟨B,l,none⟩ t):=
 Keeps.setCell (Keeps.setCell (Keeps.setCell (Keeps.setCell h (.inl rfl) _) (.inl rfl) _) (.inl rfl) _) (.inl rfl) _
theorem swp_parts (P X Q:List Pk) (x y:Pk):swp (P++x ::(X++y ::Q)) P.length (P.length+1+X.length)=P++y ::(X++x ::Q):=by
 rw[swp_of (by simp) (by simp;omega)];have e1:(P++x ::(X++y ::Q))[P.length]'(by simp)=x:=by simp
 have e2:(P++x ::(X++y ::Q))[P.length+1+X.length]'(by simp;omega)=y:=by
  rw[List.getElem_append_right (by omega)];simp[show P.length+1+X.length-P.length=X.length+1 by omega]
 rw[e1,e2];rw[List.set_append_right _ _ (Nat.le_refl _),Nat.sub_self,List.set_cons_zero,List.set_append_right _ _ (by omega),show P.length+1+X.length-P.length=X.length+1 by omega,List.set_cons_succ,List.set_append_right _ _ (Nat.le_refl _),Nat.sub_self,List.set_cons_zero]
theorem swp_comm (l:List Pk) (i j:Nat):swp l i j=swp l j i:=by
 by_cases h:i<l.length∧j<l.length
 ·rw[swp_of h.1 h.2,swp_of h.2 h.1];by_cases e:i=j
  ·subst e;rfl
  ·rw[List.set_comm _ _ e]
 ·unfold swp;rw[dif_neg h,dif_neg (fun q=>h ⟨q.2,q.1⟩)]
theorem swp_adj (P Q:List Pk) (x y:Pk):swp (P++x ::y ::Q) P.length (P.length+1)=P++y ::x ::Q:=by
 have:=swp_parts P [] Q x y;simpa using this
/-- two neighbours, the left one stored first -/
theorem PR.adjU {w:World} {B:Nat} {P Q:List Pk} {x y:Pk} (h:PR w B (P++x ::y ::Q)) {J:Nat} (hJ:P.length=J):
  w.cell? ⟨B,J*2,none⟩=some (.int .i64 (x.c:Int))∧w.cell? ⟨B,J*2+1,none⟩=some (.slice x.a x.n x.k)∧w.cell? ⟨B,(J+1)*2,none⟩=some (.int .i64 (y.c:Int))∧w.cell? ⟨B,(J+1)*2+1,none⟩=some (.slice y.a y.n y.k)∧
  PR ((((w.setCell ⟨B,J*2,none⟩ (.int .i64 (y.c:Int))).setCell ⟨B,J*2+1,none⟩ (.slice y.a y.n y.k)).setCell ⟨B,(J+1)*2,none⟩ (.int .i64 (x.c:Int))).setCell ⟨B,(J+1)*2+1,none⟩ (.slice x.a x.n x.k)) B (P++y ::x ::Q):=by
 obtain⟨x',y',hx,hy,k2,k3,k4,k5,hw⟩:=h.two (i:=J) (j:=J+1) (by simp;omega) (by simp;omega);rw[← hJ,List.getElem?_append_right (Nat.le_refl _),Nat.sub_self,List.getElem?_cons_zero] at hx;rw[← hJ,List.getElem?_append_right (by omega),show P.length+1-P.length=1 by omega,List.getElem?_cons_succ,List.getElem?_cons_zero] at hy;injection hx with hx;injection hy with hy;subst hx hy;rw[← hJ,swp_adj,hJ] at hw;exact⟨k2,k3,k4,k5,hw⟩
/-- two neighbours, the right one stored first -/
theorem PR.adjD {w:World} {B:Nat} {P Q:List Pk} {x y:Pk} (h:PR w B (P++x ::y ::Q)) {J:Nat} (hJ:P.length=J):
  w.cell? ⟨B,J*2,none⟩=some (.int .i64 (x.c:Int))∧w.cell? ⟨B,J*2+1,none⟩=some (.slice x.a x.n x.k)∧w.cell? ⟨B,(J+1)*2,none⟩=some (.int .i64 (y.c:Int))∧w.cell? ⟨B,(J+1)*2+1,none⟩=some (.slice y.a y.n y.k)∧
  PR ((((w.setCell ⟨B,(J+1)*2,none⟩ (.int .i64 (x.c:Int))).setCell ⟨B,(J+1)*2+1,none⟩ (.slice x.a x.n x.k)).setCell ⟨B,J*2,none⟩ (.int .i64 (y.c:Int))).setCell ⟨B,J*2+1,none⟩ (.slice y.a y.n y.k)) B (P++y ::x ::Q):=by
 obtain⟨x',y',hx,hy,k2,k3,k4,k5,hw⟩:=h.two (i:=J+1) (j:=J) (by simp;omega) (by simp;omega);rw[← hJ,List.getElem?_append_right (by omega),show P.length+1-P.length=1 by omega,List.getElem?_cons_succ,List.getElem?_cons_zero] at hx;rw[← hJ,List.getElem?_append_right (Nat.le_refl _),Nat.sub_self,List.getElem?_cons_zero] at hy;injection hx with hx;injection hy with hy;subst hx hy;rw[← hJ,swp_comm,swp_adj,hJ] at hw;exact⟨k4,k5,k2,k3,hw⟩
end Go.Proofs.YthlibiocadimhaaGreatDoor
