/-
  slices.Clone, Grow, Concat of rows of packs.
  Packages, merged (LARMORE and HIRSCHBERG): what the rows hold: no function of the program is named.
  Packages, merged: the lengths that they give are those of a code. No function of the program is named.
  Lengths of a code by packages: what they are. No function of the program is named.
  huff.order, cmp.Compare.
  slices.insertionSortCmpFunc at packs.
  slices.symMergeCmpFunc at packs: a left row of one.
-/
import Derived.Test.YthlibiocadimhaaGreatDoorPngTwiceG1
import Derived.Test.YthlibiocadimhaaGreatDoorPngTwiceG8
import Derived.Test.YthlibiocadimhaaGreatDoorPngTwiceG6
import Derived.RegionTactic
import Derived.BigRegion
import Derived.Deep.RegionHeld3
set_option linter.unusedSimpArgs false
set_option linter.unusedVariables false
set_option maxRecDepth 100000
namespace Go.Proofs.YthlibiocadimhaaGreatDoor
open Go.RowKit
theorem pkinfo:(Tryz.prog.info? 237).map (fun i=>(i.zero,i.size,i.bytes))=some (some (.agg #[.int .i64 0,.slice none 0 0]),2,32):=by kernel_rfl
theorem pkL_one:∀(l:List Pk),∀u∈pkL l,u.oneCell'=true
 | [],u,hu=>by cases hu
 | p ::l,u,hu=>by
  simp only[pkL,List.mem_cons] at hu;rcases hu with rfl | rfl | hu
  ·rfl
  ·rfl
  ·exact pkL_one l u hu
theorem PR.all {w:World} {B:Nat} {l:List Pk} (h:PR w B l) {j:Nat} {u:Value} (hj:(pkL l)[j]? =some u):w.cell? ⟨B,j,none⟩=some u:=by
 obtain⟨r,h⟩:=h.bk;rw[h.cell,List.getElem?_toArray,List.getElem?_append_left (List.getElem?_eq_some_iff.1 hj).1];exact hj
/-- a row that the call made: where it lies -/
theorem PR.of_own {w:World} {base:Nat} {v:Value} {l:List Pk} (h:w.ownsRow base 237 2 v l.length (pkL l)) (h0:0<l.length):∃g c,v=.slice (some ⟨g,0,none⟩) l.length c∧base≤g∧PR w g l∧l.length≤c:=by
 rcases h.2 with⟨_,q⟩ | ⟨g,cap,cur,hv,hg,hh,hc,hm,hs,ht⟩
 ·omega
 ·refine⟨g,cap,hv,hg,⟨cur.toList.drop (l.length*2),?_⟩,hc⟩;rw[hh,← ht,List.take_append_drop,Array.toArray_toList]
theorem grow_nilP (n:Nat) (w:World) (h0:0<n) (hn:n≤100000):
  Calls Tryz.prog 171 #[.slice none 0 0,.int .i64 (n:Int)] w fun e w'=>(∃c,e=.returned (.slice (some ⟨w.heap.size,0,none⟩) 0 c)∧w'.ownsRow w.heap.size 237 2 (.slice (some ⟨w.heap.size,0,none⟩) 0 c) 0 [])∧Ext w w':=by
 obtain⟨i0,hi0,hz0,hz1,hz2⟩:=info_parts pkinfo;have n1:¬ (n:Int)<0:=by omega
 have n2:decide ((0:Int)<(n:Int))=true:=decide_eq_true (by omega);have wn:∀z,z=(n:Int)→IntKind.i64.wrap z=z:=by rintro _ rfl;rw[IntKind.wrap_i64];omega
 go_enter Tryz.func171,Tryz.ntmps171
 go_wp2_with (at_builtin;refine wpList_app_zeros rfl _ _ 235 3 rfl 237 i0 (.agg #[.int .i64 0,.slice none 0 0]) .i64 Tryz.underlying235 Tryz.underlying3 hi0 hz0 (by rw[hz1];rfl) n rfl rfl h0 (by omega) (by omega) (by omega) ?_);intro C cs hC1 hC2 hcs;have hne:¬ C=0:=by omega
 go_wp2_with fail;go_ret;refine⟨⟨C,rfl,by simp,.inr ⟨w.heap.size,C,cs,rfl,Nat.le_refl _,heap_alloc_new w.drew _,Nat.zero_le _,hC2,by omega,by simp⟩⟩,(show Ext w w.drew from Below.drew (Ext.refl _)).alloc _⟩
def concP (ls:Nat→List Pk):Nat→List Pk
 | 0=> []
 | m+1=>concP ls m++ls m
theorem concP_mono (ls:Nat→List Pk) (m:Nat):∀d,(concP ls m).length≤(concP ls (m+d)).length
 | 0=>Nat.le_refl _
 | d+1=>by
  have:=concP_mono ls m d;show _≤(concP ls (m+d)++ls (m+d)).length;rw[List.length_append];omega
set_option maxHeartbeats 2000000 in
theorem concatP_any (S m c:Nat) (gs cs:Nat→Nat) (ls:Nat→List Pk) (w:World) (hm:1≤m) (hmm:m≤1000) (hS:∀i,i<m→w.cell? ⟨S,i,none⟩=some (.slice (some ⟨gs i,0,none⟩) (ls i).length (cs i))) (hr:∀i,i<m→0<(ls i).length∧PR w (gs i) (ls i)) (htot:(concP ls m).length≤100000):
  Calls Tryz.prog 156 #[.slice (some ⟨S,0,none⟩) m c] w fun e w'=>(∃v,e=.returned v∧w'.ownsRow w.heap.size 237 2 v (concP ls m).length (pkL (concP ls m)))∧Ext w w':=by
 obtain⟨i0,hi0,hz0,hz1,hz2⟩:=info_parts pkinfo;have HS:=Hd hS;have HR:=Hd hr;have hpos:0<(concP ls m).length:=by
  have h1:=concP_mono ls 1 (m-1);rw[show 1+(m-1)=m by omega] at h1;have h2:=(hr 0 (by omega)).1;have h3:(concP ls 1).length=(ls 0).length:=by simp[concP]
  omega
 have hle:∀i,i≤m→(concP ls i).length≤100000:=fun i hi=>by
  have:=concP_mono ls i (m-i);rw[show i+(m-i)=m by omega] at this;omega
 have HL:=Hd hle;clear hS hr hle;go_enter Tryz.func156,Tryz.ntmps156
 go_wp2_with fail;go_loopw [3,11] (fun z x wr=>∃i:Nat,i≤m∧x=.int .i64 i∧z=.int .i64 ((concP ls i).length:Int)∧wr=w) (fun _ x _=>m-(intOf x).toNat)
 case atStart=>exact⟨0,by omega,rfl,by first | rfl | trivial,by first | rfl | trivial⟩
 case round=>
  obtain⟨i,hi,rfl,rfl,hw⟩:=hrel;have hw2:=hw.symm;clear hw;subst hw2;by_cases hlt:i<m
  ·have hs:=HS.out i hlt;have hb:=HL.out (i+1) (by omega);have e:(concP ls (i+1)).length=(concP ls i).length+(ls i).length:=by simp[concP]
   have wi:∀z,z=(i:Int)+1→IntKind.i64.wrap z=z:=by rintro _ rfl;rw[IntKind.wrap_i64];omega
   obtain⟨P,hP⟩:∃P,(concP ls i).length=P:=⟨_,rfl⟩;obtain⟨Q,hQ⟩:∃Q,(concP ls (i+1)).length=Q:=⟨_,rfl⟩;have HQ:=Hd hQ;rw[hP] at e⊢;rw[hQ] at e hb;have hPQ:(P:Int)+((ls i).length:Int)=(Q:Int):=by omega
   have wq:∀z,z=(Q:Int)→IntKind.i64.wrap z=z:=by rintro _ rfl;rw[IntKind.wrap_i64];omega
   have hq0:¬ (Q:Int)<0:=by omega
   clear hP hQ e;go_wp2_with fail;go_roundw
   case rel=>exact⟨i+1,by omega,by go_num,by rw[HQ.out],by first | rfl | trivial⟩
   case measure=>simp[intOf];omega
  ·obtain rfl:i=m:=by omega
   obtain⟨T,hT⟩:∃T,(concP ls i).length=T:=⟨_,rfl⟩;have HT:=Hd hT;rw[hT] at hpos htot⊢;clear hT;go_wp2_with fail;refine (grow_nilP T w hpos htot).mono ?_;rintro e w1 ⟨⟨C,rfl,ho⟩,hX⟩;have HX:=Hd hX;have HO:Hid (w1.ownsRow w.heap.size 237 2 (.slice (some ⟨w.heap.size,0,none⟩) 0 C) (concP ls 0).length (pkL (concP ls 0))):=Hd ho;clear ho hX;go_wp2_with fail;go_loopw [6,27] (fun z x wz=>∃k:Nat,k≤i∧x=.int .i64 k∧Hid (wz.ownsRow w.heap.size 237 2 z (concP ls k).length (pkL (concP ls k)))∧Hid (Ext w wz)) (fun _ x _=>i-(intOf x).toNat)
   case atStart=>exact⟨0,by omega,rfl,HO,HX⟩
   case round=>
    clear HO HX;obtain⟨k,hk,rfl,HO,HX⟩:=hrel;by_cases hlt:k<i
    ·have hs:=ext_cell HX.out (HS.out k hlt);have HPR:=Hd ((HR.out k hlt).2.ext HX.out);have hb:=HL.out (k+1) (by omega);have e:(concP ls (k+1)).length=(concP ls k).length+(ls k).length:=by simp[concP]
     have wi:∀z,z=(k:Int)+1→IntKind.i64.wrap z=z:=by rintro _ rfl;rw[IntKind.wrap_i64];omega
     obtain⟨P,hP⟩:∃P,(concP ls k).length=P:=⟨_,rfl⟩;obtain⟨Q,hQ⟩:∃Q,(concP ls (k+1)).length=Q:=⟨_,rfl⟩;have HQ:=Hd hQ;obtain⟨N,hN⟩:∃N,(ls k).length=N:=⟨_,rfl⟩;have ho:=HO.out;rw[hP] at e ho;rw[hQ] at e hb;rw[hN] at e hs;obtain⟨xo,co,rfl⟩:=lit_row ho;have HO2:=Hd ho;have HN:=Hd hN;have hzz:=HX.out.size;have HEq:=Hd e;clear hP hQ ho hN HO e;go_wp2_with (at_builtin;refine wpList_append_own_at _ rfl _ _ 235 rfl w.heap.size 237 i0 (.agg #[.int .i64 0,.slice none 0 0]) 2 32 Tryz.underlying235 hi0 hz0 hz1 hz2 rfl (by decide) _ _ _ rfl HO2.out ⟨gs k,0,none⟩ N (cs k) (pkL (ls k)) rfl ?c1 ?c2 ?c6 ?c3 ?c4 hzz ?_)
     case c1=>rw[pkL_length,HN.out]
     case c2=>
      intro j u hj;rw[add_plain];exact HPR.out.all hj
     case c6=>exact pkL_one _
     case c3=>have:=HEq.out;unfold maxLen;omega
     case c4=>have:=HEq.out;omega
     intro v' w2 hown hgrow _ _;have HO3:Hid (w2.ownsRow w.heap.size 237 2 v' (concP ls (k+1)).length (pkL (concP ls (k+1)))):=Hd (by
      rw[HQ.out,HEq.out,show pkL (concP ls (k+1))=pkL (concP ls k)++pkL (ls k) from pkL_append _ _];exact hown)
     have HX3:=Hd (Below.trans HX.out ((Keeps.grown hgrow).below hzz (fun q hq e=>by have:=(HO2.out.lt q e).1;omega)));clear hown hgrow;go_wp2_with fail;go_roundw
     case rel=>exact⟨k+1,by omega,by go_num,HO3,HX3⟩
     case measure=>simp[intOf];omega
    ·obtain rfl:k=i:=by omega
     go_wp2_with fail;go_ret;have h1:=HO.out;rw[HT.out] at h1;first | exact⟨⟨_,rfl,HO.out⟩,HX.out⟩ | exact⟨⟨_,rfl,by rw[HT.out];exact h1⟩,HX.out⟩
theorem cloneP_any (g c:Nat) (l:List Pk) (w:World) (hx:PR w g l) (h0:0<l.length) (hn:l.length≤10000):
  Calls Tryz.prog 155 #[.slice (some ⟨g,0,none⟩) l.length c] w fun e w'=>(∃g' c',e=.returned (.slice (some ⟨g',0,none⟩) l.length c')∧PR w' g' l∧w.heap.size≤g'∧l.length≤c')∧Ext w w':=by
 obtain⟨i0,hi,hz0,hz1,hz2⟩:=info_parts pkinfo;have HX:=Hd hx;have HL:=Hd h0;have q22:=fun (w:World) (a:Option Addr) (n c n' c':Nat)=>Lib.run_eql_slice_nil (P:=Tryz.prog) w 235 _ a n c n' c' Tryz.underlying235;clear hx;go_enter Tryz.func155,Tryz.ntmps155
 go_wp2_with (at_builtin;refine wpList_append_own_at _ rfl _ _ 235 rfl w.heap.size 237 i0 (.agg #[.int .i64 0,.slice none 0 0]) 2 32 Tryz.underlying235 hi hz0 hz1 hz2 rfl (by decide) _ _ _ rfl (World.ownsRow_made w #[] 0 (Nat.le_refl _) (Nat.zero_le _) rfl) ⟨g,0,none⟩ l.length c (pkL l) rfl ?qc1 ?qc2 ?qc3 ?qc4 ?qc5 ?qc6 ?_)
 case qc1=>exact pkL_length l
 case qc2=>
  intro j u hj;rw[add_plain];exact (HX.out.ext ((Ext.refl w).alloc _)).all hj
 case qc3=>exact pkL_one l
 case qc4=>unfold maxLen;omega
 case qc5=>omega
 case qc6=>simp
 intro v' w1 hown hgrow hnil hat;go_wp2_with fail;go_ret;have ho:w1.ownsRow w.heap.size 237 2 v' l.length (pkL l):=by simpa using hown
 obtain⟨g',c',rfl,hg,hp,hcc⟩:=PR.of_own ho HL.out;refine⟨⟨g',c',rfl,hp,hg,hcc⟩,?_⟩;exact ((Below.refl _ w).alloc (Nat.le_refl _) _).grown hgrow (by simp) (by intro k hk;simp[Value.ownBlock] at hk;omega)
end Go.Proofs.YthlibiocadimhaaGreatDoor
namespace Go.Proofs.YthlibiocadimhaaGreatDoor
namespace Pkg
/-- a pack: its cost and its symbols -/
structure Pc where
 c:Nat
 s:List Nat
def ky (p:Pc):Int:=(p.c:Int)
def prs:List Pc→List Pc
 | a ::b ::l=>⟨a.c+b.c,a.s++b.s⟩ ::prs l
 | _=> []
def row (C:List Pc):Nat→List Pc
 | 0=>C
 | d+1=>Srt.mrg ky C (prs (row C d))
def syms (l:List Pc):List Nat:=(l.map Pc.s).flatten
def cost (l:List Pc):Nat:=(l.map Pc.c).sum
theorem syms_append (l m:List Pc):syms (l++m)=syms l++syms m:=by simp[syms]
theorem cost_append (l m:List Pc):cost (l++m)=cost l+cost m:=by simp[cost]
theorem cost_cons (p:Pc) (l:List Pc):cost (p ::l)=p.c+cost l:=by simp[cost]
theorem syms_cons (p:Pc) (l:List Pc):syms (p ::l)=p.s++syms l:=by simp[syms]
theorem prs_length:∀l:List Pc,(prs l).length=l.length/2
 | []=>rfl
 | [a]=>by simp[prs]
 | a ::b ::l=>by simp only[prs,List.length_cons,prs_length l];omega
theorem prs_up:∀ {l:List Pc},Srt.Up ky l→Srt.Up ky (prs l)
 | [],_=>Srt.Up.nil
 | [a],_=>Srt.Up.nil
 | a ::b ::l,h=>by
  have ih:=prs_up h.tail.tail;refine List.pairwise_cons.mpr ⟨fun x hx=>?_,ih⟩;have key:∀ {m:List Pc},(∀y∈m,a.c≤y.c∧b.c≤y.c)→∀x∈prs m,a.c+b.c≤x.c:=by
   intro m;induction m using prs.induct with
   | case1 c d m ih=>
    intro hm x hx;simp only[prs,List.mem_cons] at hx;rcases hx with rfl | hx
    ·have h1:=hm c (by simp);have h2:=hm d (by simp);show a.c+b.c≤c.c+d.c;omega
    ·exact ih (fun y hy=>hm y (by simp[hy])) x hx
   | case2 m hm=>
    intro _ x hx;rw[prs] at hx
    ·cases hx
    ·exact hm
  have:=key (m:=l) (fun y hy=>⟨by have:=h.head y (by simp[hy]);unfold ky at this;omega,by have:=h.tail.head y hy;unfold ky at this;omega⟩) x hx;show (((a.c+b.c:Nat)):Int)≤(x.c:Int);omega
theorem row_up {C:List Pc} (h:Srt.Up ky C):∀d,Srt.Up ky (row C d)
 | 0=>h
 | d+1=>Srt.mrg_up _ _ h (prs_up (row_up h d))
theorem row_length (C:List Pc) (d:Nat):(row C (d+1)).length=C.length+(row C d).length/2:=by
 show (Srt.mrg ky C (prs (row C d))).length=_;rw[Srt.mrg_length,prs_length]
/-- how long the last row is at least -/
theorem row_long (C:List Pc):∀d,(2*C.length)*2^d≤((row C d).length+1)*2^d+(C.length-1)+0∨C.length=0
 | 0=>by
  rcases Nat.eq_zero_or_pos C.length with h | h
  ·exact .inr h
  ·left;show 2*C.length*1≤(C.length+1)*1+(C.length-1)+0;omega
 | d+1=>by
  rcases row_long C d with h | h
  ·left
   rw[row_length];have e:(2:Nat)^(d+1)=2*2^d:=by rw[Nat.pow_succ,Nat.mul_comm]
   have h2:(row C d).length≤2*((row C d).length/2)+1:=by omega
   have h3:((row C d).length+1)*2^d≤(2*((row C d).length/2)+2)*2^d:=Nat.mul_le_mul_right _ (by omega);have h4:(2*((row C d).length/2)+2)*2^d=((row C d).length/2+1)*2^(d+1):=by rw[e,show 2*((row C d).length/2)+2=2*((row C d).length/2+1) by omega,Nat.mul_assoc,Nat.mul_left_comm ((row C d).length/2+1) 2]
   have h5:2*C.length*2^(d+1)=C.length*2^(d+1)+2*C.length*2^d:=by rw[e];rw[show 2*C.length*(2*2^d)=2*(2*C.length*2^d) by rw[Nat.mul_left_comm],show C.length*(2*2^d)=2*C.length*2^d by rw[Nat.mul_left_comm,Nat.mul_assoc]];exact Nat.two_mul _
   have h6:(C.length+(row C d).length/2+1)*2^(d+1)=C.length*2^(d+1)+((row C d).length/2+1)*2^(d+1):=by rw[← Nat.add_mul,Nat.add_assoc]
   omega
  ·exact .inr h
theorem row_enough {C:List Pc} {d:Nat} (hC:1≤C.length) (h:C.length≤2^(d+1)):2*C.length-2≤(row C d).length:=by
 rcases row_long C d with q | q
 ·have e:(2:Nat)^(d+1)=2*2^d:=by rw[Nat.pow_succ,Nat.mul_comm]
  have h0:0<2^d:=Nat.two_pow_pos d;apply Nat.le_of_not_lt;intro hlt;have h1:((row C d).length+1)*2^d+2*2^d≤2*C.length*2^d:=by
   rw[← Nat.add_mul];exact Nat.mul_le_mul_right _ (by omega)
  omega
 ·omega
/-- the first x of two sorted rows, merged: the first ones of each -/
theorem mrg_take:∀(C Q:List Pc) (x:Nat),x≤C.length+Q.length→∃c p,c+p=x∧c≤C.length∧p≤Q.length∧((Srt.mrg ky C Q).take x).Perm (C.take c++Q.take p)∧(∀q∈Q.take p,∀y∈C[c]?,q.c<y.c)∨¬ (Srt.Up ky C∧Srt.Up ky Q)
 | C,Q,0,_=>⟨0,0,.inl ⟨rfl,by omega,by omega,by simp,by simp⟩⟩
 | [],Q,x+1,h=>⟨0,x+1,.inl ⟨by omega,by simp,by simpa using h,by rw[Srt.mrg_nil];simp,by simp⟩⟩
 | a ::C,[],x+1,h=>⟨x+1,0,.inl ⟨by omega,by simpa using h,by simp,by rw[Srt.mrg_nil'];simp,by simp⟩⟩
 | a ::C,b ::Q,x+1,h=>by
  by_cases hup:Srt.Up ky (a ::C)∧Srt.Up ky (b ::Q)
  ·by_cases hlt:ky b<ky a
   ·rw[Srt.mrg_lt _ _ hlt];obtain⟨c,p,hh⟩:=mrg_take (a ::C) Q x (by simp at h⊢;omega);rcases hh with⟨h1,h2,h3,h4,h5⟩ | hh
    ·refine⟨c,p+1,.inl ⟨by omega,h2,by simp;omega,?_,?_⟩⟩
     ·rw[List.take_succ_cons,List.take_succ_cons];exact (h4.cons b).trans List.perm_middle.symm
     ·intro q hq y hy;rw[List.take_succ_cons] at hq;rcases List.mem_cons.1 hq with rfl | hq
      ·have hya:a.c≤y.c:=by
        cases c with
        | zero=>simp at hy;subst hy;exact Nat.le_refl _
        | succ c=>
         simp at hy;have:=hup.1.head y (List.mem_of_getElem? hy);unfold ky at this;omega
       unfold ky at hlt;omega
      ·exact h5 q hq y hy
    ·exact absurd ⟨hup.1,hup.2.tail⟩ hh
   ·rw[Srt.mrg_ge _ _ hlt];obtain⟨c,p,hh⟩:=mrg_take C (b ::Q) x (by simp at h⊢;omega);rcases hh with⟨h1,h2,h3,h4,h5⟩ | hh
    ·refine⟨c+1,p,.inl ⟨by omega,by simp;omega,h3,?_,?_⟩⟩
     ·rw[List.take_succ_cons,List.take_succ_cons];exact h4.cons a
     ·intro q hq y hy;simp at hy;exact h5 q hq y (by simpa using hy)
    ·exact absurd ⟨hup.1.tail,hup.2⟩ hh
  ·exact⟨0,0,.inr hup⟩
termination_by C Q=>C.length+Q.length
end Pkg
end Go.Proofs.YthlibiocadimhaaGreatDoor
namespace Go.Proofs.YthlibiocadimhaaGreatDoor
namespace Pkg
theorem syms_perm {l m:List Pc} (h:l.Perm m):(syms l).Perm (syms m):=(h.map Pc.s).flatten
theorem cost_perm {l m:List Pc} (h:l.Perm m):cost l=cost m:=(h.map Pc.c).sum_nat
theorem prs_take:∀(l:List Pc) (p:Nat),2*p≤l.length→syms ((prs l).take p)=syms (l.take (2*p))∧cost ((prs l).take p)=cost (l.take (2*p))
 | l,0,_=>by simp
 | [],p+1,h=>by simp at h
 | [a],p+1,h=>by simp at h;omega
 | a ::b ::l,p+1,h=>by
  have ih:=prs_take l p (by simp at h;omega);rw[show 2*(p+1)=2*p+1+1 by omega];simp only[prs,List.take_succ_cons,syms_cons,cost_cons,ih.1,ih.2];exact⟨by simp,by omega⟩
/-- what stands among the pairs taken is in a pair that costs more -/
theorem prs_mem:∀(l:List Pc) (p:Nat),2*p≤l.length→(∀y∈l,0<y.c)→∀y∈l.take (2*p),∃q∈(prs l).take p,y.c<q.c
 | l,0,_,_,y,hy=>by simp at hy
 | [],p+1,h,_,y,hy=>by simp at h
 | [a],p+1,h,_,y,hy=>by simp at h;omega
 | a ::b ::l,p+1,h,hp,y,hy=>by
  rw[show 2*(p+1)=2*p+1+1 by omega] at hy;simp only[List.take_succ_cons,List.mem_cons] at hy;have ha:=hp a (by simp);have hb:=hp b (by simp);rcases hy with rfl | rfl | hy
  ·exact⟨⟨y.c+b.c,y.s++b.s⟩,by simp[prs],by show y.c<y.c+b.c;omega⟩
  ·exact⟨⟨a.c+y.c,a.s++y.s⟩,by simp[prs],by show y.c<a.c+y.c;omega⟩
  ·obtain⟨q,hq,hlt⟩:=prs_mem l p (by simp at h;omega) (fun y hy=>hp y (by simp[hy])) y hy;exact⟨q,by simp only[prs,List.take_succ_cons];exact List.mem_cons_of_mem _ hq,hlt⟩
theorem prs_pos:∀ {l:List Pc},(∀y∈l,0<y.c)→∀y∈prs l,0<y.c
 | [],_,y,hy=>by simp[prs] at hy
 | [a],_,y,hy=>by simp[prs] at hy
 | a ::b ::l,h,y,hy=>by
  simp only[prs,List.mem_cons] at hy;rcases hy with rfl | hy
  ·have:=h a (by simp);show 0<a.c+b.c;omega
  ·exact prs_pos (fun y hy=>h y (by simp[hy])) y hy
theorem row_pos {C:List Pc} (h:∀y∈C,0<y.c):∀d,∀y∈row C d,0<y.c
 | 0=>h
 | d+1=>fun y hy=>by
  rcases Srt.mem_mrg.1 hy with q | q
  ·exact h y q
  ·exact prs_pos (row_pos h d) y q
def wt:List Nat→Nat
 | []=>0
 | c ::cs=>2^cs.length*c+wt cs
def Down:List Nat→Prop
 | []=>True
 | c ::cs=>(∀x∈cs,x≤c)∧Down cs
/-- what the first x of a row hold: the first coins of each level -/
theorem levels {C:List Pc} (hU:Srt.Up ky C) (hp:∀y∈C,0<y.c):∀d x,x≤(row C d).length→∃c cs,cs.length=d∧c≤C.length∧(∀z∈cs,z≤C.length)∧Down (c ::cs)∧wt (c ::cs)=2^d*x∧
  (syms ((row C d).take x)).Perm (((c ::cs).map fun z=>syms (C.take z)).flatten)∧cost ((row C d).take x)=((c ::cs).map fun z=>cost (C.take z)).sum∧∀y∈C.take c,y∈(row C d).take x
 | 0,x,hx=>⟨x,[],rfl,hx,by simp,⟨by simp,trivial⟩,by simp[wt],by simp[row],by simp[row],fun y hy=>hy⟩
 | d+1,x,hx=>by
  have hQ:=prs_up (row_up hU d);obtain⟨c,p,h⟩:=mrg_take C (prs (row C d)) x (by rw[prs_length];rw[row_length] at hx;exact hx);rcases h with⟨h1,h2,h3,h4,h5⟩ | h
  ·have h2p:2*p≤(row C d).length:=by rw[prs_length] at h3;omega
   obtain⟨c1,cs,g1,g2,g3,g4,g5,g6,g7,g8⟩:=levels hU hp d (2*p) h2p;obtain⟨e1,e2⟩:=prs_take (row C d) p h2p;have hc:c1≤c:=by
    apply Nat.le_of_not_lt;intro hlt;have hcl:c<C.length:=by omega
    have hm:C[c]∈(row C d).take (2*p):=g8 _ (by
     rw[List.mem_take_iff_getElem];exact⟨c,by omega,rfl⟩)
    obtain⟨q,hq,hlt2⟩:=prs_mem (row C d) p h2p (row_pos hp d) _ hm;have:=h5 q hq C[c] (by simp[hcl]);omega
   refine⟨c,c1 ::cs,by simp[g1],h2,?_,⟨?_,g4⟩,?_,?_,?_,?_⟩
   ·intro z hz;rcases List.mem_cons.1 hz with rfl | hz
    ·exact g2
    ·exact g3 z hz
   ·intro z hz;rcases List.mem_cons.1 hz with rfl | hz
    ·exact hc
    ·have:=g4.1 z hz;omega
   ·show 2^(c1 ::cs).length*c+wt (c1 ::cs)=_;rw[g5,List.length_cons,g1,← h1,Nat.pow_succ,Nat.mul_add,Nat.mul_assoc,Nat.mul_assoc]
   ·have:=syms_perm h4;rw[syms_append,e1] at this;simp only[List.map_cons,List.flatten_cons] at g6⊢;exact this.trans (g6.append_left _)
   ·have:=cost_perm h4;rw[cost_append,e2,g7] at this;simp only[List.map_cons,List.sum_cons] at this⊢;exact this
   ·intro y hy;have:y∈C.take c++(prs (row C d)).take p:=List.mem_append_left _ hy;exact h4.mem_iff.2 this
  ·exact absurd ⟨hU,hQ⟩ h
/-- how many levels hold the coin at j -/
def lv (cs:List Nat) (j:Nat):Nat:=(cs.filter fun c=>decide (j<c)).length
theorem lv_cons (c:Nat) (cs:List Nat) (j:Nat):lv (c ::cs) j=(if j<c then 1 else 0)+lv cs j:=by
 unfold lv;by_cases h:j<c
 ·simp[h];omega
 ·simp[h]
theorem lv_le (cs:List Nat) (j:Nat):lv cs j≤cs.length:=List.length_filter_le _ _
theorem lv_none {cs:List Nat} {j:Nat} (h:∀c∈cs,c≤j):lv cs j=0:=by
 unfold lv;rw[List.length_eq_zero_iff,List.filter_eq_nil_iff];intro c hc;have:=h c hc;simp;omega
/-- the weight of the levels that hold the coin at j -/
def wj (j:Nat):List Nat→Nat
 | []=>0
 | c ::cs=>(if j<c then 2^cs.length else 0)+wj j cs
theorem wj_none {j:Nat}:∀ {cs:List Nat},(∀c∈cs,c≤j)→wj j cs=0
 | [],_=>rfl
 | c ::cs,h=>by
  have:=h c (by simp);simp only[wj,if_neg (show ¬ j<c by omega),wj_none (fun x hx=>h x (List.mem_cons_of_mem _ hx))]
theorem wj_lv (j:Nat):∀ {cs:List Nat},Down cs→wj j cs+2^(cs.length-lv cs j)=2^cs.length
 | [],_=>rfl
 | c ::cs,h=>by
  by_cases hc:j<c
  ·have ih:=wj_lv j h.2;have:=lv_le cs j;simp only[wj,if_pos hc,lv_cons,List.length_cons];rw[show cs.length+1-(1+lv cs j)=cs.length-lv cs j by omega,Nat.pow_succ];omega
  ·have hn:∀x∈c ::cs,x≤j:=by
    intro x hx;rcases List.mem_cons.1 hx with rfl | hx
    ·omega
    ·have:=h.1 x hx;omega
   rw[wj_none hn,lv_none hn];simp
def sumTo (f:Nat→Nat):Nat→Nat
 | 0=>0
 | n+1=>sumTo f n+f n
theorem sumTo_congr {f g:Nat→Nat}:∀ {n:Nat},(∀j,j<n→f j=g j)→sumTo f n=sumTo g n
 | 0,_=>rfl
 | n+1,h=>by simp only[sumTo];rw[sumTo_congr (fun j hj=>h j (by omega)),h n (by omega)]
theorem sumTo_add (f g:Nat→Nat):∀n,sumTo (fun j=>f j+g j) n=sumTo f n+sumTo g n
 | 0=>rfl
 | n+1=>by simp only[sumTo,sumTo_add f g n];omega
theorem sumTo_const (c:Nat):∀n,sumTo (fun _=>c) n=n*c
 | 0=>by simp[sumTo]
 | n+1=>by simp only[sumTo,sumTo_const c n,Nat.add_mul];omega
theorem sumTo_below (w c:Nat):∀n,sumTo (fun j=>if j<c then w else 0) n=w*min n c
 | 0=>by simp[sumTo]
 | n+1=>by
  simp only[sumTo,sumTo_below w c n];by_cases h:n<c
  ·rw[if_pos h,show min n c=n by omega,show min (n+1) c=n+1 by omega,Nat.mul_add];omega
  ·rw[if_neg h,show min n c=c by omega,show min (n+1) c=c by omega];omega
theorem sum_wj (n:Nat):∀ {cs:List Nat},(∀c∈cs,c≤n)→sumTo (fun j=>wj j cs) n=wt cs
 | [],_=>by show sumTo (fun _=>0) n=0;rw[sumTo_const];simp
 | c ::cs,h=>by
  show sumTo (fun j=>(if j<c then 2^cs.length else 0)+wj j cs) n=_;rw[sumTo_add,sumTo_below,sum_wj n (fun x hx=>h x (List.mem_cons_of_mem _ hx)),show min n c=c by have:=h c (by simp);omega];rfl
/-- KRAFT: the lengths are those of a code that leaves nothing -/
theorem kraft_sum {cs:List Nat} {n d:Nat} (h1:cs.length=d+1) (h2:∀c∈cs,c≤n) (h3:Down cs) (h4:wt cs=2^d*(2*n-2)) (hn:1≤n):sumTo (fun j=>2^(d+1-lv cs j)) n=2^(d+1):=by
 have e:=sumTo_add (fun j=>wj j cs) (fun j=>2^(cs.length-lv cs j)) n;rw[sumTo_congr (g:=fun _=>2^cs.length) (fun j _=>wj_lv j h3),sumTo_const,sum_wj n h2,h4,h1] at e;have e2:2^d*(2*n-2)=(n-1)*2^(d+1):=by
  rw[show 2*n-2=2*(n-1) by omega,Nat.pow_succ,Nat.mul_comm (n-1),Nat.mul_assoc]
 have e3:n*2^(d+1)=(n-1)*2^(d+1)+2^(d+1):=by
  obtain⟨m,rfl⟩:∃m,n=m+1:=⟨n-1,by omega⟩;rw[Nat.add_sub_cancel,Nat.add_mul];omega
 omega
theorem sumTo_two {f:Nat→Nat} {n i j:Nat} (hij:i≠j) (hi:i<n) (hj:j<n):f i+f j≤sumTo f n:=by
 have one:∀n i,i<n→f i≤sumTo f n:=by
  intro n;induction n with
  | zero=>intro i h;omega
  | succ n ih=>
   intro i h;simp only[sumTo];rcases Nat.lt_or_ge i n with q | q
   ·have:=ih i q;omega
   ·have:i=n:=by omega
    subst this;omega
 induction n with
 | zero=>omega
 | succ n ih=>
  simp only[sumTo];rcases Nat.lt_or_ge i n with q | q
  ·rcases Nat.lt_or_ge j n with r | r
   ·have:=ih q r;omega
   ·have:j=n:=by omega
    subst this;have:=one j i q;omega
  ·have:i=n:=by omega
   subst this;have:=one i j (by omega);omega
theorem lv_pos {cs:List Nat} {n d:Nat} (h1:cs.length=d+1) (h2:∀c∈cs,c≤n) (h3:Down cs) (h4:wt cs=2^d*(2*n-2)) (hn:2≤n) (j:Nat) (hj:j<n):1≤lv cs j:=by
 apply Nat.one_le_iff_ne_zero.2;intro h0;have e:=kraft_sum h1 h2 h3 h4 (by omega);obtain⟨i,hi,hij⟩:∃i,i<n∧i≠j:=by
  by_cases h:j=0
  ·exact⟨1,by omega,by omega⟩
  ·exact⟨0,by omega,by omega⟩
 have:=sumTo_two (f:=fun j=>2^(d+1-lv cs j)) hij hi hj;simp only[h0] at this;have:=Nat.two_pow_pos (d+1-lv cs i);simp only[Nat.sub_zero] at *;omega
end Pkg
end Go.Proofs.YthlibiocadimhaaGreatDoor
namespace Go.Proofs.YthlibiocadimhaaGreatDoor
namespace Srt
theorem mrg_map {α β:Type} {k:α→Int} {k':β→Int} (m:α→β) (h:∀a,k' (m a)=k a):∀l r:List α,mrg k' (l.map m) (r.map m)=(mrg k l r).map m
 | [],r=>by simp[mrg_nil]
 | a ::l,[]=>by simp[mrg_nil']
 | a ::l,b ::r=>by
  simp only[List.map_cons];by_cases hlt:k b<k a
  ·rw[mrg_lt _ _ (by rw[h,h];exact hlt),mrg_lt _ _ hlt,← List.map_cons,mrg_map m h (a ::l) r];rfl
  ·rw[mrg_ge _ _ (by rw[h,h];exact hlt),mrg_ge _ _ hlt,← List.map_cons,mrg_map m h l (b ::r)];rfl
termination_by l r=>l.length+r.length
theorem srt_map {α β:Type} {k:α→Int} {k':β→Int} (m:α→β) (h:∀a,k' (m a)=k a):∀l:List α,srt k' (l.map m)=(srt k l).map m
 | []=>rfl
 | a ::l=>by
  simp only[List.map_cons,srt,srt_map m h l];exact mrg_map m h [a] (srt k l)
end Srt
namespace Pkg
/-- the symbols that count -/
def used (cnt:Nat→Nat) (len:Nat):List Nat:=(List.range len).filter fun i=>decide (0<cnt i)
def coin (cnt:Nat→Nat) (i:Nat):Pc:=⟨cnt i,[i]⟩
def coins (cnt:Nat→Nat) (len:Nat):List Pc:=(used cnt len).map (coin cnt)
def order (cnt:Nat→Nat) (len:Nat):List Nat:=Srt.srt (fun i=>(cnt i:Int)) (used cnt len)
theorem mem_used {cnt:Nat→Nat} {len i:Nat}:i∈used cnt len↔i<len∧0<cnt i:=by simp[used]
theorem used_nodup (cnt:Nat→Nat) (len:Nat):(used cnt len).Nodup:=List.nodup_range.filter _
theorem order_perm (cnt:Nat→Nat) (len:Nat):(order cnt len).Perm (used cnt len):=Srt.srt_perm _
theorem order_nodup (cnt:Nat→Nat) (len:Nat):(order cnt len).Nodup:=(order_perm cnt len).nodup_iff.2 (used_nodup cnt len)
theorem sorted_coins (cnt:Nat→Nat) (len:Nat):Srt.srt ky (coins cnt len)=(order cnt len).map (coin cnt):=Srt.srt_map (k:=fun i=>(cnt i:Int)) (coin cnt) (fun _=>rfl) _
theorem syms_coins (cnt:Nat→Nat) (T:List Nat) (z:Nat):syms ((T.map (coin cnt)).take z)=T.take z:=by
 rw[← List.map_take];unfold syms;rw[List.map_map];induction T.take z with
 | nil=>rfl
 | cons a l ih=>simp only[List.map_cons,List.flatten_cons,ih];rfl
theorem count_take {T:List Nat} (hT:T.Nodup) {p:Nat} (hp:p<T.length) (z:Nat):(T.take z).count T[p]=if p<z then 1 else 0:=by
 have hn:(T.take z).Nodup:=hT.sublist (List.take_sublist _ _);by_cases h:p<z
 ·rw[if_pos h];rw[hn.count,if_pos];rw[List.mem_take_iff_getElem];exact⟨p,by omega,rfl⟩
 ·rw[if_neg h,List.count_eq_zero];intro hm;rw[List.mem_take_iff_getElem] at hm;obtain⟨q,hq,e⟩:=hm;have:=(List.getElem_inj hT).1 e;omega
theorem count_levels {T:List Nat} (hT:T.Nodup) {p:Nat} (hp:p<T.length):∀cs:List Nat,((cs.map fun z=>T.take z).flatten).count T[p]=lv cs p
 | []=>rfl
 | c ::cs=>by
  rw[List.map_cons,List.flatten_cons,List.count_append,count_take hT hp,count_levels hT hp cs,lv_cons]
/-- the lengths: 0 where there is none, 1 where there is but one -/
def lens (cnt:Nat→Nat) (len most s:Nat):Nat:=
 if (used cnt len).length<2 then if s∈used cnt len then 1 else 0
 else (syms ((row (Srt.srt ky (coins cnt len)) (most-1)).take (2*(used cnt len).length-2))).count s
theorem sum_map_perm {f:Nat→Nat} {l m:List Nat} (h:l.Perm m):(l.map f).sum=(m.map f).sum:=(h.map f).sum_nat
theorem sum_used (g:Nat→Nat) (cnt:Nat→Nat):∀len,((used cnt len).map g).sum=sumTo (fun i=>if 0<cnt i then g i else 0) len
 | 0=>rfl
 | len+1=>by
  have e:used cnt (len+1)=used cnt len++(if 0<cnt len then [len] else []):=by
   unfold used;rw[List.range_succ,List.filter_append];congr 1
   by_cases h:0<cnt len <;> simp[h]
  rw[e,List.map_append,List.sum_append,sum_used g cnt len];simp only[sumTo];congr 1
  by_cases h:0<cnt len <;> simp[h]
theorem sum_pos (f:Nat→Nat):∀T:List Nat,(T.map f).sum=sumTo (fun p=>f (T.getD p 0)) T.length
 | T=>by
  have key:∀k,k≤T.length→((T.take k).map f).sum=sumTo (fun p=>f (T.getD p 0)) k:=by
   intro k;induction k with
   | zero=>intro _;rfl
   | succ k ih=>
    intro hk;rw[List.take_succ_eq_append_getElem (by omega),List.map_append,List.sum_append,ih (by omega)];simp only[sumTo,List.map_cons,List.map_nil,List.sum_cons,List.sum_nil,Nat.add_zero];rw[List.getD_eq_getElem?_getD,List.getElem?_eq_getElem (by omega)];rfl
  have:=key T.length (Nat.le_refl _);rwa [List.take_length] at this
/-- what is known of the lengths of two symbols and more -/
theorem lens_many {cnt:Nat→Nat} {len most:Nat} (hn:2≤(used cnt len).length) (hm:1≤most) (h:(used cnt len).length≤2^most):
  (∀s,s∈used cnt len→1≤lens cnt len most s∧lens cnt len most s≤most)∧(∀s,s ∉ used cnt len→lens cnt len most s=0)∧
  sumTo (fun s=>if 0<cnt s then 2^(most-lens cnt len most s) else 0) len=2^most∧
  ∃cs:List Nat,cs.length=most∧(∀c∈cs,c≤(used cnt len).length)∧Down cs∧wt cs=2^(most-1)*(2*(used cnt len).length-2)∧(∀p (hp:p<(order cnt len).length),lens cnt len most (order cnt len)[p]=lv cs p)∧
   cost ((row (Srt.srt ky (coins cnt len)) (most-1)).take (2*(used cnt len).length-2))=(cs.map fun z=>cost ((Srt.srt ky (coins cnt len)).take z)).sum:=by
 obtain⟨d,rfl⟩:∃d,most=d+1:=⟨most-1,by omega⟩;obtain⟨n,hn0⟩:∃n,(used cnt len).length=n:=⟨_,rfl⟩;have hTl:(order cnt len).length=n:=by rw[(order_perm cnt len).length_eq,hn0]
 have hC:=sorted_coins cnt len;have hCl:(Srt.srt ky (coins cnt len)).length=n:=by rw[hC,List.length_map,hTl]
 have hpos:∀y∈Srt.srt ky (coins cnt len),0<y.c:=by
  intro y hy;rw[hC] at hy;obtain⟨i,hi,rfl⟩:=List.mem_map.1 hy;exact (mem_used.1 ((order_perm cnt len).mem_iff.1 hi)).2
 have hlong:2*n-2≤(row (Srt.srt ky (coins cnt len)) d).length:=by
  have:=row_enough (C:=Srt.srt ky (coins cnt len)) (d:=d) (by omega) (by rw[hCl];rw[hn0] at h;exact h);rwa [hCl] at this
 obtain⟨c,cs,g1,g2,g3,g4,g5,g6,g7,_⟩:=levels (Srt.srt_up _) hpos d (2*n-2) hlong;have k1:(c ::cs).length=d+1:=by simp[g1]
 have k2:∀z∈c ::cs,z≤n:=by
  intro z hz;rw[← hCl];rcases List.mem_cons.1 hz with rfl | hz
  ·exact g2
  ·exact g3 z hz
 have hcount:∀s,lens cnt len (d+1) s=(((c ::cs).map fun z=>(order cnt len).take z).flatten).count s:=by
  intro s;unfold lens;rw[hn0,if_neg (by omega),Nat.add_sub_cancel,g6.count_eq];congr 2
  apply List.map_congr_left;intro z _;rw[hC,syms_coins]
 have hat:∀p (hp:p<(order cnt len).length),lens cnt len (d+1) (order cnt len)[p]=lv (c ::cs) p:=fun p hp=>by rw[hcount,count_levels (order_nodup cnt len) hp]
 refine⟨?_,?_,?_,c ::cs,k1,by rw[hn0];exact k2,g4,by rw[hn0,Nat.add_sub_cancel];exact g5,hat,by rw[hn0,Nat.add_sub_cancel];exact g7⟩
 ·intro s hs;obtain⟨p,hp,e⟩:=List.mem_iff_getElem.1 ((order_perm cnt len).mem_iff.2 hs);rw[← e,hat p hp];refine⟨lv_pos k1 k2 g4 g5 (by omega) p (by omega),?_⟩;have:=lv_le (c ::cs) p;omega
 ·intro s hs;rw[hcount,List.count_eq_zero];intro hm;obtain⟨l,hl,hsl⟩:=List.mem_flatten.1 hm;obtain⟨z,_,rfl⟩:=List.mem_map.1 hl;exact hs ((order_perm cnt len).mem_iff.1 (List.mem_of_mem_take hsl))
 ·rw[← sum_used (fun s=>2^(d+1-lens cnt len (d+1) s)) cnt len,← sum_map_perm (order_perm cnt len),sum_pos,hTl,← kraft_sum k1 k2 g4 g5 (by omega)];apply sumTo_congr;intro j hj;rw[List.getD_eq_getElem?_getD,List.getElem?_eq_getElem (by omega),Option.getD_some,hat j (by omega)]
end Pkg
end Go.Proofs.YthlibiocadimhaaGreatDoor
namespace Go.Proofs.YthlibiocadimhaaGreatDoor
open Go.RowKit
def cmpI (x y:Int):Int:=if x<y then -1 else if y<x then 1 else 0
theorem cmpI_neg (x y:Int):decide (cmpI x y<0)=decide (x<y):=by
  unfold cmpI;by_cases h:x<y
  · rw[if_pos h];simp[h]
  · rw[if_neg h];split <;> simp[h]
theorem isNaN_any (x:Int) (w:World):Calls Tryz.prog 181 #[.int .i64 x] w fun e w'=>e=.returned (.bool false)∧w=w':=by
  have t:(x !=x)=false:=by simp
  go_enter Tryz.func181,Tryz.ntmps181
  go_wp2_with fail;go_ret;exact⟨rfl,rfl⟩
theorem compare_any (x y:Int) (w:World):Calls Tryz.prog 170 #[.int .i64 x,.int .i64 y] w fun e w'=>e=.returned (.int .i64 (cmpI x y))∧w=w':=by
  unfold cmpI;by_cases h:x<y
  · have t:decide (x<y)=true:=decide_eq_true h;rw[if_pos h];clear h;go_enter Tryz.func170,Tryz.ntmps170
    go_wp2_with fail;refine (isNaN_any _ _).mono ?_;rintro e _ ⟨rfl,rfl⟩;go_wp2_with fail;refine (isNaN_any _ _).mono ?_;rintro e _ ⟨rfl,rfl⟩;go_wp2_with fail;go_ret;exact⟨rfl,rfl⟩
  · have t:decide (x<y)=false:=decide_eq_false h;rw[if_neg h];clear h;by_cases h:y<x
    · have t:decide (y<x)=true:=decide_eq_true h;rw[if_pos h];clear h;go_enter Tryz.func170,Tryz.ntmps170
      go_wp2_with fail;refine (isNaN_any _ _).mono ?_;rintro e _ ⟨rfl,rfl⟩;go_wp2_with fail;refine (isNaN_any _ _).mono ?_;rintro e _ ⟨rfl,rfl⟩;go_wp2_with fail;go_ret;exact⟨rfl,rfl⟩
    · have t:decide (y<x)=false:=decide_eq_false h;rw[if_neg h];clear h;go_enter Tryz.func170,Tryz.ntmps170
      go_wp2_with fail;refine (isNaN_any _ _).mono ?_;rintro e _ ⟨rfl,rfl⟩;go_wp2_with fail;refine (isNaN_any _ _).mono ?_;rintro e _ ⟨rfl,rfl⟩;go_wp2_with fail;go_ret;exact⟨rfl,rfl⟩
theorem order_any (c d:Int) (a b:Option Addr) (n m k l:Nat) (w:World):
    Calls Tryz.prog 154 #[.agg #[.int .i64 c,.slice a n k],.agg #[.int .i64 d,.slice b m l]] w fun e w'=>e=.returned (.int .i64 (cmpI c d))∧Ext w w':=by
  go_enter Tryz.func154,Tryz.ntmps154
  go_wp2_with fail;refine (compare_any _ _ _).mono ?_;rintro e _ ⟨rfl,rfl⟩;go_wp2_with fail;go_ret;exact⟨rfl,((Ext.refl _).alloc _).alloc _⟩
theorem Srt.mrg_one {S1 S2:List Pk} {x:Pk} (hS:Srt.Up Pk.key (S1++S2)) (h1:S1=[]∨∃T y,S1=T ++ [y]∧¬ x.c<y.c) (h2:∀y∈S2,x.c<y.c):Srt.mrg Pk.key (S1++S2) [x]=S1++x ::S2:=by
 have hle:∀a∈S1,∀b∈([]:List Pk),Pk.key a≤Pk.key b:=by simp
 have key:∀a∈S1,Pk.key a≤Pk.key x:=by
  rcases h1 with rfl | ⟨T,y,rfl,h1⟩
  ·simp
  ·intro a ha;rcases List.mem_append.mp ha with q | q
   ·have:=(hS.left).over a q y (by simp);unfold Pk.key at this⊢;omega
   ·rw[List.mem_singleton.mp q];unfold Pk.key;omega
 have e:=Srt.mrg_parts (k:=Pk.key) S1 [] S2 [x] (fun a ha b hb=>by rw[List.mem_singleton.mp hb];exact key a ha) (by simp);have e2:Srt.mrg Pk.key S2 [x]=[x]++S2:=Srt.mrg_turned (fun a ha b hb=>by rw[List.mem_singleton.mp hb];have:=h2 a ha;unfold Pk.key;omega);rw[Srt.mrg_nil',e2] at e;exact e
set_option maxHeartbeats 4000000 in
theorem insertion_any (B n cap:Nat) (P X Q:List Pk) (a b:Nat) (w:World) (hl:(P++X++Q).length=n) (hn:n≤1000000) (ha:P.length=a) (hb:(P++X).length=b) (h:PR w B (P++X++Q)):
  Calls Tryz.prog 179 #[.slice (some ⟨B,0,none⟩) n cap,.int .i64 (a:Int),.int .i64 (b:Int),.func (.func 154) #[] #[]] w fun e w'=>e=.returned (.tuple #[])∧PR w' B (P++Srt.srt Pk.key X++Q)∧One B w w':=by
 have HL:=Hd hl;have HR:=Hd h;have hbn:b≤n:=by rw[← hl,← hb];simp
 have hab:a≤b:=by rw[← hb,← ha];simp
 have HA:=Hd ha;have HB:=Hd hb;have w1:∀z,z=((a+1:Nat):Int)→IntKind.i64.wrap z=z:=by intro z hz;rw[IntKind.wrap_i64];omega
 have HORD:=Hd order_any;clear hl h ha hb;go_enter Tryz.func179,Tryz.ntmps179
 go_wp2_with fail;go_loopw [8] (fun c wr=>∃i:Nat,c=.int .i64 i∧Hid (a<i∧(i≤b∨i=a+1)∧(X=[]∧PR wr B (P++X++Q)∨∃Y Z,X=Y++Z∧a+Y.length=i∧PR wr B (P++Srt.srt Pk.key Y++(Z++Q))))∧Hid (One B w wr)) (fun c _=>b+1-(intOf c).toNat)
 case atStart=>
  refine⟨a+1,by simp,Hd ⟨by omega,.inr rfl,?_⟩,Hd (One.refl _ _)⟩;cases X with
  | nil=>exact .inl ⟨rfl,HR.out⟩
  | cons x X=>exact .inr ⟨[x],X,rfl,rfl,by rw[Srt.srt_one];simpa using HR.out⟩
 case round=>
  obtain⟨i,rfl,HI,HO⟩:=hrel;by_cases hlt:i<b
  ·have t0:decide ((i:Int)<(b:Int))=true:=decide_eq_true (by omega);obtain⟨hai,_,hX⟩:=HI.out;have hX2:∃Y x Z,X=Y++x ::Z∧a+Y.length=i∧PR wr B (P++Srt.srt Pk.key Y++(x ::Z++Q)):=by
    rcases hX with⟨rfl,_⟩ | ⟨Y,Z,rfl,e,hp⟩
    ·have:=HB.out;have:=HA.out;simp at *;omega
    ·cases Z with
     | nil=>have:=HB.out;have:=HA.out;simp at *;omega
     | cons x Z=>exact⟨Y,x,Z,rfl,e,hp⟩
   obtain⟨Y,x,Z,hXY,hY,hp⟩:=hX2;have HP:=Hd hp;have HY:=Hd (show a+(Srt.srt Pk.key Y).length=i by rw[Srt.srt_length];exact hY);have HXY:=Hd hXY;have HY2:=Hd hY;have HU:=Hd (Srt.srt_up (k:=Pk.key) Y);have HN1:Hid (Srt.srt Pk.key (Y ++ [x])=Srt.mrg Pk.key (Srt.srt Pk.key Y) [x]):=Hd (Srt.srt_snoc Y x);generalize Srt.srt Pk.key Y=S at *;clear hX hp hXY hY HI;go_wp2_with fail;go_loopw [9] (fun c wr=>∃j:Nat,c=.int .i64 j∧Hid (∃S1 S2,S=S1++S2∧a+S1.length=j∧PR wr B (P++S1++x ::(S2++(Z++Q)))∧∀y∈S2,x.c<y.c)∧Hid (One B w wr)) (fun c _=>(intOf c).toNat)
   case atStart=>exact⟨i,rfl,Hd ⟨S,[],by simp,HY.out,by simpa using HP.out,by simp⟩,HO⟩
   case round=>
    obtain⟨j,rfl,HJ,HO2⟩:=hrel;obtain⟨S1,S2,hS,hj,hp,hgt⟩:=HJ.out;clear HJ;by_cases hja:a<j
    ·have t1:decide ((a:Int)<(j:Int))=true:=decide_eq_true (by omega);have hS1:∃T y,S1=T ++ [y]:=by
      rcases List.eq_nil_or_concat S1 with q | ⟨T,y,q⟩
      ·subst q;simp at hj;omega
      ·exact⟨T,y,by rw[q,List.concat_eq_append]⟩
     obtain⟨T,y,rfl⟩:=hS1;obtain⟨J,hJ⟩:∃J,(P++T).length=J:=⟨_,rfl⟩;have hjJ:j=J+1:=by have:=HA.out;simp at hj hJ;omega
     have hp2:PR wr B ((P++T)++y ::x ::(S2++(Z++Q))):=by simpa using hp
     have hJn:J+1<n:=by
      have h1:=HL.out;have h2:=HXY.out;have h3:=HB.out;have h4:=HY2.out;have h5:=HA.out;have h6:=HY.out;subst h2;simp[hS] at h1 h3 h6 hJ hj⊢;omega
     have lJ:J<n:=by omega
     have lj:j<n:=by omega
     have gJ:(0:Int)≤(J:Int):=by omega
     have eJ:(j:Int)-1=(J:Int):=by omega
     have wJ:∀z,z=(J:Int)→IntKind.i64.wrap z=z:=by intro z hz;rw[IntKind.wrap_i64];omega
     obtain⟨k2,k3,k4,k5,hw⟩:=hp2.adjD hJ;rw[← hjJ] at k4 k5 hw;have HjJ:=Hd hjJ;clear hJn;have HW:=Hd hw;have HP2:=Hd hp2;have HS:=Hd hS;have HG:=Hd hgt;have HJ:=Hd hJ;have hBl:=hp2.lt;have fz:=hp2.frozen;clear hp hp2 hw hS hgt hj hJ hjJ;by_cases hc:x.c<y.c
     ·have t2:decide (cmpI (x.c:Int) (y.c:Int)<0)=true:=by rw[cmpI_neg];exact decide_eq_true (by omega)
      have HC:=Hd hc;clear hc;go_wp2_with fail;go_region_held3 (fun w'=>Ext wr w'∧w'.cell? ⟨B,J*2,none⟩=some (.int .i64 (y.c:Int))∧w'.cell? ⟨B,J*2+1,none⟩=some (.slice y.a y.n y.k)∧w'.cell? ⟨B,j*2,none⟩=some (.int .i64 (x.c:Int))∧w'.cell? ⟨B,j*2+1,none⟩=some (.slice x.a x.n x.k)) (first | exact⟨Below.drew (Ext.refl wr),k2,k3,k4,k5⟩ | go_keep | exact⟨Ext.trans (by first | assumption | exact Below.drew (Ext.refl _)) hx,(hx.cell (p:=⟨B,J*2,none⟩) (Nat.lt_of_lt_of_le hBl (show Ext wr _ from by first | assumption | exact Below.drew (Ext.refl _)).size)).trans (by assumption),(hx.cell (p:=⟨B,J*2+1,none⟩) (Nat.lt_of_lt_of_le hBl (show Ext wr _ from by first | assumption | exact Below.drew (Ext.refl _)).size)).trans (by assumption),(hx.cell (p:=⟨B,j*2,none⟩) (Nat.lt_of_lt_of_le hBl (show Ext wr _ from by first | assumption | exact Below.drew (Ext.refl _)).size)).trans (by assumption),(hx.cell (p:=⟨B,j*2+1,none⟩) (Nat.lt_of_lt_of_le hBl (show Ext wr _ from by first | assumption | exact Below.drew (Ext.refl _)).size)).trans (by assumption)⟩)
       ((go_at_call 154;refine (HORD.out _ _ _ _ _ _ _ _ _).mono ?_;rintro e w' ⟨rfl,hx⟩))
      all_goals
       rename_i hS;clear k2 k3 k4 k5 fz HW;obtain⟨k2,k3,k4,k5,hw⟩:=(HP2.out.ext hS.1).adjD HJ.out;rw[← HjJ.out] at k4 k5 hw;have fz:=(HP2.out.ext hS.1).frozen;have HW:=Hd hw;have HO3:=Hd (HO2.out.trans (One.of_ext hS.1));clear hw hS;go_wp2_with fail;go_region;go_wp2_with fail;go_roundw
       case rel=>exact⟨J,by go_num,Hd ⟨T,y ::S2,by rw[HS.out];simp,by have:=HJ.out;have:=HA.out;simp at *;omega,by have:=HW.out.drew;simpa using this,fun z hz=>by rcases List.mem_cons.mp hz with rfl | q;exact HC.out;exact HG.out z q⟩,Hd (HO3.out.four _ _ _ _ _ _ _ _).drew⟩
       case measure=>have:=HjJ.out;simp[intOf];omega
     ·have t2:decide (cmpI (x.c:Int) (y.c:Int)<0)=false:=by rw[cmpI_neg];exact decide_eq_false (by omega)
      have HC:=Hd hc;clear hc;go_wp2_with fail;go_region_held3 (fun w'=>Ext wr w'∧w'.cell? ⟨B,J*2,none⟩=some (.int .i64 (y.c:Int))∧w'.cell? ⟨B,J*2+1,none⟩=some (.slice y.a y.n y.k)∧w'.cell? ⟨B,j*2,none⟩=some (.int .i64 (x.c:Int))∧w'.cell? ⟨B,j*2+1,none⟩=some (.slice x.a x.n x.k)) (first | exact⟨Below.drew (Ext.refl wr),k2,k3,k4,k5⟩ | go_keep | exact⟨Ext.trans (by first | assumption | exact Below.drew (Ext.refl _)) hx,(hx.cell (p:=⟨B,J*2,none⟩) (Nat.lt_of_lt_of_le hBl (show Ext wr _ from by first | assumption | exact Below.drew (Ext.refl _)).size)).trans (by assumption),(hx.cell (p:=⟨B,J*2+1,none⟩) (Nat.lt_of_lt_of_le hBl (show Ext wr _ from by first | assumption | exact Below.drew (Ext.refl _)).size)).trans (by assumption),(hx.cell (p:=⟨B,j*2,none⟩) (Nat.lt_of_lt_of_le hBl (show Ext wr _ from by first | assumption | exact Below.drew (Ext.refl _)).size)).trans (by assumption),(hx.cell (p:=⟨B,j*2+1,none⟩) (Nat.lt_of_lt_of_le hBl (show Ext wr _ from by first | assumption | exact Below.drew (Ext.refl _)).size)).trans (by assumption)⟩)
       ((go_at_call 154;refine (HORD.out _ _ _ _ _ _ _ _ _).mono ?_;rintro e w' ⟨rfl,hx⟩))
      all_goals
       rename_i hS;clear k2 k3 k4 k5 fz HW;have HP3:=Hd (HP2.out.ext hS.1);have HO3:=Hd (HO2.out.trans (One.of_ext hS.1));clear hS;go_wp2_with fail;refine⟨⟨i+1,by simp,Hd ⟨by omega,.inl (by omega),.inr ⟨Y ++ [x],Z,by rw[HXY.out];simp,by have:=HY2.out;simp;omega,?_⟩⟩,HO3⟩,by simp[intOf];omega⟩;rw[HN1.out,HS.out,Srt.mrg_one (by rw[← HS.out];exact HU.out) (.inr ⟨T,y,rfl,HC.out⟩) HG.out];simpa using HP3.out
    ·have t1:decide ((a:Int)<(j:Int))=false:=decide_eq_false (by omega);go_wp2_with fail;refine wp_regionQ (by kernel_rfl) (by kernel_rfl) ?_;(iterate 4 (refine wpQ_yes (by kernel_rfl) fun K hK=>?_;go_simp;refine hK _ ?_;clear hK K));(iterate 12 (refine wpQ_no (by kernel_rfl) ?_;(try simp only[Act.put,xz])));refine wpQ_yes (by kernel_rfl) fun K hK=>?_;go_simp;refine hK _ ?_;clear hK K;refine wpQ_nil ?_;have HP3:=Hd hp.drew;have HO3:=Hd HO2.out.drew;have HS:=Hd hS;have HG:=Hd hgt;have HJ:=Hd hj;clear hp hS hgt hj;go_wp2_with fail;refine⟨⟨i+1,by simp,Hd ⟨by omega,.inl (by omega),.inr ⟨Y ++ [x],Z,by rw[HXY.out];simp,by have:=HY2.out;simp;omega,?_⟩⟩,HO3⟩,by simp[intOf];omega⟩
     have h1:S1=[]:=List.eq_nil_of_length_eq_zero (by have:=HJ.out;omega);rw[HN1.out,HS.out,Srt.mrg_one (by rw[← HS.out];exact HU.out) (.inl h1) HG.out];simpa using HP3.out
  ·have t0:decide ((i:Int)<(b:Int))=false:=decide_eq_false (by omega);go_wp2_with fail;go_end0;refine⟨rfl,?_,HO.out⟩;obtain⟨hai,hib,hX⟩:=HI.out;have h1:=HA.out;have h2:=HB.out;rcases hX with⟨rfl,hp⟩ | ⟨Y,Z,rfl,hY,hp⟩
   ·simpa [Srt.srt] using hp
   ·have hZ:Z=[]:=List.eq_nil_of_length_eq_zero (by simp at h2;omega);subst hZ;simpa using hp
theorem PR.get {w:World} {B:Nat} {l:List Pk} (h:PR w B l) {i:Nat} {x:Pk} (hx:l[i]? =some x):w.cell? ⟨B,i*2,none⟩=some (.int .i64 (x.c:Int))∧w.cell? ⟨B,i*2+1,none⟩=some (.slice x.a x.n x.k):=by
 obtain⟨hi,e⟩:=List.getElem?_eq_some_iff.1 hx;rw[← e];exact h.at hi
theorem get_mid (P L Q:List Pk) (i:Nat) (h:i<L.length):(P++(L++Q))[P.length+i]? =L[i]?:=by
 rw[List.getElem?_append_right (by omega),show P.length+i-P.length=i by omega,List.getElem?_append_left h]
/-- where one goes among many, ahead of its likes -/
theorem Srt.one_mrg {R:List Pk} {x:Pk} {p:Nat} (hR:Srt.Up Pk.key R) (hp:p≤R.length) (h1:p=0∨∃y,R[p-1]? =some y∧y.c<x.c) (h2:p=R.length∨∃y,R[p]? =some y∧¬ y.c<x.c):Srt.mrg Pk.key [x] R=R.take p++x ::R.drop p:=by
 have hlo:∀y∈R.take p,y.c<x.c:=by
  rcases h1 with rfl | ⟨z,hz,hzx⟩
  ·simp
  ·intro y hy;obtain⟨i,hi,rfl⟩:=List.mem_iff_getElem.1 hy;obtain⟨hi2,hz2⟩:=List.getElem?_eq_some_iff.1 hz;rw[List.getElem_take];simp at hi;rcases Nat.lt_or_ge i (p-1) with q | q
   ·have:=List.pairwise_iff_getElem.1 hR i (p-1) (by omega) hi2 q;rw[hz2] at this;unfold Pk.key at this;omega
   ·have:i=p-1:=by omega
    subst this;rw[hz2];exact hzx
 have hhi:∀y∈R.drop p,¬ y.c<x.c:=by
  rcases h2 with h2 | ⟨z,hz,hzx⟩
  ·rw[List.drop_eq_nil_of_le (by omega)];simp
  ·intro y hy;obtain⟨i,hi,rfl⟩:=List.mem_iff_getElem.1 hy;obtain⟨hi2,hz2⟩:=List.getElem?_eq_some_iff.1 hz;rw[List.getElem_drop];simp at hi;rcases Nat.eq_zero_or_pos i with q | q
   ·subst q;simp only[Nat.add_zero];rw[hz2];exact hzx
   ·have:=List.pairwise_iff_getElem.1 hR p (p+i) hi2 (by omega) (by omega);rw[hz2] at this;unfold Pk.key at this;omega
 have e:=Srt.mrg_parts (k:=Pk.key) [] (R.take p) [x] (R.drop p) (by simp) (fun a ha b hb=>by rw[List.mem_singleton.1 ha];have:=hlo b hb;unfold Pk.key;omega);rw[Srt.mrg_nil,List.take_append_drop,List.nil_append] at e;rw[e,Srt.mrg_done (l:=[x]) (fun a ha b hb=>by rw[List.mem_singleton.1 ha];have:=hhi b hb;unfold Pk.key;omega)];rfl
set_option maxHeartbeats 4000000 in
theorem symOne_any (B n cap:Nat) (P R Q:List Pk) (x:Pk) (a m b:Nat) (w:World) (hl:(P++x ::(R++Q)).length=n) (hn:n≤1000000) (ha:P.length=a) (hm:a+1=m) (hb:m+R.length=b) (hR:Srt.Up Pk.key R) (h:PR w B (P++x ::(R++Q))):
  Calls Tryz.prog 180 #[.slice (some ⟨B,0,none⟩) n cap,.int .i64 (a:Int),.int .i64 (m:Int),.int .i64 (b:Int),.func (.func 154) #[] #[]] w fun e w'=>e=.returned (.tuple #[])∧PR w' B (P++(Srt.mrg Pk.key [x] R++Q))∧One B w w':=by
 have HL:=Hd hl;have HPR:=Hd h;have HRU:=Hd hR;have hbn:b≤n:=by simp at hl;omega
 have e1:(m:Int)-(a:Int)=1:=by omega
 have HA:=Hd ha;have HB:=Hd hb;have HM:=Hd hm;have hmb:m≤b:=by omega
 have HORD:=Hd order_any;have gax:((P++x ::(R++Q))[a]?)=some x:=by rw[← ha];simp
 have HGA:=Hd gax;have han:a<n:=by omega
 clear hl h hR ha hb hm gax;go_enter Tryz.func180,Tryz.ntmps180
 go_wp2_with fail;go_loopw [10,11] (fun c d wr=>∃i j:Nat,c=.int .i64 i∧d=.int .i64 j∧Hid (∃p q,i=m+p∧j=m+q∧p≤q∧q≤R.length∧(p=0∨∃y,R[p-1]? =some y∧y.c<x.c)∧(q=R.length∨∃y,R[q]? =some y∧¬ y.c<x.c))∧Hid (Ext w wr)) (fun c d _=>(intOf d).toNat-(intOf c).toNat)
 case atStart=>exact⟨m,b,rfl,rfl,Hd ⟨0,R.length,rfl,HB.out.symm,by omega,by omega,.inl rfl,.inl rfl⟩,Hd (Ext.refl _)⟩
 case round=>
  obtain⟨i,j,rfl,rfl,HI,HX⟩:=hrel;by_cases hij:i<j
  ·have t0:decide ((i:Int)<(j:Int))=true:=decide_eq_true (by omega);obtain⟨p,q,rfl,rfl,hpq,hq,h1,h2⟩:=HI.out;have HH1:=Hd h1;have HH2:=Hd h2;clear h1 h2;have hjb:m+q≤b:=by have:=HB.out;omega
   obtain⟨i,hi⟩:∃i,m+p=i:=⟨_,rfl⟩;obtain⟨j,hj⟩:∃j,m+q=j:=⟨_,rfl⟩;obtain⟨s,hs⟩:∃s,i+j=s:=⟨_,rfl⟩;obtain⟨g,hg⟩:∃g,s/2=g:=⟨_,rfl⟩;obtain⟨u,hu⟩:∃u,g-m=u:=⟨_,rfl⟩;rw[hi,hj] at hij t0⊢;have hgm:m≤g:=by omega
   have hur:u<R.length:=by omega
   obtain⟨y,hy⟩:∃y,R[u]? =some y:=⟨_,List.getElem?_eq_getElem hur⟩;have hrow:(P++x ::(R++Q))[g]? =some y:=by
    have:=get_mid (P ++ [x]) R Q u hur;rw[show (P ++ [x]).length+u=g by have:=HA.out;have:=HM.out;simp;omega,hy] at this;simpa using this
   have hp:=HPR.out.ext HX.out;obtain⟨k2,k3⟩:=hp.get hrow;obtain⟨k4,k5⟩:=hp.get HGA.out;have hBl:=hp.lt;have e2:(i:Int)+(j:Int)=(s:Int):=by omega
   have e3:(s:Int)/2=(g:Int):=by omega
   have lg:g<n:=by omega
   have ws:∀z,z=(s:Int)→IntKind.i64.wrap z=z:=by intro z hz;rw[IntKind.wrap_i64];omega
   have wsu:∀z,z=(s:Int)→IntKind.u64.wrap z=z:=by intro z hz;rw[IntKind.wrap_u64];omega
   have wg:∀z,z=(g:Int)→IntKind.i64.wrap z=z:=by intro z hz;rw[IntKind.wrap_i64];omega
   have HHY:=Hd hy;have HF:=Hd (And.intro hi (And.intro hj (And.intro hs (And.intro hg (And.intro hu (And.intro hpq hq))))));have HP:=Hd hp;clear hp hrow hi hj hs hg hu hy hpq hq hur HI;by_cases hc:y.c<x.c
   ·have t2:decide (cmpI (y.c:Int) (x.c:Int)<0)=true:=by rw[cmpI_neg];exact decide_eq_true (by omega)
    have HC:=Hd hc;clear hc;go_wp2_with fail;go_region_held3 (fun w'=>Ext wr w'∧w'.cell? ⟨B,g*2,none⟩=some (.int .i64 (y.c:Int))∧w'.cell? ⟨B,g*2+1,none⟩=some (.slice y.a y.n y.k)∧w'.cell? ⟨B,a*2,none⟩=some (.int .i64 (x.c:Int))∧w'.cell? ⟨B,a*2+1,none⟩=some (.slice x.a x.n x.k)) (first | exact⟨Below.drew (Ext.refl wr),k2,k3,k4,k5⟩ | go_keep | exact⟨Ext.trans (by first | assumption | exact Below.drew (Ext.refl _)) hx,(hx.cell (p:=⟨B,g*2,none⟩) (Nat.lt_of_lt_of_le hBl (show Ext wr _ from by first | assumption | exact Below.drew (Ext.refl _)).size)).trans (by assumption),(hx.cell (p:=⟨B,g*2+1,none⟩) (Nat.lt_of_lt_of_le hBl (show Ext wr _ from by first | assumption | exact Below.drew (Ext.refl _)).size)).trans (by assumption),(hx.cell (p:=⟨B,a*2,none⟩) (Nat.lt_of_lt_of_le hBl (show Ext wr _ from by first | assumption | exact Below.drew (Ext.refl _)).size)).trans (by assumption),(hx.cell (p:=⟨B,a*2+1,none⟩) (Nat.lt_of_lt_of_le hBl (show Ext wr _ from by first | assumption | exact Below.drew (Ext.refl _)).size)).trans (by assumption)⟩)
     ((go_at_call 154;refine (HORD.out _ _ _ _ _ _ _ _ _).mono ?_;rintro e w' ⟨rfl,hx⟩))
    all_goals
     rename_i hS;have HX2:=Hd (HX.out.trans hS.1);clear k2 k3 k4 k5 hS;have w5:∀z,z=((g+1:Nat):Int)→IntKind.i64.wrap z=z:=by intro z hz;rw[IntKind.wrap_i64];omega
     go_wp2_with fail;obtain⟨hi,hj,hs,hg,hu,hpq,hq⟩:=HF.out;refine⟨⟨g+1,j,by simp,rfl,Hd ⟨u+1,q,by omega,by omega,by omega,hq,.inr ⟨y,HHY.out,HC.out⟩,HH2.out⟩,HX2⟩,by simp[intOf];omega⟩
   ·have t2:decide (cmpI (y.c:Int) (x.c:Int)<0)=false:=by rw[cmpI_neg];exact decide_eq_false (by omega)
    have HC:=Hd hc;clear hc;go_wp2_with fail;go_region_held3 (fun w'=>Ext wr w'∧w'.cell? ⟨B,g*2,none⟩=some (.int .i64 (y.c:Int))∧w'.cell? ⟨B,g*2+1,none⟩=some (.slice y.a y.n y.k)∧w'.cell? ⟨B,a*2,none⟩=some (.int .i64 (x.c:Int))∧w'.cell? ⟨B,a*2+1,none⟩=some (.slice x.a x.n x.k)) (first | exact⟨Below.drew (Ext.refl wr),k2,k3,k4,k5⟩ | go_keep | exact⟨Ext.trans (by first | assumption | exact Below.drew (Ext.refl _)) hx,(hx.cell (p:=⟨B,g*2,none⟩) (Nat.lt_of_lt_of_le hBl (show Ext wr _ from by first | assumption | exact Below.drew (Ext.refl _)).size)).trans (by assumption),(hx.cell (p:=⟨B,g*2+1,none⟩) (Nat.lt_of_lt_of_le hBl (show Ext wr _ from by first | assumption | exact Below.drew (Ext.refl _)).size)).trans (by assumption),(hx.cell (p:=⟨B,a*2,none⟩) (Nat.lt_of_lt_of_le hBl (show Ext wr _ from by first | assumption | exact Below.drew (Ext.refl _)).size)).trans (by assumption),(hx.cell (p:=⟨B,a*2+1,none⟩) (Nat.lt_of_lt_of_le hBl (show Ext wr _ from by first | assumption | exact Below.drew (Ext.refl _)).size)).trans (by assumption)⟩)
     ((go_at_call 154;refine (HORD.out _ _ _ _ _ _ _ _ _).mono ?_;rintro e w' ⟨rfl,hx⟩))
    all_goals
     rename_i hS;have HX2:=Hd (HX.out.trans hS.1);clear k2 k3 k4 k5 hS;go_wp2_with fail;obtain⟨hi,hj,hs,hg,hu,hpq,hq⟩:=HF.out;refine⟨⟨i,g,rfl,rfl,Hd ⟨p,u,by omega,by omega,by omega,by omega,HH1.out,.inr ⟨y,HHY.out,HC.out⟩⟩,HX2⟩,by simp[intOf];omega⟩
  ·have t0:decide ((i:Int)<(j:Int))=false:=decide_eq_false (by omega);obtain⟨p,q,h3,h4,hpq,hq,h1,h2⟩:=HI.out;have HH1:=Hd h1;have HH2:=Hd h2;clear h1 h2;have hpq2:p=q:=by omega
   have HQ:=Hd (Srt.one_mrg HRU.out (by omega) HH1.out (by rw[hpq2];exact HH2.out));have hia:i=a+1+p:=by have:=HM.out;omega
   obtain⟨z,hz⟩:∃z,a+p=z:=⟨_,rfl⟩;have e2:(i:Int)-1=(z:Int):=by omega
   have lz:z<n:=by have:=HB.out;omega
   have wz:∀v,v=(z:Int)→IntKind.i64.wrap v=v:=by intro v hv;rw[IntKind.wrap_i64];omega
   have HPL:=Hd (show (R.take p).length=p by simp;omega);have HZ:=Hd hz;have HPX:=Hd (HPR.out.ext HX.out);have HR0:=Hd (List.take_append_drop p R);generalize R.take p=A0 at *;generalize R.drop p=C0 at *;clear HI h3 h4 hpq hq hpq2 HH1 HH2 hia hz;go_wp2_with fail;go_loopw [13] (fun c wr=>∃k:Nat,c=.int .i64 k∧Hid (∃A C,A0=A++C∧a+A.length=k∧PR wr B (P++(A++x ::(C++(C0++Q)))))∧Hid (One B w wr)) (fun c _=>z-(intOf c).toNat)
   case atStart=>exact⟨a,rfl,Hd ⟨[],A0,rfl,rfl,by have:=HPX.out;rw[← HR0.out] at this;simpa using this⟩,Hd (One.of_ext HX.out)⟩
   case round=>
    obtain⟨k,rfl,HK,HO⟩:=hrel;obtain⟨A,C,hAC,hk,hp⟩:=HK.out;clear HK;by_cases hkz:k<z
    ·have t1:decide ((k:Int)<(z:Int))=true:=decide_eq_true (by omega);cases C with
     | nil=>have:=HPL.out;have:=HZ.out;simp at hAC;subst hAC;omega
     | cons y C=>
      have hp2:PR wr B ((P++A)++x ::y ::(C++(C0++Q))):=by simpa using hp
      have hJ:(P++A).length=k:=by have:=HA.out;simp;omega
      obtain⟨k2,k3,k4,k5,hw⟩:=hp2.adjU hJ;obtain⟨k',hk'⟩:∃k',k+1=k':=⟨_,rfl⟩;rw[hk'] at k4 k5 hw;have fz:=hp2.frozen;have HW:=Hd hw;have HAC:=Hd hAC;have HK:=Hd hk;have e5:(k:Int)+1=(k':Int):=by omega
      have lk:k'<n:=by omega
      have wk:∀v,v=(k':Int)→IntKind.i64.wrap v=v:=by intro v hv;rw[IntKind.wrap_i64];omega
      clear hp hp2 hw hAC hk hJ;go_wp2_with fail;go_region;go_wp2_with fail;refine⟨⟨k',by simp,Hd ⟨A ++ [y],C,by rw[HAC.out];simp,by have:=HK.out;simp;omega,by have:=HW.out.drew;simpa using this⟩,Hd (HO.out.four _ _ _ _ _ _ _ _).drew⟩,by simp[intOf];omega⟩
    ·have t1:decide ((k:Int)<(z:Int))=false:=decide_eq_false (by omega);have hC:C=[]:=by
      have h1:=HPL.out;have h2:=HZ.out;rw[hAC] at h1;simp at h1;exact List.eq_nil_of_length_eq_zero (by omega)
     subst hC;have HP9:=Hd hp;have HAC:=Hd hAC;clear hp hAC hk;go_wp2_with fail;refine bodyPost_ret (results_none rfl _ _ _) rfl ⟨rfl,?_,HO.out⟩;rw[HQ.out,HAC.out];simpa using HP9.out
end Go.Proofs.YthlibiocadimhaaGreatDoor
