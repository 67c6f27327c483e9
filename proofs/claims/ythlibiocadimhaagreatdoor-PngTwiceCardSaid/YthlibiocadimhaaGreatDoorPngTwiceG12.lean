/-
  slices.Repeat of one whole number.
  inflate: a dynamic block's lengths: the plain machine's steps, what stands beside a reader.
  Rows of cells through memory that grows. No function of the program is named.
  deflate.dynamic: the memory that it goes through.
  One dynamic block, read: plain laws.
  inflate.FixedLengths.
  inflate: the closures that read a distance.
  One fixed block, read: plain laws. No function of the program is named.
  Packed texts read though something stands behind them: plain laws. No function of the program is named.
-/
import Derived.Test.YthlibiocadimhaaGreatDoorPngTwiceG1
import Derived.Test.YthlibiocadimhaaGreatDoorPngTwiceG11
import Derived.Test.YthlibiocadimhaaGreatDoorPngTwiceG8
import Derived.Test.YthlibiocadimhaaGreatDoorPngTwiceG4
import Derived.Lib.SliceRun
import Derived.Laws.CopyOwn
import Derived.Deep.LoopGhost
import Derived.Deep.RegionLaw
import Derived.Deep.OwnRows
import Derived.Deep.DeepCutAuto
import Derived.Shelf.RegionOpenPlain
import Derived.Lib.OthersKept
import Derived.Test.YthlibiocadimhaaGreatDoorPngTwiceG6
import Derived.Test.YthlibiocadimhaaGreatDoorPngTwiceG7
import Derived.Deep.Onto
set_option linter.unusedSimpArgs false
set_option linter.unusedVariables false
set_option maxRecDepth 100000
namespace Go.Proofs.YthlibiocadimhaaGreatDoor
open Go.RowKit
theorem i64Sz:(Tryz.prog.info? 3).map (·.size)=some 1:=by kernel_rfl
def repI (c q:Nat) (s:Int):List Value:=List.replicate q (.int .i64 s)++List.replicate (c-q) (.int .i64 0)
theorem repI_step (c q k:Nat) (s:Int) (h:q+k≤c):((repI c q s).take q++List.replicate k (.int .i64 s)++(repI c q s).drop (q+k))=repI c (q+k) s:=by
 unfold repI;rw[List.take_left' (by simp),List.drop_append,List.drop_of_length_le (by simp),List.nil_append,List.length_replicate,List.drop_replicate,List.replicate_append_replicate];congr 2
 omega
theorem repI_len (c q:Nat) (s:Int) (h:q≤c):(repI c q s).length=c:=by unfold repI;simp;omega
theorem repI_made (c:Nat) (s:Int):(madeCells #[Value.int .i64 0] c).toList=repI c 0 s:=by
 unfold repI;apply List.ext_getElem
 ·simp[madeCells]
 ·intro i h1 h2;simp[madeCells,Nat.mod_one]
set_option maxHeartbeats 4000000 in
theorem repi_any (x c:Nat) (s:Int) (w:World) (hx:w.cell? ⟨x,0,none⟩=some (.int .i64 s)) (hc1:1≤c) (hc:c≤10000):
  Calls Tryz.prog 146 #[.slice (some ⟨x,0,none⟩) 1 1,.int .i64 (c:Int)] w fun e w'=>(∃g' c',e=.returned (.slice (some ⟨g',0,none⟩) c c')∧Cv w' g' c (fun _=>.int .i64 s)∧w.heap.size≤g'∧g'<w'.heap.size)∧Ext w w':=by
 have hmk:=run_make_row' (P:=Tryz.prog) 88 3 (.int .i64 0) 8 Tryz.underlying88 i64info rfl .i64 .i64 c (by omega) (by omega);have n2:¬ (c:Int)<0:=by omega
 have wu:IntKind.u64.wrap (c:Int)=(c:Int):=by rw[IntKind.wrap_u64];omega
 have wi:IntKind.i64.wrap (c:Int)=(c:Int):=by rw[IntKind.wrap_i64];omega
 have n3:¬ (9223372036854775807:Int)<(c:Int):=by omega
 have HX:=Hd hx;clear hx;go_enter Tryz.func146,Tryz.ntmps146
 go_wp2_with fail;refine (mul_one c (by omega) w).mono ?_;rintro e w2 ⟨rfl,rfl⟩;go_upto_region 7 with fail;clear hmk n2 wu wi n3;have hg:(w2.alloc (.cells (madeCells #[.int .i64 0] c) 3)).heap[w2.heap.size]? =some (.cells (repI c 0 s).toArray 3 (0,0)):=by
  rw[← repI_made,Array.toArray_toList];exact heap_alloc_new w2 _
 refine wp_world (fun wz=>Hid (wz.heap[w2.heap.size]? =some (.cells (repI c 0 s).toArray 3 (0,0)))∧Hid (Ext w2 wz)∧Hid (wz.cell? ⟨x,0,none⟩=some (.int .i64 s))) ⟨Hd hg,Hd (Ext.alloc (Ext.refl _) _),Hd ((((Ext.refl w2).alloc _).keeps (S:=fun _=>False) |>.cell (p:=⟨x,0,none⟩) (World.block_lt_of_cell? w2 _ HX.out) id).trans HX.out)⟩ ?_;clear hg HX;obtain⟨G,hG⟩:∃G,w2.heap.size=G:=⟨_,rfl⟩;rw[hG];have HG:=Hd hG;clear hG;rintro w3 ⟨HW,HE,HC⟩;have hcp:=run_copy_row (P:=Tryz.prog) w3 88 88 3 3 G 0 c c ⟨x,0,none⟩ 1 1 (repI c 0 s).toArray 3 (List.replicate 1 (.int .i64 s)) Tryz.underlying88 i64Sz HW.out (by simp[Nat.min_def];omega) (by
  intro j v hj;have:j=0:=by have:=(List.getElem?_eq_some_iff.1 hj).1;simp at this;omega
  subst this;simp at hj;subst hj;rw[add_plain];exact HC.out) (by rw[List.size_toArray,repI_len c 0 s (by omega)];simp;omega) (by simp[Value.oneCell'])
 have hst:=repI_step c 0 1 s (by omega);rw[Nat.zero_add] at hst;rw[List.length_replicate,Nat.zero_add] at hcp;rw[show (repI c 0 s).toArray.toList=repI c 0 s from rfl,hst] at hcp;have HS3:=Hd (setRow_heap w3 G (repI c 0 s).toArray (repI c 1 s).toArray 3 (0,0) HW.out);have HE3:=Hd (below_setRow (B:=G) (w0:=w2) (by rw[← HG.out];exact HE.out) (Nat.le_refl G) (repI c 1 s).toArray);clear hst HW HE HC;go_wp2_with fail;clear hcp;refine wp_world (fun wz=>Hid (wz.heap[G]? =some (.cells (repI c 1 s).toArray 3 (0,0)))∧Hid (Below G w2 wz)) ⟨HS3,HE3⟩ ?_;clear HS3 HE3;rintro w4 ⟨HS,HE⟩;go_loopg [8] (c-1) (fun k cc wr=>∃q:Nat,1≤q∧q+k=c∧cc=.int .i64 (q:Int)∧Hid (wr.heap[G]? =some (.cells (repI c q s).toArray 3 (0,0)))∧Hid (Below G w2 wr))
 case atStart=>exact⟨1,Nat.le_refl _,by omega,rfl,HS,HE⟩
 case round=>
  clear HS HE;obtain⟨q,hq1,hqk,rfl,HS,HE⟩:=hrel;by_cases hlt:q<c
  ·obtain⟨D,hD⟩:∃D,c-q=D:=⟨_,rfl⟩;obtain⟨k,hk⟩:∃k,Nat.min q D=k:=⟨_,rfl⟩;have hk1:1≤k∧q+k≤c∧k≤q∧k≤D:=by have e:Nat.min q D=min q D:=rfl;rw[e] at hk;omega
   have hcp:=run_copy_row (P:=Tryz.prog) wr.drew 88 88 3 3 G q D D ⟨G,0,none⟩ q c (repI c q s).toArray 3 (List.replicate k (.int .i64 s)) Tryz.underlying88 i64Sz HS.out (by rw[List.length_replicate];exact hk.symm) (by
    intro j v hj;have hj1:j<k:=by have:=(List.getElem?_eq_some_iff.1 hj).1;simpa using this
    rw[List.getElem?_replicate,if_pos hj1] at hj;rw[add_plain];have h1:wr.drew.cell? ⟨G,j,none⟩=(repI c q s).toArray[j]?:=by
     have h2:wr.drew.heap[G]? =some (.cells (repI c q s).toArray 3 (0,0)):=HS.out;rw[Lib.cell_of_heap h2]
    rw[h1,List.getElem?_toArray];unfold repI;rw[List.getElem?_append_left (by simp;omega),List.getElem?_replicate,if_pos (by omega)];exact hj) (by rw[List.size_toArray,repI_len c q s (by omega),List.length_replicate];omega) (by intro v hv;rw[List.eq_of_mem_replicate hv];rfl)
   rw[List.length_replicate,show (repI c q s).toArray.toList=repI c q s from rfl,repI_step c q k s hk1.2.1] at hcp;obtain⟨Q2,hQ2⟩:∃z,q+k=z:=⟨_,rfl⟩;rw[hQ2] at hcp;have HS2:=Hd (setRow_heap wr G (repI c q s).toArray (repI c Q2 s).toArray 3 (0,0) HS.out);have HE2:=Hd (below_setRow (B:=G) (w0:=w2) (Below.drew HE.out) (Nat.le_refl G) (repI c Q2 s).toArray);have hDI:(c:Int)-(q:Int)=(D:Int):=by omega
   have hql:q≤c:=by omega
   have hqk2:(q:Int)+(k:Int)=(Q2:Int):=by omega
   have HK:=Hd (And.intro hk1 (And.intro hD hQ2));have wq_:∀z,z=(Q2:Int)→IntKind.i64.wrap z=z:=by rintro _ rfl;rw[IntKind.wrap_i64];omega
   clear hk HS HE hk1 hQ2;have mixed: Tryz.prog.follows .mixedOrders=true:=by kernel_rfl
   go_wp2_with fail;go_region_o
   all_goals (go_wp2_with fail)
   all_goals (go_roundg (c-Q2))
   all_goals first
    | (have:=HK.out;omega)
    | exact⟨Q2,by have:=HK.out;omega,by have:=HK.out;omega,rfl,HS2,HE2⟩
  ·obtain rfl:q=c:=by omega
   go_wp2_with fail;go_ret;refine⟨⟨G,q,rfl,fun i hi=>?_,by rw[HG.out];exact Nat.le_refl _,lt_of_block HS.out⟩,by have:=HE.out;rw[← HG.out] at this;exact this⟩;have h2:=HS.out;refine⟨?_,by simp[World.frozen?,h2]⟩;rw[Lib.cell_of_heap h2,List.getElem?_toArray];unfold repI;rw[List.getElem?_append_left (by simp;omega),List.getElem?_replicate,if_pos hi]
end Go.Proofs.YthlibiocadimhaaGreatDoor
namespace Go.Proofs.YthlibiocadimhaaGreatDoor
open Go.RowKit
namespace Inf
open Classical in
noncomputable def dynFin (many far:Nat) (rl:Except Nat (List Nat × Nat)):Except Nat (List Nat × List Nat × Nat):=
 match rl with
 | .error c=>.error c
 | .ok (l,a5)=>
  if ¬ good (fn (l.take many)) many then .error 0
  else if ¬ good (fn (l.drop many)) far then .error 0
  else if l.getD 256 0=0 then .error 0
  else .ok (l.take many,l.drop many,a5)
open Classical in
noncomputable def dynMid (L:List UInt8) (many far:Nat) (rs:Except Nat ((Nat→Int) × Nat)):Except Nat (List Nat × List Nat × Nat):=
 match rs with
 | .error c=>.error c
 | .ok (f,a4)=>if ¬ good f 19 then .error 0 else dynFin many far (lens L f (many+far) (many+far+1) a4 [])
open Classical in
theorem dyn_eq (L:List UInt8) (a:Nat):dyn L a=match get L 5 a with
  | .error c=>.error c
  | .ok (m,a1)=>
   match get L 5 a1 with
   | .error c=>.error c
   | .ok (r,a2)=>
    match get L 4 a2 with
    | .error c=>.error c
    | .ok (w,a3)=>if 286<m+257∨30<r+1 then .error 0 else dynMid L (m+257) (r+1) (smalls L (w+4) 0 a3 (fun _=>0)):=by
 rfl
section
variable {L:List UInt8} {many far:Nat} {r:Except Nat (List Nat × List Nat × Nat)} {c:Nat}
theorem mid_err {rs:Except Nat ((Nat→Int) × Nat)} (h:dynMid L many far rs=r) (e:rs=.error c):.error c=r:=by subst e;exact h
theorem mid_bad {f:Nat→Int} {a:Nat} {rs:Except Nat ((Nat→Int) × Nat)} (h:dynMid L many far rs=r) (e:rs=.ok (f,a)) (hg:¬ good f 19):.error 0=r:=by
 subst e;simp only[dynMid] at h;rw[if_pos hg] at h;exact h
theorem mid_go {f:Nat→Int} {a:Nat} {rs:Except Nat ((Nat→Int) × Nat)} (h:dynMid L many far rs=r) (e:rs=.ok (f,a)) (hg:good f 19):dynFin many far (lens L f (many+far) (many+far+1) a [])=r:=by
 subst e;simp only[dynMid] at h;rw[if_neg (fun q=>q hg)] at h;exact h
theorem fin_err {rl:Except Nat (List Nat × Nat)} (h:dynFin many far rl=r) (e:rl=.error c):.error c=r:=by subst e;exact h
theorem fin_bad1 {l:List Nat} {a:Nat} {rl:Except Nat (List Nat × Nat)} (h:dynFin many far rl=r) (e:rl=.ok (l,a)) (h1:¬ good (fn (l.take many)) many):.error 0=r:=by
 subst e;simp only[dynFin] at h;rw[if_pos h1] at h;exact h
theorem fin_bad2 {l:List Nat} {a:Nat} {rl:Except Nat (List Nat × Nat)} (h:dynFin many far rl=r) (e:rl=.ok (l,a)) (h1:good (fn (l.take many)) many) (h2:¬ good (fn (l.drop many)) far):.error 0=r:=by
 subst e;simp only[dynFin] at h;rw[if_neg (fun q=>q h1),if_pos h2] at h;exact h
theorem fin_bad3 {l:List Nat} {a:Nat} {rl:Except Nat (List Nat × Nat)} (h:dynFin many far rl=r) (e:rl=.ok (l,a)) (h1:good (fn (l.take many)) many) (h2:good (fn (l.drop many)) far) (h3:l.getD 256 0=0):.error 0=r:=by
 subst e;simp only[dynFin] at h;rw[if_neg (fun q=>q h1),if_neg (fun q=>q h2),if_pos h3] at h;exact h
theorem fin_ok {l:List Nat} {a:Nat} {rl:Except Nat (List Nat × Nat)} (h:dynFin many far rl=r) (e:rl=.ok (l,a)) (h1:good (fn (l.take many)) many) (h2:good (fn (l.drop many)) far) (h3:l.getD 256 0≠0):.ok (l.take many,l.drop many,a)=r:=by
 subst e;simp only[dynFin] at h;rw[if_neg (fun q=>q h1),if_neg (fun q=>q h2),if_neg h3] at h;exact h
theorem smalls_err {n i a:Nat} {f:Nat→Int} {rs:Except Nat ((Nat→Int) × Nat)} (h:smalls L (n+1) i a f=rs) (e:get L 3 a=.error c):rs=.error c:=by simp only[smalls,e] at h;exact h.symm
theorem smalls_go {n i a x a':Nat} {f:Nat→Int} {rs:Except Nat ((Nat→Int) × Nat)} (h:smalls L (n+1) i a f=rs) (e:get L 3 a=.ok (x,a')):smalls L n (i+1) a' (upd f (orderL.getD i 0) x)=rs:=by simp only[smalls,e] at h;exact h
variable {f:Nat→Int} {want F a:Nat} {l:List Nat} {rl:Except Nat (List Nat × Nat)}
theorem lens_done (hF:0<F) (h:lens L f want F a l=rl) (hl:want≤l.length):rl=.ok (l,a):=by
 cases F with
 | zero=>omega
 | succ F=>simp only[lens,if_pos hl] at h;exact h.symm
theorem lens_nx (hF:0<F) (h:lens L f want F a l=rl) (hl:¬ want≤l.length) (e:nxt L f 19 a=.error c):rl=.error c:=by
 cases F with
 | zero=>omega
 | succ F=>simp only[lens,if_neg hl,e] at h;exact h.symm
theorem lens_rep {k a1:Nat} (hF:0<F) (h:lens L f want F a l=rl) (hl:¬ want≤l.length) (e:nxt L f 19 a=.ok (k,a1)) (e2:rep L k a1 l=.error c):rl=.error c:=by
 cases F with
 | zero=>omega
 | succ F=>simp only[lens,if_neg hl,e,e2] at h;exact h.symm
theorem lens_over {k a1 a2 t what:Nat} (hF:0<F) (h:lens L f want F a l=rl) (hl:¬ want≤l.length) (e:nxt L f 19 a=.ok (k,a1)) (e2:rep L k a1 l=.ok (t,what,a2)) (ho:want<l.length+t):rl=.error 0:=by
 cases F with
 | zero=>omega
 | succ F=>simp only[lens,if_neg hl,e,e2,if_pos ho] at h;exact h.symm
theorem lens_go {k a1 a2 t what:Nat} (hF:0<F) (h:lens L f want F a l=rl) (hl:¬ want≤l.length) (e:nxt L f 19 a=.ok (k,a1)) (e2:rep L k a1 l=.ok (t,what,a2)) (ho:¬ want<l.length+t):∃F',F=F'+1∧lens L f want F' a2 (l++List.replicate t what)=rl:=by
 cases F with
 | zero=>omega
 | succ F=>simp only[lens,if_neg hl,e,e2,if_neg ho] at h;exact⟨F,rfl,h⟩
theorem rep_nil:rep L 16 a []=.error 0:=by unfold rep;rw[if_pos rfl,if_pos rfl]
theorem rep_16e (hl:l≠[]) (e:get L 2 a=.error c):rep L 16 a l=.error c:=by unfold rep;rw[if_pos rfl,if_neg hl,e]
theorem rep_16 {x a':Nat} (hl:l≠[]) (e:get L 2 a=.ok (x,a')):rep L 16 a l=.ok (3+x,l.getD (l.length-1) 0,a'):=by unfold rep;rw[if_pos rfl,if_neg hl,e]
theorem rep_17e (e:get L 3 a=.error c):rep L 17 a l=.error c:=by unfold rep;rw[if_neg (by decide),if_pos rfl,e]
theorem rep_17 {x a':Nat} (e:get L 3 a=.ok (x,a')):rep L 17 a l=.ok (3+x,0,a'):=by unfold rep;rw[if_neg (by decide),if_pos rfl,e]
theorem rep_18e (e:get L 7 a=.error c):rep L 18 a l=.error c:=by unfold rep;rw[if_neg (by decide),if_neg (by decide),if_pos rfl,e]
theorem rep_18 {x a':Nat} (e:get L 7 a=.ok (x,a')):rep L 18 a l=.ok (11+x,0,a'):=by unfold rep;rw[if_neg (by decide),if_neg (by decide),if_pos rfl,e]
theorem rep_else {k:Nat} (h1:k≠16) (h2:k≠17) (h3:k≠18):rep L k a l=.ok (1,k,a):=by unfold rep;rw[if_neg h1,if_neg h2,if_neg h3]
end
theorem orderL_lt:∀i,i<19→orderL.getD i 0<19:=by decide
end Inf
theorem IGo.keepS {w0 w wr w':World} {R B a most:Nat} {s:ByteArray} {v0 v:Value} {out:List UInt8} {S:Nat→Prop} (h:IGo w0 w wr R B s a v0 v out most) (hk:Keeps S wr w') (hS:∀k,S k→w.heap.size≤k) (hw:w0.heap.size≤w.heap.size) (hR:¬ S R) (hB:¬ S B) (hv:∀k,v.ownBlock=some k→¬ S k):IGo w0 w w' R B s a v0 v out most:=
 ⟨⟨h.st.at_.keep hk hR hB hv,Below.trans h.st.old (hk.below h.st.old.size (fun k hk q=>by have:=hS k q;omega)),h.st.hR,h.st.hB,h.st.hv,h.st.le⟩,
  ⟨h.step.keeps.trans hk (fun i hi q=>by have:=hS i q;omega),h.step.new⟩⟩
theorem IGo.lts {w0 w wr:World} {R B a most:Nat} {s:ByteArray} {v0 v:Value} {out:List UInt8} (h:IGo w0 w wr R B s a v0 v out most):R<wr.heap.size∧B<wr.heap.size∧∀k,v.ownBlock=some k→k<wr.heap.size:=
 ⟨h.bk.lt,h.st.at_.rd.lt,fun _ q=>ownsRow_lt h.row q⟩
theorem gtree_yes (R B a most len cap:Nat) (x:Option Addr) (f:Nat→Int) (s:ByteArray) (v0 v:Value) (out:List UInt8) (w0 w wr:World) (E:Nat→Addr) (hE:Errs w0 E) (hI:IGo w0 w wr R B s a v0 v out most) (hx:Ints wr x len f) (hg:Inf.good f len):
  Calls Tryz.prog 160 #[.pointer (some ⟨R,0,none⟩),.slice x len cap] wr fun e w'=>∃T,e=.returned (.pointer (some ⟨T,0,none⟩))∧Tr w' T f len R B v∧Ext wr w':=by
 obtain⟨l1,l2,l3⟩:=hI.lts;refine (rtree_yes R len cap x f w0 wr E hE hI.old hx hg).mono ?_;rintro e w' ⟨⟨T,u,h1,h2,rfl,h3⟩,h4⟩;exact⟨T,rfl,⟨⟨u,h3,fun k q=>⟨by have:=h2 k q;omega,by have:=h2 k q;omega,fun e=>by have:=h2 k q;have:=l3 k e;omega⟩⟩,hg,by omega,by omega,fun e=>by have:=l3 T e;omega⟩,h4⟩
theorem gtree_no (R B a most len cap:Nat) (x:Option Addr) (f:Nat→Int) (s:ByteArray) (v0 v:Value) (out:List UInt8) (w0 w wr:World) (E:Nat→Addr) (hE:Errs w0 E) (hI:IGo w0 w wr R B s a v0 v out most) (hx:Ints wr x len f) (hl:len≤maxLen) (hg:¬ Inf.good f len):
  Calls Tryz.prog 160 #[.pointer (some ⟨R,0,none⟩),.slice x len cap] wr fun e w'=>e=thrown (E 0)∧Ext w0 w':=by
 refine (rtree_no R len cap x f w0 wr E hE hI.old hx hl hg).mono ?_;rintro e w' ⟨rfl,h4⟩;exact⟨rfl,hI.st.gone (IStep.ext h4)⟩
/-- with the row of small lengths -/
structure SGo (w0 w wr:World) (R B:Nat) (s:ByteArray) (a:Nat) (v:Value) (out:List UInt8) (most G:Nat) (f:Nat→Int):Prop where
 go:IGo w0 w wr R B s a v v out most
 cs:Cs wr G 19 .i64 f
 hG:w.heap.size≤G
 lt:R<w.heap.size∧B<w.heap.size∧∀k,v.ownBlock=some k→k<w.heap.size
 hw:w0.heap.size≤w.heap.size
theorem cs_keeps {w w':World} {B n:Nat} {k:IntKind} {g:Nat→Int} {S:Nat→Prop} (h:Cs w B n k g) (hk:Keeps S w w') (hB:¬ S B):Cs w' B n k g:=Cv.keeps (g:=fun i=>.int k (g i)) h hk hB
section
variable {w0 w wr w':World} {R B a a' most G:Nat} {f f':Nat→Int} {s:ByteArray} {v:Value} {out:List UInt8}
theorem SGo.old (h:SGo w0 w wr R B s a v out most G f):Ext w0 wr:=h.go.old
theorem SGo.bk (h:SGo w0 w wr R B s a v out most G f):Bk wr R #[.pointer (some ⟨B,0,none⟩),v,.int .i64 (most:Int)]:=h.go.bk
theorem SGo.ext (h:SGo w0 w wr R B s a v out most G f) (hE:Ext wr w'):SGo w0 w w' R B s a v out most G f:=⟨h.go.ext hE,cs_keeps (S:=fun _=>False) h.cs hE.keeps id,h.hG,h.lt,h.hw⟩
theorem SGo.rd (h:SGo w0 w wr R B s a v out most G f) (hG:IGo w0 w w' R B s a' v v out most) (hS:RStep wr w' B 0):SGo w0 w w' R B s a' v out most G f:=
 ⟨hG,cs_keeps h.cs hS.keeps (fun e=>by have:=h.hG;have:=h.lt.2.1;omega),h.hG,h.lt,h.hw⟩
theorem SGo.put (h:SGo w0 w wr R B s a v out most G f) (j:Nat) (x:Int) (hj:j<19):SGo w0 w (wr.setCell ⟨G,j,none⟩ (.int .i64 x)) R B s a v out most G (Inf.upd f j x):=by
 have hGl:=h.hG;have hlt:=h.lt;refine⟨h.go.keepS (S:=fun k=>k=G) ((Keeps.refl (fun k=>k=G) _).setCell (p:=⟨G,j,none⟩) (.inl rfl) _) (fun k q=>by omega) h.hw (fun q=>by omega) (fun q=>by omega) (fun k q e=>by have:=hlt.2.2 k q;omega),h.cs.put j x _ hj (fun i _=>rfl),h.hG,h.lt,h.hw⟩
theorem SGo.ints (h:SGo w0 w wr R B s a v out most G f) (hb:∀i,0≤f i∧f i≤7):Ints wr (some ⟨G,0,none⟩) 19 f:=by
 refine⟨fun e=>(by cases e),fun p hp i hi=>?_⟩;injection hp with hp;subst hp;rw[add_plain];have:=hb i;exact⟨(h.cs i hi).1,by omega,by omega⟩
end
theorem intsV_append (l m:List Nat):intsV (l++m).length (Inf.fn (l++m))=intsV l.length (Inf.fn l)++intsV m.length (Inf.fn m):=by
 unfold intsV Inf.fn;apply List.ext_getElem
 ·simp
 ·intro i h1 h2;by_cases hi:i<l.length
  ·rw[List.getElem_append_left (by simpa using hi)];simp[List.getD,hi,List.getElem?_append_left]
  ·rw[List.getElem_append_right (by simp;omega)];simp[List.getD,List.getElem?_append_right (Nat.le_of_not_lt hi)]
theorem intsV_rep (t what:Nat):intsV (List.replicate t what).length (Inf.fn (List.replicate t what))=List.replicate t (.int .i64 (what:Int)):=by
 unfold intsV Inf.fn;apply List.ext_getElem
 ·simp
 ·intro i h1 h2;have:i<t:=by simpa using h2
  simp[List.getD,this]
/-- with the row of lengths as far as it goes -/
structure LGo (w0 w w5 wr:World) (R B:Nat) (s:ByteArray) (a:Nat) (v:Value) (out:List UInt8) (most:Nat) (vl:Value) (l:List Nat):Prop where
 go:IGo w0 w wr R B s a v v out most
 st:IStep w5 wr R B v v
 row:wr.ownsRow w5.heap.size 3 1 vl l.length (intsV l.length (Inf.fn l))
 lt:R<w5.heap.size∧B<w5.heap.size∧∀k,v.ownBlock=some k→k<w5.heap.size
 hw:w0.heap.size≤w.heap.size∧w.heap.size≤w5.heap.size
 bd:∀x∈l,x≤18
section
variable {w0 w w5 wr w':World} {R B a a' most g n c:Nat} {s:ByteArray} {v vl vl':Value} {out:List UInt8} {l:List Nat}
theorem LGo.old (h:LGo w0 w w5 wr R B s a v out most vl l):Ext w0 wr:=h.go.old
theorem LGo.bk (h:LGo w0 w w5 wr R B s a v out most vl l):Bk wr R #[.pointer (some ⟨B,0,none⟩),v,.int .i64 (most:Int)]:=h.go.bk
theorem LGo.keepS (h:LGo w0 w w5 wr R B s a v out most vl l) {S:Nat→Prop} (hk:Keeps S wr w') (hS:∀k,S k→w5.heap.size≤k):IGo w0 w w' R B s a v v out most∧IStep w5 w' R B v v:=
 ⟨h.go.keepS hk (fun k q=>by have:=hS k q;have:=h.hw;omega) h.hw.1 (fun q=>by have:=hS _ q;have:=h.lt;omega) (fun q=>by have:=hS _ q;have:=h.lt;omega) (fun k q e=>by have:=hS _ e;have:=h.lt.2.2 k q;omega),
  ⟨h.st.keeps.trans hk (fun i hi q=>by have:=hS _ q;omega),h.st.new⟩⟩
theorem LGo.ext (h:LGo w0 w w5 wr R B s a v out most vl l) (hE:Ext wr w'):LGo w0 w w5 w' R B s a v out most vl l:=
 ⟨h.go.ext hE,h.st.trans (IStep.ext hE),ownsRow_kept (S:=fun _=>False) h.row hE.keeps (fun _ _ q=>q),h.lt,h.hw,h.bd⟩
theorem LGo.rd (h:LGo w0 w w5 wr R B s a v out most vl l) (hG:IGo w0 w w' R B s a' v v out most) (hS:RStep wr w' B 0):LGo w0 w w5 w' R B s a' v out most vl l:=
 ⟨hG,h.st.trans (IStep.rd hS),ownsRow_kept h.row hS.keeps (fun k q e=>by have:=(h.row.lt k q).1;have:=h.lt.2.1;omega),h.lt,h.hw,h.bd⟩
theorem LGo.grow (h:LGo w0 w w5 wr R B s a v out most vl l) {n t what:Nat} (hn:l.length=n) (hg:wr.grownBy w' vl.ownBlock) (ho:w'.ownsRow w5.heap.size 3 1 vl' (n+t) (intsV n (Inf.fn l)++List.replicate t (.int .i64 (what:Int)))) (hx:what≤18):
  LGo w0 w w5 w' R B s a v out most vl' (l++List.replicate t what):=by
 have hk:=Keeps.grown hg;have q:=h.keepS hk (fun k e=>(h.row.lt k e).1);refine⟨q.1,q.2,?_,h.lt,h.hw,?_⟩
 ·rw[intsV_append,intsV_rep,List.length_append,List.length_replicate,hn];exact ho
 ·intro x hx';rcases List.mem_append.1 hx' with e | e
  ·exact h.bd x e
  ·rw[List.eq_of_mem_replicate e];exact hx
theorem fn_le (hb:∀x∈l,x≤18) (i:Nat):0≤Inf.fn l i∧Inf.fn l i≤18:=by
 unfold Inf.fn;by_cases hi:i<l.length
 ·have:=hb l[i] (List.getElem_mem hi);simp[List.getD,hi];omega
 ·simp[List.getD,List.getElem?_eq_none (Nat.le_of_not_lt hi)]
theorem LGo.cell (h:LGo w0 w w5 wr R B s a v out most (.slice (some ⟨g,0,none⟩) n c) l) (hn:l.length=n) (i:Nat) (hi:i<n):wr.cell? ⟨g,i,none⟩=some (.int .i64 ((l.getD i 0:Nat):Int)):=by
 have q:=h.row;rw[hn] at q;rw[q.cellAt i (by omega),intsV_get _ _ i hi];rfl
theorem LGo.take (h:LGo w0 w w5 wr R B s a v out most (.slice (some ⟨g,0,none⟩) n c) l) (hn:l.length=n) (m:Nat) (hm:m≤n):Ints wr (some ⟨g,0,none⟩) m (Inf.fn (l.take m)):=by
 refine⟨fun e=>(by cases e),fun p hp i hi=>?_⟩;injection hp with hp;subst hp;rw[add_plain];have e:Inf.fn (l.take m) i=Inf.fn l i:=by unfold Inf.fn;simp[List.getD,hi]
 have:=fn_le h.bd i;rw[e];exact⟨h.cell hn i (by omega),by omega,by omega⟩
theorem LGo.drop (h:LGo w0 w w5 wr R B s a v out most (.slice (some ⟨g,0,none⟩) n c) l) (hn:l.length=n) (m k:Nat) (hm:m+k=n):Ints wr (some ⟨g,m,none⟩) k (Inf.fn (l.drop m)):=by
 refine⟨fun e=>(by cases e),fun p hp i hi=>?_⟩;injection hp with hp;subst hp;have e:Inf.fn (l.drop m) i=Inf.fn l (m+i):=by unfold Inf.fn;simp[List.getD,List.getElem?_drop]
 have:=fn_le h.bd (m+i);rw[e,show (⟨g,m,none⟩:Addr).add i=⟨g,m+i,none⟩ by unfold Addr.add;split <;> simp_all];exact⟨h.cell hn (m+i) (by omega),by omega,by omega⟩
end
theorem order_slice (few:Nat) (h:few≤19) (w:World):(Instr.sliceAt 192 (.pointer (some ⟨10,0,none⟩)) none (some (.int .i64 (few:Int))) none).run Tryz.prog w=.ok (.slice (some ⟨10,0,none⟩) few 19) w:=by
 have hl: Tryz.prog.arrayLen 192 =19:=by kernel_rfl
 rw[run_sliceAt_array_h (P:=Tryz.prog) w 192 _ Tryz.underlying192 .i64 (few:Int) (by omega) (by rw[hl];omega),hl];have hs:(sizeOf (Tryz.prog.elem 192)).run Tryz.prog w=.ok 1 w:=by kernel_rfl
 rw[hs];simp[Result.andThen,slicedAt,add_plain]
def DPost (w0 w:World) (R B:Nat) (s:ByteArray) (most:Nat) (v:Value) (out:List UInt8) (E:Nat→Addr) (r:Except Nat (List Nat × List Nat × Nat)) (e:Ending) (w':World):Prop:=
 match r with
 | .ok (l,d,a)=>∃T U,e=.returned (.tuple #[.pointer (some ⟨T,0,none⟩),.pointer (some ⟨U,0,none⟩)])∧IGo w0 w w' R B s a v v out most∧Tr w' T (Inf.fn l) l.length R B v∧Tr w' U (Inf.fn d) d.length R B v
 | .error c=>e=thrown (E c)∧Ext w0 w'
theorem dpost_error {w0 w w':World} {R B c most:Nat} {s:ByteArray} {v:Value} {out:List UInt8} {E:Nat→Addr} {r:Except Nat (List Nat × List Nat × Nat)} (hr:.error c=r) (h:Ext w0 w'):DPost w0 w R B s most v out E r (thrown (E c)) w':=by
 subst hr;exact⟨rfl,h⟩
theorem dpost_ok {w0 w w':World} {R B a most T U:Nat} {s:ByteArray} {v:Value} {out:List UInt8} {E:Nat→Addr} {l d:List Nat} {r:Except Nat (List Nat × List Nat × Nat)} (hr:.ok (l,d,a)=r) (h:IGo w0 w w' R B s a v v out most) (hT:Tr w' T (Inf.fn l) l.length R B v) (hU:Tr w' U (Inf.fn d) d.length R B v):
  DPost w0 w R B s most v out E r (.returned (.tuple #[.pointer (some ⟨T,0,none⟩),.pointer (some ⟨U,0,none⟩)])) w':=by
 subst hr;exact⟨T,U,rfl,h,hT,hU⟩
end Go.Proofs.YthlibiocadimhaaGreatDoor
namespace Go.Proofs.YthlibiocadimhaaGreatDoor
open Go.RowKit
theorem Cs.ext {w w':World} {B n:Nat} {k:IntKind} {g:Nat→Int} (h:Cs w B n k g) (hE:Ext w w'):Cs w' B n k g:=cs_keeps (S:=fun _=>False) h hE.keeps id
/-- lengths of counts: of symbols, of distances -/
def lnS (ts:List Tk):Nat→Int:=lenF (fun k=>((Dfl.cntS ts k:Nat):Int)) 286 15
def lnD (ts:List Tk):Nat→Int:=lenF (fun k=>((Dfl.cntD ts k:Nat):Int)) 30 15
theorem used_len (c:Nat→Nat) (len:Nat):(Pkg.used c len).length≤len:=by
 unfold Pkg.used;exact Nat.le_trans (List.length_filter_le _ _) (by simp)
theorem ints_cs {w:World} {b n:Nat} {s:Nat→Nat} (h:Cs w b n .i64 (fun k=>((s k:Nat):Int))) (hs:∀k,k<n→s k≤1000000):Ints w (some ⟨b,0,none⟩) n (fun k=>((s k:Nat):Int)):=by
 refine⟨fun h=>(by cases h),fun a ha i hi=>?_⟩;injection ha with ha;subst ha;rw[add_plain];have:=hs i hi;exact⟨(h i hi).1,(by omega:(-9223372036854775808:Int)≤((s i:Nat):Int)),(by omega:((s i:Nat):Int)≤9223372036854775807)⟩
theorem lenGood_cnt {s:Nat→Nat} {len most:Nat} (h1:len≤300) (h2:1≤most) (h3:most≤15) (hs:∀k,s k≤1048576):lenGood (fun k=>((s k:Nat):Int)) len most:=
 ⟨h1,h2,h3,fun j _=>⟨(by omega:(0:Int)≤((s j:Nat):Int)),(by have:=hs j;omega:((s j:Nat):Int)≤1048576)⟩⟩
theorem ln_good {s:Nat→Nat} {len most:Nat} (h1:len≤300) (h2:1≤most) (h3:most≤15) (hl:len≤2^most):
  (∀j,j<len→0≤lenF (fun k=>((s k:Nat):Int)) len most j∧lenF (fun k=>((s k:Nat):Int)) len most j≤most∧(0<lenF (fun k=>((s k:Nat):Int)) len most j↔0<s j))∧Inf.good (lenF (fun k=>((s k:Nat):Int)) len most) len:=by
 have h:=lens_good (fun k=>((s k:Nat):Int)) len most (fun j _=>(by omega:(0:Int)≤((s j:Nat):Int))) h1 h2 h3 (Nat.le_trans (used_len _ _) hl);refine⟨fun j hj=>?_,h.2.1,h.2.2⟩;obtain⟨a,b,c⟩:=h.1 j hj;exact⟨a,b,c.trans (by constructor <;> (intro q;have q':(0:Int)<((s j:Nat):Int):=by first | exact q | omega) <;> omega)⟩
theorem lnS_good {ts:List Tk}:(∀j,j<286→0≤lnS ts j∧lnS ts j≤15∧(0<lnS ts j↔0<Dfl.cntS ts j))∧Inf.good (lnS ts) 286:=ln_good (by decide) (by decide) (by decide) (by decide)
theorem lnD_good {ts:List Tk}:(∀j,j<30→0≤lnD ts j∧lnD ts j≤15∧(0<lnD ts j↔0<Dfl.cntD ts j))∧Inf.good (lnD ts) 30:=ln_good (by decide) (by decide) (by decide) (by decide)
/-- the memory when both codes are laid -/
structure DA (w wr:World) (D Wb:Nat) (la da cb eb:Nat) (f g:Nat→Int):Prop where
 old:Ext w wr
 df:DF wr D Wb ⟨la,0,none⟩ ⟨da,0,none⟩ ⟨cb,0,none⟩ ⟨eb,0,none⟩ 286 286 30 30 286 30 f g
 wb:Bk wr Wb #[.slice none 0 0,.int .i64 0]
 hw:w.heap.size≤Wb
 n1:D≠Wb
 n2:la≠Wb
 n3:da≠Wb
 n4:cb≠Wb
 n5:eb≠Wb
theorem DA.ext {w wr w':World} {D Wb la da cb eb:Nat} {f g:Nat→Int} (h:DA w wr D Wb la da cb eb f g) (hE:Ext wr w'):DA w w' D Wb la da cb eb f g:=
 ⟨h.old.trans hE,h.df.keeps (S:=fun _=>False) hE.keeps id id id id id,h.wb.ext hE,h.hw,h.n1,h.n2,h.n3,h.n4,h.n5⟩
theorem CG.far {w wr:World} {g1 g2:Nat} {s d:Nat→Nat} (h:CG w wr g1 g2 s d) (p:Addr) (hp:w.heap.size≤p.block) (h1:p.block≠g1) (h2:p.block≠g2) (u:Value):CG w (wr.setCell p u) g1 g2 s d:=
 ⟨Below.setCell h.ext hp _,h.o1,h.o2,h.ne,h.c1.other _ _ h1,h.c2.other _ _ h2⟩
theorem Ints.far {w:World} {b n:Nat} {f:Nat→Int} (h:Ints w (some ⟨b,0,none⟩) n f) (p:Addr) (hp:b≠p.block) (u:Value):Ints (w.setCell p u) (some ⟨b,0,none⟩) n f:=
 h.on (Keeps.setCell (S:=fun k=>k=p.block) (Keeps.refl _ _) (.inl rfl) _) (fun a ha q=>by injection ha with ha;subst ha;exact hp q)
/-- and all of it lies below B -/
structure DB (w z:World) (B D Wb la da cb eb:Nat) (f g:Nat→Int):Prop where
 a:DA w z D Wb la da cb eb f g
 lt:D<B∧la<B∧da<B∧cb<B∧eb<B∧Wb<B
 bz:B≤z.heap.size
 wb:w.heap.size≤B
theorem DB.start {w z:World} {D Wb la da cb eb:Nat} {f g:Nat→Int} (h:DA w z D Wb la da cb eb f g):DB w z z.heap.size D Wb la da cb eb f g:=
 ⟨h,⟨World.block_lt_of_cell? z _ h.df.c0,h.df.li.block (by decide),h.df.di.block (by decide),World.block_lt_of_cell? z _ (h.df.lw.2 _ rfl 0 (by decide)),World.block_lt_of_cell? z _ (h.df.dw.2 _ rfl 0 (by decide)),h.wb.lt⟩,Nat.le_refl _,h.old.size⟩
theorem DB.keeps {S:Nat→Prop} {w z z':World} {B D Wb la da cb eb:Nat} {f g:Nat→Int} (h:DB w z B D Wb la da cb eb f g) (hk:Keeps S z z') (hS:∀k,S k→B≤k):DB w z' B D Wb la da cb eb f g:=by
 obtain⟨⟨h1,h2,h3,h4,h5,h6,h7,h8,h9⟩,l,bz,wb⟩:=h;obtain⟨l1,l2,l3,l4,l5,l6⟩:=l;exact⟨⟨Below.trans h1 (hk.below (B:=w.heap.size) h1.size (fun k hk q=>by have:=hS k q;have hk':k<w.heap.size:=hk;omega)),h2.keeps hk (fun q=>by have:=hS _ q;omega) (fun q=>by have:B≤la:=hS _ q;omega) (fun q=>by have:B≤da:=hS _ q;omega) (fun q=>by have:B≤cb:=hS _ q;omega) (fun q=>by have:B≤eb:=hS _ q;omega),h3.keeps hk (fun q=>by have:=hS _ q;omega),h4,h5,h6,h7,h8,h9⟩,⟨l1,l2,l3,l4,l5,l6⟩,Nat.le_trans bz hk.size,wb⟩
theorem DB.ext {w z z':World} {B D Wb la da cb eb:Nat} {f g:Nat→Int} (h:DB w z B D Wb la da cb eb f g) (hE:Ext z z'):DB w z' B D Wb la da cb eb f g:=h.keeps (S:=fun _=>False) hE.keeps (fun _ q=>q.elim)
theorem DB.app {w z:World} {B D Wb la da cb eb:Nat} {f g:Nat→Int} (h:DB w z B D Wb la da cb eb f g) {v:Value} {n:Nat} {xs:List Value} (hv:OwnR z B 3 v n xs) {b m M c:Nat} {r:Nat→Int} (hI:Ints z (some ⟨b,0,none⟩) M r) (hm:m≤M) (hn:n+m≤1000):
  ∃v' z',(Builtin.append_ #[88,88] 88 #[v,.slice (some ⟨b,0,none⟩) m c]).run Tryz.prog z=.ok v' z'∧OwnR z' B 3 v' (n+m) (xs++intsV m r)∧DB w z' B D Wb la da cb eb f g:=by
 obtain⟨i0,hi0,hz0,hz1,hz2⟩:∃i,Tryz.prog.info? 3 =some i∧i.zero=some (.int .i64 0)∧i.size=1∧i.bytes=8:=⟨_,rfl,rfl,rfl,rfl⟩;obtain⟨v',z',hr,q2,q3,_,_⟩:=run_append_own_at (P:=Tryz.prog) z B 88 88 3 i0 (.int .i64 0) 1 8 Tryz.underlying88 hi0 hz0 hz1 hz2 rfl (by decide) v n xs hv ⟨b,0,none⟩ m c (intsV m r) (by simp[intsV]) (fun j u hj=>by
  have hjm:j<m:=by
   rcases Nat.lt_or_ge j m with q | q
   ·exact q
   ·rw[List.getElem?_eq_none (by simpa [intsV] using q)] at hj;cases hj
  rw[intsV_get _ _ _ hjm] at hj;injection hj with hj;subst hj;exact (hI.2 _ rfl j (by omega)).1) (by intro u hu;unfold intsV at hu;obtain⟨j,_,rfl⟩:=List.mem_map.1 hu;rfl) (by unfold maxLen;omega) (by omega) h.bz
 exact⟨v',z',hr,q2,h.keeps (Keeps.grown q3) (fun k e=>(World.ownsRow.lt hv k e).1)⟩
/-- two rows of lengths, one behind the other -/
def rowL (f g:Nat→Int) (many far:Nat):List Nat:=Dfl.rowN f many++Dfl.rowN g far
theorem rowL_length (f g:Nat→Int) (many far:Nat):(rowL f g many far).length=many+far:=by unfold rowL;rw[List.length_append,Dfl.rowN_length,Dfl.rowN_length]
theorem rowL_lo {f g:Nat→Int} {many far i:Nat} (hi:i<many):(rowL f g many far).getD i 0=(f i).toNat:=by
 unfold rowL Dfl.rowN;rw[List.getD,List.getElem?_append_left (by simpa using hi),List.getElem?_map,List.getElem?_range hi];rfl
theorem rowL_hi {f g:Nat→Int} {many far i:Nat} (hi:many≤i) (h2:i<many+far):(rowL f g many far).getD i 0=(g (i-many)).toNat:=by
 unfold rowL Dfl.rowN;rw[List.getD,List.getElem?_append_right (by simpa using hi),List.getElem?_map,List.length_map,List.length_range,List.getElem?_range (by omega)];rfl
theorem rowL_bd {f g:Nat→Int} {many far:Nat} (hf:∀j,j<many→0≤f j∧f j≤15) (hg:∀j,j<far→0≤g j∧g j≤15):∀j,j<many+far→(rowL f g many far).getD j 0≤15:=by
 intro j hj;rcases Nat.lt_or_ge j many with q | q
 ·rw[rowL_lo q];have:=hf j q;omega
 ·rw[rowL_hi q hj];have:=hg (j-many) (by omega);omega
theorem row_ints {z:World} {B:Nat} {x:Option Addr} {c many far:Nat} {f g:Nat→Int} (h:OwnR z B 3 (.slice x (many+far) c) (many+far) (intsV many f++intsV far g)) (h0:0<many) (hf:∀j,j<many→0≤f j∧f j≤15) (hg:∀j,j<far→0≤g j∧g j≤15):Ints z x (many+far) (Inf.fn (rowL f g many far)):=by
 rcases ownsRow_slice h with⟨q1,q2⟩ | ⟨gb,cap,q⟩
 ·omega
 ·injection q with q _ _;subst q;refine⟨fun h=>(by cases h),fun a ha i hi=>?_⟩;injection ha with ha;subst ha;rw[add_plain,World.ownsRow.cellAt h i (by omega)];have hl:(intsV many f).length=many:=by simp[intsV]
  rcases Nat.lt_or_ge i many with q | q
  ·have e:Inf.fn (rowL f g many far) i=f i:=by unfold Inf.fn;rw[rowL_lo q];have:=hf i q;omega
   rw[e,List.getElem?_append_left (by rw[hl];exact q),intsV_get _ _ _ q];have:=hf i q;exact⟨rfl,by omega,by omega⟩
  ·have e:Inf.fn (rowL f g many far) i=g (i-many):=by unfold Inf.fn;rw[rowL_hi q hi];have:=hg (i-many) (by omega);omega
   rw[e,List.getElem?_append_right (by rw[hl];exact q),hl,intsV_get _ _ _ (by omega)];have:=hg (i-many) (by omega);exact⟨rfl,by omega,by omega⟩
theorem u32s_cs {w:World} {b n:Nat} {g:Nat→Nat} (h:Cs w b n .u32 (fun i=>((g i:Nat):Int))):U32s w (some ⟨b,0,none⟩) n g:=by
 refine⟨fun h=>(by cases h),fun a ha i hi=>?_⟩;injection ha with ha;subst ha;rw[add_plain];exact (h i hi).1
theorem says_ne {rs:List Dfl.Rn} {l:List Nat} (h:Dfl.Says [] rs l) (hl:0<l.length):rs≠[]:=by
 rintro rfl;cases h
 simp at hl
/-- a row of runs, as cells -/
def Rnc (z:World) (g:Nat) (rs:List Dfl.Rn):Prop:=∀i r,rs[i]? =some r→z.cell? ⟨g,i*3,none⟩=some (.int .i64 (r.s:Int))∧z.cell? ⟨g,i*3+1,none⟩=some (.int .i64 (r.m:Int))∧z.cell? ⟨g,i*3+2,none⟩=some (.int .i64 (r.b:Int))
theorem Rnc.keeps {S:Nat→Prop} {z z':World} {g:Nat} {rs:List Dfl.Rn} (h:Rnc z g rs) (hk:Keeps S z z') (hS:¬ S g):Rnc z' g rs:=by
 intro i r hr;obtain⟨h1,h2,h3⟩:=h i r hr;have hb:g<z.heap.size:=World.block_lt_of_cell? z _ h1;exact⟨(hk.cell (p:=⟨g,i*3,none⟩) hb hS).trans h1,(hk.cell (p:=⟨g,i*3+1,none⟩) hb hS).trans h2,(hk.cell (p:=⟨g,i*3+2,none⟩) hb hS).trans h3⟩
theorem Rnc.ext {z z':World} {g:Nat} {rs:List Dfl.Rn} (h:Rnc z g rs) (hE:Ext z z'):Rnc z' g rs:=h.keeps (S:=fun _=>False) hE.keeps id
theorem rnV_get:∀(rs:List Dfl.Rn) (i:Nat) (r:Dfl.Rn),rs[i]? =some r→(rnV rs)[i*3]? =some (.int .i64 (r.s:Int))∧(rnV rs)[i*3+1]? =some (.int .i64 (r.m:Int))∧(rnV rs)[i*3+2]? =some (.int .i64 (r.b:Int))
 | [],i,r,h=>by simp at h
 | a ::rs,0,r,h=>by
  simp at h;subst h;exact⟨rfl,rfl,rfl⟩
 | a ::rs,i+1,r,h=>by
  have ih:=rnV_get rs i r (by simpa using h);have e:rnV (a ::rs)=[.int .i64 (a.s:Int),.int .i64 (a.m:Int),.int .i64 (a.b:Int)]++rnV rs:=rfl;rw[e,show (i+1)*3=i*3+3 by omega];exact ih
theorem RR.cells {w z:World} {v:Value} {rs:List Dfl.Rn} (h:RR w z v rs) (h0:rs≠[]):∃g c,v=.slice (some ⟨g,0,none⟩) rs.length c∧w.heap.size≤g∧Rnc z g rs:=by
 have hp:0<rs.length:=List.length_pos_iff.2 h0;rcases ownsRow_slice h.row with⟨_,q⟩ | ⟨g,c,rfl⟩
 ·omega
 ·refine⟨g,c,rfl,(World.ownsRow.lt h.row g rfl).1,fun i r hr=>?_⟩;have hi:i<rs.length:=by
   rcases Nat.lt_or_ge i rs.length with q | q
   ·exact q
   ·rw[List.getElem?_eq_none q] at hr;cases hr
  obtain⟨q1,q2,q3⟩:=rnV_get rs i r hr;refine⟨?_,?_,?_⟩
  ·rw[World.ownsRow.cellAt h.row _ (by omega)];exact q1
  ·rw[World.ownsRow.cellAt h.row _ (by omega)];exact q2
  ·rw[World.ownsRow.cellAt h.row _ (by omega)];exact q3
/-- how often runs have a symbol -/
def cntR (rs:List Dfl.Rn) (k:Nat):Nat:=rs.countP (fun r=>r.s=k)
theorem cntR_push (rs:List Dfl.Rn) (r:Dfl.Rn) (k:Nat) (hk:r.s=k):cntR (rs ++ [r])=Dfl.bump (cntR rs) k:=by
 funext j
 simp only[cntR,Dfl.bump,List.countP_append,List.countP_singleton,hk];by_cases h:j=k
 ·have q:(if decide (k=j)=true then 1 else 0)=1:=if_pos (decide_eq_true h.symm);rw[if_pos h,q]
 ·have q:(if decide (k=j)=true then 1 else 0)=0:=if_neg (by simpa using fun e=>h (Eq.symm e));rw[if_neg h,q];omega
theorem cntR_le (rs:List Dfl.Rn) (k:Nat):cntR rs k≤rs.length:=List.countP_le_length
/-- the small code's lengths -/
def lnR (rs:List Dfl.Rn):Nat→Int:=lenF (fun k=>((cntR rs k:Nat):Int)) 19 7
theorem lnR_good {rs:List Dfl.Rn}:(∀j,j<19→0≤lnR rs j∧lnR rs j≤7∧(0<lnR rs j↔0<cntR rs j))∧Inf.good (lnR rs) 19:=ln_good (by decide) (by decide) (by decide) (by decide)
namespace Dfl
theorem cntS_mem {ts:List Tk} {t:Tk} (h:t∈ts):0<cntS ts (symO t):=by
 unfold cntS;have q:0<ts.countP (fun x=>decide (symO x=symO t)):=List.countP_pos_iff.2 ⟨t,h,by simp⟩;omega
theorem cntS_end (ts:List Tk):0<cntS ts 256:=by unfold cntS;rw[if_pos rfl];omega
theorem cntD_mem {ts:List Tk} {t:Tk} (h:t∈ts) (hl:t.l≠0):0<cntD ts (plc Inf.distsL t.d.toNat):=List.countP_pos_iff.2 ⟨t,h,by simp[hl]⟩
def dynB (ts:List Tk) (many far few:Nat) (rs:List Rn):List Bool:=Bts.low 5 3++(headB many far few (lnR rs) rs++(toksB (lnS ts) 286 (lnD ts) 30 ts++wordB (lnS ts) 286 256))
structure DynOk (ts:List Tk) (many far few:Nat) (rs:List Rn):Prop where
 m:257≤many∧many≤286
 r:1≤far∧far≤30
 w:4≤few∧few≤19
 zm:∀j,many≤j→j<286→lnS ts j=0
 zf:∀j,far≤j→j<30→lnD ts j=0
 zw:∀i,few≤i→i<19→lnR rs (Inf.orderL.getD i 0)=0
 says:Says [] rs (rowL (lnS ts) (lnD ts) many far)
theorem wordB_row {f:Nat→Int} {m n k:Nat} (hmn:m≤n) (h0:∀j,j<m→0≤f j) (hz:∀j,m≤j→j<n→f j=0) (hk:k<m):wordB f n k=wordB (Inf.fn (rowN f m)) m k:=by
 obtain⟨d,rfl⟩:∃d,n=m+d:=⟨n-m,by omega⟩;rw[wordB_cut hz,wordB_congr (fun j hj=>(fn_rowN h0 j hj).symm) hk]
theorem tokB_row {f g:Nat→Int} {m n m2 n2:Nat} {t:Tk} (hm:m≤n) (hf:∀j,j<m→0≤f j) (hz:∀j,m≤j→j<n→f j=0) (hm2:m2≤n2) (hg:∀j,j<m2→0≤g j) (hz2:∀j,m2≤j→j<n2→g j=0) (hs:symO t<m) (hd:t.l≠0→plc Inf.distsL t.d.toNat<m2):
  tokB f n g n2 t=tokB (Inf.fn (rowN f m)) m (Inf.fn (rowN g m2)) m2 t:=by
 unfold tokB symO at *;by_cases h:t.l=0
 ·rw[if_pos h] at hs;rw[if_pos h,if_pos h,wordB_row hm hf hz hs]
 ·rw[if_neg h] at hs;rw[if_neg h,if_neg h,wordB_row hm hf hz hs,wordB_row hm2 hg hz2 (hd h)]
theorem toksB_row {f g:Nat→Int} {m n m2 n2:Nat} (hm:m≤n) (hf:∀j,j<m→0≤f j) (hz:∀j,m≤j→j<n→f j=0) (hm2:m2≤n2) (hg:∀j,j<m2→0≤g j) (hz2:∀j,m2≤j→j<n2→g j=0) {ts:List Tk} (h:∀t∈ts,symO t<m∧(t.l≠0→plc Inf.distsL t.d.toNat<m2)):
  toksB f n g n2 ts=toksB (Inf.fn (rowN f m)) m (Inf.fn (rowN g m2)) m2 ts:=by
 unfold toksB;congr 1
 exact List.map_congr_left (fun t ht=>tokB_row hm hf hz hm2 hg hz2 (h t ht).1 (h t ht).2)
theorem symO_lt {t:Tk} (h:t.l=0∨(3≤t.l∧t.l≤258∧1≤t.d∧t.d≤32768)):symO t<286:=by
 unfold symO;split
 ·have:=t.b.toNat_lt;omega
 ·rename_i h0;rcases h with q | ⟨q1,q2,_,_⟩
  ·exact absurd q h0
  ·have:=plc_l q1 q2;omega
theorem len_lt {f:Nat→Int} {m n k:Nat} (hz:∀j,m≤j→j<n→f j=0) (hk:k<n) (hp:0<f k):k<m:=by
 rcases Nat.lt_or_ge k m with q | q
 ·exact q
 ·have:=hz k q hk;omega
/-- what tokens use lies ahead of the cuts, and has a word -/
theorem DynOk.uses {ts:List Tk} {many far few:Nat} {rs:List Rn} (H:DynOk ts many far few rs) {t:Tk} (ht:t∈ts) (h:t.l=0∨(3≤t.l∧t.l≤258∧1≤t.d∧t.d≤32768)):
  (symO t<many∧1≤lnS ts (symO t)∧lnS ts (symO t)≤15)∧(t.l≠0→plc Inf.distsL t.d.toNat<far∧1≤lnD ts (plc Inf.distsL t.d.toNat)∧lnD ts (plc Inf.distsL t.d.toNat)≤15):=by
 have s1:=symO_lt h;obtain⟨a1,a2,a3⟩:=(lnS_good (ts:=ts)).1 (symO t) s1;have p:=a3.2 (cntS_mem ht);refine⟨⟨len_lt H.zm s1 p,by omega,a2⟩,fun hl=>?_⟩;rcases h with q | ⟨_,_,q3,q4⟩
 ·exact absurd q hl
 ·have d1:=plc_d q3 q4;obtain⟨b1,b2,b3⟩:=(lnD_good (ts:=ts)).1 _ d1;have p2:=b3.2 (cntD_mem ht hl);exact⟨len_lt H.zf d1 p2,by omega,b2⟩
theorem good_of_cut {f:Nat→Int} {m n:Nat} (hm:m≤n) (hz:∀j,m≤j→j<n→f j=0) (hg:Inf.good f n):Inf.good f m:=by
 obtain⟨d,rfl⟩:∃d,n=m+d:=⟨n-m,by omega⟩;exact good_cut hz hg
theorem dynamic_read {ts:List Tk} {o':List UInt8} (hM:Means [] ts o') {many far few:Nat} {rs:List Rn} (H:DynOk ts many far few rs) {L:List UInt8} {most:Nat} (hA:At L 0 (dynB ts many far few rs)) (hm:o'.length≤most):
  Inf.inf L most=.ok (o',((dynB ts many far few rs).length+7)/8,[⟨2,rowN (lnS ts) many,rowN (lnD ts) far,ts.map ev ++ [⟨256,0,0,0⟩]⟩]):=by
 have hu:=fun t ht=>H.uses (t:=t) ht (hM.ok t ht);have s0:∀j,j<many→0≤lnS ts j:=fun j hj=>(lnS_good.1 j (by have:=H.m;omega)).1;have d0:∀j,j<far→0≤lnD ts j:=fun j hj=>(lnD_good.1 j (by have:=H.r;omega)).1;have gS:=good_of_cut H.m.2 H.zm (lnS_good (ts:=ts)).2;have gD:=good_of_cut H.r.2 H.zf (lnD_good (ts:=ts)).2;have e256:=((lnS_good (ts:=ts)).1 256 (by decide));have p256:=e256.2.2.2 (cntS_end ts);have e3:Bts.low 5 3=Bts.low 1 1++Bts.low 2 2:=by decide
 have hlen:(dynB ts many far few rs).length=0+1+2+(headB many far few (lnR rs) rs).length+(toksB (lnS ts) 286 (lnD ts) 30 ts++wordB (lnS ts) 286 256).length:=by
  unfold dynB;simp only[List.length_append,Bts.low_length];omega
 unfold dynB at hA;rw[e3,List.append_assoc] at hA;have g1:=hA.left.get (by decide);have A1:=hA.right;have g2:=A1.left.get (by decide);have A2:=A1.right;rw[Bts.low_length] at A1 g2 A2;rw[Bts.low_length] at A2;have hd:=dyn_read H.m H.r H.w gS gD (lnR_good (rs:=rs)).2 (fun j hj=>by have:=((lnR_good (rs:=rs)).1 j hj).2.1;exact this) H.zw H.says (fun r hr=>by
  have hb:=(H.says.bd r hr).1;have:=((lnR_good (rs:=rs)).1 r.s hb).2.2.2 (List.countP_pos_iff.2 ⟨r,hr,by simp⟩);omega) (by omega) A2
 have A3:=A2.right;have hul:∀t∈ts,symO t<many∧(t.l≠0→plc Inf.distsL t.d.toNat<far):=fun t ht=>⟨(hu t ht).1.1,fun h=>((hu t ht).2 h).1⟩;have eT:toksB (lnS ts) 286 (lnD ts) 30 ts++wordB (lnS ts) 286 256=toksB (Inf.fn (rowN (lnS ts) many)) (rowN (lnS ts) many).length (Inf.fn (rowN (lnD ts) far)) (rowN (lnD ts) far).length ts++wordB (Inf.fn (rowN (lnS ts) many)) (rowN (lnS ts) many).length 256:=by
  rw[rowN_length,rowN_length,← toksB_row H.m.2 s0 H.zm H.r.2 d0 H.zf hul,← wordB_row H.m.2 s0 H.zm (by have:=H.m;omega)]
 have n1:Inf.good (Inf.fn (rowN (lnS ts) many)) (rowN (lnS ts) many).length:=by rw[rowN_length];exact good_congr (fun j hj=>(fn_rowN s0 j hj).symm) gS
 have n2:Inf.good (Inf.fn (rowN (lnD ts) far)) (rowN (lnD ts) far).length:=by rw[rowN_length];exact good_congr (fun j hj=>(fn_rowN d0 j hj).symm) gD
 have hu2:∀t∈ts,Uses (Inf.fn (rowN (lnS ts) many)) (rowN (lnS ts) many).length (Inf.fn (rowN (lnD ts) far)) (rowN (lnD ts) far).length t:=by
  intro t ht;obtain⟨⟨a1,a2,a3⟩,a4⟩:=hu t ht;rw[rowN_length,rowN_length];refine⟨fun h0=>?_,fun h0=>?_⟩
  ·have e:symO t=t.b.toNat:=by unfold symO;rw[if_pos h0]
   rw[e] at a1 a2 a3;exact⟨a1,by rw[fn_rowN s0 _ a1];exact a2,by rw[fn_rowN s0 _ a1];exact a3⟩
  ·have e:symO t=257+plc Inf.lensL t.l.toNat:=by unfold symO;rw[if_neg h0]
   rw[e] at a1 a2 a3;obtain⟨b1,b2,b3⟩:=a4 h0;exact⟨⟨a1,by rw[fn_rowN s0 _ a1];exact a2,by rw[fn_rowN s0 _ a1];exact a3⟩,b1,by rw[fn_rowN d0 _ b1];exact b2,by rw[fn_rowN d0 _ b1];exact b3⟩
 have hl:=toksB_len hu2;rw[eT] at A3;have hF:ts.length<8*L.length+1:=by
  have:=A3.1;rw[List.length_append] at this;omega
 have h256:256<(rowN (lnS ts) many).length∧1≤Inf.fn (rowN (lnS ts) many) 256∧Inf.fn (rowN (lnS ts) many) 256≤15:=by
  have:=H.m;rw[rowN_length,fn_rowN s0 256 (by omega)];exact⟨by omega,by omega,e256.2.1⟩
 have ht:=toks_read n1.2 n2.2 h256 hM (8*L.length+1) (0+1+2+(headB many far few (lnR rs) rs).length) [] hm hu2 hF A3;have hb:=Inf.block_dyo (out:=[]) g1 g2 hd ht;have hbs:Inf.blocks L most (8*L.length+1) 0 [] []=.ok (0+1+2+(headB many far few (lnR rs) rs).length+(toksB (lnS ts) 286 (lnD ts) 30 ts++wordB (lnS ts) 286 256).length,o',[⟨2,rowN (lnS ts) many,rowN (lnD ts) far,ts.map ev ++ [⟨256,0,0,0⟩]⟩]):=by
  rw[eT];simp only[Inf.blocks,hb,if_true,List.nil_append]
 unfold Inf.inf;rw[hbs,hlen]
theorem runsB_le {h:Nat→Int} (h7:∀j,j<19→h j≤7):∀ {rs:List Rn},(∀r∈rs,r.s<19∧r.b≤7)→(runsB h rs).length≤14*rs.length
 | [],_=>Nat.le_refl _
 | r ::rs,H=>by
  have ih:=runsB_le h7 (fun x hx=>H x (List.mem_cons_of_mem _ hx));obtain⟨a,b⟩:=H r (List.mem_cons_self ..);have:=h7 r.s a;rw[runsB_cons,List.length_append,runB,List.length_append,Bts.low_length,wordB,Bts.high_length,List.length_cons];omega
end Dfl
theorem Ir.rep {w:World} {g n c:Nat} {x:Int} (h0:0<n) (h:Cv w g n (fun _=>.int .i64 x)):Ir w (.slice (some ⟨g,0,none⟩) n c) (List.replicate n x):=by
 refine⟨by simpa using h0,g,c,by simp,fun j hj=>?_⟩;have hj1:j<n:=by simpa using hj
 rw[(h j hj1).1];simp[i64V,hj1]
def fixLs:Nat→List Int
 | 0=>List.replicate 144 8
 | 1=>List.replicate 112 9
 | 2=>List.replicate 24 7
 | _=>List.replicate 8 8
theorem fixLs_eq:concL fixLs 4=(List.range 288).map Inf.fixF:=by decide +kernel
theorem ints_of_i64V {w:World} {base:Nat} {v:Value} {n:Nat} {f:Nat→Int} (h:w.ownsRow base 3 1 v n (i64V ((List.range n).map f))) (hb:∀i,i<n→ -9223372036854775808≤f i∧f i≤9223372036854775807):
  ∃x cap,v=.slice x n cap∧Ints w x n f:=by
 refine Ints.of_own (base:=base) ?_ hb;have e:i64V ((List.range n).map f)=intsV n f:=by simp[i64V,intsV]
 rw[← e];exact h
set_option maxHeartbeats 1000000 in
theorem fixed_any (w:World):Calls Tryz.prog 124 #[] w fun e w'=>(∃x c,e=.returned (.slice x 288 c)∧Ints w' x 288 Inf.fixF∧w'.ownsRow w.heap.size 3 1 (.slice x 288 c) 288 (intsV 288 Inf.fixF))∧Ext w w':=by
 go_enter Tryz.func124,Tryz.ntmps124
 go_wp2_with fail;refine (repi_any w.heap.size 144 8 _ (by simp) (by decide) (by decide)).mono ?_;rintro e w1 ⟨⟨g1,c1,rfl,hc1,_,_⟩,hX1⟩;have HC1:=Hd (Ir.rep (c:=c1) (by decide) hc1);have HX1:=Hd (Ext.trans ((Ext.refl w).alloc _) hX1);clear hc1 hX1;go_wp2_with fail;refine (repi_any w1.heap.size 112 9 _ (by simp) (by decide) (by decide)).mono ?_;rintro e w2 ⟨⟨g2,c2,rfl,hc2,_,_⟩,hX2⟩;have hX:=Ext.trans ((Ext.refl w1).alloc _) hX2;have HC2:=Hd (Ir.rep (c:=c2) (by decide) hc2);have HD1:=Hd (HC1.out.ext hX);have HX2:=Hd (HX1.out.trans hX);clear hc2 hX2 HC1 HX1 hX;go_wp2_with fail;refine (repi_any w2.heap.size 24 7 _ (by simp) (by decide) (by decide)).mono ?_;rintro e w3 ⟨⟨g3,c3,rfl,hc3,_,_⟩,hX3⟩;have hX:=Ext.trans ((Ext.refl w2).alloc _) hX3;have HC3:=Hd (Ir.rep (c:=c3) (by decide) hc3);have HE1:=Hd (HD1.out.ext hX);have HE2:=Hd (HC2.out.ext hX);have HX3:=Hd (HX2.out.trans hX);clear hc3 hX3 HD1 HC2 HX2 hX;go_wp2_with fail;refine (repi_any w3.heap.size 8 8 _ (by simp) (by decide) (by decide)).mono ?_;rintro e w4 ⟨⟨g4,c4,rfl,hc4,_,_⟩,hX4⟩;have hX:=Ext.trans ((Ext.refl w3).alloc _) hX4;have HC4:=Hd (Ir.rep (c:=c4) (by decide) hc4);have HF1:=Hd (HE1.out.ext hX);have HF2:=Hd (HE2.out.ext hX);have HF3:=Hd (HC3.out.ext hX);have HX4:=Hd (HX3.out.trans hX);clear hc4 hX4 HE1 HE2 HC3 HX3 hX;go_wp2_with fail;refine calls_world (fun wz=>Ext w4 wz∧Bk wz w4.heap.size #[.slice (some ⟨g1,0,none⟩) 144 c1,.slice (some ⟨g2,0,none⟩) 112 c2,.slice (some ⟨g3,0,none⟩) 24 c3,.slice (some ⟨g4,0,none⟩) 8 c4]) ⟨(Ext.refl _).alloc _,Bk.at rfl⟩ ?_
 rintro w5 ⟨hX,hB⟩;have HB:=Hd hB;have HX5:=Hd (HX4.out.trans hX);have HG1:=Hd (HF1.out.ext hX);have HG2:=Hd (HF2.out.ext hX);have HG3:=Hd (HF3.out.ext hX);have HG4:=Hd (HC4.out.ext hX);clear hX hB HF1 HF2 HF3 HC4 HX4;refine (concat_any w4.heap.size 4 4 (fun i=>(#[Value.slice (some ⟨g1,0,none⟩) 144 c1,.slice (some ⟨g2,0,none⟩) 112 c2,.slice (some ⟨g3,0,none⟩) 24 c3,.slice (some ⟨g4,0,none⟩) 8 c4]).getD i undef) fixLs w5 (by decide) (by decide) ?_ ?_ (by rw[fixLs_eq];simp)).mono ?_
 ·intro i hi;rw[HB.out.cell i];simp[hi]
 ·intro i hi;rcases (show i=0∨i=1∨i=2∨i=3 by omega) with rfl | rfl | rfl | rfl
  ·exact HG1.out
  ·exact HG2.out
  ·exact HG3.out
  ·exact HG4.out
 rintro e w6 ⟨⟨v,rfl,ho⟩,hX⟩;rw[fixLs_eq] at ho;rw[List.length_map,List.length_range] at ho;have hb:∀i,i<288→ -9223372036854775808≤Inf.fixF i∧Inf.fixF i≤9223372036854775807:=by
  intro i _;unfold Inf.fixF;split <;> (try split) <;> (try split) <;> omega
 obtain⟨x,c,rfl,hI⟩:=ints_of_i64V ho hb;have HI:=Hd hI;have e:i64V ((List.range 288).map Inf.fixF)=intsV 288 Inf.fixF:=by simp[i64V,intsV]
 rw[e] at ho;have HO:Hid (w6.ownsRow w.heap.size 3 1 (.slice x 288 c) 288 (intsV 288 Inf.fixF)):=Hd (ho.mono HX5.out.size);have HX6:=Hd (HX5.out.trans hX);clear ho hX hI hb e;go_wp2_with fail;go_ret;exact⟨⟨x,c,rfl,HI.out,HO.out⟩,HX6.out⟩
end Go.Proofs.YthlibiocadimhaaGreatDoor
namespace Go.Proofs.YthlibiocadimhaaGreatDoor
open Go.RowKit
theorem enters_fn {P : Program} {f : FuncId} {fn : Func} {c : Code} (hf : P.funcs[f]? = some fn) (hname : (fn.name == "runtime.NumGoroutine") = false) (hb : fn.body = some c) (args : Array Value) (w : World) : (callFunc f args).run P w = .ok (.enter f args) w := by
 have h1 : fn.name ≠ "runtime.NumGoroutine" := by simpa using hname
 simp[callFunc,hf,h1,hb,mark]
theorem IGo.trans {w0 w wr w':World} {R B a a' most:Nat} {s:ByteArray} {v0 v v':Value} {out out':List UInt8} (h:IGo w0 w wr R B s a v0 v out most) (k:IGo w0 wr w' R B s a' v v' out' most):IGo w0 w w' R B s a' v0 v' out' most:=⟨k.st,h.step.trans k.step⟩
namespace Inf
theorem good_fix:good fixF 288:=by
 refine⟨⟨by decide,fun j _=>?_⟩,.inr (.inr ?_)⟩
 ·unfold fixF;split <;> (try split) <;> (try split) <;> omega
 ·decide +kernel
theorem good_five:good fiveF 32:=⟨⟨by decide,fun j _=>by unfold fiveF;omega⟩,.inr (.inr (by decide +kernel))⟩
theorem word_five:∀k,k<32→word fiveF 32 k=k:=by decide +kernel
theorem nxt_five {L:List UInt8} {a:Nat} (h:a+5≤8*L.length):nxt L fiveF 32 a=.ok (codeAt (Crc.num L) a 5,a+5):=by
 have hl:=codeAt_lt (Crc.num L) a 5;exact nxt_hit good_five.2 ⟨by omega,by omega,h,hl,rfl,word_five _ hl⟩
theorem nxt_five_no {L:List UInt8} {a:Nat} (h:8*L.length<a+5):nxt L fiveF 32 a=.error 0:=by
 refine nxt_none fun n k hh=>?_;have h1:=hh.2.2.2.2.1;have h2:=hh.2.2.1;have:(5:Int)=n:=h1;omega
end Inf
def NPost (w0 w:World) (R B:Nat) (s:ByteArray) (v:Value) (out:List UInt8) (most:Nat) (E:Nat→Addr) (r:Except Nat (Nat × Nat)) (e:Ending) (w':World):Prop:=
 match r with
 | .ok (k,a')=>e=.returned (.int .i64 (k:Int))∧IGo w0 w w' R B s a' v v out most
 | .error c=>e=thrown (E c)∧Ext w0 w'
section
variable {w0 w w':World} {R B a' k c most:Nat} {s:ByteArray} {v:Value} {out:List UInt8} {E:Nat→Addr} {r:Except Nat (Nat × Nat)} {e:Ending}
theorem npost_ok {x:Value} (hr:r=.ok (k,a')) (hx:x=.int .i64 (k:Int)) (h:IGo w0 w w' R B s a' v v out most):NPost w0 w R B s v out most E r (.returned x) w':=by subst hr hx;exact⟨rfl,h⟩
theorem npost_error (hr:r=.error c) (h:Ext w0 w'):NPost w0 w R B s v out most E r (thrown (E c)) w':=by subst hr;exact⟨rfl,h⟩
theorem NPost.yes (h:NPost w0 w R B s v out most E r e w') (hr:r=.ok (k,a')):e=.returned (.int .i64 (k:Int))∧IGo w0 w w' R B s a' v v out most:=by subst hr;exact h
theorem NPost.no (h:NPost w0 w R B s v out most E r e w') (hr:r=.error c):e=thrown (E c)∧Ext w0 w':=by subst hr;exact h
end
/-- a variable that a closure holds -/
def BoxB (b:Nat) (x:Value) (R B:Nat) (w:World) (v:Value):Prop:=Bk w b #[x]∧b≠R∧b≠B∧v.ownBlock≠some b
theorem BoxB.step {b R B:Nat} {x:Value} {w w':World} {v v':Value} (h:BoxB b x R B w v) (k:IStep w w' R B v v'):BoxB b x R B w' v':=by
 obtain⟨h1,h2,h3,h4⟩:=h;have hl:=h1.lt;refine⟨h1.keeps k.keeps ?_,h2,h3,fun q=>?_⟩
 ·rintro (q | q | q)
  ·exact h2 q
  ·exact h3 q
  ·exact h4 q
 ·rcases k.new b q with r | r
  ·exact h4 r
  ·omega
set_option maxHeartbeats 1000000 in
theorem five_any (b R B a most:Nat) (s:ByteArray) (v:Value) (out:List UInt8) (w0 w:World) (E:Nat→Addr) (hE:Errs w0 E) (hI:ISt w0 w R B s a v out most) (hD:BoxB b (.pointer (some ⟨R,0,none⟩)) R B w v):
  Calls Tryz.prog 161 #[.pointer (some ⟨b,0,none⟩)] w fun e w'=>NPost w0 w R B s v out most E (Inf.nxt s.data.toList Inf.fiveF 32 a) e w':=by
 have HE:=Hd hE;have H0:=Hd (IGo.start hI);have HD:=Hd hD;have hle:=hI.le;obtain⟨r,hr⟩:∃r,Inf.nxt s.data.toList Inf.fiveF 32 a=r:=⟨_,rfl⟩;rw[hr];have HR:=Hd hr;obtain⟨N,hN⟩:∃N,Crc.num s.data.toList=N:=⟨_,rfl⟩;have HN:=Hd hN;clear hE hI hD hr hN;go_enter Tryz.func161,Tryz.ntmps161
 go_wp2_with fail;go_loopw [2,3] (fun x y wr=>∃i:Nat,i≤5∧y=.int .i64 i∧x=.int .i64 (codeAt N a i:Int)∧Hid (IGo w0 w wr R B s (a+i) v v out most)∧a+i≤8*s.size) (fun _ y _=>5-(intOf y).toNat)
 case atStart=>exact⟨0,by omega,rfl,rfl,H0,hle⟩
 case round=>
  clear H0;obtain⟨i,hi,rfl,rfl,H,hai⟩:=hrel;have hcl:=codeAt_lt N a i;have h32:2^i≤2^5:=Nat.pow_le_pow_right (by decide) hi;by_cases hlt:i<5
  ·have c0:=(HD.out.step H.out.step).1.cell 0;obtain⟨C,hC⟩:∃C,codeAt N a i=C:=⟨_,rfl⟩;have HC:=Hd hC;rw[hC] at hcl⊢;have hC32:C<32:=by omega
   have wi:∀z,z=(i:Int)+1→IntKind.i64.wrap z=z:=by rintro _ rfl;rw[IntKind.wrap_i64];omega
   have hC2:(C:Int)*2=((2*C:Nat):Int):=by omega
   have wc:∀z,z=((2*C:Nat):Int)→IntKind.i64.wrap z=z:=by rintro _ rfl;rw[IntKind.wrap_i64];omega
   have e10:(i:Int)<5:=by omega
   clear hC hcl h32;go_wp2_with fail;by_cases h1:a+i+1≤8*s.size
   ·have hg:Inf.get s.data.toList 1 (a+i)=.ok (N/2^(a+i)%2,a+i+1):=by
     unfold Inf.get;rw[if_pos (by rw[list_size];exact h1),HN.out]
    obtain⟨y,hy⟩:∃y,N/2^(a+i)%2=y:=⟨_,rfl⟩;have hy2:y<2:=by omega
    rw[hy] at hg;have HY:=Hd hy;clear hy;refine (gget_yes R B (a+i) 1 y (a+i+1) most s v v out w0 w _ E HE.out H.out (by omega) hg).mono ?_;rintro e w1 ⟨rfl,hG,hS⟩;have H1:=Hd hG;have hor:=or_bit C y (by omega) hy2;have hcod:codeAt N a (i+1)=2*C+y:=by simp only[codeAt,HC.out,HY.out]
    have HCOD:=Hd hcod;clear hG hS hg hcod H c0;have hor2:bits BinOp.or IntKind.i64 ((C:Int)*2) (y:Int)=((2*C+y:Nat):Int):=by rw[hC2];exact hor
    have hor3:bits BinOp.or IntKind.i64 (2*(C:Int)) (y:Int)=((2*C+y:Nat):Int):=by rw[show 2*(C:Int)=((2*C:Nat):Int) by omega];exact hor
    go_wp2_with fail;go_roundw
    case rel=>exact⟨i+1,by omega,by go_num,by rw[HCOD.out];exact val_int (by omega),by rw[← Nat.add_assoc];exact H1,by omega⟩
    case measure=>simp[intOf];omega
   ·have hg:Inf.get s.data.toList 1 (a+i)=.error 0:=by
     unfold Inf.get;rw[if_neg (by rw[list_size];exact h1)]
    have hrr:r=.error 0:=by rw[← HR.out];exact Inf.nxt_five_no (by rw[list_size];omega)
    refine (gget_no R B (a+i) 1 0 most s v v out w0 w _ E HE.out H.out (by omega) hg).mono ?_;rintro e w9 ⟨rfl,h9⟩;exact⟨rfl,npost_error hrr h9⟩
  ·obtain rfl:i=5:=by omega
   have hrr:r=.ok (codeAt N a 5,a+5):=by rw[← HR.out,← HN.out];exact Inf.nxt_five (by rw[list_size];omega)
   have HRR:=Hd hrr;obtain⟨C,hC⟩:∃C,codeAt N a 5=C:=⟨_,rfl⟩;rw[hC] at HRR⊢;clear hrr hC hcl h32;go_wp2_with fail;go_ret;exact npost_ok HRR.out rfl H.out
theorem Dist.five (b R B most:Nat) (s:ByteArray) (w0:World) (E:Nat→Addr) (hE:Errs w0 E):Dist 161 #[.pointer (some ⟨b,0,none⟩)] w0 R B s most E Inf.fiveF 32 (BoxB b (.pointer (some ⟨R,0,none⟩)) R B):=by
 refine⟨fun args w=>enters_fn Tryz.func161 (by kernel_rfl) rfl args w,fun w w' v v' h k=>h.step k,?_,?_⟩
 ·intro w wr a v0 v out k a' hG hd hn;refine (five_any b R B a most s v out w0 wr E hE hG.st hd).mono fun e w' h=>?_;have h:=h.yes hn;exact⟨h.1,hG.trans h.2,h.2.step⟩
 ·intro w wr a v0 v out c hG hd hn;refine (five_any b R B a most s v out w0 wr E hE hG.st hd).mono fun e w' h=>?_;exact h.no hn
theorem far_any (b d T R B a most gen:Nat) (g:Nat→Int) (s:ByteArray) (v:Value) (out:List UInt8) (w0 w:World) (E:Nat→Addr) (hE:Errs w0 E) (hI:ISt w0 w R B s a v out most) (hD:BoxB b (.pointer (some ⟨R,0,none⟩)) R B w v) (hD2:BoxB d (.pointer (some ⟨T,0,none⟩)) R B w v) (hT:Tr w T g gen R B v):
  Calls Tryz.prog 163 #[.pointer (some ⟨b,0,none⟩),.pointer (some ⟨d,0,none⟩)] w fun e w'=>NPost w0 w R B s v out most E (Inf.nxt s.data.toList g gen a) e w':=by
 have HE:=Hd hE;have H0:=Hd (IGo.start hI);have HT:=Hd hT;have c0:=hD.1.cell 0;have c1:=hD2.1.cell 0;clear hE hI hD hD2 hT;go_enter Tryz.func163,Tryz.ntmps163
 go_wp2_with fail;cases hn:Inf.nxt s.data.toList g gen a with
 | error c=>
  refine (gnext_no R B T a c most gen g s v v out w0 w _ E HE.out H0.out HT.out hn).mono ?_;rintro e w9 ⟨rfl,h9⟩;exact⟨rfl,npost_error hn h9⟩
 | ok q=>
  obtain⟨k,a1⟩:=q;refine (gnext_yes R B T a k a1 most gen g s v v out w0 w _ E HE.out H0.out HT.out hn).mono ?_;rintro e w1 ⟨rfl,hG,hS⟩;have HG:=Hd hG;have HN:=Hd hn;clear hG hS hn;go_wp2_with fail;go_ret;exact npost_ok HN.out rfl HG.out
theorem Dist.far (b d T R B most gen:Nat) (g:Nat→Int) (s:ByteArray) (w0:World) (E:Nat→Addr) (hE:Errs w0 E):
  Dist 163 #[.pointer (some ⟨b,0,none⟩),.pointer (some ⟨d,0,none⟩)] w0 R B s most E g gen (fun w v=>BoxB b (.pointer (some ⟨R,0,none⟩)) R B w v∧BoxB d (.pointer (some ⟨T,0,none⟩)) R B w v∧Tr w T g gen R B v):=by
 refine⟨fun args w=>enters_fn Tryz.func163 (by kernel_rfl) rfl args w,fun w w' v v' h k=>⟨h.1.step k,h.2.1.step k,h.2.2.step k⟩,?_,?_⟩
 ·intro w wr a v0 v out k a' hG hd hn;refine (far_any b d T R B a most gen g s v out w0 wr E hE hG.st hd.1 hd.2.1 hd.2.2).mono fun e w' h=>?_;have h:=h.yes hn;exact⟨h.1,hG.trans h.2,h.2.step⟩
 ·intro w wr a v0 v out c hG hd hn;refine (far_any b d T R B a most gen g s v out w0 wr E hE hG.st hd.1 hd.2.1 hd.2.2).mono fun e w' h=>?_;exact h.no hn
end Go.Proofs.YthlibiocadimhaaGreatDoor
namespace Go.Proofs.YthlibiocadimhaaGreatDoor
open Go.RowKit
namespace Dfl
theorem uses_fix {t:Tk} (h:t.l=0∨(3≤t.l∧t.l≤258∧1≤t.d∧t.d≤32768)):Uses Inf.fixF 288 Inf.fiveF 32 t:=by
  have hf:∀k,1≤Inf.fixF k∧Inf.fixF k≤15:=by
    intro k;unfold Inf.fixF;split
    · omega
    · split
      · omega
      · split <;> omega
  refine⟨fun h0=>⟨by have:=t.b.toNat_lt;omega,hf _⟩,fun h0=>?_⟩;rcases h with h | ⟨h1,h2,h3,h4⟩
  · exact absurd h h0
  · have a1:=plc_l h1 h2;have a2:=plc_d h3 h4;exact⟨⟨by omega,hf _⟩,by omega,by unfold Inf.fiveF;omega,by unfold Inf.fiveF;omega⟩
def fixedB (ts:List Tk):List Bool:=Bts.low 3 3++(toksB Inf.fixF 288 Inf.fiveF 32 ts++wordB Inf.fixF 288 256)
theorem fixed_read {ts:List Tk} {o':List UInt8} (hM:Means [] ts o') {L:List UInt8} {most:Nat} (hA:At L 0 (fixedB ts)) (hm:o'.length≤most):∃bl,Inf.inf L most=.ok (o',((fixedB ts).length+7)/8,bl):=by
  have hu:∀t∈ts,Uses Inf.fixF 288 Inf.fiveF 32 t:=fun t ht=>uses_fix (hM.ok t ht);have hlen:=toksB_len hu;have e3:Bts.low 3 3=Bts.low 1 1++Bts.low 1 2:=by decide
  have hA0:=hA;unfold fixedB at hA;rw[e3,List.append_assoc] at hA;have g1:=hA.left.get (by decide);have A1:=hA.right;have g2:=A1.left.get (by decide);have A2:=A1.right;rw[Bts.low_length] at A1 g2 A2;rw[Bts.low_length] at A2;have hF:ts.length<8*L.length+1:=by
    have:=A2.1;rw[List.length_append] at this;omega
  have ht:=toks_read Inf.good_fix.2 Inf.good_five.2 ⟨by decide,by decide,by decide⟩ hM (8*L.length+1) (0+1+2) [] hm hu hF A2;have hb:=Inf.block_fxo (out:=[]) g1 g2 ht;have hbs:Inf.blocks L most (8*L.length+1) 0 [] []=.ok (0+1+2+(toksB Inf.fixF 288 Inf.fiveF 32 ts++wordB Inf.fixF 288 256).length,o',[] ++ [⟨1,[],[],[]++(ts.map ev ++ [⟨256,0,0,0⟩])⟩]):=by
    simp only[Inf.blocks,hb,if_true]
  refine⟨[] ++ [⟨1,[],[],[]++(ts.map ev ++ [⟨256,0,0,0⟩])⟩],?_⟩;unfold Inf.inf;rw[hbs];have el:(fixedB ts).length=0+1+2+(toksB Inf.fixF 288 Inf.fiveF 32 ts++wordB Inf.fixF 288 256).length:=by
    unfold fixedB;rw[List.length_append,Bts.low_length]
  rw[el]
end Dfl
namespace Sto
theorem blocks_post (most:Nat) (post:List UInt8):∀(k:Nat) (pre t out:List UInt8) (F:Nat) (bl:List Inf.Blk),t.length<k→out.length+t.length≤most→8*(pre++all k t).length-8*pre.length<F→
  ∃bl',Inf.blocks (pre++(all k t++post)) most F (8*pre.length) out bl=.ok (8*(pre++all k t).length,out++t,bl'):=by
 intro k;induction k with
 | zero=>intro pre t out F bl h;omega
 | succ k ih=>
  intro pre t out F bl hk hm hF;by_cases h:t.length≤65535
  ·rw[all_last h] at hF⊢;have hb:=block_is pre t post 1 most out (by decide) h hm;exact⟨_,Inf.blocks_last (by omega) rfl hb⟩
  ·rw[all_more h] at hF⊢;have hl:(t.take 65535).length=65535:=by rw[List.length_take];omega
   have hd:(t.drop 65535).length=t.length-65535:=List.length_drop;have hb:=block_is pre (t.take 65535) (all k (t.drop 65535)++post) 0 most out (by decide) (by omega) (by omega);rw[← List.append_assoc (blk 0 (t.take 65535))] at hb;obtain⟨F',hF',h1⟩:=Inf.blocks_go (L:=pre++((blk 0 (t.take 65535)++all k (t.drop 65535))++post)) (F:=F) (by
    have:0<(blk 0 (t.take 65535)).length:=by rw[blk_length];omega
    simp only[List.length_append] at hF;omega) rfl hb (by decide)
   rw[← h1];have e:pre++((blk 0 (t.take 65535)++all k (t.drop 65535))++post)=(pre++blk 0 (t.take 65535))++(all k (t.drop 65535)++post):=by simp only[List.append_assoc]
   have e2:pre++(blk 0 (t.take 65535)++all k (t.drop 65535))=(pre++blk 0 (t.take 65535))++all k (t.drop 65535):=by simp only[List.append_assoc]
   rw[e];rw[e2] at hF⊢;obtain⟨bl',h2⟩:=ih (pre++blk 0 (t.take 65535)) (t.drop 65535) (out++t.take 65535) F' (bl ++ [⟨0,[],[],[]⟩]) (by omega) (by rw[List.length_append];omega) (by
    have:0<(blk 0 (t.take 65535)).length:=by rw[blk_length];omega
    simp only[List.length_append] at hF⊢;omega)
   refine⟨bl',?_⟩;rw[h2,show out++t.take 65535++t.drop 65535=out++t by rw[List.append_assoc,List.take_append_drop]]
end Sto
/-- a packed text that is read, whatever stands behind it -/
def Reads (l t:List UInt8):Prop:=∀(post:List UInt8) (most:Nat),t.length≤most→∃bl,Inf.inf (l++post) most=.ok (t,l.length,bl)
theorem reads_stored (t:List UInt8):Reads (Sto.all (t.length+1) t) t:=by
 intro post most hm;obtain⟨bl,h⟩:=Sto.blocks_post most post (t.length+1) [] t [] (8*(Sto.all (t.length+1) t++post).length+1) [] (by omega) (by simpa using hm) (by simp only[List.nil_append,List.length_append,List.length_nil];omega);refine⟨bl,?_⟩;unfold Inf.inf;simp only[List.nil_append,List.length_nil,Nat.mul_zero] at h;rw[h];simp only[];rw[show (8*(Sto.all (t.length+1) t).length+7)/8=(Sto.all (t.length+1) t).length by omega]
theorem reads_fixed {ts:List Tk} {t:List UInt8} (hM:Dfl.Means [] ts t) {l:List UInt8} (h1:l.length=((Dfl.fixedB ts).length+7)/8) (h2:Crc.num l=Bts.val (Dfl.fixedB ts)):Reads l t:=by
 intro post most hm;have hA:=Dfl.at_text (post:=post) h1 h2;obtain⟨bl,h⟩:=Dfl.fixed_read hM hA hm;rw[← h1] at h;exact⟨bl,h⟩
theorem reads_dyn {ts:List Tk} {t:List UInt8} (hM:Dfl.Means [] ts t) {many far few:Nat} {rs:List Dfl.Rn} (H:Dfl.DynOk ts many far few rs) {l:List UInt8} (h1:l.length=((Dfl.dynB ts many far few rs).length+7)/8) (h2:Crc.num l=Bts.val (Dfl.dynB ts many far few rs)):Reads l t:=by
 intro post most hm;have hA:=Dfl.at_text (post:=post) h1 h2;have h:=Dfl.dynamic_read hM H hA hm;rw[← h1] at h;exact⟨_,h⟩
theorem Reads.infl {l t:List UInt8} (h:Reads l t) (post:List UInt8) (hl:l.length+post.length≤300000) {most:Nat} (hm:t.length≤most) (hmm:most≤300000):∃bl,Inf.infl (⟨(l++post).toArray⟩:ByteArray) (most:Int)=.ok (t,l.length,bl):=by
 obtain⟨bl,q⟩:=h post most hm;refine⟨bl,?_⟩;unfold Inf.infl;have hsz:(⟨(l++post).toArray⟩:ByteArray).size=l.length+post.length:=by show (l++post).length=_;rw[List.length_append]
 rw[if_neg (by rw[hsz];omega),Int.toNat_natCast];exact q
end Go.Proofs.YthlibiocadimhaaGreatDoor
