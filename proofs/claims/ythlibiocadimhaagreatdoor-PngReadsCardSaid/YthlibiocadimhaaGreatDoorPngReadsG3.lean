/-
  Plain laws of rows sorted by a key: two sorted rows merged (the left one first where keys are alike), and a stable sort out of it.
  Rows of packs (what symbols cost together) in memory; what their sort's steps turn.
  Packages, merged (LARMORE and HIRSCHBERG): what the rows hold: no function of the program is named.
  Packages, merged: the lengths that they give are those of a code. No function of the program is named.
  Lengths of a code by packages: what they are. No function of the program is named.
  huff.order, cmp.Compare.
  slices.insertionSortCmpFunc at packs.
  slices.SortStableFunc at fewer than 20 packs: one insertion sort.
  math/bits.Mul at 1.
  The laws' rows of tokens: tokens, wide.
  A writer of bits: Align.
  Plain law of the Adler sum. No program in sight.
  The document's bits of a text, and the number of bits.
  raster.each: a new picture, pixel by pixel.
  Pictures: own memory for one; the same ones.
  append(s, make([]T, k)...) onto a slice that the call owns. No function of the program is named.
  The document's High.
  The last step of every law's row, once: a call that returns true and turns nothing that was there meets the row's post.
-/
import Derived.Test.YthlibiocadimhaaGreatDoorPngReadsG1
import Derived.Test.YthlibiocadimhaaGreatDoorRows
set_option linter.all false
set_option maxRecDepth 100000
namespace Go.Proofs.YthlibiocadimhaaGreatDoor
namespace Srt
variable {α:Type} (k:α->Int)
def mrg:List α->List α->List α
 | [],r=>r
 | a ::l,[]=>a ::l
 | a ::l,b ::r=>if k b<k a then b ::mrg (a ::l) r else a ::mrg l (b ::r)
termination_by l r=>l.length+r.length
def Up (l:List α):Prop:=l.Pairwise (λ a b=>k a<=k b)
variable {k}
theorem za4 (r:List α):mrg k [] r=r:=by unfold mrg;rfl
theorem zaU (l:List α):mrg k l []=l:=by unfold mrg;cases l <;> rfl
theorem za0 {a b:α} (l r:List α) (h:k b<k a):mrg k (a ::l) (b ::r)=b ::mrg k (a ::l) r:=by rw[mrg,qad h]
theorem zaZ {a b:α} (l r:List α) (h:¬ k b<k a):mrg k (a ::l) (b ::r)=a ::mrg k l (b ::r):=by rw[mrg,qac h]
theorem zdT:∀(l r:List α),(mrg k l r).length=l.length+r.length
 | [],r=>by rw[za4];simp
 | a ::l,[]=>by rw[zaU];simp
 | a ::l,b ::r=>by
  by_cases h:k b<k a
  ·rw[za0 l r h,qaR,zdT (a ::l) r];simp only[qaR];omega
  rw[zaZ l r h,qaR,zdT l (b ::r)];simp only[qaR];omega
termination_by l r=>l.length+r.length
theorem zdN:∀(l r:List α),(mrg k l r).Perm (l++r)
 | [],r=>by rw[za4];exact List.Perm.refl _
 | a ::l,[]=>by rw[zaU,qbW]
 | a ::l,b ::r=>by
  by_cases h:k b<k a
  ·rw[za0 l r h];exact ((zdN (a ::l) r).cons b).trans (List.perm_middle.symm)
  rw[zaZ l r h];exact (zdN l (b ::r)).cons a
termination_by l r=>l.length+r.length
theorem zgb {l r:List α} {x:α}:x∈mrg k l r↔x∈l\/x∈r:=by rw[(zdN l r).mem_iff,qa3]
theorem Up.tail {a:α} {l:List α} (h:Up k (a ::l)):Up k l:=(List.pairwise_cons.mp h).2
theorem Up.head {a:α} {l:List α} (h:Up k (a ::l)):∀x∈l,k a<=k x:=(List.pairwise_cons.mp h).1
theorem Up.nil:Up k []:=List.Pairwise.nil
theorem Up.one (a:α):Up k [a]:=List.pairwise_singleton _ _
theorem Up.left {l r:List α} (h:Up k (l++r)):Up k l:=(List.pairwise_append.mp h).1
theorem Up.right {l r:List α} (h:Up k (l++r)):Up k r:=(List.pairwise_append.mp h).2.1
theorem Up.over {l r:List α} (h:Up k (l++r)):∀a∈l,∀b∈r,k a<=k b:=(List.pairwise_append.mp h).2.2
theorem zfM:∀(l r:List α),Up k l->Up k r->Up k (mrg k l r)
 | [],r,_,hr=>by rw[za4];exact hr
 | a ::l,[],hl,_=>by rw[zaU];exact hl
 | a ::l,b ::r,hl,hr=>by
  by_cases h:k b<k a
  ·rw[za0 l r h];refine List.pairwise_cons.mpr ⟨λ x hx=>?_,zfM (a ::l) r hl hr.tail⟩;rcases zgb.mp hx with q | q
   ·rcases qbd.mp q with rfl | q
    ·omega
    have:=hl.head x q;omega
   exact hr.head x q
  rw[zaZ l r h];refine List.pairwise_cons.mpr ⟨λ x hx=>?_,zfM l (b ::r) hl.tail hr⟩;rcases zgb.mp hx with q | q
  ·exact hl.head x q
  rcases qbd.mp q with rfl | q
  ·omega
  have:=hr.head x q;omega
termination_by l r=>l.length+r.length
theorem zbD:∀(l1 r1:List α) (l2 r2:List α),(∀a∈l1,∀b∈r2,k a<=k b)->(∀a∈l2,∀b∈r1,k b<k a)->mrg k (l1++l2) (r1++r2)=mrg k l1 r1++mrg k l2 r2
 | [],[],l2,r2,_,_=>by rw[za4];rfl
 | [],b ::r1,l2,r2,h1,h2=>by
  rw[za4];have ih:=zbD [] r1 l2 r2 (by simp) (λ a ha x hx=>h2 a ha x (qaQ _ hx));rw[za4] at ih;cases l2 with
  | nil=>simp only[qbx,za4]
  | cons a l2=>
   simp only[qbx,qa2] at ih⊢;rw[za0 _ _ (h2 a (qbc ..) b (qbc ..)),ih]
 | a ::l1,[],l2,r2,h1,h2=>by
  rw[zaU];have ih:=zbD l1 [] l2 r2 (λ x hx=>h1 x (qaQ _ hx)) (by simp);rw[zaU] at ih;cases r2 with
  | nil=>simp only[qbW,zaU]
  | cons b r2=>
   simp only[qbx,qa2] at ih⊢;rw[zaZ _ _ (by have:=h1 a (qbc ..) b (qbc ..);omega),ih]
 | a ::l1,b ::r1,l2,r2,h1,h2=>by
  by_cases h:k b<k a
  ·have ih:=zbD (a ::l1) r1 l2 r2 h1 (λ a ha x hx=>h2 a ha x (qaQ _ hx));simp only[qa2] at ih⊢;rw[za0 _ _ h,za0 _ _ h,ih,qa2]
  have ih:=zbD l1 (b ::r1) l2 r2 (λ x hx=>h1 x (qaQ _ hx)) h2;simp only[qa2] at ih⊢;rw[zaZ _ _ h,zaZ _ _ h,ih,qa2]
termination_by l1 r1=>l1.length+r1.length
theorem zmY {l r:List α} (h:∀a∈l,∀b∈r,k a<=k b):mrg k l r=l++r:=by
 have:=zbD l [] [] r h (by simp);simpa [za4,zaU] using this
theorem zkS {l r:List α} (h:∀a∈l,∀b∈r,k b<k a):mrg k l r=r++l:=by
 have:=zbD [] r l [] (by simp) h;simpa [za4,zaU] using this
theorem zbZ:∀(l m r:List α),Up k l->Up k m->Up k r->mrg k (mrg k l m) r=mrg k l (mrg k m r)
 | [],m,r,_,_,_=>by rw[za4,za4]
 | a ::l,[],r,_,_,_=>by rw[zaU,za4]
 | a ::l,b ::m,[],_,_,_=>by rw[zaU,zaU]
 | a ::l,b ::m,c ::r,hl,hm,hr=>by
  by_cases h1:k b<k a
  ·rw[za0 l m h1];by_cases h2:k c<k b
   ·rw[za0 _ _ h2,za0 _ _ h2,za0 _ _ (show k c<k a by omega),<- zbZ (a ::l) (b ::m) r hl hm hr.tail,za0 l m h1]
   rw[zaZ _ _ h2,zaZ _ _ h2,za0 _ _ h1,zbZ (a ::l) m (c ::r) hl hm.tail hr]
  rw[zaZ l m h1];by_cases h2:k c<k b
  ·rw[za0 _ _ h2];by_cases h3:k c<k a
   ·rw[za0 _ _ h3,za0 _ _ h3,<- zbZ (a ::l) (b ::m) r hl hm hr.tail,zaZ l m h1]
   rw[zaZ _ _ h3,zaZ _ _ h3,zbZ l (b ::m) (c ::r) hl.tail hm hr,za0 _ _ h2]
  rw[zaZ _ _ h2];rw[zaZ _ _ (show ¬ k c<k a by omega),zaZ _ _ h1,zbZ l (b ::m) (c ::r) hl.tail hm hr,zaZ _ _ h2]
termination_by l m r=>l.length+m.length+r.length
variable (k)
def srt:List α->List α
 | []=> []
 | a ::l=>mrg k [a] (srt l)
variable {k}
theorem zcW:∀l:List α,Up k (srt k l)
 | []=>Up.nil
 | a ::l=>zfM _ _ (Up.one a) (zcW l)
theorem zfs (l r:List α):srt k (l++r)=mrg k (srt k l) (srt k r):=by
 induction l with
 | nil=>simp only[qbx,srt,za4]
 | cons a l ih=>simp only[qa2,srt,ih];exact (zbZ _ _ _ (Up.one a) (zcW l) (zcW r)).symm
theorem zcN:∀l:List α,(srt k l).Perm l
 | []=>List.Perm.refl _
 | a ::l=>(zdN _ _).trans ((zcN l).cons a)
theorem zbI (l:List α):(srt k l).length=l.length:=(zcN l).length_eq
theorem zjQ (a:α):srt k [a]=[a]:=by simp only[srt,zaU]
theorem zm0 (l:List α) (a:α):srt k (l ++ [a])=mrg k (srt k l) [a]:=by rw[zfs,zjQ]
theorem zd7:∀ {l:List α},Up k l->srt k l=l
 | [],_=>rfl
 | a ::l,h=>by
  simp only[srt];rw[zd7 h.tail];exact zmY (λ x hx b hb=>by rw[qaN.mp hx];exact h.head b hb)
end Srt
end Go.Proofs.YthlibiocadimhaaGreatDoor
namespace Go.Proofs.YthlibiocadimhaaGreatDoor
open Go.RowKit
structure Pk where
 c:Nat
 a:Option Addr
 n:Nat
 k:Nat
 s:List Nat
def Pk.key (p:Pk):Int:=(p.c:Int)
def pkL:List Pk->List Value
 | []=> []
 | p ::l=>.int .i64 (p.c:Int) ::.slice p.a p.n p.k ::pkL l
theorem zdO:∀l:List Pk,(pkL l).length=l.length*2
 | []=>rfl
 | p ::l=>by simp only[pkL,qaR,zdO l];omega
theorem zcI:∀l m:List Pk,pkL (l++m)=pkL l++pkL m
 | [],m=>rfl
 | p ::l,m=>by simp only[qa2,pkL,zcI l m]
theorem zlB:∀(l:List Pk) (i:Nat) (h:i<l.length) (r:List Value),(pkL l++r)[i*2]? =some (.int .i64 (l[i].c:Int))/\(pkL l++r)[i*2+1]? =some (.slice l[i].a l[i].n l[i].k)
 | p ::l,0,_,r=>⟨rfl,rfl⟩
 | p ::l,i+1,h,r=>by
  have ih:=zlB l i (by simpa using h) r;rw[show (i+1)*2=i*2+1+1 by omega];exact ih
theorem zjI:∀(l:List Pk) (i:Nat) (p:Pk) (r:List Value),i<l.length->((pkL l++r).set (i*2) (.int .i64 (p.c:Int))).set (i*2+1) (.slice p.a p.n p.k)=pkL (l.set i p)++r
 | q ::l,0,p,r,_=>rfl
 | q ::l,i+1,p,r,h=>by
  have ih:=zjI l i p r (by simpa using h);rw[show (i+1)*2=i*2+1+1 by omega];simp only[pkL,qa2,qcE];rw[ih]
def PR (w:World) (B:Nat) (l:List Pk):Prop:=∃r,w.heap[B]? =some (.cells (pkL l++r).toArray 237 (0,0))
theorem PR.bk {w:World} {B:Nat} {l:List Pk} (h:PR w B l):∃r,Bk w B (pkL l++r).toArray:=by obtain⟨r,h⟩:=h;exact⟨r,_,h⟩
theorem PR.at {w:World} {B:Nat} {l:List Pk} (h:PR w B l) {i:Nat} (hi:i<l.length):w.cell? ⟨B,i*2,none⟩=some (.int .i64 (l[i].c:Int))/\w.cell? ⟨B,i*2+1,none⟩=some (.slice l[i].a l[i].n l[i].k):=by
 obtain⟨r,h⟩:=h.bk;rw[h.cell,h.cell,qaz,qaz];exact zlB l i hi r
theorem PR.frozen {w:World} {B:Nat} {l:List Pk} (h:PR w B l) (i:Nat):w.frozen? ⟨B,i,none⟩=false:=by obtain⟨r,h⟩:=h.bk;exact h.frozen i
theorem PR.lt {w:World} {B:Nat} {l:List Pk} (h:PR w B l):B<w.heap.size:=by obtain⟨r,h⟩:=h.bk;exact h.lt
theorem PR.keeps {S:Nat->Prop} {w w':World} {B:Nat} {l:List Pk} (h:PR w B l) (hk:Keeps S w w') (hS:¬ S B):PR w' B l:=by
 have hl:=h.lt;obtain⟨r,h⟩:=h;exact⟨r,(hk.block B hl hS).trans h⟩
theorem PR.ext {w w':World} {B:Nat} {l:List Pk} (h:PR w B l) (hE:Ext w w'):PR w' B l:=h.keeps (S:=λ _=>False) hE.keeps id
theorem PR.set_ {w:World} {B:Nat} {l:List Pk} (h:PR w B l) {i:Nat} (hi:i<l.length) (p:Pk):PR ((w.setCell ⟨B,i*2,none⟩ (.int .i64 (p.c:Int))).setCell ⟨B,i*2+1,none⟩ (.slice p.a p.n p.k)) B (l.set i p):=by
 obtain⟨r,h⟩:=h;refine⟨r,?_⟩;have h2:((w.setCell ⟨B,i*2,none⟩ (.int .i64 (p.c:Int))).setCell ⟨B,i*2+1,none⟩ (.slice p.a p.n p.k)).heap[B]? =some (.cells ((((pkL l++r).toArray).setIfInBounds (i*2) (.int .i64 (p.c:Int))).setIfInBounds (i*2+1) (.slice p.a p.n p.k)) 237 (0,0)):=by
  simp[World.setCell,qbk,h]
 rw[qcz,qcz,zjI l i p r hi] at h2;exact h2
theorem PR.drew {w:World} {B:Nat} {l:List Pk} (h:PR w B l):PR w.drew B l:=h
def swp (l:List Pk) (i j:Nat):List Pk:=if h:i<l.length/\j<l.length then (l.set i l[j]).set j l[i] else l
theorem zfP {l:List Pk} {i j:Nat} (hi:i<l.length) (hj:j<l.length):swp l i j=(l.set i l[j]).set j l[i]:=dif_pos ⟨hi,hj⟩
theorem PR.swap {w:World} {B:Nat} {l:List Pk} (h:PR w B l) {i j:Nat} (hi:i<l.length) (hj:j<l.length):
  PR ((((w.setCell ⟨B,i*2,none⟩ (.int .i64 (l[j].c:Int))).setCell ⟨B,i*2+1,none⟩ (.slice l[j].a l[j].n l[j].k)).setCell ⟨B,j*2,none⟩ (.int .i64 (l[i].c:Int))).setCell ⟨B,j*2+1,none⟩ (.slice l[i].a l[i].n l[i].k)) B (swp l i j):=by
 rw[zfP hi hj];exact (h.set_ hi l[j]).set_ (i:=j) (by simpa using hj) l[i]
theorem PR.two {w:World} {B:Nat} {l:List Pk} (h:PR w B l) {i j:Nat} (hi:i<l.length) (hj:j<l.length):∃x y:Pk,l[i]? =some x/\l[j]? =some y/\
  w.cell? ⟨B,i*2,none⟩=some (.int .i64 (x.c:Int))/\w.cell? ⟨B,i*2+1,none⟩=some (.slice x.a x.n x.k)/\w.cell? ⟨B,j*2,none⟩=some (.int .i64 (y.c:Int))/\w.cell? ⟨B,j*2+1,none⟩=some (.slice y.a y.n y.k)/\
  PR ((((w.setCell ⟨B,i*2,none⟩ (.int .i64 (y.c:Int))).setCell ⟨B,i*2+1,none⟩ (.slice y.a y.n y.k)).setCell ⟨B,j*2,none⟩ (.int .i64 (x.c:Int))).setCell ⟨B,j*2+1,none⟩ (.slice x.a x.n x.k)) B (swp l i j):=
 ⟨l[i],l[j],qai hi,qai hj,(h.at hi).1,(h.at hi).2,(h.at hj).1,(h.at hj).2,h.swap hi hj⟩
def One (B:Nat) (w w':World):Prop:=Keeps (λ k=>k=B) w w'
theorem One.refl (B:Nat) (w:World):One B w w:=Keeps.refl _ _
theorem One.trans {B:Nat} {a b c:World} (h:One B a b) (k:One B b c):One B a c:=Keeps.trans h k (λ _ _=>id)
theorem One.of_ext {B:Nat} {a b:World} (h:Ext a b):One B a b:=h.keeps
theorem One.drew {B:Nat} {a b:World} (h:One B a b):One B a b.drew:=Keeps.drew h
theorem One.four {B:Nat} {a b:World} (h:One B a b) (i j k l:Nat) (x y z t:Value):One B a ((((b.setCell ⟨B,i,none⟩ x).setCell ⟨B,j,none⟩ y).setCell ⟨B,k,none⟩ z).setCell ⟨B,l,none⟩ t):=
 Keeps.setCell (Keeps.setCell (Keeps.setCell (Keeps.setCell h (.inl rfl) _) (.inl rfl) _) (.inl rfl) _) (.inl rfl) _
theorem zmA (P X Q:List Pk) (x y:Pk):swp (P++x ::(X++y ::Q)) P.length (P.length+1+X.length)=P++y ::(X++x ::Q):=by
 rw[zfP (by simp) (by simp;omega)];have e1:(P++x ::(X++y ::Q))[P.length]'(by simp)=x:=by simp
 have e2:(P++x ::(X++y ::Q))[P.length+1+X.length]'(by simp;omega)=y:=by
  rw[List.getElem_append_right (by omega)];simp[show P.length+1+X.length-P.length=X.length+1 by omega]
 rw[e1,e2];rw[List.set_append_right _ _ (qaj _),qcp,qcD,List.set_append_right _ _ (by omega),show P.length+1+X.length-P.length=X.length+1 by omega,qcE,List.set_append_right _ _ (qaj _),qcp,qcD]
theorem zn3 (l:List Pk) (i j:Nat):swp l i j=swp l j i:=by
 by_cases h:i<l.length/\j<l.length
 ·rw[zfP h.1 h.2,zfP h.2 h.1];by_cases e:i=j
  ·subst e;rfl
  rw[List.set_comm _ _ e]
 unfold swp;rw[dif_neg h,dif_neg (λ q=>h ⟨q.2,q.1⟩)]
theorem zpW (P Q:List Pk) (x y:Pk):swp (P++x ::y ::Q) P.length (P.length+1)=P++y ::x ::Q:=by
 have:=zmA P [] Q x y;simpa using this
theorem PR.adjD {w:World} {B:Nat} {P Q:List Pk} {x y:Pk} (h:PR w B (P++x ::y ::Q)) {J:Nat} (hJ:P.length=J):
  w.cell? ⟨B,J*2,none⟩=some (.int .i64 (x.c:Int))/\w.cell? ⟨B,J*2+1,none⟩=some (.slice x.a x.n x.k)/\w.cell? ⟨B,(J+1)*2,none⟩=some (.int .i64 (y.c:Int))/\w.cell? ⟨B,(J+1)*2+1,none⟩=some (.slice y.a y.n y.k)/\
  PR ((((w.setCell ⟨B,(J+1)*2,none⟩ (.int .i64 (x.c:Int))).setCell ⟨B,(J+1)*2+1,none⟩ (.slice x.a x.n x.k)).setCell ⟨B,J*2,none⟩ (.int .i64 (y.c:Int))).setCell ⟨B,J*2+1,none⟩ (.slice y.a y.n y.k)) B (P++y ::x ::Q):=by
 obtain⟨x',y',hx,hy,k2,k3,k4,k5,hw⟩:=h.two (i:=J+1) (j:=J) (by simp;omega) (by simp;omega);rw[<- hJ,qbA (by omega),show P.length+1-P.length=1 by omega,qaC,qay] at hx;rw[<- hJ,qbA (qaj _),qcp,qay] at hy;injection hx with hx;injection hy with hy;subst hx hy;rw[<- hJ,zn3,zpW,hJ] at hw;exact⟨k4,k5,k2,k3,hw⟩
end Go.Proofs.YthlibiocadimhaaGreatDoor
namespace Go.Proofs.YthlibiocadimhaaGreatDoor
namespace Pkg
structure Pc where
 c:Nat
 s:List Nat
def ky (p:Pc):Int:=(p.c:Int)
def prs:List Pc->List Pc
 | a ::b ::l=>⟨a.c+b.c,a.s++b.s⟩ ::prs l
 | _=> []
def row (C:List Pc):Nat->List Pc
 | 0=>C
 | d+1=>Srt.mrg ky C (prs (row C d))
def syms (l:List Pc):List Nat:=(l.map Pc.s).flatten
def cost (l:List Pc):Nat:=(l.map Pc.c).sum
theorem zdg (l m:List Pc):syms (l++m)=syms l++syms m:=by simp[syms]
theorem zi2 (l m:List Pc):cost (l++m)=cost l+cost m:=by simp[cost]
theorem zlo (p:Pc) (l:List Pc):cost (p ::l)=p.c+cost l:=by simp[cost]
theorem zlE (p:Pc) (l:List Pc):syms (p ::l)=p.s++syms l:=by simp[syms]
theorem zb5:∀l:List Pc,(prs l).length=l.length/2
 | []=>rfl
 | [a]=>by simp[prs]
 | a ::b ::l=>by simp only[prs,qaR,zb5 l];omega
theorem zfm:∀ {l:List Pc},Srt.Up ky l->Srt.Up ky (prs l)
 | [],_=>Srt.Up.nil
 | [a],_=>Srt.Up.nil
 | a ::b ::l,h=>by
  have ih:=zfm h.tail.tail;refine List.pairwise_cons.mpr ⟨λ x hx=>?_,ih⟩;have key:∀ {m:List Pc},(∀y∈m,a.c<=y.c/\b.c<=y.c)->∀x∈prs m,a.c+b.c<=x.c:=by
   intro m;induction m using prs.induct with
   | case1 c d m ih=>
    intro hm x hx;simp only[prs,qbd] at hx;rcases hx with rfl | hx
    ·have h1:=hm c (by simp);have h2:=hm d (by simp);show a.c+b.c<=c.c+d.c;omega
    exact ih (λ y hy=>hm y (by simp[hy])) x hx
   | case2 m hm=>
    intro _ x hx;rw[prs] at hx
    ·cases hx
    exact hm
  have:=key (m:=l) (λ y hy=>⟨by have:=h.head y (by simp[hy]);unfold ky at this;omega,by have:=h.tail.head y hy;unfold ky at this;omega⟩) x hx;show (((a.c+b.c:Nat)):Int)<=(x.c:Int);omega
theorem zhe {C:List Pc} (h:Srt.Up ky C):∀d,Srt.Up ky (row C d)
 | 0=>h
 | d+1=>Srt.zfM _ _ h (zfm (zhe h d))
theorem zfw (C:List Pc) (d:Nat):(row C (d+1)).length=C.length+(row C d).length/2:=by
 show (Srt.mrg ky C (prs (row C d))).length=_;rw[Srt.zdT,zb5]
theorem zhi (C:List Pc):∀d,(2*C.length)*2^d<=((row C d).length+1)*2^d+(C.length-1)+0\/C.length=0
 | 0=>by
  rcases Nat.eq_zero_or_pos C.length with h | h
  ·exact .inr h
  left;show 2*C.length*1<=(C.length+1)*1+(C.length-1)+0;omega
 | d+1=>by
  rcases zhi C d with h | h
  ·left
   rw[zfw];have e:(2:Nat)^(d+1)=2*2^d:=by rw[qa1,qaJ]
   have h2:(row C d).length<=2*((row C d).length/2)+1:=by omega
   have h3:((row C d).length+1)*2^d<=(2*((row C d).length/2)+2)*2^d:=qaW _ (by omega);have h4:(2*((row C d).length/2)+2)*2^d=((row C d).length/2+1)*2^(d+1):=by rw[e,show 2*((row C d).length/2)+2=2*((row C d).length/2+1) by omega,qbr,Nat.mul_left_comm ((row C d).length/2+1) 2]
   have h5:2*C.length*2^(d+1)=C.length*2^(d+1)+2*C.length*2^d:=by rw[e];rw[show 2*C.length*(2*2^d)=2*(2*C.length*2^d) by rw[Nat.mul_left_comm],show C.length*(2*2^d)=2*C.length*2^d by rw[Nat.mul_left_comm,qbr]];exact Nat.two_mul _
   have h6:(C.length+(row C d).length/2+1)*2^(d+1)=C.length*2^(d+1)+((row C d).length/2+1)*2^(d+1):=by rw[<- qbZ,qa6]
   omega
  exact .inr h
theorem zfN {C:List Pc} {d:Nat} (hC:1<=C.length) (h:C.length<=2^(d+1)):2*C.length-2<=(row C d).length:=by
 rcases zhi C d with q | q
 ·have e:(2:Nat)^(d+1)=2*2^d:=by rw[qa1,qaJ]
  have h0:0<2^d:=qbN d;apply Nat.le_of_not_lt;intro hlt;have h1:((row C d).length+1)*2^d+2*2^d<=2*C.length*2^d:=by
   rw[<- qbZ];exact qaW _ (by omega)
  omega
 omega
theorem zeW:∀(C Q:List Pc) (x:Nat),x<=C.length+Q.length->∃c p,c+p=x/\c<=C.length/\p<=Q.length/\((Srt.mrg ky C Q).take x).Perm (C.take c++Q.take p)/\(∀q∈Q.take p,∀y∈C[c]?,q.c<y.c)\/¬ (Srt.Up ky C/\Srt.Up ky Q)
 | C,Q,0,_=>⟨0,0,.inl ⟨rfl,by omega,by omega,by simp,by simp⟩⟩
 | [],Q,x+1,h=>⟨0,x+1,.inl ⟨by omega,by simp,by simpa using h,by rw[Srt.za4];simp,by simp⟩⟩
 | a ::C,[],x+1,h=>⟨x+1,0,.inl ⟨by omega,by simpa using h,by simp,by rw[Srt.zaU];simp,by simp⟩⟩
 | a ::C,b ::Q,x+1,h=>by
  by_cases hup:Srt.Up ky (a ::C)/\Srt.Up ky (b ::Q)
  ·by_cases hlt:ky b<ky a
   ·rw[Srt.za0 _ _ hlt];obtain⟨c,p,hh⟩:=zeW (a ::C) Q x (by simp at h⊢;omega);rcases hh with⟨h1,h2,h3,h4,h5⟩ | hh
    ·refine⟨c,p+1,.inl ⟨by omega,h2,by simp;omega,?_,?_⟩⟩
     ·rw[qao,qao];exact (h4.cons b).trans List.perm_middle.symm
     intro q hq y hy;rw[qao] at hq;rcases qbd.1 hq with rfl | hq
     ·have hya:a.c<=y.c:=by
       cases c with
       | zero=>simp at hy;subst hy;exact qaj _
       | succ c=>
        simp at hy;have:=hup.1.head y (qa5 hy);unfold ky at this;omega
      unfold ky at hlt;omega
     exact h5 q hq y hy
    exact absurd ⟨hup.1,hup.2.tail⟩ hh
   rw[Srt.zaZ _ _ hlt];obtain⟨c,p,hh⟩:=zeW C (b ::Q) x (by simp at h⊢;omega);rcases hh with⟨h1,h2,h3,h4,h5⟩ | hh
   ·refine⟨c+1,p,.inl ⟨by omega,by simp;omega,h3,?_,?_⟩⟩
    ·rw[qao,qao];exact h4.cons a
    intro q hq y hy;simp at hy;exact h5 q hq y (by simpa using hy)
   exact absurd ⟨hup.1.tail,hup.2⟩ hh
  exact⟨0,0,.inr hup⟩
termination_by C Q=>C.length+Q.length
end Pkg
end Go.Proofs.YthlibiocadimhaaGreatDoor
namespace Go.Proofs.YthlibiocadimhaaGreatDoor
namespace Pkg
theorem zmD {l m:List Pc} (h:l.Perm m):(syms l).Perm (syms m):=(h.map Pc.s).flatten
theorem zmL {l m:List Pc} (h:l.Perm m):cost l=cost m:=(h.map Pc.c).sum_nat
theorem zhF:∀(l:List Pc) (p:Nat),2*p<=l.length->syms ((prs l).take p)=syms (l.take (2*p))/\cost ((prs l).take p)=cost (l.take (2*p))
 | l,0,_=>by simp
 | [],p+1,h=>by simp at h
 | [a],p+1,h=>by simp at h;omega
 | a ::b ::l,p+1,h=>by
  have ih:=zhF l p (by simp at h;omega);rw[show 2*(p+1)=2*p+1+1 by omega];simp only[prs,qao,zlE,zlo,ih.1,ih.2];exact⟨by simp,by omega⟩
theorem zjs:∀(l:List Pc) (p:Nat),2*p<=l.length->(∀y∈l,0<y.c)->∀y∈l.take (2*p),∃q∈(prs l).take p,y.c<q.c
 | l,0,_,_,y,hy=>by simp at hy
 | [],p+1,h,_,y,hy=>by simp at h
 | [a],p+1,h,_,y,hy=>by simp at h;omega
 | a ::b ::l,p+1,h,hp,y,hy=>by
  rw[show 2*(p+1)=2*p+1+1 by omega] at hy;simp only[qao,qbd] at hy;have ha:=hp a (by simp);have hb:=hp b (by simp);rcases hy with rfl | rfl | hy
  ·exact⟨⟨y.c+b.c,y.s++b.s⟩,by simp[prs],by show y.c<y.c+b.c;omega⟩
  ·exact⟨⟨a.c+y.c,a.s++y.s⟩,by simp[prs],by show y.c<a.c+y.c;omega⟩
  obtain⟨q,hq,hlt⟩:=zjs l p (by simp at h;omega) (λ y hy=>hp y (by simp[hy])) y hy;exact⟨q,by simp only[prs,qao];exact qaQ _ hq,hlt⟩
theorem zjf:∀ {l:List Pc},(∀y∈l,0<y.c)->∀y∈prs l,0<y.c
 | [],_,y,hy=>by simp[prs] at hy
 | [a],_,y,hy=>by simp[prs] at hy
 | a ::b ::l,h,y,hy=>by
  simp only[prs,qbd] at hy;rcases hy with rfl | hy
  ·have:=h a (by simp);show 0<a.c+b.c;omega
  exact zjf (λ y hy=>h y (by simp[hy])) y hy
theorem zjU {C:List Pc} (h:∀y∈C,0<y.c):∀d,∀y∈row C d,0<y.c
 | 0=>h
 | d+1=>λ y hy=>by
  rcases Srt.zgb.1 hy with q | q
  ·exact h y q
  exact zjf (zjU h d) y q
def wt:List Nat->Nat
 | []=>0
 | c ::cs=>2^cs.length*c+wt cs
def Down:List Nat->Prop
 | []=>True
 | c ::cs=>(∀x∈cs,x<=c)/\Down cs
theorem zlD {C:List Pc} (hU:Srt.Up ky C) (hp:∀y∈C,0<y.c):∀d x,x<=(row C d).length->∃c cs,cs.length=d/\c<=C.length/\(∀z∈cs,z<=C.length)/\Down (c ::cs)/\wt (c ::cs)=2^d*x/\
  (syms ((row C d).take x)).Perm (((c ::cs).map λ z=>syms (C.take z)).flatten)/\cost ((row C d).take x)=((c ::cs).map λ z=>cost (C.take z)).sum/\∀y∈C.take c,y∈(row C d).take x
 | 0,x,hx=>⟨x,[],rfl,hx,by simp,⟨by simp,trivial⟩,by simp[wt],by simp[row],by simp[row],λ y hy=>hy⟩
 | d+1,x,hx=>by
  have hQ:=zfm (zhe hU d);obtain⟨c,p,h⟩:=zeW C (prs (row C d)) x (by rw[zb5];rw[zfw] at hx;exact hx);rcases h with⟨h1,h2,h3,h4,h5⟩ | h
  ·have h2p:2*p<=(row C d).length:=by rw[zb5] at h3;omega
   obtain⟨c1,cs,g1,g2,g3,g4,g5,g6,g7,g8⟩:=zlD hU hp d (2*p) h2p;obtain⟨e1,e2⟩:=zhF (row C d) p h2p;have hc:c1<=c:=by
    apply Nat.le_of_not_lt;intro hlt;have hcl:c<C.length:=by omega
    have hm:C[c]∈(row C d).take (2*p):=g8 _ (by
     rw[List.mem_take_iff_getElem];exact⟨c,by omega,rfl⟩)
    obtain⟨q,hq,hlt2⟩:=zjs (row C d) p h2p (zjU hp d) _ hm;have:=h5 q hq C[c] (by simp[hcl]);omega
   refine⟨c,c1 ::cs,by simp[g1],h2,?_,⟨?_,g4⟩,?_,?_,?_,?_⟩
   ·intro z hz;rcases qbd.1 hz with rfl | hz
    ·exact g2
    exact g3 z hz
   ·intro z hz;rcases qbd.1 hz with rfl | hz
    ·exact hc
    have:=g4.1 z hz;omega
   ·show 2^(c1 ::cs).length*c+wt (c1 ::cs)=_;rw[g5,qaR,g1,<- h1,qa1,Nat.mul_add,qbr,qbr]
   ·have:=zmD h4;rw[zdg,e1] at this;simp only[qaG,List.flatten_cons] at g6⊢;exact this.trans (g6.append_left _)
   ·have:=zmL h4;rw[zi2,e2,g7] at this;simp only[qaG,List.sum_cons] at this⊢;exact this
   intro y hy;have:y∈C.take c++(prs (row C d)).take p:=qcl _ hy;exact h4.mem_iff.2 this
  exact absurd ⟨hU,hQ⟩ h
def lv (cs:List Nat) (j:Nat):Nat:=(cs.filter λ c=>decide (j<c)).length
theorem zjg (c:Nat) (cs:List Nat) (j:Nat):lv (c ::cs) j=(if j<c then 1 else 0)+lv cs j:=by
 unfold lv;by_cases h:j<c
 ·simp[h];omega
 simp[h]
theorem zoI (cs:List Nat) (j:Nat):lv cs j<=cs.length:=List.length_filter_le _ _
theorem zpv {cs:List Nat} {j:Nat} (h:∀c∈cs,c<=j):lv cs j=0:=by
 unfold lv;rw[List.length_eq_zero_iff,List.filter_eq_nil_iff];intro c hc;have:=h c hc;simp;omega
def wj (j:Nat):List Nat->Nat
 | []=>0
 | c ::cs=>(if j<c then 2^cs.length else 0)+wj j cs
theorem zjP {j:Nat}:∀ {cs:List Nat},(∀c∈cs,c<=j)->wj j cs=0
 | [],_=>rfl
 | c ::cs,h=>by
  have:=h c (by simp);simp only[wj,qac (show ¬ j<c by omega),zjP (λ x hx=>h x (qaQ _ hx))]
theorem zoL (j:Nat):∀ {cs:List Nat},Down cs->wj j cs+2^(cs.length-lv cs j)=2^cs.length
 | [],_=>rfl
 | c ::cs,h=>by
  by_cases hc:j<c
  ·have ih:=zoL j h.2;have:=zoI cs j;simp only[wj,qad hc,zjg,qaR];rw[show cs.length+1-(1+lv cs j)=cs.length-lv cs j by omega,qa1];omega
  have hn:∀x∈c ::cs,x<=j:=by
   intro x hx;rcases qbd.1 hx with rfl | hx
   ·omega
   have:=h.1 x hx;omega
  rw[zjP hn,zpv hn];simp
def sumTo (f:Nat->Nat):Nat->Nat
 | 0=>0
 | n+1=>sumTo f n+f n
theorem zbd {f g:Nat->Nat}:∀ {n:Nat},(∀j,j<n->f j=g j)->sumTo f n=sumTo g n
 | 0,_=>rfl
 | n+1,h=>by simp only[sumTo];rw[zbd (λ j hj=>h j (by omega)),h n (by omega)]
theorem zco (f g:Nat->Nat):∀n,sumTo (λ j=>f j+g j) n=sumTo f n+sumTo g n
 | 0=>rfl
 | n+1=>by simp only[sumTo,zco f g n];omega
theorem zbL (c:Nat):∀n,sumTo (λ _=>c) n=n*c
 | 0=>by simp[sumTo]
 | n+1=>by simp only[sumTo,zbL c n,qbZ];omega
theorem zeA (w c:Nat):∀n,sumTo (λ j=>if j<c then w else 0) n=w*min n c
 | 0=>by simp[sumTo]
 | n+1=>by
  simp only[sumTo,zeA w c n];by_cases h:n<c
  ·rw[qad h,show min n c=n by omega,show min (n+1) c=n+1 by omega,Nat.mul_add];omega
  rw[qac h,show min n c=c by omega,show min (n+1) c=c by omega];omega
theorem zmi (n:Nat):∀ {cs:List Nat},(∀c∈cs,c<=n)->sumTo (λ j=>wj j cs) n=wt cs
 | [],_=>by show sumTo (λ _=>0) n=0;rw[zbL];simp
 | c ::cs,h=>by
  show sumTo (λ j=>(if j<c then 2^cs.length else 0)+wj j cs) n=_;rw[zco,zeA,zmi n (λ x hx=>h x (qaQ _ hx)),show min n c=c by have:=h c (by simp);omega];rfl
theorem zgE {cs:List Nat} {n d:Nat} (h1:cs.length=d+1) (h2:∀c∈cs,c<=n) (h3:Down cs) (h4:wt cs=2^d*(2*n-2)) (hn:1<=n):sumTo (λ j=>2^(d+1-lv cs j)) n=2^(d+1):=by
 have e:=zco (λ j=>wj j cs) (λ j=>2^(cs.length-lv cs j)) n;rw[zbd (g:=λ _=>2^cs.length) (λ j _=>zoL j h3),zbL,zmi n h2,h4,h1] at e;have e2:2^d*(2*n-2)=(n-1)*2^(d+1):=by
  rw[show 2*n-2=2*(n-1) by omega,qa1,qaJ (n-1),qbr]
 have e3:n*2^(d+1)=(n-1)*2^(d+1)+2^(d+1):=by
  obtain⟨m,rfl⟩:∃m,n=m+1:=⟨n-1,by omega⟩;rw[qaX,qbZ];omega
 omega
theorem zmq {f:Nat->Nat} {n i j:Nat} (hij:i≠j) (hi:i<n) (hj:j<n):f i+f j<=sumTo f n:=by
 have one:∀n i,i<n->f i<=sumTo f n:=by
  intro n;induction n with
  | zero=>intro i h;omega
  | succ n ih=>
   intro i h;simp only[sumTo];rcases qa8 i n with q | q
   ·have:=ih i q;omega
   have:i=n:=by omega
   subst this;omega
 induction n with
 | zero=>omega
 | succ n ih=>
  simp only[sumTo];rcases qa8 i n with q | q
  ·rcases qa8 j n with r | r
   ·have:=ih q r;omega
   have:j=n:=by omega
   subst this;have:=one j i q;omega
  have:i=n:=by omega
  subst this;have:=one i j (by omega);omega
theorem zq5 {cs:List Nat} {n d:Nat} (h1:cs.length=d+1) (h2:∀c∈cs,c<=n) (h3:Down cs) (h4:wt cs=2^d*(2*n-2)) (hn:2<=n) (j:Nat) (hj:j<n):1<=lv cs j:=by
 apply Nat.one_le_iff_ne_zero.2;intro h0;have e:=zgE h1 h2 h3 h4 (by omega);obtain⟨i,hi,hij⟩:∃i,i<n/\i≠j:=by
  by_cases h:j=0
  ·exact⟨1,by omega,by omega⟩
  exact⟨0,by omega,by omega⟩
 have:=zmq (f:=λ j=>2^(d+1-lv cs j)) hij hi hj;simp only[h0] at this;have:=qbN (d+1-lv cs i);simp only[Nat.sub_zero] at *;omega
end Pkg
end Go.Proofs.YthlibiocadimhaaGreatDoor
namespace Go.Proofs.YthlibiocadimhaaGreatDoor
namespace Srt
theorem zgj {α β:Type} {k:α->Int} {k':β->Int} (m:α->β) (h:∀a,k' (m a)=k a):∀l r:List α,mrg k' (l.map m) (r.map m)=(mrg k l r).map m
 | [],r=>by simp[za4]
 | a ::l,[]=>by simp[zaU]
 | a ::l,b ::r=>by
  simp only[qaG];by_cases hlt:k b<k a
  ·rw[za0 _ _ (by rw[h,h];exact hlt),za0 _ _ hlt,<- qaG,zgj m h (a ::l) r];rfl
  rw[zaZ _ _ (by rw[h,h];exact hlt),zaZ _ _ hlt,<- qaG,zgj m h l (b ::r)];rfl
termination_by l r=>l.length+r.length
theorem zf6 {α β:Type} {k:α->Int} {k':β->Int} (m:α->β) (h:∀a,k' (m a)=k a):∀l:List α,srt k' (l.map m)=(srt k l).map m
 | []=>rfl
 | a ::l=>by
  simp only[qaG,srt,zf6 m h l];exact zgj m h [a] (srt k l)
end Srt
namespace Pkg
def used (cnt:Nat->Nat) (len:Nat):List Nat:=(List.range len).filter λ i=>decide (0<cnt i)
def coin (cnt:Nat->Nat) (i:Nat):Pc:=⟨cnt i,[i]⟩
def coins (cnt:Nat->Nat) (len:Nat):List Pc:=(used cnt len).map (coin cnt)
def order (cnt:Nat->Nat) (len:Nat):List Nat:=Srt.srt (λ i=>(cnt i:Int)) (used cnt len)
theorem zbO {cnt:Nat->Nat} {len i:Nat}:i∈used cnt len↔i<len/\0<cnt i:=by simp[used]
theorem zkV (cnt:Nat->Nat) (len:Nat):(used cnt len).Nodup:=List.nodup_range.filter _
theorem zbJ (cnt:Nat->Nat) (len:Nat):(order cnt len).Perm (used cnt len):=Srt.zcN _
theorem ziR (cnt:Nat->Nat) (len:Nat):(order cnt len).Nodup:=(zbJ cnt len).nodup_iff.2 (zkV cnt len)
theorem zii (cnt:Nat->Nat) (len:Nat):Srt.srt ky (coins cnt len)=(order cnt len).map (coin cnt):=Srt.zf6 (k:=λ i=>(cnt i:Int)) (coin cnt) (λ _=>rfl) _
theorem zky (cnt:Nat->Nat) (T:List Nat) (z:Nat):syms ((T.map (coin cnt)).take z)=T.take z:=by
 rw[<- List.map_take];unfold syms;rw[List.map_map];induction T.take z with
 | nil=>rfl
 | cons a l ih=>simp only[qaG,List.flatten_cons,ih];rfl
theorem zkn {T:List Nat} (hT:T.Nodup) {p:Nat} (hp:p<T.length) (z:Nat):(T.take z).count T[p]=if p<z then 1 else 0:=by
 have hn:(T.take z).Nodup:=hT.sublist (List.take_sublist _ _);by_cases h:p<z
 ·rw[qad h];rw[hn.count,qad];rw[List.mem_take_iff_getElem];exact⟨p,by omega,rfl⟩
 rw[qac h,List.count_eq_zero];intro hm;rw[List.mem_take_iff_getElem] at hm;obtain⟨q,hq,e⟩:=hm;have:=(List.getElem_inj hT).1 e;omega
theorem zeh {T:List Nat} (hT:T.Nodup) {p:Nat} (hp:p<T.length):∀cs:List Nat,((cs.map λ z=>T.take z).flatten).count T[p]=lv cs p
 | []=>rfl
 | c ::cs=>by
  rw[qaG,List.flatten_cons,List.count_append,zkn hT hp,zeh hT hp cs,zjg]
def lens (cnt:Nat->Nat) (len most s:Nat):Nat:=
 if (used cnt len).length<2 then if s∈used cnt len then 1 else 0
 else (syms ((row (Srt.srt ky (coins cnt len)) (most-1)).take (2*(used cnt len).length-2))).count s
theorem zhv {f:Nat->Nat} {l m:List Nat} (h:l.Perm m):(l.map f).sum=(m.map f).sum:=(h.map f).sum_nat
theorem zfe (g:Nat->Nat) (cnt:Nat->Nat):∀len,((used cnt len).map g).sum=sumTo (λ i=>if 0<cnt i then g i else 0) len
 | 0=>rfl
 | len+1=>by
  have e:used cnt (len+1)=used cnt len++(if 0<cnt len then [len] else []):=by
   unfold used;rw[qbC,List.filter_append];congr 1
   by_cases h:0<cnt len <;> simp[h]
  rw[e,qbs,List.sum_append,zfe g cnt len];simp only[sumTo];congr 1
  by_cases h:0<cnt len <;> simp[h]
theorem zp0 (f:Nat->Nat):∀T:List Nat,(T.map f).sum=sumTo (λ p=>f (T.getD p 0)) T.length
 | T=>by
  have key:∀k,k<=T.length->((T.take k).map f).sum=sumTo (λ p=>f (T.getD p 0)) k:=by
   intro k;induction k with
   | zero=>intro _;rfl
   | succ k ih=>
    intro hk;rw[qbJ (by omega),qbs,List.sum_append,ih (by omega)];simp only[sumTo,qaG,qa9,List.sum_cons,List.sum_nil,qcd];rw[qaY,qai (by omega)];rfl
  have:=key T.length (qaj _);rwa [List.take_length] at this
theorem zgv {cnt:Nat->Nat} {len most:Nat} (hn:2<=(used cnt len).length) (hm:1<=most) (h:(used cnt len).length<=2^most):
  (∀s,s∈used cnt len->1<=lens cnt len most s/\lens cnt len most s<=most)/\(∀s,s ∉ used cnt len->lens cnt len most s=0)/\
  sumTo (λ s=>if 0<cnt s then 2^(most-lens cnt len most s) else 0) len=2^most/\
  ∃cs:List Nat,cs.length=most/\(∀c∈cs,c<=(used cnt len).length)/\Down cs/\wt cs=2^(most-1)*(2*(used cnt len).length-2)/\(∀p (hp:p<(order cnt len).length),lens cnt len most (order cnt len)[p]=lv cs p)/\
   cost ((row (Srt.srt ky (coins cnt len)) (most-1)).take (2*(used cnt len).length-2))=(cs.map λ z=>cost ((Srt.srt ky (coins cnt len)).take z)).sum:=by
 obtain⟨d,rfl⟩:∃d,most=d+1:=⟨most-1,by omega⟩;obtain⟨n,hn0⟩:=nmE ((used cnt len).length);have hTl:(order cnt len).length=n:=by rw[(zbJ cnt len).length_eq,hn0]
 have hC:=zii cnt len;have hCl:(Srt.srt ky (coins cnt len)).length=n:=by rw[hC,qcm,hTl]
 have hpos:∀y∈Srt.srt ky (coins cnt len),0<y.c:=by
  intro y hy;rw[hC] at hy;obtain⟨i,hi,rfl⟩:=qcC.1 hy;exact (zbO.1 ((zbJ cnt len).mem_iff.1 hi)).2
 have hlong:2*n-2<=(row (Srt.srt ky (coins cnt len)) d).length:=by
  have:=zfN (C:=Srt.srt ky (coins cnt len)) (d:=d) (by omega) (by rw[hCl];rw[hn0] at h;exact h);rwa [hCl] at this
 obtain⟨c,cs,g1,g2,g3,g4,g5,g6,g7,_⟩:=zlD (Srt.zcW _) hpos d (2*n-2) hlong;have k1:(c ::cs).length=d+1:=by simp[g1]
 have k2:∀z∈c ::cs,z<=n:=by
  intro z hz;rw[<- hCl];rcases qbd.1 hz with rfl | hz
  ·exact g2
  exact g3 z hz
 have hcount:∀s,lens cnt len (d+1) s=(((c ::cs).map λ z=>(order cnt len).take z).flatten).count s:=by
  intro s;unfold lens;rw[hn0,qac (by omega),qaX,g6.count_eq];congr 2
  apply List.map_congr_left;intro z _;rw[hC,zky]
 have hat:∀p (hp:p<(order cnt len).length),lens cnt len (d+1) (order cnt len)[p]=lv (c ::cs) p:=λ p hp=>by rw[hcount,zeh (ziR cnt len) hp]
 refine⟨?_,?_,?_,c ::cs,k1,by rw[hn0];exact k2,g4,by rw[hn0,qaX];exact g5,hat,by rw[hn0,qaX];exact g7⟩
 ·intro s hs;obtain⟨p,hp,e⟩:=List.mem_iff_getElem.1 ((zbJ cnt len).mem_iff.2 hs);rw[<- e,hat p hp];refine⟨zq5 k1 k2 g4 g5 (by omega) p (by omega),?_⟩;have:=zoI (c ::cs) p;omega
 ·intro s hs;rw[hcount,List.count_eq_zero];intro hm;obtain⟨l,hl,hsl⟩:=List.mem_flatten.1 hm;obtain⟨z,_,rfl⟩:=qcC.1 hl;exact hs ((zbJ cnt len).mem_iff.1 (List.mem_of_mem_take hsl))
 rw[<- zfe (λ s=>2^(d+1-lens cnt len (d+1) s)) cnt len,<- zhv (zbJ cnt len),zp0,hTl,<- zgE k1 k2 g4 g5 (by omega)];apply zbd;intro j hj;rw[qaY,qai (by omega),qbn,hat j (by omega)]
end Pkg
end Go.Proofs.YthlibiocadimhaaGreatDoor
namespace Go.Proofs.YthlibiocadimhaaGreatDoor
open Go.RowKit
theorem Ydh1 {p:Prop} (h:p:=by
  clear h;go_enter Tryz.func170,Tryz.ntmps170
  go_wp2_with fail;refine (zgn _ _).mono ?_;rintro e _ ⟨rfl,rfl⟩;go_wp2_with fail;refine (zgn _ _).mono ?_;rintro e _ ⟨rfl,rfl⟩;go_wp2_with fail;go_ret;exact⟨rfl,rfl⟩):p:=h
theorem Ydh0 {p:Prop} (h:p:=by
  rw[qad h];exact Ydh1):p:=h
def cmpI (x y:Int):Int:=if x<y then -1 else if y<x then 1 else 0
theorem zim (x y:Int):decide (cmpI x y<0)=decide (x<y):=by
  unfold cmpI;by_cases h:x<y
  · rw[qad h];simp[h]
  rw[qac h];split <;> simp[h]
theorem zgn (x:Int) (w:World):Calls Tryz.prog 181 #[.int .i64 x] w λ e w'=>e=.returned (.bool false)/\w=w':=by
  have t:(x !=x)=false:=by simp
  go_enter Tryz.func181,Tryz.ntmps181
  go_wp2_with fail;go_ret;exact⟨rfl,rfl⟩
theorem ziI (x y:Int) (w:World):Calls Tryz.prog 170 #[.int .i64 x,.int .i64 y] w λ e w'=>e=.returned (.int .i64 (cmpI x y))/\w=w':=by
  unfold cmpI;by_cases h:x<y
  · have t:decide (x<y)=true:=qae h;exact Ydh0
  have t:decide (x<y)=false:=qaf h;rw[qac h];clear h;by_cases h:y<x
  · have t:decide (y<x)=true:=qae h;exact Ydh0
  have t:decide (y<x)=false:=qaf h;rw[qac h];exact Ydh1
theorem zmd (c d:Int) (a b:Option Addr) (n m k l:Nat) (w:World):
    Calls Tryz.prog 154 #[.agg #[.int .i64 c,.slice a n k],.agg #[.int .i64 d,.slice b m l]] w λ e w'=>e=.returned (.int .i64 (cmpI c d))/\Ext w w':=by
  go_enter Tryz.func154,Tryz.ntmps154
  go_wp2_with fail;refine (ziI _ _ _).mono ?_;rintro e _ ⟨rfl,rfl⟩;go_wp2_with fail;go_ret;exact⟨rfl,((Ext.refl _).alloc _).alloc _⟩
theorem Srt.mrg_one {S1 S2:List Pk} {x:Pk} (hS:Srt.Up Pk.key (S1++S2)) (h1:S1=[]\/∃T y,S1=T ++ [y]/\¬ x.c<y.c) (h2:∀y∈S2,x.c<y.c):Srt.mrg Pk.key (S1++S2) [x]=S1++x ::S2:=by
 have hle:∀a∈S1,∀b∈([]:List Pk),Pk.key a<=Pk.key b:=by simp
 have key:∀a∈S1,Pk.key a<=Pk.key x:=by
  rcases h1 with rfl | ⟨T,y,rfl,h1⟩
  ·simp
  intro a ha;rcases qa3.mp ha with q | q
  ·have:=(hS.left).over a q y (by simp);unfold Pk.key at this⊢;omega
  rw[qaN.mp q];unfold Pk.key;omega
 have e:=Srt.zbD (k:=Pk.key) S1 [] S2 [x] (λ a ha b hb=>by rw[qaN.mp hb];exact key a ha) (by simp);have e2:Srt.mrg Pk.key S2 [x]=[x]++S2:=Srt.zkS (λ a ha b hb=>by rw[qaN.mp hb];have:=h2 a ha;unfold Pk.key;omega);rw[Srt.zaU,e2] at e;exact e
set_option maxHeartbeats 4000000 in
theorem zg0 (B n cap:Nat) (P X Q:List Pk) (a b:Nat) (w:World) (hl:(P++X++Q).length=n) (hn:n<=1000000) (ha:P.length=a) (hb:(P++X).length=b) (h:PR w B (P++X++Q)):
  Calls Tryz.prog 179 #[.slice (some ⟨B,0,none⟩) n cap,.int .i64 (a:Int),.int .i64 (b:Int),.func (.func 154) #[] #[]] w λ e w'=>e=.returned (.tuple #[])/\PR w' B (P++Srt.srt Pk.key X++Q)/\One B w w':=by
 have HL:=Hd hl;have HR:=Hd h;have hbn:b<=n:=by rw[<- hl,<- hb];simp
 have hab:a<=b:=by rw[<- hb,<- ha];simp
 have HA:=Hd ha;have HB:=Hd hb;have w1:∀z,z=((a+1:Nat):Int)->IntKind.i64.wrap z=z:=by intro z hz;rw[qal];omega
 have HORD:=Hd zmd;clear hl h ha hb;go_enter Tryz.func179,Tryz.ntmps179
 go_wp2_with fail;go_loopw [8] (λ c wr=>∃i:Nat,c=.int .i64 i/\Hid (a<i/\(i<=b\/i=a+1)/\(X=[]/\PR wr B (P++X++Q)\/∃Y Z,X=Y++Z/\a+Y.length=i/\PR wr B (P++Srt.srt Pk.key Y++(Z++Q))))/\Hid (One B w wr)) (λ c _=>b+1-(intOf c).toNat)
 case atStart=>
  refine⟨a+1,by simp,Hd ⟨by omega,.inr rfl,?_⟩,Hd (One.refl _ _)⟩;cases X with
  | nil=>exact .inl ⟨rfl,HR.out⟩
  | cons x X=>exact .inr ⟨[x],X,rfl,rfl,by rw[Srt.zjQ];simpa using HR.out⟩
 case round=>
  obtain⟨i,rfl,HI,HO⟩:=hrel;by_cases hlt:i<b
  ·have t0:=dT (p:=(i:Int)<(b:Int));obtain⟨hai,_,hX⟩:=HI.out;have hX2:∃Y x Z,X=Y++x ::Z/\a+Y.length=i/\PR wr B (P++Srt.srt Pk.key Y++(x ::Z++Q)):=by
    rcases hX with⟨rfl,_⟩ | ⟨Y,Z,rfl,e,hp⟩
    ·have:=HB.out;have:=HA.out;simp at *;omega
    cases Z with
    | nil=>have:=HB.out;have:=HA.out;simp at *;omega
    | cons x Z=>exact⟨Y,x,Z,rfl,e,hp⟩
   obtain⟨Y,x,Z,hXY,hY,hp⟩:=hX2;have HP:=Hd hp;have HY:=Hd (show a+(Srt.srt Pk.key Y).length=i by rw[Srt.zbI];exact hY);have HXY:=Hd hXY;have HY2:=Hd hY;have HU:=Hd (Srt.zcW (k:=Pk.key) Y);have HN1:Hid (Srt.srt Pk.key (Y ++ [x])=Srt.mrg Pk.key (Srt.srt Pk.key Y) [x]):=Hd (Srt.zm0 Y x);generalize Srt.srt Pk.key Y=S at *;clear hX hp hXY hY HI;go_wp2_with fail;go_loopw [9] (λ c wr=>∃j:Nat,c=.int .i64 j/\Hid (∃S1 S2,S=S1++S2/\a+S1.length=j/\PR wr B (P++S1++x ::(S2++(Z++Q)))/\∀y∈S2,x.c<y.c)/\Hid (One B w wr)) (λ c _=>(intOf c).toNat)
   case atStart=>exact⟨i,rfl,Hd ⟨S,[],by simp,HY.out,by simpa using HP.out,by simp⟩,HO⟩
   case round=>
    obtain⟨j,rfl,HJ,HO2⟩:=hrel;obtain⟨S1,S2,hS,hj,hp,hgt⟩:=HJ.out;clear HJ;by_cases hja:a<j
    ·have t1:=dT (p:=(a:Int)<(j:Int));have hS1:∃T y,S1=T ++ [y]:=by
      rcases List.eq_nil_or_concat S1 with q | ⟨T,y,q⟩
      ·subst q;simp at hj;omega
      exact⟨T,y,by rw[q,List.concat_eq_append]⟩
     obtain⟨T,y,rfl⟩:=hS1;obtain⟨J,hJ⟩:=nmE ((P++T).length);have hjJ:j=J+1:=by have:=HA.out;simp at hj hJ;omega
     have hp2:PR wr B ((P++T)++y ::x ::(S2++(Z++Q))):=by simpa using hp
     have hJn:J+1<n:=by
      have h1:=HL.out;have h2:=HXY.out;have h3:=HB.out;have h4:=HY2.out;have h5:=HA.out;have h6:=HY.out;subst h2;simp[hS] at h1 h3 h6 hJ hj⊢;omega
     have lJ:J<n:=by omega
     have lj:j<n:=by omega
     have gJ:(0:Int)<=(J:Int):=by omega
     have eJ:(j:Int)-1=(J:Int):=by omega
     have wJ:∀z,z=(J:Int)->IntKind.i64.wrap z=z:=by intro z hz;rw[qal];omega
     obtain⟨k2,k3,k4,k5,hw⟩:=hp2.adjD hJ;rw[<- hjJ] at k4 k5 hw;have HjJ:=Hd hjJ;clear hJn;have HW:=Hd hw;have HP2:=Hd hp2;have HS:=Hd hS;have HG:=Hd hgt;have HJ:=Hd hJ;have hBl:=hp2.lt;have fz:=hp2.frozen;clear hp hp2 hw hS hgt hj hJ hjJ;by_cases hc:x.c<y.c
     ·have t2:decide (cmpI (x.c:Int) (y.c:Int)<0)=true:=by rw[zim];exact qae (by omega)
      have HC:=Hd hc;clear hc;go_wp2_with fail;go_region_held3 (λ w'=>Ext wr w'/\w'.cell? ⟨B,J*2,none⟩=some (.int .i64 (y.c:Int))/\w'.cell? ⟨B,J*2+1,none⟩=some (.slice y.a y.n y.k)/\w'.cell? ⟨B,j*2,none⟩=some (.int .i64 (x.c:Int))/\w'.cell? ⟨B,j*2+1,none⟩=some (.slice x.a x.n x.k)) (first | exact⟨qag (Ext.refl wr),k2,k3,k4,k5⟩ | go_keep | exact⟨Ext.trans (by first | assumption | exact qag (Ext.refl _)) hx,(hx.cell (p:=⟨B,J*2,none⟩) (qaA hBl (show Ext wr _ from by first | assumption | exact qag (Ext.refl _)).size)).trans (by assumption),(hx.cell (p:=⟨B,J*2+1,none⟩) (qaA hBl (show Ext wr _ from by first | assumption | exact qag (Ext.refl _)).size)).trans (by assumption),(hx.cell (p:=⟨B,j*2,none⟩) (qaA hBl (show Ext wr _ from by first | assumption | exact qag (Ext.refl _)).size)).trans (by assumption),(hx.cell (p:=⟨B,j*2+1,none⟩) (qaA hBl (show Ext wr _ from by first | assumption | exact qag (Ext.refl _)).size)).trans (by assumption)⟩)
       ((go_at_call 154;refine (HORD.out _ _ _ _ _ _ _ _ _).mono ?_;rintro e w' ⟨rfl,hx⟩))
      all_goals
       rename_i hS;clear k2 k3 k4 k5 fz HW;obtain⟨k2,k3,k4,k5,hw⟩:=(HP2.out.ext hS.1).adjD HJ.out;rw[<- HjJ.out] at k4 k5 hw;have fz:=(HP2.out.ext hS.1).frozen;have HW:=Hd hw;have HO3:=Hd (HO2.out.trans (One.of_ext hS.1));clear hw hS;go_wp2_with fail;go_region;go_wp2_with fail;go_roundw
       case rel=>exact⟨J,by go_num,Hd ⟨T,y ::S2,by rw[HS.out];simp,by have:=HJ.out;have:=HA.out;simp at *;omega,by have:=HW.out.drew;simpa using this,λ z hz=>by rcases qbd.mp hz with rfl | q;exact HC.out;exact HG.out z q⟩,Hd (HO3.out.four _ _ _ _ _ _ _ _).drew⟩
       case measure=>have:=HjJ.out;simp[intOf];omega
     have t2:decide (cmpI (x.c:Int) (y.c:Int)<0)=false:=by rw[zim];exact qaf (by omega)
     have HC:=Hd hc;clear hc;go_wp2_with fail;go_region_held3 (λ w'=>Ext wr w'/\w'.cell? ⟨B,J*2,none⟩=some (.int .i64 (y.c:Int))/\w'.cell? ⟨B,J*2+1,none⟩=some (.slice y.a y.n y.k)/\w'.cell? ⟨B,j*2,none⟩=some (.int .i64 (x.c:Int))/\w'.cell? ⟨B,j*2+1,none⟩=some (.slice x.a x.n x.k)) (first | exact⟨qag (Ext.refl wr),k2,k3,k4,k5⟩ | go_keep | exact⟨Ext.trans (by first | assumption | exact qag (Ext.refl _)) hx,(hx.cell (p:=⟨B,J*2,none⟩) (qaA hBl (show Ext wr _ from by first | assumption | exact qag (Ext.refl _)).size)).trans (by assumption),(hx.cell (p:=⟨B,J*2+1,none⟩) (qaA hBl (show Ext wr _ from by first | assumption | exact qag (Ext.refl _)).size)).trans (by assumption),(hx.cell (p:=⟨B,j*2,none⟩) (qaA hBl (show Ext wr _ from by first | assumption | exact qag (Ext.refl _)).size)).trans (by assumption),(hx.cell (p:=⟨B,j*2+1,none⟩) (qaA hBl (show Ext wr _ from by first | assumption | exact qag (Ext.refl _)).size)).trans (by assumption)⟩)
      ((go_at_call 154;refine (HORD.out _ _ _ _ _ _ _ _ _).mono ?_;rintro e w' ⟨rfl,hx⟩))
     all_goals
      rename_i hS;clear k2 k3 k4 k5 fz HW;have HP3:=Hd (HP2.out.ext hS.1);have HO3:=Hd (HO2.out.trans (One.of_ext hS.1));clear hS;go_wp2_with fail;refine⟨⟨i+1,by simp,Hd ⟨by omega,.inl (by omega),.inr ⟨Y ++ [x],Z,by rw[HXY.out];simp,by have:=HY2.out;simp;omega,?_⟩⟩,HO3⟩,by simp[intOf];omega⟩;rw[HN1.out,HS.out,Srt.mrg_one (by rw[<- HS.out];exact HU.out) (.inr ⟨T,y,rfl,HC.out⟩) HG.out];simpa using HP3.out
    have t1:=dF (p:=(a:Int)<(j:Int));go_wp2_with fail;refine rgQ ?_;refine qY ?_;refine qY ?_;refine qY ?_;refine qY ?_;refine qN ?_;refine qN ?_;refine qN ?_;refine qN ?_;refine qN ?_;refine qN ?_;refine qN ?_;refine qN ?_;refine qN ?_;refine qN ?_;refine qN ?_;refine qN ?_;refine qY ?_;refine zaf ?_;have HP3:=Hd hp.drew;have HO3:=Hd HO2.out.drew;have HS:=Hd hS;have HG:=Hd hgt;have HJ:=Hd hj;clear hp hS hgt hj;go_wp2_with fail;refine⟨⟨i+1,by simp,Hd ⟨by omega,.inl (by omega),.inr ⟨Y ++ [x],Z,by rw[HXY.out];simp,by have:=HY2.out;simp;omega,?_⟩⟩,HO3⟩,by simp[intOf];omega⟩;have h1:S1=[]:=qav (by have:=HJ.out;omega);rw[HN1.out,HS.out,Srt.mrg_one (by rw[<- HS.out];exact HU.out) (.inl h1) HG.out];simpa using HP3.out
  have t0:=dF (p:=(i:Int)<(b:Int));go_wp2_with fail;go_end0;refine⟨rfl,?_,HO.out⟩;obtain⟨hai,hib,hX⟩:=HI.out;have h1:=HA.out;have h2:=HB.out;rcases hX with⟨rfl,hp⟩ | ⟨Y,Z,rfl,hY,hp⟩
  ·simpa [Srt.srt] using hp
  have hZ:Z=[]:=qav (by simp at h2;omega);subst hZ;simpa using hp
theorem PR.get {w:World} {B:Nat} {l:List Pk} (h:PR w B l) {i:Nat} {x:Pk} (hx:l[i]? =some x):w.cell? ⟨B,i*2,none⟩=some (.int .i64 (x.c:Int))/\w.cell? ⟨B,i*2+1,none⟩=some (.slice x.a x.n x.k):=by
  obtain⟨hi,e⟩:=qa7.1 hx;rw[<- e];exact h.at hi
set_option maxHeartbeats 4000000 in
theorem zk8 (B n cap:Nat) (l:List Pk) (w:World) (hl:l.length=n) (hn:n<=19) (h:PR w B l):
    Calls Tryz.prog 169 #[.slice (some ⟨B,0,none⟩) n cap,.int .i64 (n:Int),.func (.func 154) #[] #[]] w λ e w'=>e=.returned (.tuple #[])/\PR w' B (Srt.srt Pk.key l)/\One B w w':=by
  have HC:=Hd (zg0 B n cap [] l [] 0 n w (by simpa using hl) (by omega) rfl (by simpa using hl) (by simpa using h));clear hl h;go_enter Tryz.func169,Tryz.ntmps169
  have t0:=dF (p:=(20:Int)<=(n:Int));have t1:=dF (p:=(20:Int)<(n:Int));go_wp2_with fail;go_loopw [7,8] (λ c d wr=>c=.int .i64 0/\d=.int .i64 20/\wr=w) (λ _ _ _=>0)
  case atStart=>exact⟨rfl,rfl,rfl⟩
  case round=>
    obtain⟨rfl,rfl,rfl⟩:=hrel;go_wp2_with fail;refine HC.out.mono ?_;rintro e w9 ⟨rfl,hr,ho⟩;have HR9:=Hd (qaB hr ho);clear hr ho HC t0;go_wp2_with fail;go_loopw [6] (λ c wr=>c=.int .i64 20/\wr=w9) (λ _ _=>0)
    case atStart=>exact⟨rfl,rfl⟩
    case round=>
      obtain⟨rfl,rfl⟩:=hrel;go_wp2_with fail;go_end0;exact⟨rfl,by have:=HR9.out.1;simpa using this,HR9.out.2⟩
theorem zir (B n cap:Nat) (l:List Pk) (w:World) (hl:l.length=n) (hn:n<=19) (h:PR w B l):
    Calls Tryz.prog 153 #[.slice (some ⟨B,0,none⟩) n cap,.func (.func 154) #[] #[]] w λ e w'=>e=.returned (.tuple #[])/\PR w' B (Srt.srt Pk.key l)/\One B w w':=by
  have HC:=Hd (zk8 B n cap l w hl hn h);clear hl h;go_enter Tryz.func153,Tryz.ntmps153
  go_wp2_with fail;refine HC.out.mono ?_;rintro e w9 ⟨rfl,hr,ho⟩;go_wp2_with fail;go_end0;exact⟨rfl,hr,ho⟩
theorem zps (a:Nat) (ha:a<18446744073709551616):bits .and .u64 (a:Int) 4294967295=((a%4294967296:Nat):Int):=by
  have h:=bits_and_u64_nat a 4294967295 ha (by omega);rw[show a &&& 4294967295=a%4294967296 from Nat.and_two_pow_sub_one_eq_mod a 32] at h;exact h
theorem zlX (c:Nat) (hc:c<=10000) (w:World):Calls Tryz.prog 178 #[.int .u64 1,.int .u64 (c:Int)] w λ e w'=>e=.returned (.tuple #[.int .u64 0,.int .u64 (c:Int)])/\w'=w:=by
  have m1:bits .and .u64 1 4294967295=1:=by decide
  have m0:bits .and .u64 0 4294967295=0:=by decide
  have mc:bits .and .u64 (c:Int) 4294967295=(c:Int):=by rw[zps c (by omega)];congr 1;omega
  have dc:(c:Int)/4294967296=0:=by omega
  have wc_:IntKind.u64.wrap (c:Int)=(c:Int):=by rw[IntKind.wrap_u64];omega
  have w0_:IntKind.u64.wrap 0=0:=by decide
  go_enter Tryz.func178,Tryz.ntmps178
  go_wp2
  go_ret2;exact⟨rfl,rfl⟩
theorem mul_one (c:Nat) (hc:c<=10000) (w:World):Calls Tryz.prog 166 #[.int .u64 1,.int .u64 (c:Int)] w λ e w'=>e=.returned (.tuple #[.int .u64 0,.int .u64 (c:Int)])/\w'=w:=by
  go_enter Tryz.func166,Tryz.ntmps166
  go_wp2_with fail;refine (zlX c hc w).mono ?_;rintro e w2 ⟨rfl,rfl⟩;go_wp2_with fail;go_ret2;exact⟨rfl,rfl⟩
def cellT (tk:Nat->Tk) (j:Nat):Value:=if j%3=0 then .int .u8 ((tk (j/3)).b.toNat:Int) else if j%3=1 then .int .i64 (tk (j/3)).l else .int .i64 (tk (j/3)).d
def tkV (n:Nat) (tk:Nat->Tk):List Value:=(List.range (n*3)).map (cellT tk)
theorem zkh (n:Nat) (tk:Nat->Tk):(tkV n tk).length=n*3:=by simp[tkV]
theorem zet (n:Nat) (tk:Nat->Tk) (j:Nat) (h:j<n*3):(tkV n tk)[j]? =some (cellT tk j):=by simp[tkV,h]
theorem cellT_0 (tk:Nat->Tk) (i:Nat):cellT tk (i*3)=.int .u8 ((tk i).b.toNat:Int):=by
 unfold cellT;rw[qad (by omega),show i*3/3=i by omega]
theorem cellT_1 (tk:Nat->Tk) (i:Nat):cellT tk (i*3+1)=.int .i64 (tk i).l:=by
 unfold cellT;rw[qac (by omega),qad (by omega),show (i*3+1)/3=i by omega]
theorem cellT_2 (tk:Nat->Tk) (i:Nat):cellT tk (i*3+2)=.int .i64 (tk i).d:=by
 unfold cellT;rw[qac (by omega),qac (by omega),show (i*3+2)/3=i by omega]
theorem zh0 (a:Addr) (i c:Nat) (hc:c≠0):a.add (i*3+c)=⟨(a.add (i*3)).block,(a.add (i*3)).off+c,none⟩:=by
 unfold Addr.add;rw[qac (by omega)];split
 ·rename_i h;have:i=0:=by omega
  subst this;simp
 simp[qa6]
theorem Toks.cells {w:World} {a:Addr} {n:Nat} {tk:Nat->Tk} (h:Toks w (some a) n tk) (j:Nat) (u:Value) (hj:(tkV n tk)[j]? =some u):w.cell? (a.add j)=some u:=by
 have hl:j<n*3:=by
  rcases qa8 j (n*3) with q | q
  ·exact q
  rw[qba (by rw[zkh];exact q)] at hj;cases hj
 rw[zet _ _ _ hl] at hj;injection hj with hj;subst hj;obtain⟨c0,c1,c2,_⟩:=h.2 a rfl (j/3) (by omega);obtain⟨i,c,rfl,hc⟩:∃i c,j=i*3+c/\c<3:=⟨j/3,j%3,by omega,by omega⟩;rw[show (i*3+c)/3=i by omega] at c0 c1 c2;match c,hc with
 | 0,_=>rw[qcd,cellT_0];exact c0
 | 1,_=>rw[cellT_1,zh0 _ _ _ (by decide)];exact c1
 | 2,_=>rw[cellT_2,zh0 _ _ _ (by decide)];exact c2
theorem Toks.of_own {w:World} {base:Nat} {v:Value} {n:Nat} {tk:Nat->Tk} (h:w.ownsRow base 165 3 v n (tkV n tk)) (hb:∀i,i<n->(tk i).Ok):
  ∃x c,v=.slice x n c/\Toks w x n tk:=by
 rcases zah h with⟨rfl,h0⟩ | ⟨g,cap,rfl⟩
 ·subst h0;exact⟨none,0,rfl,λ _=>rfl,λ a h=>by cases h⟩
 refine⟨some ⟨g,0,none⟩,cap,rfl,(λ h=>by cases h),λ a ha i hi=>?_⟩;injection ha with ha;subst ha;rw[zae];refine⟨?_,?_,?_,hb i hi⟩
 ·rw[h.cellAt _ (by omega),zet _ _ _ (by omega),cellT_0]
 ·show w.cell? ⟨g,i*3+1,none⟩=_;rw[h.cellAt _ (by omega),zet _ _ _ (by omega),cellT_1]
 show w.cell? ⟨g,i*3+2,none⟩=_;rw[h.cellAt _ (by omega),zet _ _ _ (by omega),cellT_2]
theorem zqw:(Tryz.prog.info? 165).map (λ i=>(i.zero,i.size,i.bytes))=some (some (.agg #[.int .u8 0,.int .i64 0,.int .i64 0]),3,24):=by kernel_rfl
theorem zdc (B o n V:Nat) (v:Value) (w:World) (hW:WAt w B o v V n) (hn:n<1099511627776):
    Calls Tryz.prog 121 #[.pointer (some ⟨B,o,none⟩)] w λ e w'=>e=.returned (.tuple #[])/\WAt w' B o v V ((n+7)/8*8)/\WStep w w' B o v v:=by
  obtain⟨c0,c1,f0,f1,⟨l,hl,hV,hown⟩,hap,hlt⟩:=hW;have a3:(⟨B,o+1,none⟩:Addr)≠⟨B,o,none⟩:=by intro e;injection e with _ e2;omega
  have e8:(8:Int)*(l.length:Int)=(((n+7)/8*8:Nat):Int):=by rw[hl];omega
  have hlenI:(l.length:Int)<=1099511627776:=by omega
  have fin:∀m:Nat,WAt ((w.setCell ⟨B,o+1,none⟩ (.int .i64 ((8:Int)*(l.length:Int)))).drewN m) B o v V ((n+7)/8*8)/\WStep w ((w.setCell ⟨B,o+1,none⟩ (.int .i64 ((8:Int)*(l.length:Int)))).drewN m) B o v v:=by
    intro m;rw[e8];refine⟨⟨?_,?_,?_,?_,⟨l,by omega,hV,?_⟩,hap,?_⟩,⟨?_,?_,?_,?_⟩⟩
    · exact (qah _ _ _ _ a3).trans c0
    · exact qa0 _ _ _ c1
    · show World.frozen? (World.setCell _ _ _) _=_;rw[qap];exact f0
    · show World.frozen? (World.setCell _ _ _) _=_;rw[qap];exact f1
    · exact qaI hown hap _
    · exact qaA hlt (qaq (by decide) (by omega))
    · exact ((Keeps.refl _ w).setCell (.inl (.inl rfl)) _).drewN m
    · intro j h1 h2;have b1:(⟨B,o+1,none⟩:Addr)≠⟨B,j,none⟩:=by intro e;injection e with _ e2;exact h2 e2.symm
      exact qah _ _ _ _ b1
    · intro j;show World.frozen? (World.setCell _ _ _) _=_;rw[qap]
    intro k hk;exact .inl hk
  have HF:=Hd fin
  have H8:=Hd e8;rcases zah hown with⟨rfl,h0⟩ | ⟨g,cap,rfl⟩
  · have HL:=Hd hl;have H0:=Hd h0;rw[h0] at HF;clear hl hV h0 fin e8;go_enter Tryz.func121,Tryz.ntmps121
    go_wp2
    go_end0;exact⟨rfl,HF.out 0⟩
  have HL:=Hd hl;clear hl hV fin e8;go_enter Tryz.func121,Tryz.ntmps121
  go_wp2
  go_end0;exact⟨rfl,HF.out 0⟩
end Go.Proofs.YthlibiocadimhaaGreatDoor
namespace Adl
def step (p:Nat × Nat) (b:Nat):Nat × Nat:=((p.1+b)%65521,(p.2+(p.1+b)%65521)%65521)
def run (p:Nat × Nat) (l:List UInt8):Nat × Nat:=l.foldl (λ p b=>step p b.toNat) p
def tell (p:Nat × Nat):Nat:=p.2*65536+p.1
def start (a:Nat):Nat × Nat:=(a%65536%65521,a/65536%65521)
def more (a:Nat) (l:List UInt8):Nat:=tell (run (start a) l)
def adler (l:List UInt8):Nat:=more 1 l
def Ok (p:Nat × Nat):Prop:=p.1<65521/\p.2<65521
theorem zn8 (a:Nat):Ok (start a):=⟨Nat.mod_lt _ (by decide),Nat.mod_lt _ (by decide)⟩
theorem zo6 (p:Nat × Nat) (b:Nat):Ok (step p b):=⟨Nat.mod_lt _ (by decide),Nat.mod_lt _ (by decide)⟩
theorem zqM {p:Nat × Nat} (h:Ok p) (l:List UInt8):Ok (run p l):=by
  induction l generalizing p with
  | nil=>exact h
  | cons b l ih=>exact ih (zo6 p b.toNat)
theorem zoX {p:Nat × Nat} (h:Ok p):tell p<4294967296:=by obtain⟨h1,h2⟩:=h;unfold tell;omega
theorem zp1 (a:Nat) (l:List UInt8):more a l<4294967296:=zoX (zqM (zn8 a) l)
end Adl
namespace Go.Proofs.YthlibiocadimhaaGreatDoor
open Go.RowKit
theorem zop (l:List UInt8):Bts.val (Bts.allB l)=Crc.num l:=by
 induction l with
 | nil=>rfl
 | cons b l ih=>
  simp only[Bts.allB,Crc.num];rw[Bts.zbj,Bts.zgg,Bts.zat,ih,qaF b.toNat_lt];omega
theorem znq (s:ByteArray) (w:World) (hs:s.size<=1000000):
  Calls Tryz.prog 72 #[.string s] w λ e w'=>e=.returned (.string (bs (Bts.allB s.data.toList)))/\Ext w w':=by
 obtain⟨i0,hi0,hz0,hz1,hz2⟩:=qbb zlg;obtain⟨w2,hmk,hown,hgrow⟩:=run_make_own (P:=Tryz.prog) w w.heap.size 62 5 i0 (.int .u8 0) 1 Tryz.underlying62 hi0 hz0 hz1 .i64 .i64 (8*s.size) (by rw[hz2];omega) (by unfold maxLen;omega) (qaj _);have HO:=Hd hown;have HG:Hid (Ext w w2):=(Keeps.grown hgrow).below (qaj _) (λ k _ q=>by cases q);rw[show ((8*s.size:Nat):Int)=8*(s.size:Int) by omega] at hmk;clear hown hgrow;go_enter Tryz.func72,Tryz.ntmps72
 go_wp2_with fail;clear hmk;have HO0:Hid (w2.ownsRow w.heap.size 5 1 (.slice (some ⟨w.heap.size,0,none⟩) 0 (8*s.size)) (Bts.str (Bts.allB (s.data.toList.take 0))).length (zad (Bts.str (Bts.allB (s.data.toList.take 0))))):=HO;clear HO;go_loopw [3,4] (λ u c wr=>∃i:Nat,i<=s.size/\c=.int .i64 i/\Hid (wr.ownsRow w.heap.size 5 1 u (Bts.str (Bts.allB (s.data.toList.take i))).length (zad (Bts.str (Bts.allB (s.data.toList.take i)))))/\Hid (Ext w wr)) (λ _ c _=>s.size-(intOf c).toNat)
 case atStart=>exact⟨0,by omega,rfl,HO0,HG⟩
 case round=>
  obtain⟨i,hi,rfl,HR,HX⟩:=hrel;by_cases hlt:i<s.size
  ·obtain⟨b,hb⟩:=nmE (s[i].toNat);have hb256:b<256:=by rw[<- hb];exact s[i].toNat_lt
   have hts:Bts.allB (s.data.toList.take (i+1))=Bts.allB (s.data.toList.take i)++Bts.low b 8:=by
    rw[qbJ (by simpa using hlt),Bts.zi9,<- hb];simp[Bts.allB];rfl
   have hlen:(Bts.allB (s.data.toList.take i)).length<=8*i:=by rw[Bts.zbK];simp;omega
   have HTS:=Hd hts;obtain⟨L,hL⟩:=nmE (Bts.allB (s.data.toList.take i));rw[hL] at HR hlen;have HLL:=Hd hL;have HB:=Hd hb;clear hts hL;go_wp2_with fail;clear hb;go_loopw [3,5,6] (λ v n c wx=>∃k:Nat,k<=8/\c=.int .i64 k/\n=.int .i64 ((b/2^k:Nat):Int)/\Hid (wx.ownsRow w.heap.size 5 1 v (Bts.str (L++Bts.low b k)).length (zad (Bts.str (L++Bts.low b k))))/\Hid (Ext w wx)) (λ _ _ c _=>8-(intOf c).toNat)
   case atStart=>exact⟨0,by omega,rfl,by simp,by simpa [Bts.low] using HR,HX⟩
   case round=>
    obtain⟨k,hk,rfl,rfl,HR2,HX2⟩:=hrel;by_cases hlk:k<8
    ·obtain⟨y,hy⟩:=nmE (b/2^k);have hy2:b/2^(k+1)=y/2:=by rw[qa1,<- qbF,hy]
     have hyl:y<256:=by rw[<- hy];exact qct (qcy _ _) hb256
     have HLW:Hid (Bts.str (L++Bts.low b (k+1))=Bts.str (L++Bts.low b k) ++ [Bts.ch (y%2 ==1)]):=Hd (by rw[Bts.low,hy,<- qat,Bts.zfR (L++_)];rfl);obtain⟨M,hM⟩:=nmE (Bts.str (L++Bts.low b k));have hMl:M.length<=8*i+8:=by rw[<- hM,Bts.zfG,qaa,Bts.zat];omega
     rw[hM] at HR2 HLW;rw[hy];have HY2:=Hd hy2;clear hy hy2 hM;go_wp2_with (at_builtin;refine wpList_append_own _ rfl _ _ 62 rfl w.heap.size 5 i0 (.int .u8 0) 1 1 Tryz.underlying62 hi0 hz0 hz1 hz2 rfl (by decide) _ _ _ rfl (HR2.out.alloc _) ⟨wr.heap.size,0,none⟩ 1 1 [.int .u8 (48+(y:Int)%2)] rfl rfl ?c1 ?c2 ?c3 ?c4 ?c5 ?_)
     case c1=>exact (cell_one_new _ _ _)
     case c2=>intro u hu;simp at hu;subst hu;rfl
     case c3=>unfold maxLen;omega
     case c4=>omega
     case c5=>have:=HX2.out.size;simp;omega
     intro v' w' hown' hgrow _;have hE:Ext w w':=Below.trans (HX2.out.alloc _) ((Keeps.grown hgrow).below (HX2.out.alloc _).size (λ k hk e=>by have:=(HR2.out.lt k e).1;omega));have hO:w'.ownsRow w.heap.size 5 1 v' (Bts.str (L++Bts.low b (k+1))).length (zad (Bts.str (L++Bts.low b (k+1)))):=by
      rw[HLW.out];have e:Value.int IntKind.u8 (48+(y:Int)%2)=.int .u8 ((Bts.ch (y%2 ==1)).toNat:Int):=by
       rw[Bts.zhN,Bts.zgl];go_num
      have q:=hown';rw[e] at q;simpa [zad] using q
     have HE:=Hd hE;have HO:=Hd hO;clear hE hO hown' hgrow HR2 HX2;go_wp2_with fail;go_roundw
     case rel=>exact⟨k+1,by omega,by go_num,by rw[HY2.out];go_num,HO,HE⟩
     case measure=>simp[intOf];omega
    obtain rfl:k=8:=by omega
    go_wp2_with fail;go_roundw
    case rel=>exact⟨i+1,by omega,by go_num,by rw[HTS.out,HLL.out];exact HR2,HX2⟩
    case measure=>simp[intOf];omega
  obtain rfl:i=s.size:=by omega
  obtain⟨L,hL⟩:=nmE (Bts.str (Bts.allB (s.data.toList.take s.size)));have HBS:Hid (bs (Bts.allB s.data.toList)=⟨L.toArray⟩):=Hd (by rw[<- hL,qan (by simp)];exact zbe (by rw[zbh]));rw[hL] at HR;clear hL;rcases zah HR.out with⟨rfl,h0⟩ | ⟨g,cap,rfl⟩
  ·obtain rfl:=qav h0;have hcr:(convert 62 9 (.slice none 0 0)).run Tryz.prog wr=.ok (.string ⟨([]:List UInt8).toArray⟩) wr:=by
    rw[qcB wr 62 9 5 none 0 0 Tryz.underlying62 Tryz.underlying5 Tryz.underlying9];rfl
   go_wp2_with fail;go_ret;exact⟨by rw[HBS.out];rfl,HX.out⟩
  have hcr:(convert 62 9 (.slice (some ⟨g,0,none⟩) L.length cap)).run Tryz.prog wr=.ok (.string ⟨L.toArray⟩) wr:=by
   refine qbt (P:=Tryz.prog) wr 62 9 5 ⟨g,0,none⟩ _ L Tryz.underlying62 Tryz.underlying5 Tryz.underlying9 (λ j hj=>?_);rw[zae,HR.out.cellAt _ (by omega),zaN L _ hj]
  go_wp2_with fail;go_ret;exact⟨by rw[HBS.out];rfl,HX.out⟩
theorem zpy (L:List Bool) (s:ByteArray) (hs:s.data.toList=Bts.str L) (i:Nat) (h:i<s.size) (hL:i<L.length):s[i].toNat=48+(if L[i]=true then 1 else 0):=by
 rw[<- Bts.zhN];congr 1
 have e:s[i]=s.data.toList[i]'(by simpa using h):=rfl;rw[e];simp only[hs,Bts.str,List.getElem_map]
theorem zmS (L:List Bool) (w:World) (h:L.length<=32):
  Calls Tryz.prog 106 #[.string (bs L)] w λ e w'=>e=.returned (.int .u32 (Bts.val L:Int))/\w=w':=by
 have hz:=zb2 L;have hs:(bs L).size<=32:=by omega
 have HS:=Hd (zbh L);have HZ:=Hd hz;clear hz;generalize bs L=s at *;go_enter Tryz.func106,Tryz.ntmps106
 go_wp2_with fail;go_loop [3,4] (λ n c=>∃d:Nat,d<=s.size/\c=.int .i64 ((d:Int)-1)/\n=.int .u32 (Bts.val (L.drop d):Int)) (λ _ c=>(intOf c+1).toNat)
 case atStart=>exact⟨s.size,by omega,rfl,by rw[List.drop_of_length_le (by rw[HZ.out];exact qaj _)];rfl⟩
 case round=>
  obtain⟨d,hd,rfl,rfl⟩:=hrel;by_cases hlt:0<d
  ·obtain⟨j,rfl⟩:∃j,d=j+1:=⟨d-1,by omega⟩;have hjL:j<L.length:=by have:=HZ.out;omega
   have hb:=zpy L s HS.out j hd hjL;have hv:Bts.val (L.drop j)=(if L[j]=true then 1 else 0)+2*Bts.val (L.drop (j+1)):=by rw[List.drop_eq_getElem_cons hjL];rfl
   have hvl:Bts.val (L.drop j)<4294967296:=by
    refine qaA (Bts.zcy _) (qam (qaq (n:=2) (by decide) (?_:_<=32)) (by decide));rw[qbh];omega
   have hb2:(if L[j]=true then 1 else 0)<=1:=by split <;> omega
   obtain⟨b,hbb⟩:∃b,(if L[j]=true then 1 else 0)=b:=⟨_,rfl⟩;rw[hbb] at hb hv hb2;obtain⟨V,hV⟩:=nmE (Bts.val (L.drop (j+1)));rw[hV] at hv;have HV:=Hd hv;have hVl:b+2*V<4294967296:=by rw[<- hv];exact hvl
   clear hv hvl hbb;rw[show (((j+1:Nat):Int)-1)=(j:Int) by omega,hV];clear hV;go_wp2_with fail;go_round
   case rel=>exact⟨j,by omega,rfl,by rw[HV.out];go_num⟩
   case measure=>first | (simp[intOf];done) | (simp[intOf];omega)
  obtain rfl:d=0:=by omega
  rw[show (((0:Nat):Int)-1)= -1 by omega];go_wp2_with fail;go_ret;exact⟨by simp,rfl⟩
attribute [local go_sem ↓] Go.wp_at_zero Go.wp_at_succ
theorem zln {w:World} {base:Nat} {e:TypeId} {size:Nat} {v:Value} {n:Nat} {xs:List Value} (h:w.ownsRow base e size v n xs):∃x c,v=.slice x n c:=by
  rcases zah h with⟨h1,h2⟩ | ⟨g,cap,h1⟩
  · exact⟨none,0,by rw[h1,h2]⟩
  exact⟨_,cap,h1⟩
structure EAt (w wr:World) (W H:Int) (v:Value) (k:Nat) (px:Nat->P4):Prop where
  ext:Ext w wr
  res:PicAt wr w.heap.size 0 0 (.slice none 0 0)
  pic:PicAt wr (w.heap.size+1) W H v
  fr:∀j,wr.frozen? ⟨w.heap.size,j,none⟩=false
  fp:∀j,wr.frozen? ⟨w.heap.size+1,j,none⟩=false
  own:wr.ownsRow w.heap.size 53 4 v k (pxV k px)
  ne:v.ownBlock≠some w.heap.size/\v.ownBlock≠some (w.heap.size+1)
theorem ze0 (a:Addr) (i c:Nat) (hc:c≠0):a.add (i*4+c)=⟨(a.add (i*4)).block,(a.add (i*4)).off+c,none⟩:=by
 unfold Addr.add;rw[qac (by omega)];split
 ·rename_i h;have:i=0:=by omega
  subst this;simp
 simp[qa6]
theorem Pxs.cells {w:World} {a:Addr} {n:Nat} {px:Nat->P4} (h:Pxs w (some a) n px) (j:Nat) (u:Value) (hj:(pxV n px)[j]? =some u):w.cell? (a.add j)=some u:=by
 have hl:j<n*4:=by
  rcases qa8 j (n*4) with q | q
  ·exact q
  rw[qba (by rw[zk9];exact q)] at hj;cases hj
 rw[zdy _ _ _ hl] at hj;injection hj with hj;subst hj;obtain⟨c0,c1,c2,c3,_⟩:=h.2 a rfl (j/4) (by omega);obtain⟨i,c,rfl,hc⟩:∃i c,j=i*4+c/\c<4:=⟨j/4,j%4,by omega,by omega⟩;rw[show (i*4+c)/4=i by omega] at c0 c1 c2 c3;match c,hc with
 | 0,_=>rw[qcd,cellP_0];exact c0
 | 1,_=>rw[cellP_1,ze0 _ _ _ (by decide)];exact c1
 | 2,_=>rw[cellP_2,ze0 _ _ _ (by decide)];exact c2
 | 3,_=>rw[cellP_3,ze0 _ _ _ (by decide)];exact c3
theorem zeO (W H:Int) (x y:Option Addr) (n cap cap':Nat) (px:Nat->P4) (w:World) (hx:Pxs w x n px) (hy:Pxs w y n px) (hn:n<=10000000):
  Calls Tryz.prog 11 #[.agg #[.int .i64 W,.int .i64 H,.slice x n cap],.agg #[.int .i64 W,.int .i64 H,.slice y n cap']] w λ e w'=>e=.returned (.bool true)/\Ext w w':=by
 have hE:Ext w ((w.alloc (.cells #[.int .i64 W,.int .i64 H,.slice x n cap] 24)).alloc (.cells #[.int .i64 W,.int .i64 H,.slice y n cap'] 24)):=((Ext.refl _).alloc _).alloc _;have HX:=Hd (hx.ext hE);have HY:=Hd (hy.ext hE);have HE:=Hd hE;have P1:=Hd ((PicAt.new w W H (.slice x n cap) 24).ext ((Ext.refl _).alloc (.cells #[.int .i64 W,.int .i64 H,.slice y n cap'] 24)));have P2:Hid (PicAt ((w.alloc (.cells #[.int .i64 W,.int .i64 H,.slice x n cap] 24)).alloc (.cells #[.int .i64 W,.int .i64 H,.slice y n cap'] 24)) (w.heap.size+1) W H (.slice y n cap')):=Hd (by
  have:=PicAt.new (w.alloc (.cells #[.int .i64 W,.int .i64 H,.slice x n cap] 24)) W H (.slice y n cap') 24;rwa [qb8] at this)
 have t1:(W !=W)=false:=by simp
 have t2:(H !=H)=false:=by simp
 have t3:((n:Int) !=(n:Int))=false:=by simp
 clear hx hy hE;go_enter Tryz.func11,Tryz.ntmps11
 go_wp2_with fail;clear t1 t2 t3;generalize ((w.alloc (.cells #[.int .i64 W,.int .i64 H,.slice x n cap] 24)).alloc (.cells #[.int .i64 W,.int .i64 H,.slice y n cap'] 24))=w2 at *;go_loopw [5] (λ c wr=>∃(i m:Nat),i<=n/\c=.int .i64 i/\wr=w2.drewN m) (λ c _=>n-(intOf c).toNat)
 case atStart=>exact⟨0,0,by omega,rfl,rfl⟩
 case round=>
  obtain⟨i,m,hi,rfl,rfl⟩:=hrel;have p2:=P1.out.c2;have r2:=P2.out.c2;by_cases hlt:i<n
  ·obtain⟨a,rfl⟩:=HX.out.isSome hlt;obtain⟨b,rfl⟩:=HY.out.isSome hlt;obtain⟨a0,a1,a2,a3,_⟩:=HX.out.2 a rfl i hlt;obtain⟨b0,b1,b2,b3,_⟩:=HY.out.2 b rfl i hlt;go_wp2_with fail;go_quiet (fail)
   go_wp2_with fail;go_roundw
   case rel=>exact⟨i+1,_,by omega,by go_num,rfl⟩
   case measure=>simp[intOf];omega
  obtain rfl:i=n:=by omega
  go_wp2_with fail;go_ret;exact⟨rfl,Ext.drewN HE.out _⟩
end Go.Proofs.YthlibiocadimhaaGreatDoor
namespace Go.Proofs.YthlibiocadimhaaGreatDoor
open Go Go.RowKit Go.Lib
theorem zdr {P:Program} (w:World) (t tn ty e:TypeId) (i:TypeInfo) (z:Value) (kq kn:IntKind) (ht:P.underlying t=some (.slice e)) (htn:P.underlying tn=some (.int kn)) (hi:P.info? e=some i) (hz:i.zero=some z)
  (g sLen sCap:Nat) (cur:Array Value) (hg:w.heap[g]? =some (.cells cur e (0,0))) (k:Nat) (h0:0<k) (hs:0<i.size) (h63:(k:Int)<=9223372036854775807) (h48:k*i.bytes<=281474976710656)
  (news:List Value) (hnews:news=(Builtin.zeroCells z.cells k).toList) (h1:∀u∈news,u.oneCell'=true)
  (hroom:sLen+k<=sCap) (hfit:sLen*i.size+news.length<=cur.size):
  (Builtin.append_ #[t,tn] ty #[.slice (some ⟨g,0,none⟩) sLen sCap,.int kq k]).run P w=
   .ok (.slice (some ⟨g,0,none⟩) (sLen+k) sCap) (w.setRow g (cur.toList.take (sLen*i.size)++news++cur.toList.drop (sLen*i.size+news.length)).toArray):=by
 have hk:k≠0:=by omega
 have hw:IntKind.i64.wrap (k:Int)=k:=by rw[qal];omega
 have h48i:¬ (281474976710656<(k:Int)*(i.bytes:Int)):=by
  rw[<- Int.natCast_mul];omega
 have hneg:¬ ((k:Int)<0):=by omega
 have hns:¬ (k*i.size=0):=Nat.mul_ne_zero hk (by omega);have hst:=run_storeCells_at P g (sLen*i.size) e news 0 cur w hg (by simpa using hfit) h1;simp only[qcd] at hst;rw[hnews] at hst⊢;simp[Builtin.append_,qbO ht,qbO htn,sizeOf,typeInfo,zeroValue,hi,hz,asInt,asIntOf,hw,hneg,hns,h48i,hroom,Addr.add_lit,hst]
theorem zd2 {P:Program} (w:World) (base:Nat) (t tn ty e:TypeId) (i:TypeInfo) (z:Value) (size bytes:Nat) (kq kn:IntKind) (ht:P.underlying t=some (.slice e)) (htn:P.underlying tn=some (.int kn)) (hi:P.info? e=some i) (hz:i.zero=some z)
  (hsize:i.size=size) (hby:i.bytes=bytes) (hzs:z.cells.size=size) (hsz:0<size)
  (v:Value) (n:Nat) (xs:List Value) (hown:w.ownsRow base e size v n xs)
  (m:Nat) (h0:0<m) (news:List Value) (hnews:news=(Builtin.zeroCells z.cells m).toList) (h1:∀u∈news,u.oneCell'=true)
  (h63:n+m<=maxLen) (hbytes:(n+m)*bytes<=140737488355328) (hbase:base<=w.heap.size):
  ∃v' w',(Builtin.append_ #[t,tn] ty #[v,.int kq m]).run P w=.ok v' w'/\w'.ownsRow base e size v' (n+m) (xs++news)/\w.grownBy w' v.ownBlock/\(v'.ownBlock=v.ownBlock\/v'.ownBlock=some w.heap.size):=by
 subst hsize;subst hby
 have hl:news.length=m*i.size:=by rw[hnews,qcq,size_zeroCells,hzs]
 have hsmall:n+m<=9223372036854775807:=by simp only[maxLen] at h63;omega
 have h48:m*i.bytes<=281474976710656:=qam (qaW _ (Nat.le_add_left m n)) (by omega);have hlen:(xs++news).length=(n+m)*i.size:=by rw[qaa,hown.1,hl,qbZ]
 have ea:Builtin.zeroCells z.cells m=news.toArray:=by rw[hnews]
 have grown:∀(old:Nat),old<n+m->∀(row:Option Nat),
   (w.drew.alloc (.cells (xs.toArray++Builtin.zeroCells z.cells m++Builtin.zeroCells z.cells (grownCap w (n+m) old e-(n+m))) e)).ownsRow base e i.size
    (.slice (some ⟨w.heap.size,0,none⟩) (n+m) (grownCap w (n+m) old e)) (n+m) (xs++news)/\
   w.grownBy (w.drew.alloc (.cells (xs.toArray++Builtin.zeroCells z.cells m++Builtin.zeroCells z.cells (grownCap w (n+m) old e-(n+m))) e)) row:=by
  intro old ho row;rw[ea];have hge:=grownCap_ge w (n+m) old e;have hcm:grownCap w (n+m) old e<=maxLen:=grownCap_le_maxLen w (n+m) old e h63;refine⟨⟨hlen,.inr ⟨w.heap.size,_,_,rfl,hbase,qbP w.drew _,hge,hcm,?_,?_⟩⟩,⟨rfl,rfl,rfl,by simp,λ k hk _=>Go.heap_alloc_old w.drew _ hk⟩⟩
  ·simp only[Array.size_append,qb5,size_zeroCells,hzs,hown.1,hl,<- qbZ];congr 1
   omega
  simp only[Array.toList_append,qat];rw[<- qat,<- hlen];exact List.take_left
 rcases hown.2 with⟨rfl,rfl⟩ | ⟨g,cap,cur,rfl,hbg,hg,hnc,hcm,hcs,htake⟩
 ·have hx:xs=[]:=qav (by simpa using hown.1);subst hx;have hr:=run_append_nil_zeros (P:=P) w t tn ty e i z kq kn ht htn hi hz m h0 (by omega) (by omega) h48;have hgr:=grown 0 (by omega) (Value.ownBlock (.slice none 0 0));simp only[Nat.zero_add,qbx,Array.empty_append] at hgr⊢;exact⟨_,_,hr,hgr.1,hgr.2,Or.inr rfl⟩
 by_cases hroom:n+m<=cap
 ·have hfit:n*i.size+news.length<=cur.size:=by rw[hl,hcs,<- qbZ];exact qaW _ hroom
  have hr:=zdr (P:=P) w t tn ty e i z kq kn ht htn hi hz g n cap cur hg m h0 (by omega) (by omega) h48 news hnews h1 hroom hfit;refine⟨_,_,hr,⟨hlen,.inr ⟨g,cap,_,rfl,hbg,setRow_heap w g cur _ e _ hg,hroom,hcm,?_,?_⟩⟩,⟨rfl,rfl,rfl,by simp,λ k _ hk=>setRow_other w g k _ (λ e=>hk (by simp[Value.ownBlock,e]))⟩,Or.inl rfl⟩
  ·simp only[qb5,qaa,qax,qbh,qcq];omega
  rw[htake,<- hlen];exact List.take_left
 have holds:∀j u,xs[j]? =some u->w.drew.cell? ((⟨g,0,none⟩:Addr).add j)=some u:=hown.cells (g:=g) rfl;have hold:=run_firstCells_some (P:=P) w.drew i.size n ⟨g,0,none⟩ n cap xs hown.1 holds;have hr:=run_append_grow_zeros (P:=P) w t tn ty e i z kq kn ht htn hi hz (some ⟨g,0,none⟩) n cap xs hold m h0 (by omega) (by omega) (by omega) h48 (growslice_fits (by omega) hbytes);have hgr:=grown cap (by omega) (Value.ownBlock (.slice (some ⟨g,0,none⟩) n cap));exact⟨_,_,hr,hgr.1,hgr.2,Or.inr rfl⟩
theorem zdp {P:Program} (w:World) {ops:Array Oper} {rest:List Oper} {o:Oper} {a:Act} {Q:Exit->Act->World->Prop} (hgd:o.guard=none) (s x:Operand) (t tn:TypeId)
  (ho:o.op=.call { callee:=.builtin .append,args:=#[s,x],argTypes:=#[t,tn] })
  (base:Nat) (e:TypeId) (i:TypeInfo) (z:Value) (size bytes:Nat) (kq kn:IntKind) (ht:P.underlying t=some (.slice e)) (htn:P.underlying tn=some (.int kn)) (hi:P.info? e=some i) (hz:i.zero=some z)
  (hsize:i.size=size) (hby:i.bytes=bytes) (hzs:z.cells.size=size) (hsz:0<size)
  (v:Value) (n:Nat) (xs:List Value) (hs:a.eval s=v) (hown:w.ownsRow base e size v n xs)
  (m:Nat) (hx:a.eval x=.int kq m) (h0:0<m) (news:List Value) (hnews:news=(Builtin.zeroCells z.cells m).toList) (h1:∀u∈news,u.oneCell'=true)
  (h63:n+m<=maxLen) (hbytes:(n+m)*bytes<=140737488355328) (hbase:base<=w.heap.size)
  (h:∀v' w',w'.ownsRow base e size v' (n+m) (xs++news)->w.grownBy w' v.ownBlock->(v'.ownBlock=v.ownBlock\/v'.ownBlock=some w.heap.size)->wpList P ops Q rest (a.put o.dst v') w'):
  wpList P ops Q (o ::rest) a w:=by
 refine wpList_plain hgd λ K hK=>?_;obtain⟨v',w',hr,h2,h3,h5⟩:=zd2 (P:=P) w base t tn o.type e i z size bytes kq kn ht htn hi hz hsize hby hzs hsz v n xs hown m h0 news hnews h1 h63 hbytes hbase;unfold Oper.wp execOp;simp only[ho,resolve,invoke,builtin,qbu,qbM,qas,qbg,qaG,qa9,hs,hx,hr];exact hK _ _ (h v' w' h2 h3 h5)
theorem ziZ (k:Nat):zad (List.replicate k 0)=(Builtin.zeroCells (Value.int .u8 0).cells k).toList:=by
 have e:(Value.int .u8 0).cells=#[.int .u8 0]:=rfl;rw[e];unfold zad Builtin.zeroCells;refine List.ext_getElem (by simp) (λ j h1 h2=>?_);simp[qcI]
end Go.Proofs.YthlibiocadimhaaGreatDoor
namespace Go.Proofs.YthlibiocadimhaaGreatDoor
open Go.RowKit
theorem zhK (x k:Nat) (hx:x<4294967296) (hk:k<=64) (w:World):Calls Tryz.prog 46 #[.int .u32 (x:Int),.int .i64 (k:Int)] w λ e w'=>e=.returned (.string (bs (Bts.high x k)))/\Ext w w':=by
  go_enter Tryz.func46,Tryz.ntmps46
  go_wp2_with fail;rw[show ({ data:=#[] }:ByteArray)=bs [] from zl3];go_loopw [0,5,6] (λ p o c wr=>∃i:Nat,i<=k/\c=.int .i64 i/\p=.int .u32 ((x/2^i:Nat):Int)/\o=.string (bs (Bts.high x i))/\Hid (Ext w wr)) (λ _ _ c _=>k-(intOf c).toNat)
  case atStart=>exact⟨0,by omega,rfl,by simp,rfl,Hd (Ext.refl w)⟩
  case round=>
    obtain⟨i,hi,rfl,rfl,rfl,HX⟩:=hrel;by_cases hlt:i<k
    · obtain⟨y,hy⟩:=nmE (x/2^i);have hy2:x/2^(i+1)=y/2:=by rw[qa1,<- qbF,hy]
      have hyl:y<4294967296:=by rw[<- hy];exact qct (qcy _ _) hx
      have HL:Hid (bs [y%2 ==1]++bs (Bts.high x i)=bs (Bts.high x (i+1))):=Hd (by rw[zlW,Bts.high,hy];rfl);have hz1:(bs (Bts.high x i)).size<=64:=by rw[zb2,Bts.zaD];omega
      have hz2:(bs [y%2 ==1]).size=1:=by rw[zb2];rfl
      rw[hy];have HY2:=Hd hy2;clear hy hy2;go_wp2_with fail;refine (zpE y _).mono ?_;rintro e w2 ⟨rfl,hE⟩;have HX2:=Hd (HX.out.trans hE);clear hE;go_wp2_with fail;rw[HL.out];go_roundw
      case rel=>exact⟨i+1,by omega,by go_num,by rw[HY2.out];go_num,rfl,HX2⟩
      case measure=>simp[intOf];omega
    obtain rfl:i=k:=by omega
    go_wp2_with fail;go_ret;exact⟨rfl,HX.out⟩
end Go.Proofs.YthlibiocadimhaaGreatDoor
namespace Go.Proofs.YthlibiocadimhaaGreatDoor
open Go.ChangeShapes Go.WideShapes Go.ChangeAt Go.RowKit
theorem zeJ {H:Type} {enc:TypeId × Value->H} {P:Program} (hl:laidOutB P=true) {W W':World} (sp:Nat->Bool) (hB:Below W.heap.size W W'):
  ∀(ts:List TypeId) (vs:List Value) (ds:List (DataW H)) (ps:List MemPlace),
   (∀t∈ts,P.readableRec t=true/\t<P.types.size)->(∀p∈ps,p.block<W.heap.size)->(∀p∈ps,sp p.block=true)->
   DataW.TrodAll enc P W 0 (λ _=>true) true ts vs ds ps->DataW.TrodAll enc P W' 0 sp true ts vs ds ps
 | [],[],[],_,_,_,_,h=>h
 | t ::ts,v ::vs,d ::ds,ps,hr,hlt,hsp,h=>by
  obtain⟨p,q,h1,h2,rfl⟩:=h;have ht:=hr t (qbc ..);refine⟨p,q,?_,?_,rfl⟩
  ·exact WideElems.Trod_stays hl ht.1 ht.2 h1 (λ x hx=>hB.same (hlt x (qcl _ hx))) (λ x hx=>hsp x (qcl _ hx))
  exact zeJ hl sp hB ts vs ds q (λ t' ht'=>hr t' (qaQ _ ht')) (λ x hx=>hlt x (List.mem_append_right _ hx)) (λ x hx=>hsp x (List.mem_append_right _ hx)) h2
 | [],[],_ ::_,_,_,_,_,h=>h.elim
 | [],_ ::_,_,_,_,_,_,h=>h.elim
 | _ ::_,[],_,_,_,_,_,h=>h.elim
 | _ ::_,_ ::_,[],_,_,_,_,h=>h.elim
theorem znm {H:Type} {enc:TypeId × Value->H} {P:Program} (hl:laidOutB P=true) {f:Func} {s:ChangeSpec} {apart fresh handsOn:Bool} {W W':World} {args:Array Value} {ds:List (DataW H)} {before:List MemPlace} {tb:TypeId}
  (hW:DataW.Whole enc P f.params.toList s.vars apart W args.toList ds [] before) (hv:s.vars=[])
  (hfn:s.fn H (ds ++ [])= { results:=[.lit (.bool true)],args:=ds })
  (hread:f.params.toList.all (λ t=>P.readableRec t&&decide (t<P.types.size))=true)
  (hres:f.resultTypes=#[tb]) (hb:P.underlying tb=some .bool) (hB:Below W.heap.size W W'):
  s.post enc P f apart fresh handsOn false W args (.bool true) W':=by
 have hlt:∀p∈before,p.block<W.heap.size:=λ p hp=>hW.lt p hp;have hr:∀t∈f.params.toList,P.readableRec t=true/\t<P.types.size:=by
  intro t ht;have:=List.all_eq_true.1 hread t ht;simpa using this
 have hW0:=hW;obtain⟨p,q,hA,hV,hpq,hfz,hnd⟩:=hW;rw[hv] at hV;have hq:q=[]:=by simpa [DataW.TrodVars] using hV
 subst hq;rw[qbW] at hpq;subst hpq;have hargs:∀sp:Nat->Bool,(∀x∈before,sp x.block=true)->DataW.TrodAll enc P W' 0 sp true f.params.toList args.toList ds before:=
  λ sp hsp=>zeJ hl sp hB _ _ _ _ hr hlt hsp hA
 have hold:∀x∈before,(λ b=>decide (b<W.heap.size)) x.block=true:=λ x hx=>by simpa using hlt x hx
 have hresults:∀(b:Nat) (sp:Nat->Bool) (hd:Bool),DataW.TrodAll enc P W' b sp hd f.resultTypes.toList ((Value.bool true).resultList f.resultTypes.size) [.lit (.bool true)] []:=by
  intro b sp hd;rw[hres];exact trodAll_mk1 (shut_bool hb true)
 refine⟨ds,[],before,[],before,[],hW0,?_,?_,?_,World.keptBut_mono (λ x hx=>⟨hx,?_⟩) (hB.frame (·∈before)),λ _=>?_⟩
 ·rw[hfn];exact hresults _ _ _
 ·rw[hfn];exact hargs _ hold
 ·rw[hfn,hv];rfl
 ·exact Or.inr (Or.inl hx)
 cases ‹false=true›
end Go.Proofs.YthlibiocadimhaaGreatDoor
