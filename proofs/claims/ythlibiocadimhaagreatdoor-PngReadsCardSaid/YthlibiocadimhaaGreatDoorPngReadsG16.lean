/-
  deflate.runs: how a row of lengths is written.
  inflate: a stored block.
-/
import Derived.Test.YthlibiocadimhaaGreatDoorPngReadsG8
set_option linter.all false
set_option maxRecDepth 100000
namespace Go.Proofs.YthlibiocadimhaaGreatDoor
open Go.RowKit
theorem Ycs0 {p:Prop} (h:p:=by
 exact (Dfl.zcP k d (λ j h1 h2=>h.eq j (by have:=h.lo;omega) (by omega)) (by have:=h.le;omega)).symm):p:=h
theorem Ycs1 {p:Prop} (h:p:=by
 clear hown hgrow hat HRL hzc;go_wp2_with fail;go_roundw
 case rel=>exact⟨d+k,r-k,_,by go_num,by omega,HA2,HN⟩
 case measure=>simp[intOf];omega):p:=h
theorem Ycs2 {p:Prop} (h:p:=by
 have wr2:IntKind.i64.wrap ((r:Int)-1)=((r-1:Nat):Int):=by rw[qal];omega
 have HA2:=Hd (HA.out.one (by omega));obtain⟨K,hK⟩:=nmE (rs.length);have HRL:=Hd (show wr.ownsRow w.heap.size 191 3 u3 K (rnV rs) from hK▸HR.out.row);have hKb:K<=1000:=by rw[<- hK];exact HKB.out
 have hzc:w.heap.size<=wr.heap.size:=HR.out.ext.size;go_wp2_with (at_builtin;refine apA (HRL.out.alloc _) [.int .i64 (y:Int),.int .i64 ((0:Nat):Int),.int .i64 ((0:Nat):Int)] ?_);intro v4 w4 hown hgrow _ hat;have HN:=Hd (HR.out.push ⟨y,(0:Nat),(0:Nat)⟩ (by rw[hK];exact hown) hgrow);clear hown hgrow hat HRL hzc;go_wp2_with fail;go_roundw
 case rel=>exact⟨d+1,r-1,_,by go_num,by omega,HA2,HN⟩
 case measure=>simp[intOf];omega):p:=h
def rnV (rs:List Dfl.Rn):List Value:=rs.flatMap λ r=> [.int .i64 (r.s:Int),.int .i64 (r.m:Int),.int .i64 (r.b:Int)]
theorem znP (rs:List Dfl.Rn) (r:Dfl.Rn):rnV (rs ++ [r])=rnV rs ++ [.int .i64 (r.s:Int),.int .i64 (r.m:Int),.int .i64 (r.b:Int)]:=by simp[rnV]
theorem zqy:(Tryz.prog.info? 191).map (λ i=>(i.zero,i.size,i.bytes))=some (some (.agg #[.int .i64 0,.int .i64 0,.int .i64 0]),3,24):=by kernel_rfl
structure RR (w wr:World) (v:Value) (rs:List Dfl.Rn):Prop where
 ext:Ext w wr
 row:wr.ownsRow w.heap.size 191 3 v rs.length (rnV rs)
theorem RR.drew {w wr:World} {v:Value} {rs:List Dfl.Rn} (h:RR w wr v rs):RR w wr.drew v rs:=⟨qag h.ext,zaa h.row (Keeps.drew (S:=λ _=>False) (Keeps.refl _ _)) (λ _ _=>id)⟩
theorem RR.grow {w wr w':World} {v:Value} {rs:List Dfl.Rn} (h:RR w wr v rs) (hE:Ext wr w'):RR w w' v rs:=⟨h.ext.trans hE,zaa h.row hE.keeps (S:=λ _=>False) (λ _ _=>id)⟩
theorem RR.push {w wr w':World} {v v':Value} {rs:List Dfl.Rn} {ob:Obj} (h:RR w wr v rs) (r:Dfl.Rn) (ho:w'.ownsRow w.heap.size 191 3 v' (rs.length+1) (rnV rs ++ [.int .i64 (r.s:Int),.int .i64 (r.m:Int),.int .i64 (r.b:Int)])) (hg:(wr.alloc ob).grownBy w' v.ownBlock):RR w w' v' (rs ++ [r]):=by
 refine⟨Below.trans (h.ext.trans ((Ext.refl wr).alloc ob)) ((Keeps.grown hg).below (h.ext.trans ((Ext.refl wr).alloc ob)).size (λ k hk e=>by have:=(qbv h.row k e).1;omega)),?_⟩;rw[qaa,qby,znP];exact ho
def zoP (w:World) (l:List Nat) (e:Ending) (w':World):Prop:=∃v rs,e=.returned v/\RR w w' v rs/\Dfl.Says [] rs l
structure RnAt (l:List Nat) (a e x d:Nat) (rs:List Dfl.Rn):Prop where
 says:Dfl.Says [] rs (l.take d)
 lo:a<=d
 hi:d<=e
 le:e<=l.length
 eq:∀j,a<=j->j<e->l.getD j 0=x
 pos:0<x->a<d
 small:x<=15
theorem RnAt.one {l:List Nat} {a e x d:Nat} {rs:List Dfl.Rn} (h:RnAt l a e x d rs) (hd:d<e):RnAt l a e x (d+1) (rs ++ [⟨x,0,0⟩]):=by
 refine⟨h.says.push (.inl ⟨h.small,rfl,rfl,?_⟩),by have:=h.lo;omega,hd,h.le,h.eq,λ _=>by have:=h.lo;omega,h.small⟩;exact (Dfl.zcP 1 d (λ j h1 h2=>h.eq j (by have:=h.lo;omega) (by omega)) (by have:=h.le;omega)).symm
theorem RnAt.eighteen {l:List Nat} {a e x d k:Nat} {rs:List Dfl.Rn} (h:RnAt l a e x d rs) (h0:x=0) (hk:11<=k) (hk2:k<=138) (hd:d+k<=e):RnAt l a e x (d+k) (rs ++ [⟨18,k-11,7⟩]):=by
 subst h0;refine⟨h.says.push (.inr (.inr (.inr ⟨rfl,rfl,by show k-11<128;omega,?_⟩))),by have:=h.lo;omega,hd,h.le,h.eq,λ q=>by omega,h.small⟩;rw[show 11+(k-11)=k by omega];exact Ycs0
theorem RnAt.seventeen {l:List Nat} {a e x d k:Nat} {rs:List Dfl.Rn} (h:RnAt l a e x d rs) (h0:x=0) (hk:3<=k) (hk2:k<=10) (hd:d+k<=e):RnAt l a e x (d+k) (rs ++ [⟨17,k-3,3⟩]):=by
 subst h0;refine⟨h.says.push (.inr (.inr (.inl ⟨rfl,rfl,by show k-3<8;omega,?_⟩))),by have:=h.lo;omega,hd,h.le,h.eq,λ q=>by omega,h.small⟩;rw[show 3+(k-3)=k by omega];exact Ycs0
theorem RnAt.sixteen {l:List Nat} {a e x d k:Nat} {rs:List Dfl.Rn} (h:RnAt l a e x d rs) (hx:0<x) (hk:3<=k) (hk2:k<=6) (hd:d+k<=e):RnAt l a e x (d+k) (rs ++ [⟨16,k-3,2⟩]):=by
 have hp:=h.pos hx;have hl:=h.le;refine⟨h.says.push (.inr (.inl ⟨rfl,rfl,by show k-3<4;omega,?_,?_⟩)),by omega,hd,h.le,h.eq,λ q=>by omega,h.small⟩
 ·intro e0;have:=congrArg List.length e0;rw[qax,List.length_nil] at this;omega
 rw[Dfl.zl9 (by omega) (by omega),h.eq (d-1) (by omega) (by omega),show 3+(k-3)=k by omega];exact (Dfl.zcP k d (λ j h1 h2=>h.eq j (by omega) (by omega)) (by omega)).symm
set_option maxHeartbeats 8000000 in
theorem zmX (x:Option Addr) (n cap:Nat) (l:List Nat) (w:World) (hl:l.length=n) (hx:Ints w x n (Inf.fn l)) (hn:n<=1000) (hb:∀j,j<n->l.getD j 0<=15):
  Calls Tryz.prog 129 #[.slice x n cap] w λ e w'=>zoP w l e w':=by
 have HI:=Hd hx;have HBD:=Hd hb;have HLn:=Hd hl;obtain⟨j0,hj0,hj1,hj2,hj3⟩:=qbb zqy;clear hx hb hl;go_enter Tryz.func129,Tryz.ntmps129
 go_wp2_with fail;go_loopw [3,4] (λ ov iv wr=>∃(a:Nat) (rs:List Dfl.Rn),iv=.int .i64 (a:Int)/\a<=n/\Hid (RR w wr ov rs)/\Hid (Dfl.Says [] rs (l.take a))) (λ _ iv _=>n-(intOf iv).toNat)
 case atStart=>exact⟨0,[],rfl,by omega,Hd ⟨Ext.refl _,qaK _ _ _ _⟩,Hd (.nil _)⟩
 case round=>
  obtain⟨a,rs,rfl,ha,HR,HS⟩:=hrel;by_cases hlt:a<n
  ·have t0:=dT (p:=(a:Int)<(n:Int));obtain⟨A,rfl⟩:∃A,x=some A:=by
    cases x with
    | none=>have:=HI.out.1 rfl;omega
    | some A=>exact⟨A,rfl⟩
   obtain⟨y,hy⟩:=nmE (l.getD a 0);have hy15:y<=15:=by rw[<- hy];exact HBD.out a hlt
   have HY:=Hd hy;clear hy;have hai:(0:Int)<=(a:Int):=by omega
   have hani:(a:Int)<(n:Int):=by omega
   go_upto_block 2 with fail;go_cut [5] (λ s5 wx=>∃m:Nat,s5=.int .i64 (m:Int)/\1<=m/\a+m<=n/\Hid (∀j,a<=j->j<a+m->l.getD j 0=y)/\Hid (RR w wx u3 rs))
   case first=>
    go_wp2_with fail;go_loopw [5] (λ s5 wx=>∃m:Nat,s5=.int .i64 (m:Int)/\1<=m/\a+m<=n/\Hid (∀j,a<=j->j<a+m->l.getD j 0=y)/\Hid (RR w wx u3 rs)) (λ s5 _=>n-(intOf s5).toNat)
    case atStart=>
     refine⟨1,rfl,qaj _,by omega,Hd (λ j h1 h2=>?_),HR⟩;have e1:j=a:=by omega
     rw[e1];exact HY.out
    case round=>
     clear HR;obtain⟨m,rfl,hm1,hm2,HE,HR⟩:=hrel;obtain⟨s,hs⟩:=nmE (a+m);have es:(a:Int)+(m:Int)=(s:Int):=by omega
     have ws:IntKind.i64.wrap (s:Int)=(s:Int):=by rw[qal];omega
     have wm:IntKind.i64.wrap ((m:Int)+1)=((m+1:Nat):Int):=by rw[qal];omega
     have HSe:=Hd hs;clear hs;by_cases hsn:s<n
     ·have t1:=dT (p:=(s:Int)<(n:Int));have hsi:(0:Int)<=(s:Int):=by omega
      have hsni:(s:Int)<(n:Int):=by omega
      obtain⟨z,hz⟩:=nmE (l.getD s 0);have hcI:=HI.out.ext HR.out.ext;have k0:wr.cell? (A.add a)=some (.int .i64 (y:Int)):=by have:=(hcI.2 A rfl a hlt).1;rw[this];unfold Inf.fn;rw[HY.out]
      have k1:wr.cell? (A.add s)=some (.int .i64 (z:Int)):=by have:=(hcI.2 A rfl s hsn).1;rw[this];unfold Inf.fn;rw[hz]
      have HZ:=Hd hz;have HR2:=Hd HR.out.drew;clear hz hcI;by_cases hzy:z=y
      ·have t2:((z:Int) ==(y:Int))=true:=qbl.2 (by omega);have HE2:Hid (∀j,a<=j->j<a+(m+1)->l.getD j 0=y):=Hd (λ j h1 h2=>by
        rcases qa8 j (a+m) with q | q
        ·exact HE.out j h1 q
        have:j=s:=by have:=HSe.out;omega
        rw[this,HZ.out,hzy])
       clear hzy HR;go_wp2_with fail;refine rgQ ?_;refine qY ?_;refine qY ?_;refine qY ?_;refine qY ?_;refine qY ?_;refine qY ?_;refine qY ?_;refine qY ?_;refine qY ?_;refine qY ?_;refine qY ?_;refine qY ?_;refine qY ?_;refine qY ?_;refine qY ?_;refine qY ?_;refine qY ?_;refine qY ?_;refine qY ?_;refine zaf ?_;clear k0 k1;go_wp2_with fail;refine⟨⟨m+1,rfl,by omega,by have:=HSe.out;omega,HE2,HR2⟩,by have:=HSe.out;simp[intOf];omega⟩
      have t2:((z:Int) ==(y:Int))=false:=qak.2 (by omega);clear hzy HR;go_wp2_with fail;refine rgQ ?_;refine qY ?_;refine qY ?_;refine qY ?_;refine qY ?_;refine qY ?_;refine qY ?_;refine qY ?_;refine qY ?_;refine qY ?_;refine qY ?_;refine qY ?_;refine qY ?_;refine qY ?_;refine qY ?_;refine qY ?_;refine qY ?_;refine qY ?_;refine qY ?_;refine qY ?_;refine zaf ?_;clear k0 k1;go_wp2_with fail;go_meet
      exact⟨m,rfl,hm1,hm2,HE,HR2⟩
     have t1:=dF (p:=(s:Int)<(n:Int));have HR2:=Hd HR.out.drew;clear HR;go_wp2_with fail;refine rgQ ?_;refine qY ?_;refine qY ?_;refine qY ?_;refine qY ?_;refine qY ?_;refine qY ?_;refine qY ?_;refine qN ?_;refine qN ?_;refine qN ?_;refine qN ?_;refine qN ?_;refine qN ?_;refine qN ?_;refine qN ?_;refine qN ?_;refine qN ?_;refine qN ?_;refine qY ?_;refine zaf ?_;go_wp2_with fail;go_meet
     exact⟨m,rfl,hm1,hm2,HE,HR2⟩
   clear HR;obtain⟨m,rfl,hm1,hm2,HE,HR⟩:=hcut;obtain⟨e,he⟩:=nmE (a+m);have ee:(a:Int)+(m:Int)=(e:Int):=by omega
   have we:IntKind.i64.wrap (e:Int)=(e:Int):=by rw[qal];omega
   have wm1:IntKind.i64.wrap ((m:Int)-1)=((m-1:Nat):Int):=by rw[qal];omega
   have k0:wc.cell? (A.add a)=some (.int .i64 (y:Int)):=by have:=((HI.out.ext HR.out.ext).2 A rfl a hlt).1;rw[this];unfold Inf.fn;rw[HY.out]
   have HEe:=Hd he;have HRA:Hid (a<e/\e<=n/\∀j,a<=j->j<e->l.getD j 0=y):=Hd ⟨by omega,by omega,by rw[<- he];exact HE.out⟩;have HKB:=Hd (show rs.length<=1000 from by have:=HS.out.grow;rw[qax] at this;simp at this;omega);clear he;go_upto_if 42 with fail
   go_cut [3,5] (λ s3 s5 wx=>∃(d r:Nat) (rs:List Dfl.Rn),s5=.int .i64 (r:Int)/\d+r=e/\Hid (RnAt l a e y d rs)/\Hid (RR w wx s3 rs))
   case first=>
    clear k0;by_cases hy0:0<y
    ·have t1:=dT (p:=(0:Int)<(y:Int));have HA:Hid (RnAt l a e y (a+1) (rs ++ [⟨y,0,0⟩])):=Hd (by
      obtain⟨q1,q2,q3⟩:=HRA.out;refine⟨HS.out.push (.inl ⟨hy15,rfl,rfl,?_⟩),by omega,by omega,by rw[HLn.out];omega,q3,λ _=>by omega,hy15⟩;exact (Dfl.zcP 1 a (λ j h1 h2=>q3 j h1 (by omega)) (by rw[HLn.out];omega)).symm)
     obtain⟨K,hK⟩:=nmE (rs.length);have HRL:=Hd (show wc.ownsRow w.heap.size 191 3 u3 K (rnV rs) from hK▸HR.out.row);have hKb:K<=1000:=by rw[<- hK];exact HKB.out
     have hzc:w.heap.size<=wc.heap.size:=HR.out.ext.size;go_wp2_with (at_builtin;refine apA (HRL.out.alloc _) [.int .i64 (y:Int),.int .i64 ((0:Nat):Int),.int .i64 ((0:Nat):Int)] ?_);intro v4 w4 hown hgrow _ hat;have HN:=Hd (HR.out.push ⟨y,(0:Nat),(0:Nat)⟩ (by rw[hK];exact hown) hgrow);clear hown hgrow hat HRL hzc;go_wp2_with fail;go_meet
     exact⟨a+1,m-1,_,rfl,by have:=HEe.out;omega,HA,HN⟩
    obtain rfl:y=0:=by omega
    have t1:decide ((0:Int)<((0:Nat):Int))=false:=by decide
    have HA:Hid (RnAt l a e 0 a rs):=Hd ⟨HS.out,qaj _,by have:=HRA.out.1;omega,by rw[HLn.out];exact HRA.out.2.1,HRA.out.2.2,λ q=>by omega,by omega⟩;go_wp2_with fail;go_meet
    exact⟨a,m,rs,rfl,by have:=HEe.out;omega,HA,HR⟩
   clear HR HS k0 wm1 HKB;obtain⟨d,r,rs,rfl,hdr,HA,HR⟩:=hcut;have hen:=HRA.out.2.1;go_wp2_with fail;go_loopw [3,5] (λ s3 s5 wx=>∃(d r:Nat) (rs:List Dfl.Rn),s5=.int .i64 (r:Int)/\d+r=e/\Hid (RnAt l a e y d rs)/\Hid (RR w wx s3 rs)) (λ _ s5 _=>(intOf s5).toNat)
   case atStart=>exact⟨d,r,rs,rfl,hdr,HA,HR⟩
   case round=>
    clear HA HR hdr;obtain⟨d,r,rs,rfl,hdr,HA,HR⟩:=hrel;have HKB:=Hd (show rs.length<=1000 from by have:=HA.out.says.grow;have:=HA.out.hi;rw[qax] at *;simp at *;omega);by_cases hr0:0<r
    ·have t1:=dT (p:=(0:Int)<(r:Int));by_cases hy0:y=0
     ·have ty:((y:Int) ==0)=true:=qbl.2 (by omega);have ti:=dF (p:=(0:Int)<(y:Int));have n0:¬ 0<y:=by omega
      have HY0:=Hd hy0;clear hy0;by_cases h11:11<=r
      ·have tg:=dT (p:=(11:Int)<=(r:Int));obtain⟨k,hk⟩:=nmE ((if 138<r then 138 else r));have hk1:11<=k:=by rw[<- hk];split <;> omega
       have hk2:k<=138:=by rw[<- hk];split <;> omega
       have hk3:k<=r:=by rw[<- hk];split <;> omega
       have hm1:(if (138:Int)<(r:Int) then (138:Int) else (r:Int))=(k:Int):=by rw[<- hk];split <;> split <;> omega
       have hm2:(if (r:Int)<138 then (r:Int) else 138)=(k:Int):=by rw[<- hk];split <;> split <;> omega
       clear hk;obtain⟨q,hq⟩:=nmE (k-11);have eq:(k:Int)-11=(q:Int):=by omega
       have wk:IntKind.i64.wrap (q:Int)=(q:Int):=by rw[qal];omega
       have wr2:IntKind.i64.wrap ((r:Int)-(k:Int))=((r-k:Nat):Int):=by rw[qal];omega
       have HA2:=Hd (hq▸HA.out.eighteen HY0.out hk1 hk2 (by omega));obtain⟨K,hK⟩:=nmE (rs.length);have HRL:=Hd (show wr.ownsRow w.heap.size 191 3 u3 K (rnV rs) from hK▸HR.out.row);have hKb:K<=1000:=by rw[<- hK];exact HKB.out
       have hzc:w.heap.size<=wr.heap.size:=HR.out.ext.size;go_wp2_with (at_builtin;refine apA (HRL.out.alloc _) [.int .i64 (18:Int),.int .i64 (q:Int),.int .i64 (7:Int)] ?_);intro v4 w4 hown hgrow _ hat;have HN:=Hd (HR.out.push ⟨18,q,7⟩ (by rw[hK];exact hown) hgrow);exact Ycs1
      have tg:=dF (p:=(11:Int)<=(r:Int));by_cases h3:3<=r
      ·have th:=dT (p:=(3:Int)<=(r:Int));obtain⟨q,hq⟩:=nmE (r-3);have eq:(r:Int)-3=(q:Int):=by omega
       have wk:IntKind.i64.wrap (q:Int)=(q:Int):=by rw[qal];omega
       have HA2:=Hd (hq▸HA.out.seventeen HY0.out h3 (by omega) (by omega));obtain⟨K,hK⟩:=nmE (rs.length);have HRL:=Hd (show wr.ownsRow w.heap.size 191 3 u3 K (rnV rs) from hK▸HR.out.row);have hKb:K<=1000:=by rw[<- hK];exact HKB.out
       have hzc:w.heap.size<=wr.heap.size:=HR.out.ext.size;go_wp2_with (at_builtin;refine apA (HRL.out.alloc _) [.int .i64 (17:Int),.int .i64 (q:Int),.int .i64 (3:Int)] ?_);intro v4 w4 hown hgrow _ hat;have HN:=Hd (HR.out.push ⟨17,q,3⟩ (by rw[hK];exact hown) hgrow);clear hown hgrow hat HRL hzc;go_wp2_with fail;go_roundw
       case rel=>exact⟨d+r,0,_,by go_num,by omega,HA2,HN⟩
       case measure=>simp[intOf];omega
      have th:=dF (p:=(3:Int)<=(r:Int));exact Ycs2
     have ty:((y:Int) ==0)=false:=qak.2 (by omega);have ti:=dT (p:=(0:Int)<(y:Int));by_cases h3:3<=r
     ·have tg:=dT (p:=(3:Int)<=(r:Int));obtain⟨k,hk⟩:=nmE ((if 6<r then 6 else r));have hk1:3<=k:=by rw[<- hk];split <;> omega
      have hk2:k<=6:=by rw[<- hk];split <;> omega
      have hk3:k<=r:=by rw[<- hk];split <;> omega
      have hm1:(if (6:Int)<(r:Int) then (6:Int) else (r:Int))=(k:Int):=by rw[<- hk];split <;> split <;> omega
      have hm2:(if (r:Int)<6 then (r:Int) else 6)=(k:Int):=by rw[<- hk];split <;> split <;> omega
      clear hk;obtain⟨q,hq⟩:=nmE (k-3);have eq:(k:Int)-3=(q:Int):=by omega
      have wk:IntKind.i64.wrap (q:Int)=(q:Int):=by rw[qal];omega
      have wr2:IntKind.i64.wrap ((r:Int)-(k:Int))=((r-k:Nat):Int):=by rw[qal];omega
      have HA2:=Hd (hq▸HA.out.sixteen (by omega) hk1 hk2 (by omega));obtain⟨K,hK⟩:=nmE (rs.length);have HRL:=Hd (show wr.ownsRow w.heap.size 191 3 u3 K (rnV rs) from hK▸HR.out.row);have hKb:K<=1000:=by rw[<- hK];exact HKB.out
      have hzc:w.heap.size<=wr.heap.size:=HR.out.ext.size;go_wp2_with (at_builtin;refine apA (HRL.out.alloc _) [.int .i64 (16:Int),.int .i64 (q:Int),.int .i64 (2:Int)] ?_);intro v4 w4 hown hgrow _ hat;have HN:=Hd (HR.out.push ⟨16,q,2⟩ (by rw[hK];exact hown) hgrow);exact Ycs1
     have tg:=dF (p:=(3:Int)<=(r:Int));exact Ycs2
    obtain rfl:r=0:=by omega
    have t1:decide ((0:Int)<((0:Nat):Int))=false:=rfl;have HS2:Hid (Dfl.Says [] rs (l.take e)):=Hd (by have q:=HA.out.says;rw[show d=e by omega] at q;exact q);go_wp2_with fail;refine⟨⟨e,rs,rfl,by omega,HR,HS2⟩,by have:=HRA.out.1;simp[intOf];omega⟩
  obtain rfl:a=n:=by omega
  have t0:=dF (p:=(a:Int)<(a:Int));have HS2:Hid (Dfl.Says [] rs l):=Hd (by have q:=HS.out;rw[qan (by rw[HLn.out];exact qaj _)] at q;exact q);go_wp2_with fail;go_ret;exact⟨_,rs,rfl,HR.out,HS2.out⟩
set_option maxHeartbeats 4000000 in
theorem ziY (R B a most:Nat) (s:ByteArray) (v:Value) (out:List UInt8) (w0 w:World) (E:Nat->Addr) (hE:Errs w0 E) (hI:ISt w0 w R B s a v out most) (hmost:most<=300000) (_hsz:s.size<=300000) (hout:out.length<=most):
  Calls Tryz.prog 158 #[.pointer (some ⟨R,0,none⟩)] w λ e w'=>IPost w0 w R B s most v E (Inf.stored s.data.toList most a out) e w':=by
 have HE:=Hd hE;have H_0:=Hd (IGo.start hI);have HA:=Hd (zb8 B 0 a s w hI.at_.rd hI.le);have hle:=hI.le;obtain⟨a1,ha1⟩:=nmE ((a+7)/8*8);obtain⟨r,hr⟩:=nmE (Inf.stored s.data.toList most a out);rw[hr];unfold Inf.stored at hr;rw[ha1] at hr HA;have h1:a1<=8*s.size:=by omega
 have h18:a1%8=0:=by omega
 have HR:=Hd hr;have k0:=H_0.out.bk.cell 0;clear hE hI hle ha1 hr;go_enter Tryz.func158,Tryz.ntmps158
 go_wp2_with fail;refine HA.out.mono ?_;rintro e w1 ⟨rfl,hR,hS⟩;have hG:=H_0.out.read hR hS h1;clear hR hS HA k0;have H_1:=Hd hG;clear H_0 hG;go_wp2_with fail;cases hg1:Inf.get s.data.toList 16 a1 with
 | error c=>
  have HR2:Hid (.error c=r):=Hd (by rw[<- HR.out,hg1]);refine (za6 R B a1 16 c most s v v out w0 w _ E HE.out H_1.out (by omega) hg1).mono ?_;rintro e w9 ⟨rfl,h9⟩;exact⟨rfl,zaC HR2.out h9⟩
 | ok p=>
  obtain⟨n,a2⟩:=p;have HR1:=HR.out;simp only[hg1] at HR1;have HR2:=Hd HR1;clear HR1 HR;refine (zaS R B a1 16 n a2 most s v v out w0 w _ E HE.out H_1.out (by omega) hg1).mono ?_;rintro e w2 ⟨rfl,hG,hS⟩;clear hS;have H_2:=Hd hG;clear H_1 hG;obtain⟨q1,q2,q3,q4⟩:=Inf.zax hg1;clear q4;rw[zag] at q2;clear hg1;go_wp2_with fail;cases hg2:Inf.get s.data.toList 16 a2 with
  | error c=>
   have HR3:Hid (.error c=r):=Hd (by rw[<- HR2.out,hg2]);have HG2:=Hd hg2;clear hg2;refine qar (S:=λ w'=>w'.cell? ⟨1,0,none⟩=some (.iface 275 (.pointer (some (E 0))))) (by kernel_rfl) ((zaj HE.out H_2.out.old).1) (λ hHeld=>?_);clear hHeld;refine zab (λ wz=>Ext w2 wz) (show Ext w2 w2.drew from qag (Ext.refl w2)) ?_;rintro w3 h;have H_3:=Hd (H_2.out.ext h);clear h H_2;have hHeld:w3.cell? ⟨1,0,none⟩=some (.iface 275 (.pointer (some (E 0)))):=((zaj HE.out H_3.out.old).1);refine tk4 0 1 2 6 ?_;refine rdH 3 rfl λ KK hK=>?_;clear hHeld;go_simp;refine (za6 R B a2 16 c most s v v out w0 w _ E HE.out H_3.out (by omega) HG2.out).mono ?_;rintro e w9 ⟨rfl,h9⟩;exact⟨rfl,zaC HR3.out h9⟩
  | ok p=>
   obtain⟨m,a3⟩:=p;obtain⟨p1,p2,p3,p4⟩:=Inf.zax hg2;clear p4;rw[zag] at p2;have HR1:=HR2.out;simp only[hg2] at HR1;have HR3:=Hd HR1;have HG2:=Hd hg2;have HX:=Hd (zpJ n m q3 p3);clear HR1 HR2 hg2;by_cases hx:n+m=65535
   ·have hxx:=HX.out.2 hx;have t1:(bits BinOp.xor IntKind.i64 (n:Int) (m:Int) ==65535)=true:=qbl.2 hxx;have HR1:=HR3.out;rw[qac (by omega)] at HR1;have HR4:=Hd HR1;clear HR1 HR3 HX hxx;refine qar (S:=λ w'=>w'.cell? ⟨1,0,none⟩=some (.iface 275 (.pointer (some (E 0))))) (by kernel_rfl) ((zaj HE.out H_2.out.old).1) (λ hHeld=>?_);clear hHeld;refine zab (λ wz=>Ext w2 wz) (show Ext w2 w2.drew from qag (Ext.refl w2)) ?_;rintro w3 h;have H_3:=Hd (H_2.out.ext h);clear h H_2;have hHeld:w3.cell? ⟨1,0,none⟩=some (.iface 275 (.pointer (some (E 0)))):=((zaj HE.out H_3.out.old).1);refine tk4 0 1 2 6 ?_;refine rdH 3 rfl λ KK hK=>?_;clear hHeld;go_simp;refine (zaS R B a2 16 m a3 most s v v out w0 w _ E HE.out H_3.out (by omega) HG2.out).mono ?_;rintro e w4 ⟨rfl,hG,hS⟩;have H_4:=Hd hG;clear H_3 hG;clear hS;go_simp;refine oS hK ((zaj HE.out H_4.out.old).1) λ hHeld=>?_;clear hK KK;refine tk2 4 5 ?_;refine rdH 7 rfl λ KK hK=>?_;clear hHeld;go_simp;refine (zaP _ _ _).mono ?_;rintro e w9 ⟨rfl,rfl⟩;go_simp;refine oS hK ((zaj HE.out H_4.out.old).1) λ hHeld=>?_;clear hK KK;refine dnT ?_;clear hHeld;have c0:=H_4.out.bk.cell 0;have c1:=H_4.out.bk.cell 1;have c2:=H_4.out.bk.cell 2;have ee:=zaj HE.out H_4.out.old;have e0:=ee.1;have e1:=ee.2;clear ee;go_wp2_with fail
    clear c0 c1 c2 e0 e1;have e3:(a3+7)/8*8=a3:=by omega
    by_cases hb:8*s.size<a3+8*n
    ·have HR1:=HR4.out;rw[zag,qad hb] at HR1;have HR5:=Hd HR1;clear HR1 HR4;refine (zmM B 0 a3 n s _ H_4.out.st.at_.rd H_4.out.st.le (by omega) (by omega)).mono ?_;rintro e w7 ⟨rfl,hR,hS⟩;have hG:=H_4.out.read hR hS (by omega);clear hR hS;have H_5:=Hd hG;clear H_4 hG;have c0:=H_5.out.bk.cell 0;have c1:=H_5.out.bk.cell 1;have c2:=H_5.out.bk.cell 2;have ee:=zaj HE.out H_5.out.old;have e0:=ee.1;have e1:=ee.2;clear ee;go_wp2_with fail;refine (zbf _ (E 0) _).mono ?_;rintro e _ ⟨rfl,rfl⟩;exact⟨rfl,zaC HR5.out H_5.out.old⟩
    have HR1:=HR4.out;rw[zag,qac hb] at HR1;have HR5:=Hd HR1;clear HR1 HR4;have HB:=Hd (zkT B 0 a3 n s _ H_4.out.st.at_.rd H_4.out.st.le (by omega));have e4:(a3+7)/8=a3/8:=by omega
    rw[e3,e4] at HB;clear e4;obtain⟨t,ht⟩:=nmE (s.extract (a3/8) (a3/8+n));rw[ht] at HB;have hts:t.size=n:=by rw[<- ht,qau];omega
    have htl:(s.data.toList.drop (a3/8)).take n=t.data.toList:=by rw[<- ht,zbY,show a3/8+n-a3/8=n by omega]
    have HR1:=HR5.out;rw[htl] at HR1;have HR6:=Hd HR1;clear HR1 HR5 ht htl;refine HB.out.mono ?_;rintro e w7 ⟨rfl,hR,hS⟩;have hG:=H_4.out.read hR hS (by omega);clear hR hS HB;have H_5:=Hd hG;clear H_4 hG;have c0:=H_5.out.bk.cell 0;have c1:=H_5.out.bk.cell 1;have c2:=H_5.out.bk.cell 2;have ee:=zaj HE.out H_5.out.old;have e0:=ee.1;have e1:=ee.2;clear ee;go_wp2_with fail;refine (zaP _ _ _).mono ?_;rintro e _ ⟨rfl,rfl⟩;obtain⟨L,hL⟩:=nmE (out.length);have HL:=Hd hL;have hro:=H_5.out.row;rw[hL] at hro hout;obtain⟨xo,co,rfl⟩:=zam hro;clear hL;go_wp2_with fail;by_cases hm:most<L+n
    ·have t2:=dF (p:=(L:Int)+(n:Int)<=(most:Int));have wl:=wqz (x:=(L:Int)+(n:Int));have HR1:=HR6.out;rw[HL.out,qad hm] at HR1;have HR7:=Hd HR1;clear HR1 HR6 hro;refine qaD 14 (by kernel_rfl) (by kernel_rfl) ?_;simp only[qao,qaH,qaw,qaS];repeat still_step
     refine qbB ?_;change wpList _ _ _ _ _ w7.drew;go_wp2_with fail;refine (zbf _ (E 1) _).mono ?_;rintro e _ ⟨rfl,rfl⟩;exact⟨rfl,zaC HR7.out (H_5.out.ext (qag (Ext.refl _))).old⟩
    have t2:=dT (p:=(L:Int)+(n:Int)<=(most:Int));have wl:=wqz (x:=(L:Int)+(n:Int));have HR1:=HR6.out;rw[HL.out,qac hm] at HR1;have HR7:=Hd HR1;clear HR1 HR6 hro;refine qaD 14 (by kernel_rfl) (by kernel_rfl) ?_;simp only[qao,qaH,qaw,qaS];repeat still_step
    refine qbB ?_;change wpList _ _ _ _ _ w7.drew;go_wp2_with fail;refine (zaP _ _ _).mono ?_;rintro e _ ⟨rfl,rfl⟩;have H_6:=Hd (H_5.out.ext (show Ext w7 w7.drew from qag (Ext.refl _)));clear H_5;clear t2 wl;have hro:=H_6.out.row;rw[HL.out] at hro;have HO:=Hd hro;clear hro;have hz:0<=w7.drew.heap.size:=qbi _;obtain⟨i0,hi0,hz0,hz1,hz2⟩:=qbb u8inf;go_wp2_with (at_builtin;refine zcz rfl _ _ 62 9 rfl 0 5 i0 Tryz.underlying62 Tryz.underlying9 hi0 hz0 hz1 hz2 _ _ _ rfl HO.out t rfl ?c3 ?c4 hz ?_)
    case c3=>unfold maxLen;omega
    case c4=>omega
    intro v8 w8 hown hgrow hat;obtain⟨x8,c8,rfl⟩:=zam hown;have hG8:=H_6.out.st.at_.grow (Ext.refl _) hgrow (t:=t) (by rw[HL.out,hts];exact hown) hat;have b1:=hG8.1.cell 1;have f1:=hG8.1.frozen 1;have HG8:=Hd hG8;clear hown hgrow hat hG8 c0 c1 c2 e0 e1;go_wp2_with fail;go_end0;exact zhQ HR7.out (H_6.out.to HG8.out.2.1 HG8.out.2.2 (by omega))
   have hxx:¬ _:=λ q=>hx (HX.out.1 q);have t1:(bits BinOp.xor IntKind.i64 (n:Int) (m:Int) ==65535)=false:=qak.2 hxx;have HR1:=HR3.out;rw[qad hx] at HR1;have HR4:=Hd HR1;clear HR1 HR3 HX hxx;refine qar (S:=λ w'=>w'.cell? ⟨1,0,none⟩=some (.iface 275 (.pointer (some (E 0))))) (by kernel_rfl) ((zaj HE.out H_2.out.old).1) (λ hHeld=>?_);clear hHeld;refine zab (λ wz=>Ext w2 wz) (show Ext w2 w2.drew from qag (Ext.refl w2)) ?_;rintro w3 h;have H_3:=Hd (H_2.out.ext h);clear h H_2;have hHeld:w3.cell? ⟨1,0,none⟩=some (.iface 275 (.pointer (some (E 0)))):=((zaj HE.out H_3.out.old).1);refine tk4 0 1 2 6 ?_;refine rdH 3 rfl λ KK hK=>?_;clear hHeld;go_simp;refine (zaS R B a2 16 m a3 most s v v out w0 w _ E HE.out H_3.out (by omega) HG2.out).mono ?_;rintro e w4 ⟨rfl,hG,hS⟩;have H_4:=Hd hG;clear H_3 hG;clear hS;go_simp;refine oS hK ((zaj HE.out H_4.out.old).1) λ hHeld=>?_;clear hK KK;refine tk2 4 5 ?_;refine rdH 7 rfl λ KK hK=>?_;clear hHeld;go_simp;refine (zbf _ (E 0) _).mono ?_;rintro e w9 ⟨rfl,rfl⟩;exact⟨rfl,zaC HR4.out H_4.out.old⟩
end Go.Proofs.YthlibiocadimhaaGreatDoor
