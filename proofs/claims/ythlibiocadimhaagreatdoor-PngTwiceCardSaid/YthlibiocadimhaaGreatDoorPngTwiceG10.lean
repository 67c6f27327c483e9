/-
  slices.symMergeCmpFunc at packs: a right row of one.
  slices.swapRangeCmpFunc at packs.
  slices.rotateCmpFunc at packs.
  slices.symMergeCmpFunc at packs.
  slices.SortStableFunc at packs: a stable sort.
-/
import Derived.Test.YthlibiocadimhaaGreatDoorPngTwiceG1
import Derived.Test.YthlibiocadimhaaGreatDoorPngTwiceG9
import Derived.Test.YthlibiocadimhaaGreatDoorPngTwiceG8
import Derived.RegionTactic
import Derived.BigRegion
import Derived.Deep.DeepCutAuto
import Derived.Deep.CutBlock
set_option linter.unusedSimpArgs false
set_option linter.unusedVariables false
set_option maxRecDepth 100000
namespace Go.Proofs.YthlibiocadimhaaGreatDoor
open Go.RowKit
/-- where one goes among many, behind its likes -/
theorem Srt.mrg_mid {L:List Pk} {x:Pk} {p:Nat} (hL:Srt.Up Pk.key L) (hp:p≤L.length) (h1:p=0∨∃y,L[p-1]? =some y∧¬ x.c<y.c) (h2:p=L.length∨∃y,L[p]? =some y∧x.c<y.c):Srt.mrg Pk.key L [x]=L.take p++x ::L.drop p:=by
 have hlo:∀y∈L.take p,¬ x.c<y.c:=by
  rcases h1 with rfl | ⟨z,hz,hzx⟩
  ·simp
  ·intro y hy;obtain⟨i,hi,rfl⟩:=List.mem_iff_getElem.1 hy;obtain⟨hi2,hz2⟩:=List.getElem?_eq_some_iff.1 hz;rw[List.getElem_take];simp at hi;rcases Nat.lt_or_ge i (p-1) with q | q
   ·have:=List.pairwise_iff_getElem.1 hL i (p-1) (by omega) hi2 q;rw[hz2] at this;unfold Pk.key at this;omega
   ·have:i=p-1:=by omega
    subst this;rw[hz2];exact hzx
 have hhi:∀y∈L.drop p,x.c<y.c:=by
  rcases h2 with h2 | ⟨z,hz,hzx⟩
  ·rw[List.drop_eq_nil_of_le (by omega)];simp
  ·intro y hy;obtain⟨i,hi,rfl⟩:=List.mem_iff_getElem.1 hy;obtain⟨hi2,hz2⟩:=List.getElem?_eq_some_iff.1 hz;rw[List.getElem_drop];simp at hi;rcases Nat.eq_zero_or_pos i with q | q
   ·subst q;simp only[Nat.add_zero];rw[hz2];exact hzx
   ·have:=List.pairwise_iff_getElem.1 hL p (p+i) hi2 (by omega) (by omega);rw[hz2] at this;unfold Pk.key at this;omega
 have e:=Srt.mrg_parts (k:=Pk.key) (L.take p) [] (L.drop p) [x] (fun a ha b hb=>by rw[List.mem_singleton.1 hb];have:=hlo a ha;unfold Pk.key;omega) (by simp);rw[Srt.mrg_nil',List.take_append_drop,List.nil_append] at e;rw[e,Srt.mrg_turned (r:=[x]) (fun a ha b hb=>by rw[List.mem_singleton.1 hb];have:=hhi a ha;unfold Pk.key;omega)];rfl
set_option maxHeartbeats 4000000 in
theorem symTwo_any (B n cap:Nat) (P L Q:List Pk) (x:Pk) (a m b:Nat) (w:World) (hl:(P++(L++x ::Q)).length=n) (hn:n≤1000000) (ha:P.length=a) (hm:a+L.length=m) (hb:m+1=b) (h1:L.length≠1) (hL:Srt.Up Pk.key L) (h:PR w B (P++(L++x ::Q))):
  Calls Tryz.prog 180 #[.slice (some ⟨B,0,none⟩) n cap,.int .i64 (a:Int),.int .i64 (m:Int),.int .i64 (b:Int),.func (.func 154) #[] #[]] w fun e w'=>e=.returned (.tuple #[])∧PR w' B (P++(Srt.mrg Pk.key L [x]++Q))∧One B w w':=by
 have HL:=Hd hl;have HPR:=Hd h;have HRU:=Hd hL;have hmn:m<n:=by simp at hl;omega
 obtain⟨d,hd⟩:∃d,L.length=d:=⟨_,rfl⟩;have e0:(m:Int)-(a:Int)=(d:Int):=by omega
 have td:((d:Int) ==1)=false:=beq_eq_false_iff_ne.2 (by omega);have hd1:d≠1:=by omega
 have wd:∀v,v=(d:Int)→IntKind.i64.wrap v=v:=by intro v hv;rw[IntKind.wrap_i64];omega
 have e1:(b:Int)-(m:Int)=1:=by omega
 have HA:=Hd ha;have HB:=Hd hb;have HM:=Hd hm;have HD:=Hd hd;have ham:a≤m:=by omega
 have HORD:=Hd order_any;have gax:((P++(L++x ::Q))[m]?)=some x:=by rw[← hm,← ha,← List.append_assoc,← List.length_append,List.getElem?_append_right (Nat.le_refl _),Nat.sub_self,List.getElem?_cons_zero]
 have HGA:=Hd gax;clear hl h hL ha hb hm gax h1 hd;go_enter Tryz.func180,Tryz.ntmps180
 go_wp2_with fail;go_loopw [14,15] (fun c d wr=>∃i j:Nat,c=.int .i64 i∧d=.int .i64 j∧Hid (∃p q,i=a+p∧j=a+q∧p≤q∧q≤L.length∧(p=0∨∃y,L[p-1]? =some y∧¬ x.c<y.c)∧(q=L.length∨∃y,L[q]? =some y∧x.c<y.c))∧Hid (Ext w wr)) (fun c d _=>(intOf d).toNat-(intOf c).toNat)
 case atStart=>exact⟨a,m,rfl,rfl,Hd ⟨0,L.length,rfl,HM.out.symm,by omega,by omega,.inl rfl,.inl rfl⟩,Hd (Ext.refl _)⟩
 case round=>
  obtain⟨i,j,rfl,rfl,HI,HX⟩:=hrel;by_cases hij:i<j
  ·have t0:decide ((i:Int)<(j:Int))=true:=decide_eq_true (by omega);obtain⟨p,q,rfl,rfl,hpq,hq,h1,h2⟩:=HI.out;have HH1:=Hd h1;have HH2:=Hd h2;clear h1 h2;have hjb:a+q≤m:=by have:=HM.out;omega
   obtain⟨i,hi⟩:∃i,a+p=i:=⟨_,rfl⟩;obtain⟨j,hj⟩:∃j,a+q=j:=⟨_,rfl⟩;obtain⟨s,hs⟩:∃s,i+j=s:=⟨_,rfl⟩;obtain⟨g,hg⟩:∃g,s/2=g:=⟨_,rfl⟩;obtain⟨u,hu⟩:∃u,g-a=u:=⟨_,rfl⟩;rw[hi,hj] at hij t0⊢;have hgm:a≤g:=by omega
   have hur:u<L.length:=by omega
   obtain⟨y,hy⟩:∃y,L[u]? =some y:=⟨_,List.getElem?_eq_getElem hur⟩;have hrow:(P++(L++x ::Q))[g]? =some y:=by
    have:=get_mid P L (x ::Q) u hur;rw[show P.length+u=g by have:=HA.out;omega,hy] at this;exact this
   have hp:=HPR.out.ext HX.out;obtain⟨k2,k3⟩:=hp.get HGA.out;obtain⟨k4,k5⟩:=hp.get hrow;have hBl:=hp.lt;have e2:(i:Int)+(j:Int)=(s:Int):=by omega
   have e3:(s:Int)/2=(g:Int):=by omega
   have lg:g<n:=by omega
   have ws:∀z,z=(s:Int)→IntKind.i64.wrap z=z:=by intro z hz;rw[IntKind.wrap_i64];omega
   have wsu:∀z,z=(s:Int)→IntKind.u64.wrap z=z:=by intro z hz;rw[IntKind.wrap_u64];omega
   have wg:∀z,z=(g:Int)→IntKind.i64.wrap z=z:=by intro z hz;rw[IntKind.wrap_i64];omega
   have HHY:=Hd hy;have HF:=Hd (And.intro hi (And.intro hj (And.intro hs (And.intro hg (And.intro hu (And.intro hpq hq))))));have HP:=Hd hp;clear hp hrow hi hj hs hg hu hy hpq hq hur HI;by_cases hc:x.c<y.c
   ·have t2:decide (cmpI (x.c:Int) (y.c:Int)<0)=true:=by rw[cmpI_neg];exact decide_eq_true (by omega)
    have HC:=Hd hc;clear hc;go_wp2_with fail;go_region_held3 (fun w'=>Ext wr w'∧w'.cell? ⟨B,m*2,none⟩=some (.int .i64 (x.c:Int))∧w'.cell? ⟨B,m*2+1,none⟩=some (.slice x.a x.n x.k)∧w'.cell? ⟨B,g*2,none⟩=some (.int .i64 (y.c:Int))∧w'.cell? ⟨B,g*2+1,none⟩=some (.slice y.a y.n y.k)) (first | exact⟨Below.drew (Ext.refl wr),k2,k3,k4,k5⟩ | go_keep | exact⟨Ext.trans (by first | assumption | exact Below.drew (Ext.refl _)) hx,(hx.cell (p:=⟨B,m*2,none⟩) (Nat.lt_of_lt_of_le hBl (show Ext wr _ from by first | assumption | exact Below.drew (Ext.refl _)).size)).trans (by assumption),(hx.cell (p:=⟨B,m*2+1,none⟩) (Nat.lt_of_lt_of_le hBl (show Ext wr _ from by first | assumption | exact Below.drew (Ext.refl _)).size)).trans (by assumption),(hx.cell (p:=⟨B,g*2,none⟩) (Nat.lt_of_lt_of_le hBl (show Ext wr _ from by first | assumption | exact Below.drew (Ext.refl _)).size)).trans (by assumption),(hx.cell (p:=⟨B,g*2+1,none⟩) (Nat.lt_of_lt_of_le hBl (show Ext wr _ from by first | assumption | exact Below.drew (Ext.refl _)).size)).trans (by assumption)⟩)
     ((go_at_call 154;refine (HORD.out _ _ _ _ _ _ _ _ _).mono ?_;rintro e w' ⟨rfl,hx⟩))
    all_goals
     rename_i hS;have HX2:=Hd (HX.out.trans hS.1);clear k2 k3 k4 k5 hS;go_wp2_with fail;obtain⟨hi,hj,hs,hg,hu,hpq,hq⟩:=HF.out;refine⟨⟨i,g,rfl,rfl,Hd ⟨p,u,by omega,by omega,by omega,by omega,HH1.out,.inr ⟨y,HHY.out,HC.out⟩⟩,HX2⟩,by simp[intOf];omega⟩
   ·have t2:decide (cmpI (x.c:Int) (y.c:Int)<0)=false:=by rw[cmpI_neg];exact decide_eq_false (by omega)
    have HC:=Hd hc;clear hc;go_wp2_with fail;go_region_held3 (fun w'=>Ext wr w'∧w'.cell? ⟨B,m*2,none⟩=some (.int .i64 (x.c:Int))∧w'.cell? ⟨B,m*2+1,none⟩=some (.slice x.a x.n x.k)∧w'.cell? ⟨B,g*2,none⟩=some (.int .i64 (y.c:Int))∧w'.cell? ⟨B,g*2+1,none⟩=some (.slice y.a y.n y.k)) (first | exact⟨Below.drew (Ext.refl wr),k2,k3,k4,k5⟩ | go_keep | exact⟨Ext.trans (by first | assumption | exact Below.drew (Ext.refl _)) hx,(hx.cell (p:=⟨B,m*2,none⟩) (Nat.lt_of_lt_of_le hBl (show Ext wr _ from by first | assumption | exact Below.drew (Ext.refl _)).size)).trans (by assumption),(hx.cell (p:=⟨B,m*2+1,none⟩) (Nat.lt_of_lt_of_le hBl (show Ext wr _ from by first | assumption | exact Below.drew (Ext.refl _)).size)).trans (by assumption),(hx.cell (p:=⟨B,g*2,none⟩) (Nat.lt_of_lt_of_le hBl (show Ext wr _ from by first | assumption | exact Below.drew (Ext.refl _)).size)).trans (by assumption),(hx.cell (p:=⟨B,g*2+1,none⟩) (Nat.lt_of_lt_of_le hBl (show Ext wr _ from by first | assumption | exact Below.drew (Ext.refl _)).size)).trans (by assumption)⟩)
     ((go_at_call 154;refine (HORD.out _ _ _ _ _ _ _ _ _).mono ?_;rintro e w' ⟨rfl,hx⟩))
    all_goals
     rename_i hS;have HX2:=Hd (HX.out.trans hS.1);clear k2 k3 k4 k5 hS;have w5:∀z,z=((g+1:Nat):Int)→IntKind.i64.wrap z=z:=by intro z hz;rw[IntKind.wrap_i64];omega
     go_wp2_with fail;obtain⟨hi,hj,hs,hg,hu,hpq,hq⟩:=HF.out;refine⟨⟨g+1,j,by simp,rfl,Hd ⟨u+1,q,by omega,by omega,by omega,hq,.inr ⟨y,HHY.out,HC.out⟩,HH2.out⟩,HX2⟩,by simp[intOf];omega⟩
  ·have t0:decide ((i:Int)<(j:Int))=false:=decide_eq_false (by omega);obtain⟨p,q,h3,h4,hpq,hq,h1,h2⟩:=HI.out;have HH1:=Hd h1;have HH2:=Hd h2;clear h1 h2;have hpq2:p=q:=by omega
   have HQ:=Hd (Srt.mrg_mid HRU.out (by omega) HH1.out (by rw[hpq2];exact HH2.out));have lz:i≤m:=by have:=HM.out;omega
   have HI3:=Hd h3;have HPL:=Hd (show (L.drop p).length=m-i by have:=HM.out;simp;omega);have HTL:=Hd (show (L.take p).length=p by simp;omega);have HPX:=Hd (HPR.out.ext HX.out);have HR0:=Hd (List.take_append_drop p L);generalize L.take p=A0 at *;generalize L.drop p=C0 at *;clear HI h3 h4 hpq hq hpq2 HH1 HH2;go_wp2_with fail;go_loopw [17] (fun c wr=>∃k:Nat,c=.int .i64 k∧Hid (∃A C,C0=A++C∧i+A.length=k∧PR wr B (P++(A0++(A++x ::(C++Q)))))∧Hid (One B w wr)) (fun c _=>(intOf c).toNat)
   case atStart=>exact⟨m,rfl,Hd ⟨C0,[],by simp,by have:=HPL.out;omega,by have:=HPX.out;rw[← HR0.out] at this;simpa using this⟩,Hd (One.of_ext HX.out)⟩
   case round=>
    obtain⟨k,rfl,HK,HO⟩:=hrel;obtain⟨A,C,hAC,hk,hp⟩:=HK.out;clear HK;by_cases hkz:i<k
    ·have t1:decide ((i:Int)<(k:Int))=true:=decide_eq_true (by omega);rcases List.eq_nil_or_concat A with hA | ⟨T,y,hA⟩
     ·subst hA;simp at hk;omega
     ·rw[List.concat_eq_append] at hA;subst hA;have hp2:PR wr B ((P++A0++T)++y ::x ::(C++Q)):=by simpa using hp
      obtain⟨J,hJ⟩:∃J,(P++A0++T).length=J:=⟨_,rfl⟩;have hkJ:k=J+1:=by have:=HA.out;have:=HTL.out;have:=HI3.out;simp at hJ hk;omega
      obtain⟨k2,k3,k4,k5,hw⟩:=hp2.adjD hJ;rw[← hkJ] at k4 k5 hw;have fz:=hp2.frozen;have HW:=Hd hw;have HAC:=Hd hAC;have HK:=Hd hk;have HkJ:=Hd hkJ;have e5:(k:Int)-1=(J:Int):=by omega
      have lk:k<n:=by have h1:=HPL.out;rw[hAC] at h1;simp at h1 hk;omega
      have lJ:J<n:=by omega
      have gJ:(0:Int)≤(J:Int):=by omega
      have wk:∀v,v=(J:Int)→IntKind.i64.wrap v=v:=by intro v hv;rw[IntKind.wrap_i64];omega
      clear hp hp2 hw hAC hk hJ hkJ;go_wp2_with fail;go_region;go_wp2_with fail;refine⟨⟨J,rfl,Hd ⟨T,y ::C,by rw[HAC.out];simp,by have:=HK.out;have:=HkJ.out;simp at *;omega,by have:=HW.out.drew;simpa using this⟩,Hd (HO.out.four _ _ _ _ _ _ _ _).drew⟩,by have:=HkJ.out;simp[intOf];omega⟩
    ·have t1:decide ((i:Int)<(k:Int))=false:=decide_eq_false (by omega);have hA:A=[]:=List.eq_nil_of_length_eq_zero (by omega);subst hA;have HP9:=Hd hp;have HAC:=Hd hAC;clear hp hAC hk;go_wp2_with fail;refine bodyPost_ret (results_none rfl _ _ _) rfl ⟨rfl,?_,HO.out⟩;rw[HQ.out,HAC.out];simpa using HP9.out
def swR (l:List Pk) (a b:Nat):Nat→List Pk
  | 0=>l
  | k+1=>swp (swR l a b k) (a+k) (b+k)
theorem swR_length (l:List Pk) (a b k:Nat):(swR l a b k).length=l.length:=by
  induction k with
  | zero=>rfl
  | succ k ih=>simp only[swR,swp_length,ih]
set_option maxHeartbeats 2000000 in
theorem swapRange_any (B n cap:Nat) (l:List Pk) (a b k:Nat) (f:Value) (w:World) (hl:l.length=n) (hn:n≤maxLen) (hab:a+k≤b) (hb:b+k≤n) (h:PR w B l):
    Calls Tryz.prog 184 #[.slice (some ⟨B,0,none⟩) n cap,.int .i64 (a:Int),.int .i64 (b:Int),.int .i64 (k:Int),f] w fun e w'=>e=.returned (.tuple #[])∧PR w' B (swR l a b k)∧One B w w':=by
  unfold maxLen at hn;have HL:=Hd hl;have HR:=Hd h;clear hl h;go_enter Tryz.func184,Tryz.ntmps184
  go_wp2_with fail;go_loopw [10] (fun c wr=>∃i:Nat,i≤k∧c=.int .i64 i∧Hid (PR wr B (swR l a b i))∧Hid (One B w wr)) (fun c _=>k-(intOf c).toNat)
  case atStart=>exact⟨0,by omega,rfl,HR,Hd (One.refl _ _)⟩
  case round=>
    obtain⟨i,hi,rfl,HP,HO⟩:=hrel;by_cases hlt:i<k
    · have t0:decide ((i:Int)<(k:Int))=true:=decide_eq_true (by omega);have hm:(swR l a b i).length=n:=(swR_length _ _ _ _).trans HL.out;obtain⟨A,hAA⟩:∃A,a+i=A:=⟨_,rfl⟩;obtain⟨D,hDD⟩:∃D,b+i=D:=⟨_,rfl⟩;have HS:Hid (swR l a b (i+1)=swp (swR l a b i) A D):=Hd (by rw[← hAA,← hDD];rfl);generalize swR l a b i=m at *;obtain⟨x,y,_,_,k2,k3,k4,k5,hw⟩:=HP.out.two (i:=A) (j:=D) (by omega) (by omega);have HW:=Hd hw;have fz:=HP.out.frozen;have wA:∀z,z=(A:Int)→IntKind.i64.wrap z=z:=by intro z hz;rw[IntKind.wrap_i64];omega
      have wD:∀z,z=(D:Int)→IntKind.i64.wrap z=z:=by intro z hz;rw[IntKind.wrap_i64];omega
      have eA:(a:Int)+(i:Int)=(A:Int):=by omega
      have eD:(b:Int)+(i:Int)=(D:Int):=by omega
      have lA:A<n:=by omega
      have lD:D<n:=by omega
      have gA:(0:Int)≤(A:Int):=by omega
      have gD:(0:Int)≤(D:Int):=by omega
      clear hw hAA hDD;go_wp2_with fail;go_region;go_wp2_with fail;go_roundw
      case rel=>exact⟨i+1,by omega,by go_num,Hd (by rw[HS.out];exact HW.out.drew),Hd (HO.out.four _ _ _ _ _ _ _ _).drew⟩
      case measure=>simp[intOf];omega
    · obtain rfl:i=k:=by omega
      have t0:decide ((i:Int)<(i:Int))=false:=by simp
      go_wp2_with fail;go_end0;exact⟨rfl,HP.out,HO.out⟩
theorem swR_parts (P U M V Q:List Pk) (k:Nat) (hU:U.length=k) (hV:V.length=k):swR (P++(U++(M++(V++Q)))) P.length (P.length+k+M.length) k=P++(V++(M++(U++Q))):=by
 have key:∀i,i≤k→swR (P++(U++(M++(V++Q)))) P.length (P.length+k+M.length) i=P++(V.take i++(U.drop i++(M++(U.take i++(V.drop i++Q))))):=by
  intro i;induction i with
  | zero=>intro _;simp[swR]
  | succ i ih=>
   intro hi;have hu:U.drop i=U[i]'(by omega) ::U.drop (i+1):=List.drop_eq_getElem_cons (by omega);have hv:V.drop i=V[i]'(by omega) ::V.drop (i+1):=List.drop_eq_getElem_cons (by omega);have tu:U.take (i+1)=U.take i ++ [U[i]'(by omega)]:=by rw[List.take_succ_eq_append_getElem]
   have tv:V.take (i+1)=V.take i ++ [V[i]'(by omega)]:=by rw[List.take_succ_eq_append_getElem]
   have e:=swp_parts (P++V.take i) (U.drop (i+1)++(M++U.take i)) (V.drop (i+1)++Q) (U[i]'(by omega)) (V[i]'(by omega));have l1:(P++V.take i).length=P.length+i:=by simp;omega
   have l2:(P++V.take i).length+1+(U.drop (i+1)++(M++U.take i)).length=P.length+k+M.length+i:=by simp;omega
   rw[l2,l1] at e;simp only[swR];rw[ih (by omega),hu,hv,tu,tv];simp only[List.append_assoc,List.cons_append,List.nil_append] at e⊢;exact e
 have:=key k (Nat.le_refl _);rw[List.take_of_length_le (by omega),List.take_of_length_le (by omega),List.drop_eq_nil_of_le (by omega),List.drop_eq_nil_of_le (by omega)] at this;simpa using this
set_option maxHeartbeats 2000000 in
theorem rotate_any (B n cap:Nat) (P U V Q:List Pk) (a m b:Nat) (f:Value) (w:World) (hl:(P++(U++(V++Q))).length=n) (hn:n≤1000000) (ha:P.length=a) (hm:a+U.length=m) (hb:m+V.length=b) (h1:0<U.length) (h2:0<V.length) (h:PR w B (P++(U++(V++Q)))):
  Calls Tryz.prog 183 #[.slice (some ⟨B,0,none⟩) n cap,.int .i64 (a:Int),.int .i64 (m:Int),.int .i64 (b:Int),f] w fun e w'=>e=.returned (.tuple #[])∧PR w' B (P++(V++(U++Q)))∧One B w w':=by
 have HL:=Hd hl;have HR:=Hd h;obtain⟨i0,hi0⟩:∃i0,U.length=i0:=⟨_,rfl⟩;obtain⟨j0,hj0⟩:∃j0,V.length=j0:=⟨_,rfl⟩;have hbn:b≤n:=by simp at hl;omega
 have e1:(m:Int)-(a:Int)=(i0:Int):=by omega
 have e2:(b:Int)-(m:Int)=(j0:Int):=by omega
 have HI0:=Hd (show 0<i0∧0<j0∧i0=U.length∧j0=V.length∧m=a+i0∧b=m+j0∧P.length=a from⟨by omega,by omega,by omega,by omega,by omega,by omega,ha⟩);have w1:∀z,z=(i0:Int)→IntKind.i64.wrap z=z:=by intro z hz;rw[IntKind.wrap_i64];omega
 have w2:∀z,z=(j0:Int)→IntKind.i64.wrap z=z:=by intro z hz;rw[IntKind.wrap_i64];omega
 have hmn:m≤n:=by omega
 clear hl h ha hm hb h1 h2 hi0 hj0;go_enter Tryz.func183,Tryz.ntmps183
 go_wp2_with fail;go_loopw [10,11] (fun c d wr=>∃i j:Nat,c=.int .i64 i∧d=.int .i64 j∧Hid (∃P1 U1 V1 Q1,0<i∧0<j∧U1.length=i∧V1.length=j∧P1.length+i=m∧m+j+Q1.length=n∧PR wr B (P1++(U1++(V1++Q1)))∧P++(V++(U++Q))=P1++(V1++(U1++Q1)))∧Hid (One B w wr)) (fun c d _=>(intOf c).toNat+(intOf d).toNat)
 case atStart=>
  obtain⟨q1,q2,q3,q4,q5,q6,q7⟩:=HI0.out;exact⟨i0,j0,rfl,rfl,Hd ⟨P,U,V,Q,q1,q2,q3.symm,q4.symm,by omega,by have:=HL.out;simp at this;omega,HR.out,rfl⟩,Hd (One.refl _ _)⟩
 case round=>
  obtain⟨i,j,rfl,rfl,HI,HO⟩:=hrel;obtain⟨P1,U1,V1,Q1,hi,hj,hU,hV,hP,hQ,hp,ht⟩:=HI.out;clear HI;have e3:(m:Int)-(i:Int)=((P1.length:Nat):Int):=by omega
  obtain⟨p,hp1⟩:∃p,P1.length=p:=⟨_,rfl⟩;rw[hp1] at e3;have w3:∀z,z=(p:Int)→IntKind.i64.wrap z=z:=by intro z hz;rw[IntKind.wrap_i64];omega
  have HLn:Hid (swR_length=swR_length):=Hd rfl;by_cases hij:i=j
  ·subst hij;have t0:((i:Int) !=(i:Int))=false:=by simp
   have C:=Hd (fun (f:Value)=>swapRange_any B n cap (P1++(U1++(V1++Q1))) p m i f wr (by simp;omega) (by unfold maxLen;omega) (by omega) (by omega) hp);have HE:=Hd (show swR (P1++(U1++(V1++Q1))) p m i=P++(V++(U++Q)) by
    have:=swR_parts P1 U1 [] V1 Q1 i hU (by omega);simp only[List.nil_append,List.length_nil,Nat.add_zero] at this;rw[hp1,show p+i=m by omega] at this;rw[this,ht])
   clear hU hV hP hQ hp ht hp1;go_wp2_with fail;refine (C.out _).mono ?_;rintro e w9 ⟨rfl,hr,ho⟩;have HO9:=Hd (HO.out.trans ho);rw[HE.out] at hr;have HR9:=Hd hr;clear hr ho;go_wp2_with fail;go_end0;exact⟨rfl,HR9.out,HO9.out⟩
  ·have t0:((i:Int) !=(j:Int))=true:=by simp only[bne_iff_ne];omega
   by_cases hlt:j<i
   ·have t1:decide ((j:Int)<(i:Int))=true:=decide_eq_true (by omega);obtain⟨d,hd⟩:∃d,i-j=d:=⟨_,rfl⟩;have e4:(i:Int)-(j:Int)=(d:Int):=by omega
    have w4:∀z,z=(d:Int)→IntKind.i64.wrap z=z:=by intro z hz;rw[IntKind.wrap_i64];omega
    have C:=Hd (fun (f:Value)=>swapRange_any B n cap (P1++(U1++(V1++Q1))) p m j f wr (by simp;omega) (by unfold maxLen;omega) (by omega) (by omega) hp);have HE:=Hd (show swR (P1++(U1++(V1++Q1))) p m j=(P1++V1)++(U1.drop j++(U1.take j++Q1)) by
     have:=swR_parts P1 (U1.take j) (U1.drop j) V1 Q1 j (by simp;omega) hV;rw[hp1,show p+j+(U1.drop j).length=m by simp;omega,← List.append_assoc (U1.take j),List.take_append_drop] at this;rw[this];simp)
    have HN:=Hd (show (P1++V1)++(U1.take j++(U1.drop j++Q1))=P++(V++(U++Q)) by
     rw[ht,← List.append_assoc (U1.take j),List.take_append_drop];simp)
    have HQ:=Hd (show (U1.drop j).length=d∧(U1.take j).length=j∧(P1++V1).length+d=m∧m+j+Q1.length=n from⟨by simp;omega,by simp;omega,by simp;omega,by omega⟩);clear hU hV hP hQ hp ht hp1;go_wp2_with fail;refine (C.out _).mono ?_;rintro e w9 ⟨rfl,hr,ho⟩;have HO9:=Hd (HO.out.trans ho);rw[HE.out] at hr;have HR9:=Hd hr;clear hr ho;go_wp2_with fail;refine⟨⟨d,j,rfl,rfl,Hd ⟨P1++V1,U1.drop j,U1.take j,Q1,by omega,hj,HQ.out.1,HQ.out.2.1,HQ.out.2.2.1,HQ.out.2.2.2,HR9.out,HN.out.symm⟩,HO9⟩,by simp[intOf];omega⟩
   ·have t1:decide ((j:Int)<(i:Int))=false:=decide_eq_false (by omega);obtain⟨d,hd⟩:∃d,j-i=d:=⟨_,rfl⟩;obtain⟨g,hg⟩:∃g,m+j-i=g:=⟨_,rfl⟩;obtain⟨s,hs⟩:∃s,m+j=s:=⟨_,rfl⟩;have e4:(j:Int)-(i:Int)=(d:Int):=by omega
    have e5:(m:Int)+(j:Int)=(s:Int):=by omega
    have e6:(s:Int)-(i:Int)=(g:Int):=by omega
    have w4:∀z,z=(d:Int)→IntKind.i64.wrap z=z:=by intro z hz;rw[IntKind.wrap_i64];omega
    have w5:∀z,z=(s:Int)→IntKind.i64.wrap z=z:=by intro z hz;rw[IntKind.wrap_i64];omega
    have w6:∀z,z=(g:Int)→IntKind.i64.wrap z=z:=by intro z hz;rw[IntKind.wrap_i64];omega
    have C:=Hd (fun (f:Value)=>swapRange_any B n cap (P1++(U1++(V1++Q1))) p g i f wr (by simp;omega) (by unfold maxLen;omega) (by omega) (by omega) hp);have HE:=Hd (show swR (P1++(U1++(V1++Q1))) p g i=P1++(V1.drop d++(V1.take d++(U1++Q1))) by
     have:=swR_parts P1 U1 (V1.take d) (V1.drop d) Q1 i hU (by simp;omega);rw[hp1,show p+i+(V1.take d).length=g by simp;omega,← List.append_assoc (V1.take d),List.take_append_drop] at this;exact this)
    have HN:=Hd (show P1++(V1.take d++(V1.drop d++(U1++Q1)))=P++(V++(U++Q)) by
     rw[ht,← List.append_assoc (V1.take d),List.take_append_drop])
    have HQ:=Hd (show (V1.drop d).length=i∧(V1.take d).length=d∧P1.length+i=m∧m+d+(U1++Q1).length=n from⟨by simp;omega,by simp;omega,by omega,by simp;omega⟩);clear hU hV hP hQ hp ht hp1;go_wp2_with fail;refine (C.out _).mono ?_;rintro e w9 ⟨rfl,hr,ho⟩;have HO9:=Hd (HO.out.trans ho);rw[HE.out] at hr;have HR9:=Hd hr;clear hr ho;go_wp2_with fail;refine⟨⟨i,d,rfl,rfl,Hd ⟨P1,V1.drop d,V1.take d,U1++Q1,hi,by omega,HQ.out.1,HQ.out.2.1,HQ.out.2.2.1,HQ.out.2.2.2,HR9.out,HN.out.symm⟩,HO9⟩,by simp[intOf];omega⟩
theorem up_get {L:List Pk} (h:Srt.Up Pk.key L) {i j:Nat} (hij:i≤j) {x y:Pk} (hx:L[i]? =some x) (hy:L[j]? =some y):x.c≤y.c:=by
 obtain⟨hi,e1⟩:=List.getElem?_eq_some_iff.1 hx;obtain⟨hj,e2⟩:=List.getElem?_eq_some_iff.1 hy;rcases Nat.lt_or_ge i j with q | q
 ·have:=List.pairwise_iff_getElem.1 h i j hi hj q;rw[e1,e2] at this;unfold Pk.key at this;omega
 ·have:i=j:=by omega
  subst this;rw[e1] at e2;rw[e2];exact Nat.le_refl _
/-- what the search for the middle found: u of the left row stay left, v of the right one go there -/
structure Mid (L R:List Pk) (u v:Nat):Prop where
 hu:u≤L.length
 hv:v≤R.length
 lo:u=0∨v=R.length∨∃x y,L[u-1]? =some x∧R[v]? =some y∧¬ y.c<x.c
 hi:u=L.length∨v=0∨∃x y,L[u]? =some x∧R[v-1]? =some y∧y.c<x.c
theorem Mid.is {L R:List Pk} {u v:Nat} (h:Mid L R u v) (hL:Srt.Up Pk.key L) (hR:Srt.Up Pk.key R):Srt.mrg Pk.key L R=Srt.mrg Pk.key (L.take u) (R.take v)++Srt.mrg Pk.key (L.drop u) (R.drop v):=by
 have e:=Srt.mrg_parts (k:=Pk.key) (L.take u) (R.take v) (L.drop u) (R.drop v) (fun a ha b hb=>by
   obtain⟨i,hi,rfl⟩:=List.mem_iff_getElem.1 ha;obtain⟨j,hj,rfl⟩:=List.mem_iff_getElem.1 hb;rw[List.getElem_take,List.getElem_drop];simp at hi hj;rcases h.lo with q | q | ⟨x,y,hx,hy,hxy⟩
   ·omega
   ·omega
   ·have h1:=up_get hL (i:=i) (j:=u-1) (by omega) (List.getElem?_eq_getElem (by omega)) hx;have h2:=up_get hR (i:=v) (j:=v+j) (by omega) hy (List.getElem?_eq_getElem (by omega));unfold Pk.key;omega) (fun a ha b hb=>by
   obtain⟨i,hi,rfl⟩:=List.mem_iff_getElem.1 ha;obtain⟨j,hj,rfl⟩:=List.mem_iff_getElem.1 hb;rw[List.getElem_take,List.getElem_drop];simp at hi hj;rcases h.hi with q | q | ⟨x,y,hx,hy,hxy⟩
   ·omega
   ·omega
   ·have h1:=up_get hL (i:=u) (j:=u+i) (by omega) hx (List.getElem?_eq_getElem (by omega));have h2:=up_get hR (i:=j) (j:=v-1) (by omega) (List.getElem?_eq_getElem (by omega)) hy;unfold Pk.key;omega)
 rwa [List.take_append_drop,List.take_append_drop] at e
/-- what the search's place says: the element at c of the left row is above its like of the right one -/
def Above (L R:List Pk) (a m p c:Nat):Prop:=∃x y,L[c-a]? =some x∧R[p-c-m]? =some y∧y.c<x.c
def Under (L R:List Pk) (a m p c:Nat):Prop:=∃x y,L[c-a]? =some x∧R[p-c-m]? =some y∧¬ y.c<x.c
def SymK (N:Nat):Prop:=∀(B n cap:Nat) (P L R Q:List Pk) (a m b:Nat) (w:World),L.length+R.length=N→(P++(L++(R++Q))).length=n→n≤1000000→P.length=a→a+L.length=m→m+R.length=b→0<L.length→0<R.length→Srt.Up Pk.key L→Srt.Up Pk.key R→PR w B (P++(L++(R++Q)))→
  Calls Tryz.prog 180 #[.slice (some ⟨B,0,none⟩) n cap,.int .i64 (a:Int),.int .i64 (m:Int),.int .i64 (b:Int),.func (.func 154) #[] #[]] w fun e w'=>e=.returned (.tuple #[])∧PR w' B (P++(Srt.mrg Pk.key L R++Q))∧One B w w'
set_option maxHeartbeats 16000000 in
theorem symGen (N:Nat) (ih:∀M,M<N→SymK M) (B n cap:Nat) (P L R Q:List Pk) (a m b:Nat) (w:World) (hN:L.length+R.length=N) (hl:(P++(L++(R++Q))).length=n) (hn:n≤1000000) (ha:P.length=a) (hm:a+L.length=m) (hb:m+R.length=b) (h1:1<L.length) (h2:1<R.length) (hL:Srt.Up Pk.key L) (hR:Srt.Up Pk.key R) (h:PR w B (P++(L++(R++Q)))):
  Calls Tryz.prog 180 #[.slice (some ⟨B,0,none⟩) n cap,.int .i64 (a:Int),.int .i64 (m:Int),.int .i64 (b:Int),.func (.func 154) #[] #[]] w fun e w'=>e=.returned (.tuple #[])∧PR w' B (P++(Srt.mrg Pk.key L R++Q))∧One B w w':=by
 have HL:=Hd hl;have HPR:=Hd h;have HLU:=Hd hL;have HRU:=Hd hR;have HIH:=Hd ih;have hbn:b≤n:=by simp at hl;omega
 obtain⟨d1,hd1⟩:∃d,L.length=d:=⟨_,rfl⟩;obtain⟨d2,hd2⟩:∃d,R.length=d:=⟨_,rfl⟩;obtain⟨s1,hs1⟩:∃s,a+b=s:=⟨_,rfl⟩;obtain⟨md,hmd⟩:∃d,s1/2=d:=⟨_,rfl⟩;obtain⟨nn,hnn⟩:∃d,md+m=d:=⟨_,rfl⟩;obtain⟨pp,hpp⟩:∃d,nn-1=d:=⟨_,rfl⟩;have HF:=Hd (show L.length=d1∧R.length=d2∧d1+d2=N∧P.length=a∧1<d1∧1<d2∧a+d1=m∧m+d2=b∧a+b=s1∧s1/2=md∧md+m=nn∧nn-1=pp from⟨hd1,hd2,by omega,ha,by omega,by omega,by omega,by omega,hs1,hmd,hnn,hpp⟩);have e1:(m:Int)-(a:Int)=(d1:Int):=by omega
 have e2:(b:Int)-(m:Int)=(d2:Int):=by omega
 have t1:((d1:Int) ==1)=false:=beq_eq_false_iff_ne.2 (by omega);have t2:((d2:Int) ==1)=false:=beq_eq_false_iff_ne.2 (by omega);have n1:d1≠1:=by omega
 have n2:d2≠1:=by omega
 have e3:(a:Int)+(b:Int)=(s1:Int):=by omega
 have e4:(s1:Int)/2=(md:Int):=by omega
 have e5:(md:Int)+(m:Int)=(nn:Int):=by omega
 have e6:(nn:Int)-1=(pp:Int):=by omega
 have w1:∀v,v=(d1:Int)→IntKind.i64.wrap v=v:=by intro v hv;rw[IntKind.wrap_i64];omega
 have w2:∀v,v=(d2:Int)→IntKind.i64.wrap v=v:=by intro v hv;rw[IntKind.wrap_i64];omega
 have w3:∀v,v=(s1:Int)→IntKind.i64.wrap v=v:=by intro v hv;rw[IntKind.wrap_i64];omega
 have w4:∀v,v=(s1:Int)→IntKind.u64.wrap v=v:=by intro v hv;rw[IntKind.wrap_u64];omega
 have w5:∀v,v=(md:Int)→IntKind.i64.wrap v=v:=by intro v hv;rw[IntKind.wrap_i64];omega
 have w6:∀v,v=(nn:Int)→IntKind.i64.wrap v=v:=by intro v hv;rw[IntKind.wrap_i64];omega
 have w7:∀v,v=(pp:Int)→IntKind.i64.wrap v=v:=by intro v hv;rw[IntKind.wrap_i64];omega
 have HORD:=Hd order_any;clear hl h hL hR ih hN ha hm hb h1 h2 hd1 hd2 hs1 hmd hnn hpp;go_enter Tryz.func180,Tryz.ntmps180
 go_upto_if 140 with fail
 go_cut [20,21] (fun s r wx=>∃s0 r0:Nat,s=.int .i64 s0∧r=.int .i64 r0∧Hid ((md<m∧s0=nn-b∧r0=md)∨(m≤md∧s0=a∧r0=m))∧wx=w)
 case first=>
  as_aux_lemma=>
  obtain⟨q1,q2,q3,q4,q5,q6,q7,q8,q9,q10,q11,q12⟩:=HF.out;by_cases hc:md<m
  ·have t3:decide ((md:Int)<(m:Int))=true:=decide_eq_true (by omega);obtain⟨s0,hs0⟩:∃s,nn-b=s:=⟨_,rfl⟩;have e7:(nn:Int)-(b:Int)=(s0:Int):=by omega
   have w8:∀v,v=(s0:Int)→IntKind.i64.wrap v=v:=by intro v hv;rw[IntKind.wrap_i64];omega
   have HS:=Hd hs0;clear q1 q2 q3 q4 q5 q6 q7 q8 q9 q10 q11 q12 hs0;go_wp2_with fail;go_meet
   exact⟨s0,md,rfl,rfl,Hd (.inl ⟨hc,HS.out.symm,rfl⟩),rfl⟩
  ·have t3:decide ((md:Int)<(m:Int))=false:=decide_eq_false (by omega);clear q1 q2 q3 q4 q5 q6 q7 q8 q9 q10 q11 q12;go_wp2_with fail;go_meet
   exact⟨a,m,rfl,rfl,Hd (.inr ⟨by omega,rfl,rfl⟩),rfl⟩
 case rest=>
 obtain⟨s0,r0,rfl,rfl,HSR,hw⟩:=hcut;rw[hw];clear hw;have HARI:=Hd (show ∀g,s0≤g→g<r0→a≤g∧g<m∧m≤pp-g∧pp-g<b∧g≤pp∧g<n∧pp-g<n from fun g h1 h2=>by
  obtain⟨q1,q2,q3,q4,q5,q6,q7,q8,q9,q10,q11,q12⟩:=HF.out;have:=HSR.out;refine⟨?_,?_,?_,?_,?_,?_,?_⟩ <;> omega)
 have HS0:=Hd (show s0≤r0 from by
  obtain⟨q1,q2,q3,q4,q5,q6,q7,q8,q9,q10,q11,q12⟩:=HF.out;have:=HSR.out;omega)
 have hs0n:r0≤n:=by
  obtain⟨q1,q2,q3,q4,q5,q6,q7,q8,q9,q10,q11,q12⟩:=HF.out;have:=HSR.out;omega
 clear e1 e2 t1 t2 n1 n2 e3 e4 e5 w1 w2 w3 w4;go_wp2_with fail;go_loopw [20,21] (fun c d wr=>∃s r:Nat,c=.int .i64 s∧d=.int .i64 r∧Hid (s0≤s∧s≤r∧r≤r0)∧Hid (s=s0∨Under L R a m pp (s-1))∧Hid (r=r0∨Above L R a m pp r)∧Hid (Ext w wr)) (fun c d _=>(intOf d).toNat-(intOf c).toNat)
 case atStart=>exact⟨s0,r0,rfl,rfl,Hd ⟨Nat.le_refl _,HS0.out,Nat.le_refl _⟩,Hd (.inl rfl),Hd (.inl rfl),Hd (Ext.refl _)⟩
 case round=>
  obtain⟨s,r,rfl,rfl,HB,HU,HA,HX⟩:=hrel;by_cases hij:s<r
  ·have t0:decide ((s:Int)<(r:Int))=true:=decide_eq_true (by omega);obtain⟨z,hz⟩:∃z,s+r=z:=⟨_,rfl⟩;obtain⟨g,hg⟩:∃g,z/2=g:=⟨_,rfl⟩;obtain⟨f,hf⟩:∃f,pp-g=f:=⟨_,rfl⟩;have hb:=HB.out;have hgr:s≤g∧g<r:=by omega
   obtain⟨i1,i2,i3,i4,i5,i6,i7⟩:=HARI.out g (by omega) (by omega);obtain⟨q1,q2,q3,q4,q5,q6,q7,q8,q9,q10,q11,q12⟩:=HF.out;have hxl:g-a<L.length:=by omega
   have hyl:f-m<R.length:=by omega
   obtain⟨x,hx⟩:∃x,L[g-a]? =some x:=⟨_,List.getElem?_eq_getElem hxl⟩;obtain⟨y,hy⟩:∃y,R[f-m]? =some y:=⟨_,List.getElem?_eq_getElem hyl⟩;have r1:(P++(L++(R++Q)))[g]? =some x:=by
    have:=get_mid P L (R++Q) (g-a) hxl;rw[show P.length+(g-a)=g by omega,hx] at this;exact this
   have r2:(P++(L++(R++Q)))[f]? =some y:=by
    have:=get_mid (P++L) R Q (f-m) hyl;rw[show (P++L).length+(f-m)=f by simp;omega,hy,List.append_assoc] at this;exact this
   have hp:=HPR.out.ext HX.out;obtain⟨k2,k3⟩:=hp.get r2;obtain⟨k4,k5⟩:=hp.get r1;have hBl:=hp.lt;have v2:(s:Int)+(r:Int)=(z:Int):=by omega
   have v3:(z:Int)/2=(g:Int):=by omega
   have v4:(pp:Int)-(g:Int)=(f:Int):=by omega
   have lg:g<n:=i6;have lf:f<n:=by omega
   have gf:(0:Int)≤(f:Int):=by omega
   have ws:∀v,v=(z:Int)→IntKind.i64.wrap v=v:=by intro v hv;rw[IntKind.wrap_i64];omega
   have wsu:∀v,v=(z:Int)→IntKind.u64.wrap v=v:=by intro v hv;rw[IntKind.wrap_u64];omega
   have wg:∀v,v=(g:Int)→IntKind.i64.wrap v=v:=by intro v hv;rw[IntKind.wrap_i64];omega
   have wf:∀v,v=(f:Int)→IntKind.i64.wrap v=v:=by intro v hv;rw[IntKind.wrap_i64];omega
   have HGR:=Hd hgr;have HXY:=Hd (show L[g-a]? =some x∧R[pp-g-m]? =some y from⟨hx,by rw[hf];exact hy⟩);clear hp r1 r2 hx hy hxl hyl hz hg hf hgr hb q1 q2 q3 q4 q5 q6 q7 q8 q9 q10 q11 q12 i1 i2 i3 i4 i5 i6 i7;by_cases hc:y.c<x.c
   ·have t2:decide (cmpI (y.c:Int) (x.c:Int)<0)=true:=by rw[cmpI_neg];exact decide_eq_true (by omega)
    have HC:=Hd hc;clear hc;go_wp2_with fail;go_region_held3 (fun w'=>Ext wr w'∧w'.cell? ⟨B,f*2,none⟩=some (.int .i64 (y.c:Int))∧w'.cell? ⟨B,f*2+1,none⟩=some (.slice y.a y.n y.k)∧w'.cell? ⟨B,g*2,none⟩=some (.int .i64 (x.c:Int))∧w'.cell? ⟨B,g*2+1,none⟩=some (.slice x.a x.n x.k)) (first | exact⟨Below.drew (Ext.refl wr),k2,k3,k4,k5⟩ | go_keep | exact⟨Ext.trans (by first | assumption | exact Below.drew (Ext.refl _)) hx,(hx.cell (p:=⟨B,f*2,none⟩) (Nat.lt_of_lt_of_le hBl (show Ext wr _ from by first | assumption | exact Below.drew (Ext.refl _)).size)).trans (by assumption),(hx.cell (p:=⟨B,f*2+1,none⟩) (Nat.lt_of_lt_of_le hBl (show Ext wr _ from by first | assumption | exact Below.drew (Ext.refl _)).size)).trans (by assumption),(hx.cell (p:=⟨B,g*2,none⟩) (Nat.lt_of_lt_of_le hBl (show Ext wr _ from by first | assumption | exact Below.drew (Ext.refl _)).size)).trans (by assumption),(hx.cell (p:=⟨B,g*2+1,none⟩) (Nat.lt_of_lt_of_le hBl (show Ext wr _ from by first | assumption | exact Below.drew (Ext.refl _)).size)).trans (by assumption)⟩)
     ((go_at_call 154;refine (HORD.out _ _ _ _ _ _ _ _ _).mono ?_;rintro e w' ⟨rfl,hx⟩))
    all_goals
     rename_i hS;have HX2:=Hd (HX.out.trans hS.1);clear k2 k3 k4 k5 hS;go_wp2_with fail;have h1:=HGR.out;have h2:=HB.out;refine⟨⟨s,g,rfl,rfl,Hd ⟨by omega,by omega,by omega⟩,HU,Hd (.inr ⟨x,y,HXY.out.1,HXY.out.2,HC.out⟩),HX2⟩,by simp[intOf];omega⟩
   ·have t2:decide (cmpI (y.c:Int) (x.c:Int)<0)=false:=by rw[cmpI_neg];exact decide_eq_false (by omega)
    have HC:=Hd hc;clear hc;go_wp2_with fail;go_region_held3 (fun w'=>Ext wr w'∧w'.cell? ⟨B,f*2,none⟩=some (.int .i64 (y.c:Int))∧w'.cell? ⟨B,f*2+1,none⟩=some (.slice y.a y.n y.k)∧w'.cell? ⟨B,g*2,none⟩=some (.int .i64 (x.c:Int))∧w'.cell? ⟨B,g*2+1,none⟩=some (.slice x.a x.n x.k)) (first | exact⟨Below.drew (Ext.refl wr),k2,k3,k4,k5⟩ | go_keep | exact⟨Ext.trans (by first | assumption | exact Below.drew (Ext.refl _)) hx,(hx.cell (p:=⟨B,f*2,none⟩) (Nat.lt_of_lt_of_le hBl (show Ext wr _ from by first | assumption | exact Below.drew (Ext.refl _)).size)).trans (by assumption),(hx.cell (p:=⟨B,f*2+1,none⟩) (Nat.lt_of_lt_of_le hBl (show Ext wr _ from by first | assumption | exact Below.drew (Ext.refl _)).size)).trans (by assumption),(hx.cell (p:=⟨B,g*2,none⟩) (Nat.lt_of_lt_of_le hBl (show Ext wr _ from by first | assumption | exact Below.drew (Ext.refl _)).size)).trans (by assumption),(hx.cell (p:=⟨B,g*2+1,none⟩) (Nat.lt_of_lt_of_le hBl (show Ext wr _ from by first | assumption | exact Below.drew (Ext.refl _)).size)).trans (by assumption)⟩)
     ((go_at_call 154;refine (HORD.out _ _ _ _ _ _ _ _ _).mono ?_;rintro e w' ⟨rfl,hx⟩))
    all_goals
     rename_i hS;have HX2:=Hd (HX.out.trans hS.1);clear k2 k3 k4 k5 hS;have w9:∀v,v=((g+1:Nat):Int)→IntKind.i64.wrap v=v:=by intro v hv;rw[IntKind.wrap_i64];omega
     go_wp2_with fail;have h1:=HGR.out;have h2:=HB.out;refine⟨⟨g+1,r,by simp,rfl,Hd ⟨by omega,by omega,by omega⟩,Hd (.inr ⟨x,y,HXY.out.1,HXY.out.2,HC.out⟩),HA,HX2⟩,by simp[intOf];omega⟩
  ·have t0:decide ((s:Int)<(r:Int))=false:=decide_eq_false (by omega);obtain rfl:s=r:=by have:=HB.out;omega
   obtain⟨en,hen⟩:∃d,nn-s=d:=⟨_,rfl⟩;have HEN:=Hd hen;have hq:(nn:Int)-(s:Int)=(en:Int)∧en≤n∧s≤n:=by
    obtain⟨q1,q2,q3,q4,q5,q6,q7,q8,q9,q10,q11,q12⟩:=HF.out;have:=HSR.out;have:=HB.out;refine⟨?_,?_,?_⟩ <;> omega
   obtain⟨v1,v2,v3⟩:=hq;have we:∀v,v=(en:Int)→IntKind.i64.wrap v=v:=by intro v hv;rw[IntKind.wrap_i64];omega
   have HMID:Hid (Mid L R (s-a) (en-m)∧a≤s∧s≤m∧m≤en∧en≤b):=Hd (by
    obtain⟨q1,q2,q3,q4,q5,q6,q7,q8,q9,q10,q11,q12⟩:=HF.out;have h1:=HSR.out;have h2:=HB.out;have hq2:a≤s∧s≤m∧m≤en∧en≤b:=by refine⟨?_,?_,?_,?_⟩ <;> omega
    refine⟨⟨by omega,by omega,?_,?_⟩,hq2⟩
    ·by_cases hz:s=s0
     ·rcases h1 with⟨c1,c2,c3⟩ | ⟨c1,c2,c3⟩
      ·right;left;omega
      ·left;omega
     ·right;right
      obtain⟨x,y,hx,hy,hxy⟩:Under L R a m pp (s-1):=by
       rcases HU.out with q | q
       ·exact absurd q hz
       ·exact q
      exact⟨x,y,by rw[show s-a-1=s-1-a by omega];exact hx,by rw[show en-m=pp-(s-1)-m by omega];exact hy,hxy⟩
    ·rcases HA.out with q | q
     ·rcases h1 with⟨c1,c2,c3⟩ | ⟨c1,c2,c3⟩
      ·right;left;omega
      ·left;omega
     ·right;right
      obtain⟨x,y,hx,hy,hxy⟩:=q;exact⟨x,y,hx,by rw[show en-m-1=pp-s-m by omega];exact hy,hxy⟩)
   clear HSR HARI HS0 HB HU HA hen;have HW0:=Hd (One.of_ext HX.out:One B w wr);have HP0:=Hd (HPR.out.ext HX.out);obtain⟨L1,hL1⟩:∃l,L.take (s-a)=l:=⟨_,rfl⟩;obtain⟨L2,hL2⟩:∃l,L.drop (s-a)=l:=⟨_,rfl⟩;obtain⟨R1,hR1⟩:∃l,R.take (en-m)=l:=⟨_,rfl⟩;obtain⟨R2,hR2⟩:∃l,R.drop (en-m)=l:=⟨_,rfl⟩;have HSP:=Hd (show L=L1++L2∧R=R1++R2∧a+L1.length=s∧s+L2.length=m∧m+R1.length=en∧en+R2.length=b∧a+L1.length+R1.length=md from by
    obtain⟨q1,q2,q3,q4,q5,q6,q7,q8,q9,q10,q11,q12⟩:=HF.out;obtain⟨m1,m2,m3,m4,m5⟩:=HMID.out;have:=m1.hu;have:=m1.hv;rw[← hL1,← hL2,← hR1,← hR2];refine⟨(List.take_append_drop _ _).symm,(List.take_append_drop _ _).symm,?_,?_,?_,?_,?_⟩ <;> simp <;> omega)
   have HU1:=Hd (show Srt.Up Pk.key L1∧Srt.Up Pk.key L2∧Srt.Up Pk.key R1∧Srt.Up Pk.key R2 from by
    have h1:=HLU.out;have h2:=HRU.out;rw[HSP.out.1] at h1;rw[HSP.out.2.1] at h2;exact⟨h1.left,h1.right,h2.left,h2.right⟩)
   have HRES:=Hd (show Srt.mrg Pk.key L R=Srt.mrg Pk.key L1 R1++Srt.mrg Pk.key L2 R2 from by
    rw[← hL1,← hL2,← hR1,← hR2];exact HMID.out.1.is HLU.out HRU.out)
   clear hL1 hL2 hR1 hR2 HMID;go_upto_region 39 with fail;go_cut [185] (fun v wx=>v=.bool (decide (s<m∧m<en))∧wx=wr)
   case first=>
    as_aux_lemma=>
    by_cases c1:s<m
    ·have t5:decide ((s:Int)<(m:Int))=true:=decide_eq_true (by omega);by_cases c2:m<en
     ·have t6:decide ((m:Int)<(en:Int))=true:=decide_eq_true (by omega);have HT:=Hd (decide_eq_true (And.intro c1 c2));go_wp2_with fail;go_meet
      exact⟨by rw[HT.out],rfl⟩
     ·have t6:decide ((m:Int)<(en:Int))=false:=decide_eq_false (by omega);have HT:=Hd (decide_eq_false (fun h=>c2 h.2):decide (s<m∧m<en)=false);go_wp2_with fail;go_meet
      exact⟨by rw[HT.out],rfl⟩
    ·have t5:decide ((s:Int)<(m:Int))=false:=decide_eq_false (by omega);have HT:=Hd (decide_eq_false (fun h=>c1 h.1):decide (s<m∧m<en)=false);go_wp2_with fail;go_meet
     exact⟨by rw[HT.out],rfl⟩
   case rest=>
   obtain⟨rfl,hw⟩:=hcut;rw[hw];clear hw;go_upto_if 185 with fail
   go_cut [23] (fun _ wx=>Hid (PR wx B (P++(L1++(R1++(L2++(R2++Q))))))∧Hid (One B w wx))
   case first=>
    as_aux_lemma=>
    by_cases c:s<m∧m<en
    ·have t5:decide (s<m∧m<en)=true:=decide_eq_true c;have HRO:=Hd (fun (f:Value)=>rotate_any B n cap (P++L1) L2 R1 (R2++Q) s m en f wr (by
       obtain⟨p1,p2,p3,p4,p5,p6,p7⟩:=HSP.out;have:=HL.out;rw[p1,p2] at this;simp at this⊢;omega) hn (by have:=HF.out.2.2.2.1;obtain⟨p1,p2,p3,p4,p5,p6,p7⟩:=HSP.out;simp;omega) HSP.out.2.2.2.1 HSP.out.2.2.2.2.1 (by obtain⟨p1,p2,p3,p4,p5,p6,p7⟩:=HSP.out;omega) (by obtain⟨p1,p2,p3,p4,p5,p6,p7⟩:=HSP.out;omega) (by
       have:=HP0.out;rw[HSP.out.1,HSP.out.2.1] at this;simpa using this))
     clear c;rw[t5];clear t5;go_wp2_with fail;refine (HRO.out _).mono ?_;rintro e w9 ⟨rfl,hr,ho⟩;have HR9:=Hd hr;have HO9:=Hd (HW0.out.trans ho);clear hr ho;go_wp2_with fail;go_meet
     exact⟨Hd (by have:=HR9.out;simpa using this),HO9⟩
    ·have t5:decide (s<m∧m<en)=false:=decide_eq_false c;have HE:=Hd (show PR wr B (P++(L1++(R1++(L2++(R2++Q))))) from by
      obtain⟨p1,p2,p3,p4,p5,p6,p7⟩:=HSP.out;have h:=HP0.out;rw[p1,p2] at h;by_cases d:s<m
      ·have:R1=[]:=List.eq_nil_of_length_eq_zero (by omega);subst this;simpa using h
      ·have:L2=[]:=List.eq_nil_of_length_eq_zero (by omega);subst this;simpa using h)
     clear c;rw[t5];clear t5;go_wp2_with fail;go_meet
     exact⟨HE,HW0⟩
   case rest=>
   obtain⟨HP1,HO1⟩:=hcut;clear HP0 HW0;rename World=>wk1;go_upto_region 41 with fail;go_cut [199] (fun v wx=>v=.bool (decide (a<s∧s<md))∧wx=wk1)
   case first=>
    as_aux_lemma=>
    by_cases c1:a<s
    ·have t5:decide ((a:Int)<(s:Int))=true:=decide_eq_true (by omega);by_cases c2:s<md
     ·have t6:decide ((s:Int)<(md:Int))=true:=decide_eq_true (by omega);have HT:=Hd (decide_eq_true (And.intro c1 c2));go_wp2_with fail;go_meet
      exact⟨by rw[HT.out],rfl⟩
     ·have t6:decide ((s:Int)<(md:Int))=false:=decide_eq_false (by omega);have HT:=Hd (decide_eq_false (fun h=>c2 h.2):decide (a<s∧s<md)=false);go_wp2_with fail;go_meet
      exact⟨by rw[HT.out],rfl⟩
    ·have t5:decide ((a:Int)<(s:Int))=false:=decide_eq_false (by omega);have HT:=Hd (decide_eq_false (fun h=>c1 h.1):decide (a<s∧s<md)=false);go_wp2_with fail;go_meet
     exact⟨by rw[HT.out],rfl⟩
   case rest=>
   obtain⟨rfl,hw⟩:=hcut;rw[hw];clear hw;go_upto_if 199 with fail
   go_cut [23] (fun _ wx=>Hid (PR wx B (P++(Srt.mrg Pk.key L1 R1++(L2++(R2++Q)))))∧Hid (One B w wx))
   case first=>
    as_aux_lemma=>
    by_cases c:a<s∧s<md
    ·have t5:decide (a<s∧s<md)=true:=decide_eq_true c;have HRO:=Hd (HIH.out (L1.length+R1.length) (by
       obtain⟨q1,q2,q3,q4,q5,q6,q7,q8,q9,q10,q11,q12⟩:=HF.out;obtain⟨p1,p2,p3,p4,p5,p6,p7⟩:=HSP.out;omega) B n cap (P) L1 R1 (L2++(R2++Q)) a s md wk1 rfl (by
       obtain⟨p1,p2,p3,p4,p5,p6,p7⟩:=HSP.out;have:=HL.out;rw[p1,p2] at this;simp[Srt.mrg_length] at this⊢;omega) hn (by have:=HF.out.2.2.2.1;obtain⟨p1,p2,p3,p4,p5,p6,p7⟩:=HSP.out;(try simp[Srt.mrg_length]);omega) (by obtain⟨p1,p2,p3,p4,p5,p6,p7⟩:=HSP.out;omega) (by obtain⟨p1,p2,p3,p4,p5,p6,p7⟩:=HSP.out;omega) (by obtain⟨p1,p2,p3,p4,p5,p6,p7⟩:=HSP.out;omega) (by obtain⟨p1,p2,p3,p4,p5,p6,p7⟩:=HSP.out;omega) HU1.out.1 HU1.out.2.2.1 (by
       have:=HP1.out;simpa using this))
     clear c;rw[t5];clear t5;go_wp2_with fail;refine HRO.out.mono ?_;rintro e w9 ⟨rfl,hr,ho⟩;have HR9:=Hd hr;have HO9:=Hd (HO1.out.trans ho);clear hr ho;go_wp2_with fail;go_meet
     exact⟨Hd (by have:=HR9.out;simpa using this),HO9⟩
    ·have t5:decide (a<s∧s<md)=false:=decide_eq_false c;have HE:=Hd (show PR wk1 B (P++(Srt.mrg Pk.key L1 R1++(L2++(R2++Q)))) from by
      obtain⟨p1,p2,p3,p4,p5,p6,p7⟩:=HSP.out;have h:=HP1.out;by_cases d:a<s
      ·have:R1=[]:=List.eq_nil_of_length_eq_zero (by omega);rw[this] at h⊢;rw[Srt.mrg_nil'];simpa using h
      ·have:L1=[]:=List.eq_nil_of_length_eq_zero (by omega);rw[this] at h⊢;rw[Srt.mrg_nil];simpa using h)
     clear c;rw[t5];clear t5;go_wp2_with fail;go_meet
     exact⟨HE,HO1⟩
   case rest=>
   obtain⟨HP2,HO2⟩:=hcut;clear HP1 HO1;rename World=>wk2;go_upto_region 43 with fail;go_cut [213] (fun v wx=>v=.bool (decide (md<en∧en<b))∧wx=wk2)
   case first=>
    as_aux_lemma=>
    by_cases c1:md<en
    ·have t5:decide ((md:Int)<(en:Int))=true:=decide_eq_true (by omega);by_cases c2:en<b
     ·have t6:decide ((en:Int)<(b:Int))=true:=decide_eq_true (by omega);have HT:=Hd (decide_eq_true (And.intro c1 c2));go_wp2_with fail;go_meet
      exact⟨by rw[HT.out],rfl⟩
     ·have t6:decide ((en:Int)<(b:Int))=false:=decide_eq_false (by omega);have HT:=Hd (decide_eq_false (fun h=>c2 h.2):decide (md<en∧en<b)=false);go_wp2_with fail;go_meet
      exact⟨by rw[HT.out],rfl⟩
    ·have t5:decide ((md:Int)<(en:Int))=false:=decide_eq_false (by omega);have HT:=Hd (decide_eq_false (fun h=>c1 h.1):decide (md<en∧en<b)=false);go_wp2_with fail;go_meet
     exact⟨by rw[HT.out],rfl⟩
   case rest=>
   obtain⟨rfl,hw⟩:=hcut;rw[hw];clear hw;go_upto_if 213 with fail
   by_cases c:md<en∧en<b
   ·have t5:decide (md<en∧en<b)=true:=decide_eq_true c;have HRO:=Hd (HIH.out (L2.length+R2.length) (by
      obtain⟨q1,q2,q3,q4,q5,q6,q7,q8,q9,q10,q11,q12⟩:=HF.out;obtain⟨p1,p2,p3,p4,p5,p6,p7⟩:=HSP.out;omega) B n cap (P++Srt.mrg Pk.key L1 R1) L2 R2 (Q) md en b wk2 rfl (by
      obtain⟨p1,p2,p3,p4,p5,p6,p7⟩:=HSP.out;have:=HL.out;rw[p1,p2] at this;simp[Srt.mrg_length] at this⊢;omega) hn (by have:=HF.out.2.2.2.1;obtain⟨p1,p2,p3,p4,p5,p6,p7⟩:=HSP.out;(try simp[Srt.mrg_length]);omega) (by obtain⟨p1,p2,p3,p4,p5,p6,p7⟩:=HSP.out;omega) (by obtain⟨p1,p2,p3,p4,p5,p6,p7⟩:=HSP.out;omega) (by obtain⟨p1,p2,p3,p4,p5,p6,p7⟩:=HSP.out;omega) (by obtain⟨p1,p2,p3,p4,p5,p6,p7⟩:=HSP.out;omega) HU1.out.2.1 HU1.out.2.2.2 (by
      have:=HP2.out;simpa using this))
    clear c;rw[t5];clear t5;go_wp2_with fail;refine HRO.out.mono ?_;rintro e w9 ⟨rfl,hr,ho⟩;have HR9:=Hd hr;have HO9:=Hd (HO2.out.trans ho);clear hr ho;go_wp2_with fail;go_end0;refine⟨rfl,?_,HO9.out⟩;rw[HRES.out];have:=HR9.out;simpa using this
   ·have t5:decide (md<en∧en<b)=false:=decide_eq_false c;have HE:=Hd (show PR wk2 B (P++(Srt.mrg Pk.key L1 R1++(Srt.mrg Pk.key L2 R2++Q))) from by
     obtain⟨p1,p2,p3,p4,p5,p6,p7⟩:=HSP.out;have h:=HP2.out;by_cases d:md<en
     ·have:R2=[]:=List.eq_nil_of_length_eq_zero (by omega);rw[this] at h⊢;rw[Srt.mrg_nil'];simpa using h
     ·have:L2=[]:=List.eq_nil_of_length_eq_zero (by omega);rw[this] at h⊢;rw[Srt.mrg_nil];simpa using h)
    clear c;rw[t5];clear t5;go_wp2_with fail;go_end0;refine⟨rfl,?_,HO2.out⟩;rw[HRES.out];have:=HE.out;simpa using this
theorem symMerge_all:∀N,SymK N:=by
 intro N;induction N using Nat.strongRecOn with
 | _ N ih=>
  intro B n cap P L R Q a m b w hN hl hn ha hm hb h1 h2 hL hR h;by_cases c1:L.length=1
  ·match L,c1 with
   | [x],_=>
    have:=symOne_any B n cap P R Q x a m b w (by simpa using hl) hn ha (by simpa using hm) hb hR (by simpa using h);exact this
  ·by_cases c2:R.length=1
   ·match R,c2 with
    | [x],_=>
     have:=symTwo_any B n cap P L Q x a m b w (by simpa using hl) hn ha hm (by simpa using hb) c1 hL (by simpa using h);exact this
   ·exact symGen N ih B n cap P L R Q a m b w hN hl hn ha hm hb (by omega) (by omega) hL hR h
def flS (Bs:List (List Pk)):List Pk:=(Bs.map (Srt.srt Pk.key)).flatten
theorem flS_append (As Bs:List (List Pk)):flS (As++Bs)=flS As++flS Bs:=by simp[flS]
theorem flS_cons (b:List Pk) (Bs:List (List Pk)):flS (b ::Bs)=Srt.srt Pk.key b++flS Bs:=by simp[flS]
theorem flS_nil:flS []=[]:=rfl
theorem flS_length (Bs:List (List Pk)):(flS Bs).length=Bs.flatten.length:=by
 induction Bs with
 | nil=>rfl
 | cons b Bs ih=>simp only[flS_cons,List.flatten_cons,List.length_append,Srt.srt_length,ih]
def Full (s:Nat) (Ds:List (List Pk)):Prop:=∀d∈Ds,d.length=s
theorem Full.length {s:Nat}:∀ {Ds:List (List Pk)},Full s Ds→Ds.flatten.length=s*Ds.length
 | [],_=>rfl
 | d ::Ds,h=>by
  rw[List.flatten_cons,List.length_append,Full.length (fun x hx=>h x (List.mem_cons_of_mem _ hx)),h d (List.mem_cons_self ..),List.length_cons,Nat.mul_add];omega
theorem Full.snoc {s:Nat} {Ds:List (List Pk)} (h:Full s Ds) {d:List Pk} (hd:d.length=s):Full s (Ds ++ [d]):=by
 intro x hx;rcases List.mem_append.1 hx with q | q
 ·exact h x q
 ·rw[List.mem_singleton.1 q];exact hd
/-- blocks: all of one length but the last -/
def Good (s:Nat):List (List Pk)→Prop
 | []=>True
 | [b]=>0<b.length∧b.length≤s
 | b ::c ::r=>b.length=s∧Good s (c ::r)
theorem Good.join {s:Nat} (hs:0<s):∀ {Ds Rs:List (List Pk)},Full s Ds→Good s Rs→Good s (Ds++Rs)
 | [],Rs,_,h=>h
 | [d],[],hd,_=>by have:=hd d (by simp);exact⟨by omega,by omega⟩
 | [d],r ::Rs,hd,h=>⟨hd d (by simp),h⟩
 | d ::e ::Ds,Rs,hd,h=>⟨hd d (by simp),Good.join hs (Ds:=e ::Ds) (fun x hx=>hd x (List.mem_cons_of_mem _ hx)) h⟩
theorem Good.tail {s:Nat} {b:List Pk}:∀ {r:List (List Pk)},Good s (b ::r)→Good s r
 | [],_=>trivial
 | _ ::_,h=>h.2
theorem Good.pos {s:Nat} (hs:0<s) {b:List Pk}:∀ {r:List (List Pk)},Good s (b ::r)→0<b.length∧b.length≤s
 | [],h=>h
 | _ ::_,h=>by have:=h.1;omega
/-- two blocks at the head of what is long enough -/
theorem Good.two {s:Nat} (_hs:0<s) {Rs:List (List Pk)} (h:Good s Rs) (hl:2*s≤Rs.flatten.length):∃b c r,Rs=b ::c ::r∧b.length=s∧c.length=s∧Good s r:=by
 match Rs,h with
 | [],_=>simp at hl;omega
 | [b],h=>have:=h.2;simp at hl;omega
 | [b,c],h=>have h1:=h.1;have h2:=h.2.2;simp at hl;exact⟨b,c,[],rfl,h1,by omega,trivial⟩
 | b ::c ::d ::r,h=>exact⟨b,c,d ::r,rfl,h.1,h.2.1,h.2.2⟩
theorem Good.rest {s:Nat} (_hs:0<s) {Rs:List (List Pk)} (h:Good s Rs) (h1:s<Rs.flatten.length) (h2:Rs.flatten.length<2*s):∃b c,Rs=[b,c]∧b.length=s∧0<c.length∧c.length≤s:=by
 match Rs,h with
 | [],_=>simp at h1
 | [b],h=>have:=h.2;simp at h1;omega
 | [b,c],h=>exact⟨b,c,rfl,h.1,h.2.1,h.2.2⟩
 | b ::c ::d ::r,h=>have q1:=h.1;have q2:=h.2.1;simp at h2;omega
theorem Good.few {s:Nat} (hs:0<s) {Rs:List (List Pk)} (h:Good s Rs) (h1:Rs.flatten.length≤s):Rs=[]∨∃b,Rs=[b]∧0<b.length∧b.length≤s:=by
 match Rs,h with
 | [],_=>exact .inl rfl
 | [b],h=>exact .inr ⟨b,rfl,h⟩
 | b ::c ::r,h=>have q1:=h.1;have q2:=Good.pos hs h.2;simp at h1;omega
set_option maxHeartbeats 8000000 in
theorem stable_any (B n cap:Nat) (l:List Pk) (w:World) (hl:l.length=n) (hn:n≤100000) (h:PR w B l):
  Calls Tryz.prog 169 #[.slice (some ⟨B,0,none⟩) n cap,.int .i64 (n:Int),.func (.func 154) #[] #[]] w fun e w'=>e=.returned (.tuple #[])∧PR w' B (Srt.srt Pk.key l)∧One B w w':=by
 have HL:=Hd hl;have HP:=Hd h;clear hl h;go_enter Tryz.func169,Tryz.ntmps169
 go_wp2_with fail;go_loopw [7,8] (fun c d wr=>∃a b:Nat,c=.int .i64 a∧d=.int .i64 b∧b=a+20∧Hid (∃Ds Y,l=Ds.flatten++Y∧Full 20 Ds∧Ds.flatten.length=a∧PR wr B (flS Ds++Y))∧Hid (One B w wr)) (fun c d _=>n+20-(intOf d).toNat)
 case atStart=>exact⟨0,20,rfl,rfl,rfl,Hd ⟨[],l,rfl,by intro d hd;simp at hd,rfl,HP.out⟩,Hd (One.refl _ _)⟩
 case round=>
  obtain⟨a,b,rfl,rfl,hb,HD,HO⟩:=hrel;by_cases hbn:b≤n
  ·have t0:decide ((b:Int)≤(n:Int))=true:=decide_eq_true (by omega);obtain⟨Ds,Y,hlY,hF,ha,hp⟩:=HD.out;have hY:Y.length+a=n:=by have:=HL.out;rw[hlY] at this;simp at this ha;omega
   have hfl:=flS_length Ds;have HC:=Hd (insertion_any B n cap (flS Ds) (Y.take 20) (Y.drop 20) a b wr (by simp;omega) (by omega) (by omega) (by simp;omega) (by simpa using hp));have HN:=Hd (show l=(Ds ++ [Y.take 20]).flatten++Y.drop 20∧Full 20 (Ds ++ [Y.take 20])∧(Ds ++ [Y.take 20]).flatten.length=b∧flS (Ds ++ [Y.take 20])++Y.drop 20=flS Ds++Srt.srt Pk.key (Y.take 20)++Y.drop 20 from⟨by rw[hlY];simp,hF.snoc (by simp;omega),by simp;simp at ha;omega,by rw[flS_append,flS_cons,flS_nil,List.append_nil]⟩);obtain⟨b',hb'⟩:∃b',b+20=b':=⟨_,rfl⟩;have e1:(b:Int)+20=(b':Int):=by omega
   have w1:∀v,v=(b':Int)→IntKind.i64.wrap v=v:=by intro v hv;rw[IntKind.wrap_i64];omega
   have HB:=Hd hb';clear hlY hF ha hp hY hfl hb' HD hb;go_wp2_with fail;refine HC.out.mono ?_;rintro e w9 ⟨rfl,hr,ho⟩;have HR9:=Hd hr;have HO9:=Hd (HO.out.trans ho);clear hr ho;go_wp2_with fail;refine⟨⟨b,b',rfl,rfl,HB.out.symm,Hd ⟨_,_,HN.out.1,HN.out.2.1,HN.out.2.2.1,by rw[HN.out.2.2.2];exact HR9.out⟩,HO9⟩,by have:=HB.out;simp[intOf];omega⟩
  ·have t0:decide ((b:Int)≤(n:Int))=false:=decide_eq_false (by omega);obtain⟨Ds,Y,hlY,hF,ha,hp⟩:=HD.out;have hY:Y.length+a=n:=by have:=HL.out;rw[hlY] at this;simp at this ha;omega
   have hfl:=flS_length Ds;have HC:=Hd (insertion_any B n cap (flS Ds) Y [] a n wr (by simp;omega) (by omega) (by omega) (by simp;omega) (by simpa using hp));have HG:=Hd (show ∃Bs,l=Bs.flatten∧Good 20 Bs∧flS Bs=flS Ds++Srt.srt Pk.key Y ++ [] from by
    by_cases hy:Y=[]
    ·subst hy;exact⟨Ds,by simpa using hlY,by simpa using Good.join (Rs:=[]) (by decide) hF trivial,by simp[Srt.srt]⟩
    ·have:0<Y.length:=List.length_pos_iff.2 hy;exact⟨Ds ++ [Y],by simpa using hlY,Good.join (by decide) hF ⟨this,by omega⟩,by rw[flS_append,flS_cons,flS_nil];simp⟩)
   clear hlY hF ha hp hY hfl HD hb;go_wp2_with fail;refine HC.out.mono ?_;rintro e w9 ⟨rfl,hr,ho⟩;have HO9:=Hd (HO.out.trans ho);obtain⟨Bs0,hB0,hG0,hE0⟩:=HG.out;rw[← hE0] at hr;have HR9:=Hd hr;have HG0:=Hd (And.intro hB0 hG0);clear hr ho hB0 hG0 hE0 HG HC HO;go_wp2_with fail;go_loopw [6] (fun c wr=>∃s:Nat,c=.int .i64 s∧0<s∧s≤2*n+20∧Hid (∃Bs,l=Bs.flatten∧Good s Bs∧PR wr B (flS Bs))∧Hid (One B w wr)) (fun c _=>n+1-(intOf c).toNat)
   case atStart=>exact⟨20,rfl,by decide,by omega,Hd ⟨Bs0,HG0.out.1,HG0.out.2,HR9.out⟩,HO9⟩
   case round=>
    obtain⟨s,rfl,hs0,hsn,HS,HO2⟩:=hrel;by_cases hlt:s<n
    ·have t1:decide ((s:Int)<(n:Int))=true:=decide_eq_true (by omega);obtain⟨s2,hs2⟩:∃s2,2*s=s2:=⟨_,rfl⟩;have e1:(2:Int)*(s:Int)=(s2:Int):=by omega
     have e2:(s:Int)*2=(s2:Int):=by omega
     have w1:∀v,v=(s2:Int)→IntKind.i64.wrap v=v:=by intro v hv;rw[IntKind.wrap_i64];omega
     have HS2:=Hd hs2;obtain⟨Bs,hB1,hG1,hP1⟩:=HS.out;have HB1:=Hd hB1;have HG1:=Hd hG1;have HP1:=Hd hP1;clear hB1 hG1 hP1 HS hs2;go_wp2_with fail;go_loopw [7,8] (fun c d wr=>∃a b:Nat,c=.int .i64 a∧d=.int .i64 b∧b=a+s2∧a≤n∧Hid (∃Ds Rs,l=Ds.flatten++Rs.flatten∧Full s2 Ds∧Good s Rs∧Ds.flatten.length=a∧PR wr B (flS Ds++flS Rs))∧Hid (One B w wr)) (fun c d _=>n+s2+1-(intOf d).toNat)
     case atStart=>exact⟨0,s2,rfl,rfl,by omega,by omega,Hd ⟨[],Bs,by simpa using HB1.out,by intro d hd;simp at hd,HG1.out,rfl,by simpa [flS_nil] using HP1.out⟩,HO2⟩
     case round=>
      obtain⟨a,b,rfl,rfl,hb,han,HD,HO3⟩:=hrel;by_cases hbn:b≤n
      ·have t2:decide ((b:Int)≤(n:Int))=true:=decide_eq_true (by omega);obtain⟨Ds,Rs,hlR,hF,hG,ha,hp⟩:=HD.out;have hY:Rs.flatten.length+a=n:=by have:=HL.out;rw[hlR] at this;simp only[List.length_append] at this;omega
       obtain⟨x,y,r,rfl,hx,hy,hGr⟩:=hG.two hs0 (by have:=HS2.out;omega);have hfl:=flS_length Ds;have hfr:=flS_length r;have hnr:x.length+(y.length+r.flatten.length)+a=n:=by simpa using hY
       obtain⟨m,hm⟩:∃m,a+s=m:=⟨_,rfl⟩;have e3:(a:Int)+(s:Int)=(m:Int):=by omega
       have w3:∀v,v=(m:Int)→IntKind.i64.wrap v=v:=by intro v hv;rw[IntKind.wrap_i64];omega
       obtain⟨b2,hb2⟩:∃b2,b+s2=b2:=⟨_,rfl⟩;have e4:(b:Int)+(s2:Int)=(b2:Int):=by omega
       have w4:∀v,v=(b2:Int)→IntKind.i64.wrap v=v:=by intro v hv;rw[IntKind.wrap_i64];omega
       have HC:=Hd (symMerge_all _ B n cap (flS Ds) (Srt.srt Pk.key x) (Srt.srt Pk.key y) (flS r) a m b wr rfl (by simp only[List.length_append,Srt.srt_length];omega) (by omega) (by omega) (by rw[Srt.srt_length];omega) (by rw[Srt.srt_length];have:=HS2.out;omega) (by rw[Srt.srt_length];omega) (by rw[Srt.srt_length];omega) (Srt.srt_up _) (Srt.srt_up _) (by rw[flS_cons,flS_cons] at hp;exact hp));have HN:=Hd (show l=(Ds ++ [x++y]).flatten++r.flatten∧Full s2 (Ds ++ [x++y])∧(Ds ++ [x++y]).flatten.length=b∧flS (Ds ++ [x++y])++flS r=flS Ds++(Srt.mrg Pk.key (Srt.srt Pk.key x) (Srt.srt Pk.key y)++flS r) from⟨by rw[hlR];simp,hF.snoc (by simp;have:=HS2.out;omega),by rw[List.flatten_append,List.length_append,ha];simp;have:=HS2.out;omega,by rw[flS_append,flS_cons,flS_nil,Srt.srt_append];simp⟩);have HGR:=Hd hGr;have HBB:=Hd hb2;clear hlR hF hG ha hp hY hfl hfr hnr hx hy hGr hm hb2 HD hb;go_wp2_with fail;refine HC.out.mono ?_;rintro e w9 ⟨rfl,hr,ho⟩;have HR9:=Hd hr;have HO9:=Hd (HO3.out.trans ho);clear hr ho;go_wp2_with fail;refine⟨⟨b,b2,rfl,rfl,HBB.out.symm,hbn,Hd ⟨_,r,HN.out.1,HN.out.2.1,HGR.out,HN.out.2.2.1,by rw[HN.out.2.2.2];exact HR9.out⟩,HO9⟩,by have:=HBB.out;have:=HS2.out;simp[intOf];omega⟩
      ·have t2:decide ((b:Int)≤(n:Int))=false:=decide_eq_false (by omega);obtain⟨Ds,Rs,hlR,hF,hG,ha,hp⟩:=HD.out;have hY:Rs.flatten.length+a=n:=by have:=HL.out;rw[hlR] at this;simp only[List.length_append] at this;omega
       obtain⟨m,hm⟩:∃m,a+s=m:=⟨_,rfl⟩;have e3:(a:Int)+(s:Int)=(m:Int):=by omega
       have w3:∀v,v=(m:Int)→IntKind.i64.wrap v=v:=by intro v hv;rw[IntKind.wrap_i64];omega
       by_cases hmn:m<n
       ·have t3:decide ((m:Int)<(n:Int))=true:=decide_eq_true (by omega);obtain⟨x,y,rfl,hx,hy0,hy⟩:=hG.rest hs0 (by omega) (by have:=HS2.out;omega);have hfl:=flS_length Ds;have hnr:x.length+y.length+a=n:=by simpa using hY
        have HC:=Hd (symMerge_all _ B n cap (flS Ds) (Srt.srt Pk.key x) (Srt.srt Pk.key y) [] a m n wr rfl (by simp only[List.length_append,Srt.srt_length,List.length_nil];omega) (by omega) (by omega) (by rw[Srt.srt_length];omega) (by rw[Srt.srt_length];omega) (by rw[Srt.srt_length];omega) (by rw[Srt.srt_length];omega) (Srt.srt_up _) (Srt.srt_up _) (by rw[flS_cons,flS_cons,flS_nil] at hp;exact hp));have HN:=Hd (show l=(Ds ++ [x++y]).flatten∧Good s2 (Ds ++ [x++y])∧flS (Ds ++ [x++y])=flS Ds++(Srt.mrg Pk.key (Srt.srt Pk.key x) (Srt.srt Pk.key y) ++ []) from⟨by rw[hlR];simp,Good.join (by omega) hF (show Good s2 [x++y] from⟨by simp;omega,by simp;have:=HS2.out;omega⟩),by rw[flS_append,flS_cons,flS_nil,Srt.srt_append]⟩);clear hlR hF hG ha hp hY hfl hnr hx hy hy0 hm HD hb;go_wp2_with fail;refine HC.out.mono ?_;rintro e w9 ⟨rfl,hr,ho⟩;have HR9:=Hd hr;have HO9:=Hd (HO3.out.trans ho);clear hr ho;go_wp2_with fail;refine⟨⟨s2,rfl,by omega,by have:=HS2.out;omega,Hd ⟨_,HN.out.1,HN.out.2.1,by rw[HN.out.2.2];exact HR9.out⟩,HO9⟩,by have:=HS2.out;simp[intOf];omega⟩
       ·have t3:decide ((m:Int)<(n:Int))=false:=decide_eq_false (by omega);have HN:=Hd (show ∃Bs,l=Bs.flatten∧Good s2 Bs∧PR wr B (flS Bs) from by
         rcases hG.few hs0 (by omega) with rfl | ⟨x,rfl,h1,h2⟩
         ·exact⟨Ds,by simpa using hlR,by simpa using Good.join (Rs:=[]) (by omega) hF trivial,by simpa [flS_nil] using hp⟩
         ·exact⟨Ds ++ [x],by simpa using hlR,Good.join (by omega) hF (show Good s2 [x] from⟨h1,by have:=HS2.out;omega⟩),by rw[flS_append];exact hp⟩)
        clear hlR hF hG ha hp hY hm HD hb;go_wp2_with fail;refine⟨⟨s2,rfl,by omega,by have:=HS2.out;omega,HN,HO3⟩,by have:=HS2.out;simp[intOf];omega⟩
    ·have t1:decide ((s:Int)<(n:Int))=false:=decide_eq_false (by omega);go_wp2_with fail;go_end0;refine⟨rfl,?_,HO2.out⟩;obtain⟨Bs,hB1,hG1,hP1⟩:=HS.out;have hlen:Bs.flatten.length=n:=by rw[← hB1];exact HL.out
     rcases hG1.few hs0 (by omega) with rfl | ⟨x,rfl,_,_⟩
     ·simp at hB1;subst hB1;simpa [flS_nil,Srt.srt] using hP1
     ·simp at hB1;subst hB1;simpa [flS_cons,flS_nil] using hP1
theorem sort_any (B n cap:Nat) (l:List Pk) (w:World) (hl:l.length=n) (hn:n≤100000) (h:PR w B l):
  Calls Tryz.prog 153 #[.slice (some ⟨B,0,none⟩) n cap,.func (.func 154) #[] #[]] w fun e w'=>e=.returned (.tuple #[])∧PR w' B (Srt.srt Pk.key l)∧One B w w':=by
 have HC:=Hd (stable_any B n cap l w hl hn h);clear hl h;go_enter Tryz.func153,Tryz.ntmps153
 go_wp2_with fail;refine HC.out.mono ?_;rintro e w9 ⟨rfl,hr,ho⟩;go_wp2_with fail;go_end0;exact⟨rfl,hr,ho⟩
end Go.Proofs.YthlibiocadimhaaGreatDoor
