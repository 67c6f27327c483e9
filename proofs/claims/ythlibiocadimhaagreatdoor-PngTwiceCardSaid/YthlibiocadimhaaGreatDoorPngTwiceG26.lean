/-
  What is written of a picture is read: the plain law. No function of the program is named.
  Reading a file of a picture: the plain parts put together.
-/
import Derived.Test.YthlibiocadimhaaGreatDoorPngTwiceG1
import Derived.Test.YthlibiocadimhaaGreatDoorPngTwiceG23
import Derived.Test.YthlibiocadimhaaGreatDoorPngTwiceG25
import Derived.Test.YthlibiocadimhaaGreatDoorPngTwiceG21
set_option linter.unusedSimpArgs false
set_option linter.unusedVariables false
set_option maxRecDepth 100000
namespace Go.Proofs.YthlibiocadimhaaGreatDoor
open Go.RowKit
namespace Png
def sumC:List Ck→Nat
 | []=>0
 | c ::L=>12+c.d.size+sumC L
theorem fileL_good:∀(L acc:List Ck),(∀c∈L,kindB c.k.data.toList=true)→8+sumC L+((acc.flatMap enc).length)≤300000→fileL acc acc.length=.ok (sigB++acc.flatMap enc)→fileL (acc++L) (acc++L).length=.ok (sigB++(acc++L).flatMap enc)
 | [],acc,_,_,h=>by rw[List.append_nil];exact h
 | c ::L,acc,hk,hs,h=>by
  have hkc:=hk c (List.mem_cons_self ..);have hst:fstep c acc.length (sigB++acc.flatMap enc)=.ok (sigB++(acc ++ [c]).flatMap enc):=by
   unfold fstep;have e8:sigB.length=8:=rfl;unfold sumC at hs;rw[if_pos hkc,if_neg (by rw[List.length_append,e8];omega),List.flatMap_append,List.append_assoc];simp
  have h2:=(fileL_snoc h).trans hst;have:=fileL_good L (acc ++ [c]) (fun q hq=>hk q (List.mem_cons_of_mem _ hq)) (by
   unfold sumC at hs;rw[List.flatMap_append,List.length_append];have:([c].flatMap enc).length=12+c.d.size:=by simp[enc_length c hkc]
   omega) h2
  rw[List.append_assoc] at this;exact this
theorem head_read {W H d k:Nat} (hW:1≤W∧W≤256) (hH:1≤H∧H≤256) (hd:d<256) (hk:k<256) (hb:byN k≠0) (ho:depOk k d):headR ⟨ihdr,⟨(headL W H d k).toArray⟩⟩=.ok W H d k:=by
 have e1:(headL W H d k).take 4=big4 W:=rfl;have e2:((headL W H d k).drop 4).take 4=big4 H:=rfl;have e3:(headL W H d k).getD 8 0=UInt8.ofNat d:=rfl;have e4:(headL W H d k).getD 9 0=UInt8.ofNat k:=rfl;have e5:(headL W H d k).drop 10=[0,0,0]:=rfl;unfold headR;rw[if_pos ⟨rfl,rfl⟩];show (if 1≤valN ((headL W H d k).take 4)∧_ then _ else _)=_;simp only[e1,e2,e3,e4,e5,valN_big4 W (by omega),valN_big4 H (by omega),Sto.ofNat_toNat d hd,Sto.ofNat_toNat k hk];rw[if_pos ⟨hW.1,hW.2,hH.1,hH.2⟩,if_pos ⟨hb,ho,trivial⟩]
/-- rows of kind 0 -/
theorem undoL_0 (row ahead:List UInt8) (step:Nat):∀i,i≤row.length→undoL 0 row ahead step i=row.take i
 | 0,_=>by simp[undoL]
 | i+1,h=>by
  rw[undo_snoc,undoL_0 row ahead step i (by omega)];have e:fore 0 (preF (row.take i) step i) (ahead.getD i 0).toNat (preF ahead step i)=0:=rfl;rw[e];have hlt:i<row.length:=by omega
  have e2:row.getD i 0+UInt8.ofNat 0=row[i]:=by
   rw[List.getD_eq_getElem?_getD,List.getElem?_eq_getElem hlt];simp
  rw[e2];exact List.take_append_getElem hlt
theorem undoS_0 (row ahead:ByteArray) (step:Nat):undoS 0 row ahead step=row:=by
 unfold undoS;rw[undoL_0 row.data.toList ahead.data.toList step row.size (Nat.le_refl _)];have:row.data.toList.take row.size=row.data.toList:=List.take_of_length_le (Nat.le_refl _);rw[this]
theorem rowsP_split (dep W:Nat) (v:Nat→Nat) (y:Nat):∀d,∃m,rowsP dep W v (y+1+d)=rowsP dep W v y++(0 ::packR dep ((W*dep+7)/8) (fun x=>v (y*W+x)) W)++m:=by
 intro d;induction d with
 | zero=>exact⟨[],by rw[List.append_nil];rfl⟩
 | succ d ih=>
  obtain⟨m,hm⟩:=ih;exact⟨m++0 ::packR dep ((W*dep+7)/8) (fun x=>v ((y+1+d)*W+x)) W,by
   have e:rowsP dep W v (y+1+(d+1))=rowsP dep W v (y+1+d)++(0 ::packR dep ((W*dep+7)/8) (fun x=>v ((y+1+d)*W+x)) W):=rfl;rw[e,hm,List.append_assoc]⟩
theorem rowsP_kind {dep W H y:Nat} {v:Nat→Nat} (hy:y<H):kdT (tx (rowsP dep W v H)) ((W*dep+7)/8) y=0:=by
 obtain⟨m,hm⟩:=rowsP_split dep W v y (H-(y+1));rw[show y+1+(H-(y+1))=H by omega] at hm;unfold kdT;rw[tx_list,hm,List.append_assoc,List.getD_eq_getElem?_getD,← rowsP_len dep W v y,List.getElem?_append_right (Nat.le_refl _),Nat.sub_self];rfl
theorem rowsP_rest {dep W H y:Nat} {v:Nat→Nat} (hy:y<H):restT (tx (rowsP dep W v H)) ((W*dep+7)/8) y=tx (packR dep ((W*dep+7)/8) (fun x=>v (y*W+x)) W):=by
 obtain⟨m,hm⟩:=rowsP_split dep W v y (H-(y+1));rw[show y+1+(H-(y+1))=H by omega] at hm;have hl:=rowsP_len dep W v y;unfold restT;rw[tx_extract,hm,← hl];congr 1
 have e:(y+1)*((W*dep+7)/8+1)-((rowsP dep W v y).length+1)=(packR dep ((W*dep+7)/8) (fun x=>v (y*W+x)) W).length:=by
  rw[packR_len,hl,Nat.succ_mul];omega
 rw[e,show rowsP dep W v y++(0 ::packR dep ((W*dep+7)/8) (fun x=>v (y*W+x)) W)++m=(rowsP dep W v y ++ [0])++(packR dep ((W*dep+7)/8) (fun x=>v (y*W+x)) W++m) by simp,
  show (rowsP dep W v y).length+1=(rowsP dep W v y ++ [0]).length by simp,List.drop_left,List.take_left]
/-- the rows without their kinds -/
def rows0 (dep W:Nat) (v:Nat→Nat):Nat→List UInt8
 | 0=> []
 | y+1=>rows0 dep W v y++packR dep ((W*dep+7)/8) (fun x=>v (y*W+x)) W
theorem rows0_len (dep W:Nat) (v:Nat→Nat):∀y,(rows0 dep W v y).length=y*((W*dep+7)/8)
 | 0=>by simp[rows0]
 | y+1=>by unfold rows0;rw[List.length_append,packR_len,rows0_len dep W v y,Nat.succ_mul]
theorem rows0_get (dep W:Nat) (v:Nat→Nat) (y j:Nat) (hj:j<(W*dep+7)/8):∀H,y<H→(rows0 dep W v H).getD (y*((W*dep+7)/8)+j) 0=(packR dep ((W*dep+7)/8) (fun x=>v (y*W+x)) W).getD j 0
 | 0,h=>by omega
 | H+1,h=>by
  have hl:=rows0_len dep W v H;unfold rows0;by_cases e:y=H
  ·subst e;rw[List.getD_eq_getElem?_getD,← hl,List.getElem?_append_right (by omega),Nat.add_sub_cancel_left,← List.getD_eq_getElem?_getD]
  ·have h2:y*((W*dep+7)/8)+(W*dep+7)/8≤H*((W*dep+7)/8):=by rw[← Nat.succ_mul];exact Nat.mul_le_mul_right _ (by omega)
   rw[List.getD_eq_getElem?_getD,List.getElem?_append_left (by omega),← List.getD_eq_getElem?_getD];exact rows0_get dep W v y j hj H (by omega)
theorem rowsP_un {dep W H:Nat} {v:Nat→Nat} (step:Nat):∀y,y≤H→unS (tx (rowsP dep W v H)) ((W*dep+7)/8) step y=tx (rows0 dep W v y)
 | 0,_=>by
  show (⟨#[]⟩:ByteArray)=_;rw[tx_nil];rfl
 | y+1,h=>by
  show unS _ _ _ y++undoS _ _ _ _=_;rw[rowsP_un step y (by omega),rowsP_kind (by omega),rowsP_rest (by omega)];show _++undoS 0 _ _ _=_;rw[undoS_0,tx_append];rfl
theorem rawL_get {px:Nat→P4} {i c:Nat} (hc:c<4):∀ {n:Nat},i<n→(rawL px n).getD (4*i+c) 0=(p4B (px i)).getD c 0
 | 0,h=>by omega
 | n+1,h=>by
  have hl:=rawL_len px n;unfold rawL;by_cases e:i=n
  ·subst e;rw[List.getD_eq_getElem?_getD,← hl,List.getElem?_append_right (by omega),Nat.add_sub_cancel_left,← List.getD_eq_getElem?_getD]
  ·rw[List.getD_eq_getElem?_getD,List.getElem?_append_left (by omega),← List.getD_eq_getElem?_getD];exact rawL_get hc (by omega)
theorem colL_get:∀(l:List P4) (i c:Nat),i<l.length→c<3→(colL l).getD (3*i+c) 0=[u8i (atL l i).r,u8i (atL l i).g,u8i (atL l i).b].getD c 0
 | [],i,c,h,_=>by simp at h
 | p ::l,i,c,h,hc=>by
  have e:colL (p ::l)=[u8i p.r,u8i p.g,u8i p.b]++colL l:=rfl;rw[e];cases i with
  | zero=>
   rw[List.getD_eq_getElem?_getD,List.getElem?_append_left (by simp;omega),← List.getD_eq_getElem?_getD];rw[show 3*0+c=c by omega];rfl
  | succ i=>
   have hz:([u8i p.r,u8i p.g,u8i p.b]:List UInt8).length=3:=rfl;rw[List.getD_eq_getElem?_getD,List.getElem?_append_right (by rw[hz];omega),hz,show 3*(i+1)+c-3=3*i+c by omega,← List.getD_eq_getElem?_getD];exact colL_get l i c (by simpa using h) hc
theorem alpL_get {l:List P4} {i:Nat} (h:i<l.length):(alpL l).getD i 0=u8i (atL l i).a:=by
 unfold alpL atL;rw[List.getD_eq_getElem?_getD,List.getElem?_map,List.getElem?_eq_getElem h,List.getD_eq_getElem?_getD,List.getElem?_eq_getElem h];rfl
theorem depN_fits {n:Nat} (h:n≤256):n≤2^depN n:=by
 unfold depN;split
 ·omega
 split
 ·omega
 split <;> omega
theorem depN_is (n:Nat):IsDep (depN n):=by
 unfold depN IsDep;split
 ·exact .inl rfl
 split
 ·exact .inr (.inl rfl)
 split
 ·exact .inr (.inr (.inl rfl))
 ·exact .inr (.inr (.inr rfl))
theorem div_row {W i:Nat}:i/W*W+i%W=i:=by rw[Nat.mul_comm];exact Nat.div_add_mod i W
/-- the palette's pixels are read -/
theorem pal_back {W H n:Nat} {px:Nat→P4} (hW:1≤W) (hn:n=H*W) (hok:∀i,i<n→(px i).Ok) (hs:(pals px n).length≤256)
  (r:Rd) (hrw:r.wide=W) (hrk:r.kind=3) (hrd:r.depth=depN (pals px n).length) (hrc:r.colors.data.toList=colL (pals px n)) (hra:r.alphas.data.toList=(alpL (pals px n)).take (covs (pals px n) (pals px n).length)) (i:Nat) (hi:i<n):
  numAt r (rows0 r.depth W (fun i=>(pals px n).idxOf (px i)) H) ((W*r.depth+7)/8) i=(pals px n).idxOf (px i)∧pxAt r (rows0 r.depth W (fun i=>(pals px n).idxOf (px i)) H) ((W*r.depth+7)/8) i=px i:=by
 have hmem:px i∈pals px n:=(pals_mem px n _).2 ⟨i,hi,rfl⟩;have hx:i%W<W:=Nat.mod_lt _ (by omega);have hy:i/W<H:=Nat.div_lt_of_lt_mul (by rw[Nat.mul_comm,← hn];exact hi);have hdep:IsDep r.depth:=by rw[hrd];exact depN_is _
 have hlt:∀p,p∈pals px n→(pals px n).idxOf p<(pals px n).length:=fun p h=>List.idxOf_lt_length_of_mem h;have hnum:numAt r (rows0 r.depth W (fun i=>(pals px n).idxOf (px i)) H) ((W*r.depth+7)/8) i=(pals px n).idxOf (px i):=by
  unfold numAt;rw[hrw,rows0_get _ _ _ _ _ (idx_fits hdep hx) _ hy];have q:=packR_get (dep:=r.depth) (W:=W) (v:=fun x=>(pals px n).idxOf (px (i/W*W+x))) hdep (fun x hx=>by
   have hm:px (i/W*W+x)∈pals px n:=(pals_mem px n _).2 ⟨_,by
    have:(i/W+1)*W≤H*W:=Nat.mul_le_mul_right _ (by omega);rw[hn];rw[Nat.succ_mul] at this;omega,rfl⟩
   have:=hlt _ hm;have:=depN_fits hs;rw[hrd];omega) W (Nat.le_refl _) (i%W) hx
  rw[if_pos hx] at q;unfold fieldN at q;rw[q,div_row]
 refine⟨hnum,?_⟩;have hil:=hlt _ hmem;have hat:atL (pals px n) ((pals px n).idxOf (px i))=px i:=atL_idx hmem;have hp:=hok i hi;unfold pxAt;rw[hnum,hrk];obtain⟨k,hk⟩:∃k,(pals px n).idxOf (px i)=k:=⟨_,rfl⟩;rw[hk] at hil hat⊢;rw[if_neg (by decide),if_neg (by decide),if_neg (by decide)];have c0:=colL_get (pals px n) k 0 hil (by decide);have c1:=colL_get (pals px n) k 1 hil (by decide);have c2:=colL_get (pals px n) k 2 hil (by decide);rw[hat] at c0 c1 c2;have a0:=alpL_get hil;rw[hat] at a0;have v0:=u8i_val hp.r;have v1:=u8i_val hp.g;have v2:=u8i_val hp.b;have v3:=u8i_val hp.a;have hcv:=covs_le (pals px n) (pals px n).length;have hal:(alpL (pals px n)).length=(pals px n).length:=alpL_len _;have hasz:r.alphas.size=covs (pals px n) (pals px n).length:=by
  have e:r.alphas.size=r.alphas.data.toList.length:=rfl;rw[e,hra,List.length_take,hal];omega
 have ha:(if k<r.alphas.size then bI r.alphas.data.toList k else 255)=(px i).a:=by
  rw[hasz];split
  ·rename_i hlt;unfold bI;rw[hra,List.getD_eq_getElem?_getD,List.getElem?_take_of_lt hlt,← List.getD_eq_getElem?_getD,a0,v3]
  ·rename_i hge;have q:=covs_full (pals px n) (pals px n).length k (by omega) hil;rw[hat] at q;have:=hp.a.2;omega
 show (⟨bI r.colors.data.toList (3*k),bI r.colors.data.toList (3*k+1),bI r.colors.data.toList (3*k+2),if k<r.alphas.size then bI r.alphas.data.toList k else 255⟩:P4)=px i;rw[ha];unfold bI;rw[hrc];have e0:(colL (pals px n)).getD (3*k) 0=u8i (px i).r:=c0;have e1:(colL (pals px n)).getD (3*k+1) 0=u8i (px i).g:=c1;have e2:(colL (pals px n)).getD (3*k+2) 0=u8i (px i).b:=c2;rw[e0,e1,e2,v0,v1,v2]
/-- pixels of all colours are read -/
theorem raw_back {W H n:Nat} {px:Nat→P4} (hW:1≤W) (hn:n=H*W) (hok:∀i,i<n→(px i).Ok) (r:Rd) (hrw:r.wide=W) (hrk:r.kind=6) (i:Nat) (hi:i<n):pxAt r (rawL px n) (4*W) i=px i:=by
 have hp:=hok i hi;have e:i/W*(4*W)+4*(i%W)=4*i:=by
  have:=div_row (W:=W) (i:=i);rw[Nat.mul_left_comm,← Nat.mul_add,this]
 unfold pxAt;rw[hrk,if_neg (by decide),if_neg (by decide),if_pos rfl,hrw];show (⟨bI (rawL px n) (i/W*(4*W)+4*(i%W)),bI (rawL px n) (i/W*(4*W)+4*(i%W)+1),bI (rawL px n) (i/W*(4*W)+4*(i%W)+2),bI (rawL px n) (i/W*(4*W)+4*(i%W)+3)⟩:P4)=px i;rw[e];unfold bI;have c0:=rawL_get (px:=px) (i:=i) (c:=0) (by decide) hi;have c1:=rawL_get (px:=px) (i:=i) (c:=1) (by decide) hi;have c2:=rawL_get (px:=px) (i:=i) (c:=2) (by decide) hi;have c3:=rawL_get (px:=px) (i:=i) (c:=3) (by decide) hi;have d0:(rawL px n).getD (4*i) 0=u8i (px i).r:=c0;have d1:(rawL px n).getD (4*i+1) 0=u8i (px i).g:=c1;have d2:(rawL px n).getD (4*i+2) 0=u8i (px i).b:=c2;have d3:(rawL px n).getD (4*i+3) 0=u8i (px i).a:=c3;rw[d0,d1,d2,d3,u8i_val hp.r,u8i_val hp.g,u8i_val hp.b,u8i_val hp.a]
theorem stN_0 {r:Rd} {c:Ck} (h:r.st=0):stN r c=0:=by unfold stN;rw[h];simp
theorem idat_parts:¬ (idat=ihdr∨idat=iend):=by decide
theorem plte_parts:¬ (plte=ihdr∨plte=iend)∧¬ plte=idat:=by decide
theorem trns_parts:¬ (trns=ihdr∨trns=iend)∧¬ trns=idat∧¬ trns=plte:=by decide
theorem on_idat (r:Rd) (d:ByteArray) (h:r.st=0):onB r ⟨idat,d⟩=true∧onR r ⟨idat,d⟩= { r with data:=r.data++d.data.toList,st:=1 }:=by
 unfold onB onR;rw[if_neg idat_parts,if_neg idat_parts,if_pos rfl,if_pos rfl,stN_0 h];exact⟨rfl,rfl⟩
theorem on_plte (r:Rd) (d:ByteArray) (h:r.st=0) (hc:r.hc=false) (ha:r.ha=false) (hk:r.kind=3) (h0:0<d.size) (h3:d.size%3=0) (hm:d.size/3≤2^r.depth):onB r ⟨plte,d⟩=true∧onR r ⟨plte,d⟩= { r with colors:=d,hc:=true,st:=0 }:=by
 unfold onB onR;rw[if_neg plte_parts.1,if_neg plte_parts.1,if_neg plte_parts.2,if_neg plte_parts.2,if_pos rfl,if_pos rfl,stN_0 h];refine⟨decide_eq_true ⟨hc,ha,rfl,by omega,h0,h3,?_⟩,rfl⟩;unfold mostN;rw[if_pos hk];exact hm
theorem on_trns (r:Rd) (d:ByteArray) (h:r.st=0) (hc:r.hc=true) (ha:r.ha=false) (hk:r.kind=3) (hs:3*d.size≤r.colors.size):onB r ⟨trns,d⟩=true∧onR r ⟨trns,d⟩= { r with alphas:=d,ha:=true,st:=0 }:=by
 unfold onB onR;rw[if_neg trns_parts.1,if_neg trns_parts.1,if_neg trns_parts.2.1,if_neg trns_parts.2.1,if_neg trns_parts.2.2,if_neg trns_parts.2.2,if_pos rfl,if_pos rfl,stN_0 h];exact⟨decide_eq_true ⟨hc,ha,rfl,hk,hs⟩,rfl⟩
theorem body_of {r r':Rd} {M:List Ck} {t:List UInt8} (hB:runB r M=true) (hR:runR r M=r') (hs:r'.st≠0) (hc:r'.kind=3→r'.hc=true) (hu:Inf.unz ⟨r'.data.toArray⟩ ((r'.high*(rowN r'+1):Nat):Int)=.ok t):bodyR r (M ++ [⟨iend,⟨#[]⟩⟩])=pixR r' t:=by
 unfold bodyR;rw[if_pos ⟨by simp,by simp,by rw[List.dropLast_concat];exact hB⟩];simp only[List.dropLast_concat,hR];rw[if_neg (by rintro (h | ⟨h1,h2⟩);exact hs h;rw[hc h1] at h2;cases h2),hu]
theorem pix_of {r:Rd} {t:List UInt8} {u:ByteArray} (hl:t.length=r.high*(rowN r+1)) (hk:∀j,j<r.high→kdT (tx t) (rowN r) j≤4) (hu:unS (tx t) (rowN r) (byN r.kind) r.high=u) (hg:∀i,i<r.high*r.wide→goodAt r u.data.toList (rowN r) i):pixR r t=.ok r.wide r.high (pxAt r u.data.toList (rowN r)):=by
 unfold pixR;rw[if_pos ⟨hl,hk⟩,hu,if_pos hg]
theorem pic_head {s:ByteArray} {W H d k:Nat} {M:List Ck} {z:List UInt8} (hr:readL s=.ok (⟨ihdr,⟨(headL W H d k).toArray⟩⟩ ::M ++ [⟨idat,⟨z.toArray⟩⟩] ++ [⟨iend,⟨#[]⟩⟩])) (hW:1≤W∧W≤256) (hH:1≤H∧H≤256) (hd:d<256) (hk:k<256) (hb:byN k≠0) (ho:depOk k d):picR s=bodyR (rd0 W H d k) (M ++ [⟨idat,⟨z.toArray⟩⟩] ++ [⟨iend,⟨#[]⟩⟩]):=by
 unfold picR;rw[hr];show (match headR ⟨ihdr,⟨(headL W H d k).toArray⟩⟩ with | .bad c=>PcR.bad c | .ok W H d k=>bodyR (rd0 W H d k) _)=_;rw[head_read hW hH hd hk hb ho];rfl
theorem runR_append (r:Rd) (L M:List Ck):runR r (L++M)=runR (runR r L) M:=by
 induction L generalizing r with
 | nil=>rfl
 | cons x L ih=>exact ih _
theorem runB_append (r:Rd) (L M:List Ck):runB r (L++M)=(runB r L&&runB (runR r L) M):=by
 induction L generalizing r with
 | nil=>simp[runB,runR]
 | cons x L ih=>simp only[List.cons_append,runB,runR,ih,Bool.and_assoc]
/-- the body of a file that png.Write writes -/
theorem body_plan {r r1:Rd} {M:List Ck} {z R:List UInt8} (hB:runB r M=true) (hR:runR r M=r1) (h0:r1.st=0) (hd:r1.data=[]) (hc:r1.kind=3→r1.hc=true) (hz:Reads z R) (hl:z.length+6≤300000) (hn:R.length=r1.high*(rowN r1+1)) (hm:R.length≤300000):
  bodyR r (M ++ [⟨idat,⟨(zipL z R).toArray⟩⟩] ++ [⟨iend,⟨#[]⟩⟩])=pixR { r1 with data:=zipL z R,st:=1 } R:=by
 obtain⟨o1,o2⟩:=on_idat r1 ⟨(zipL z R).toArray⟩ h0;refine body_of (r':= { r1 with data:=zipL z R,st:=1 }) ?_ ?_ (by show (1:Nat)≠0;omega) hc ?_
 ·rw[runB_append,hB,hR];show (true&&(onB r1 _&&true))=true;rw[o1];rfl
 ·rw[runR_append,hR];simp only[runR];rw[o2,hd];rfl
 ·have:=unz_zip hz hl (most:=R.length) (Nat.le_refl _) hm;rw[hn] at this;exact this
theorem pic_plan {W H n:Nat} {px:Nat→P4} {s:ByteArray} {z:List UInt8} (hW:1≤W∧W≤256) (hH:1≤H∧H≤256) (hn:n=H*W) (hs:n≤3000) (hok:∀i,i<n→(px i).Ok) (hz:Reads z (planR W H px n)) (hl:z.length+6≤300000)
  (hr:readL s=.ok (fullC (planC W H px n) (zipL z (planR W H px n)))):∃qx,picR s=.ok W H qx∧∀i,i<n→qx i=px i:=by
 have hRl:=planR_len (W:=W) (px:=px) hH.2 hn hs;have hn0:0<n:=by rw[hn];exact Nat.mul_pos (by omega) (by omega)
 by_cases hbig:256<(pals px n).length
 ·have eC:planC W H px n=[⟨ihdr,⟨(headL W H 8 6).toArray⟩⟩]:=by unfold planC;rw[if_pos hbig]
  have eR:planR W H px n=rowsL (tx (rawL px n)) (4*W) 4 H:=by unfold planR;rw[if_pos hbig]
  have hsz:(tx (rawL px n)).size=H*(4*W):=by rw[tx_size,rawL_len,hn,Nat.mul_left_comm]
  have hlen:(planR W H px n).length=H*(4*W+1):=by rw[eR,rowsL_length hsz H (Nat.le_refl _)]
  have hrow:rowN { rd0 W H 8 6 with data:=zipL z (planR W H px n),st:=1 }=4*W:=by
   show (W*4*8+7)/8=4*W;omega
  unfold fullC at hr;rw[eC] at hr;rw[pic_head (M:=[]) hr hW hH (by omega) (by omega) (by decide) (.inl rfl)];rw[body_plan (r:=rd0 W H 8 6) (r1:=rd0 W H 8 6) (M:=[]) rfl rfl rfl rfl (fun h=>by cases h) hz hl (by show _=H*((W*4*8+7)/8+1);rw[hlen];congr 2;omega) (by omega)];refine⟨_,pix_of (u:=tx (rawL px n)) ?_ ?_ ?_ ?_,fun i hi=>?_⟩
  ·rw[hrow];exact hlen
  ·intro j hj;rw[hrow,eR,back_kind hsz hj (by omega)];exact bestS_le _ _ _ (by rw[rowB_size hsz hj];omega)
  ·rw[hrow,eR];exact back_all hsz (by omega) (by decide)
  ·intro i _ h;cases h
  ·rw[hrow,tx_list];exact raw_back hW.1 hn hok _ rfl rfl i hi
 ·have hlen:(planR W H px n).length=H*((W*depN (pals px n).length+7)/8+1):=by unfold planR;rw[if_neg hbig,rowsP_len]
  have eR:planR W H px n=rowsP (depN (pals px n).length) W (fun i=>(pals px n).idxOf (px i)) H:=by unfold planR;rw[if_neg hbig]
  have hp0:0<(pals px n).length:=List.length_pos_of_mem ((pals_mem px n _).2 ⟨0,hn0,rfl⟩);have hpf:=depN_fits (n:=(pals px n).length) (by omega);have hdi:=depN_is (pals px n).length;have hcs:(⟨(colL (pals px n)).toArray⟩:ByteArray).size=3*(pals px n).length:=by show (colL (pals px n)).toArray.size=_;rw[List.size_toArray,colL_len]
  have hd8:depN (pals px n).length≤8:=by rcases hdi with q | q | q | q <;> omega
  have hdo:depOk 3 (depN (pals px n).length):=by
   rcases hdi with q | q | q | q
   ·exact .inr ⟨rfl,.inl q⟩
   ·exact .inr ⟨rfl,.inr (.inl q)⟩
   ·exact .inr ⟨rfl,.inr (.inr q)⟩
   ·exact .inl q
  have hcv:=covs_le (pals px n) (pals px n).length;obtain⟨dep,hdep⟩:∃d,depN (pals px n).length=d:=⟨_,rfl⟩;obtain⟨p1,p2⟩:=on_plte (rd0 W H dep 3) ⟨(colL (pals px n)).toArray⟩ rfl rfl rfl rfl (by rw[hcs];omega) (by rw[hcs];omega) (by rw[hcs];show _≤2^dep;rw[← hdep];omega)
  -- whatever stands between the palette and the rows
  have fin:∀(M:List Ck) (A:ByteArray) (a:Bool),A.data.toList=(alpL (pals px n)).take (covs (pals px n) (pals px n).length)→planC W H px n=⟨ihdr,⟨(headL W H dep 3).toArray⟩⟩ ::M→runB (rd0 W H dep 3) M=true→runR (rd0 W H dep 3) M= { rd0 W H dep 3 with colors:=⟨(colL (pals px n)).toArray⟩,hc:=true,alphas:=A,ha:=a }→∃qx,picR s=.ok W H qx∧∀i,i<n→qx i=px i:=by
   intro M A a hA eC hB hR;rw[hdep] at eR hlen hd8 hdo
   unfold fullC at hr;rw[eC] at hr;rw[pic_head (M:=M) hr hW hH (by omega) (by omega) (by decide) hdo];have hrow:∀r:Rd,r.wide=W→r.kind=3→r.depth=dep→rowN r=(W*dep+7)/8:=by
    intro r e1 e2 e3;unfold rowN;rw[e1,e2,e3];show (W*1*dep+7)/8=_;rw[Nat.mul_one]
   rw[body_plan hB hR rfl rfl (fun _=>rfl) hz hl (by rw[hrow _ rfl rfl rfl];exact hlen) (by omega)];have hback:=fun i hi=>pal_back (W:=W) (H:=H) (n:=n) (px:=px) hW.1 hn hok (by omega) { rd0 W H dep 3 with colors:=⟨(colL (pals px n)).toArray⟩,hc:=true,alphas:=A,ha:=a,data:=zipL z (planR W H px n),st:=1 } rfl rfl hdep.symm rfl hA i hi;refine⟨_,pix_of (u:=tx (rows0 dep W (fun i=>(pals px n).idxOf (px i)) H)) ?_ ?_ ?_ ?_,fun i hi=>?_⟩
   ·rw[hrow _ rfl rfl rfl];exact hlen
   ·intro j hj;have hj':j<H:=hj;rw[hrow _ rfl rfl rfl,eR,rowsP_kind (dep:=dep) (W:=W) (H:=H) hj'];omega
   ·rw[hrow _ rfl rfl rfl,eR];exact rowsP_un _ H (Nat.le_refl _)
   ·intro i hi _;have hi':i<n:=by rw[hn];exact hi
    rw[hrow _ rfl rfl rfl,tx_list];have q:=(hback i hi').1;have hlt:(pals px n).idxOf (px i)<(pals px n).length:=List.idxOf_lt_length_of_mem ((pals_mem px n _).2 ⟨i,hi',rfl⟩);show 3*numAt _ _ _ _<(⟨(colL (pals px n)).toArray⟩:ByteArray).size;rw[hcs];have q2:numAt { rd0 W H dep 3 with colors:=⟨(colL (pals px n)).toArray⟩,hc:=true,alphas:=A,ha:=a,data:=zipL z (planR W H px n),st:=1 } (rows0 dep W (fun i=>(pals px n).idxOf (px i)) H) ((W*dep+7)/8) i=(pals px n).idxOf (px i):=q;rw[q2];omega
   ·rw[hrow _ rfl rfl rfl,tx_list];exact (hback i hi).2
  by_cases h0:0<covs (pals px n) (pals px n).length
  ·have hts:(⟨((alpL (pals px n)).take (covs (pals px n) (pals px n).length)).toArray⟩:ByteArray).size=covs (pals px n) (pals px n).length:=by
    show ((alpL (pals px n)).take _).toArray.size=_;rw[List.size_toArray,List.length_take,alpL_len];omega
   obtain⟨t1,t2⟩:=on_trns { rd0 W H dep 3 with colors:=⟨(colL (pals px n)).toArray⟩,hc:=true,st:=0 } ⟨((alpL (pals px n)).take (covs (pals px n) (pals px n).length)).toArray⟩ rfl rfl rfl rfl (by rw[hts];show _≤(⟨(colL (pals px n)).toArray⟩:ByteArray).size;rw[hcs];omega);refine fin [⟨plte,⟨(colL (pals px n)).toArray⟩⟩,⟨trns,⟨((alpL (pals px n)).take (covs (pals px n) (pals px n).length)).toArray⟩⟩] ⟨((alpL (pals px n)).take (covs (pals px n) (pals px n).length)).toArray⟩ true rfl (by unfold planC;rw[if_neg hbig,if_pos h0,hdep];rfl) ?_ ?_
   ·show (onB _ _&&(onB (onR _ _) _&&true))=true;rw[p1,p2,t1];rfl
   ·simp only[runR];rw[p2,t2];rfl
  ·have hz0:covs (pals px n) (pals px n).length=0:=by omega
   refine fin [⟨plte,⟨(colL (pals px n)).toArray⟩⟩] ⟨#[]⟩ false (by rw[hz0];rfl) (by unfold planC;rw[if_neg hbig,if_neg h0,hdep];rfl) ?_ ?_
   ·show (onB _ _&&true)=true;rw[p1];rfl
   ·simp only[runR];rw[p2];rfl
theorem sumC_app (L M:List Ck):sumC (L++M)=sumC L+sumC M:=by
 induction L with
 | nil=>show sumC M=0+sumC M;omega
 | cons c L ih=>show 12+c.d.size+sumC (L++M)=12+c.d.size+sumC L+sumC M;rw[ih];omega
theorem enc_sum (L:List Ck) (h:∀c∈L,kindB c.k.data.toList=true):(L.flatMap enc).length=sumC L:=by
 induction L with
 | nil=>rfl
 | cons c L ih=>
  rw[List.flatMap_cons,List.length_append,enc_length c (h c (List.mem_cons_self ..)),ih (fun q hq=>h q (List.mem_cons_of_mem _ hq))];rfl
/-- what png.Write writes is a file, and is read -/
theorem twice {W H n:Nat} {px:Nat→P4} {z:List UInt8} (hW:1≤W∧W≤256) (hH:1≤H∧H≤256) (hn:n=H*W) (hs:n≤3000) (hok:∀i,i<n→(px i).Ok) (hz:Reads z (planR W H px n)) (hl:z.length≤(Sto.all ((planR W H px n).length+1) (planR W H px n)).length):
  ∃out,fileL (fullC (planC W H px n) (zipL z (planR W H px n))) (fullC (planC W H px n) (zipL z (planR W H px n))).length=.ok out∧60<out.length∧out.length≤300000∧readL ⟨out.toArray⟩=.ok (fullC (planC W H px n) (zipL z (planR W H px n)))∧∃qx,picR ⟨out.toArray⟩=.ok W H qx∧∀i,i<n→qx i=px i:=by
 have hRl:=planR_len (W:=W) (px:=px) hH.2 hn hs;have hall:=Sto.all_length ((planR W H px n).length+1) (planR W H px n);have hpl:=pals_len px n;have hzl:(zipL z (planR W H px n)).length≤40000:=by rw[zipL_length];omega
 have hz6:6≤(zipL z (planR W H px n)).length:=by rw[zipL_length];omega
 have hC:(∀c∈planC W H px n,kindB c.k.data.toList=true)∧sumC (planC W H px n)≤20000∧25≤sumC (planC W H px n):=by
  unfold planC;have hh:∀d k,(⟨(headL W H d k).toArray⟩:ByteArray).size=13:=fun _ _=>rfl;have hcs:(⟨(colL (pals px n)).toArray⟩:ByteArray).size=3*(pals px n).length:=by show (colL (pals px n)).toArray.size=_;rw[List.size_toArray,colL_len]
  have hts:(⟨((alpL (pals px n)).take (covs (pals px n) (pals px n).length)).toArray⟩:ByteArray).size≤(pals px n).length:=by
   show ((alpL (pals px n)).take _).toArray.size≤_;rw[List.size_toArray,List.length_take,alpL_len];omega
  split
  ·refine⟨fun c hc=>?_,?_,?_⟩
   ·rw[List.mem_singleton.1 hc];show kindB ihdr.data.toList=true;decide
   ·show 12+(⟨(headL W H 8 6).toArray⟩:ByteArray).size+0≤_;rw[hh];omega
   ·show _≤12+(⟨(headL W H 8 6).toArray⟩:ByteArray).size+0;rw[hh];omega
  ·split
   ·refine⟨fun c hc=>?_,?_,?_⟩
    ·simp only[List.cons_append,List.nil_append,List.mem_cons,List.not_mem_nil,or_false] at hc;rcases hc with rfl | rfl | rfl
     ·show kindB ihdr.data.toList=true;decide
     ·show kindB plte.data.toList=true;decide
     ·show kindB trns.data.toList=true;decide
    ·simp only[List.cons_append,List.nil_append,sumC,hh,hcs];omega
    ·simp only[List.cons_append,List.nil_append,sumC,hh,hcs];omega
   ·refine⟨fun c hc=>?_,?_,?_⟩
    ·simp only[List.append_nil,List.mem_cons,List.not_mem_nil,or_false] at hc;rcases hc with rfl | rfl
     ·show kindB ihdr.data.toList=true;decide
     ·show kindB plte.data.toList=true;decide
    ·simp only[List.append_nil,sumC,hh,hcs];omega
    ·simp only[List.append_nil,sumC,hh,hcs];omega
 obtain⟨hk,h1,h2⟩:=hC;obtain⟨L,hL⟩:∃L,fullC (planC W H px n) (zipL z (planR W H px n))=L:=⟨_,rfl⟩;have hLk:∀c∈L,kindB c.k.data.toList=true:=by
  intro c hc;rw[← hL] at hc;unfold fullC at hc;rcases List.mem_append.1 hc with hc | hc
  ·rcases List.mem_append.1 hc with hc | hc
   ·exact hk c hc
   ·rw[List.mem_singleton.1 hc];show kindB idat.data.toList=true;decide
  ·rw[List.mem_singleton.1 hc];show kindB iend.data.toList=true;decide
 have hLs:sumC L=sumC (planC W H px n)+(12+(zipL z (planR W H px n)).length)+12:=by
  rw[← hL];unfold fullC;rw[sumC_app,sumC_app];rfl
 have hf:=fileL_good L [] hLk (by simp;omega) rfl;rw[List.nil_append] at hf;have hen:=enc_sum L hLk;have e8:sigB.length=8:=rfl;have hO:∀c∈L,c.d.size≤300000:=by
  rw[← hL];exact fun c hc=>(fullC_ok planC_ok.2 hl hRl c hc).d
 have hread:=write_readG hO hf;refine⟨sigB++L.flatMap enc,?_,?_,?_,?_,?_⟩
 ·rw[hL];exact hf
 ·rw[List.length_append,e8,hen];omega
 ·rw[List.length_append,e8,hen];omega
 ·rw[hL];exact hread
 ·exact pic_plan hW hH hn hs hok hz (by rw[zipL_length] at hzl;omega) (by rw[hL];exact hread)
end Png
namespace Png
def lastOk (L:List Ck):Prop:=L≠[]∧(L.getLast?.map fun c=>(c.k,c.d))=some (iend,⟨#[]⟩)
theorem body_no {r:Rd} {L:List Ck} (h:¬ (lastOk L∧runB r L.dropLast=true)):bodyR r L=.bad 0:=by
 unfold bodyR;rw[if_neg (fun q=>h ⟨⟨q.1,q.2.1⟩,q.2.2⟩)]
theorem body_st {r r':Rd} {L:List Ck} (hr:runR r L.dropLast=r') (h:r'.st=0∨(r'.kind=3∧r'.hc=false)):bodyR r L=.bad 0:=by
 unfold bodyR;split
 ·simp only[hr];rw[if_pos h]
 ·rfl
theorem body_go {r r':Rd} {L:List Ck} (h:lastOk L∧runB r L.dropLast=true) (hr:runR r L.dropLast=r') (h0:¬ (r'.st=0∨(r'.kind=3∧r'.hc=false))):
  bodyR r L=match unp ⟨r'.data.toArray⟩ r'.high (rowN r') (byN r'.kind) with
   | .error c=>.bad c
   | .ok u=>if ∀i,i<r'.high*r'.wide→goodAt r' u.data.toList (rowN r') i then .ok r'.wide r'.high (pxAt r' u.data.toList (rowN r')) else .bad 0:=by
 unfold bodyR;rw[if_pos ⟨h.1.1,h.1.2,h.2⟩];simp only[hr];rw[if_neg h0];unfold unp;cases hz:Inf.unz ⟨r'.data.toArray⟩ ((r'.high*(rowN r'+1):Nat):Int) with
 | error c=>rfl
 | ok t=>
  simp only;unfold pixR;by_cases hc:t.length=r'.high*(rowN r'+1)∧(∀j,j<r'.high→kdT (tx t) (rowN r') j≤4)
  ·rw[if_pos hc,if_pos hc]
  ·rw[if_neg hc,if_neg hc]
theorem unp_size {data u:ByteArray} {high wide step:Nat} (h:unp data high wide step=.ok u):u.size=high*wide:=by
 unfold unp at h;split at h
 ·cases h
 ·rename_i t _;split at h
  ·rename_i hc;injection h with h;subst h;exact unS_size (by rw[tx_size];exact hc.1) high (Nat.le_refl _)
  ·cases h
theorem unp_err {data:ByteArray} {high wide step c:Nat} (h:unp data high wide step=.error c):c<4:=by
 unfold unp at h;split at h
 ·rename_i c' hz;injection h with h;have:=unz_err hz;omega
 ·split at h
  ·cases h
  ·injection h with h;omega
theorem run_len (r:Rd) (M:List Ck):(runR r M).data.length≤r.data.length+sumC M:=by
 induction M generalizing r with
 | nil=>exact Nat.le_add_right _ _
 | cons c M ih=>
  have h1:=ih (onR r c);have h2:=onR_len r c;show (runR (onR r c) M).data.length≤r.data.length+(12+c.d.size+sumC M);omega
theorem run_col (r:Rd) (M:List Ck) (hr:r.colors.size≤300000∧r.alphas.size≤300000) (hM:∀c∈M,c.Ok):(runR r M).colors.size≤300000∧(runR r M).alphas.size≤300000:=by
 induction M generalizing r with
 | nil=>exact hr
 | cons c M ih=>exact ih (onR r c) (onR_col r c hr (hM c (List.mem_cons_self ..))) (fun q hq=>hM q (List.mem_cons_of_mem _ hq))
theorem run_three (r:Rd) (M:List Ck) (hr:r.colors.size%3=0) (h:runB r M=true):(runR r M).colors.size%3=0:=by
 induction M generalizing r with
 | nil=>exact hr
 | cons c M ih=>
  unfold runB at h;rw[Bool.and_eq_true] at h;refine ih (onR r c) ?_ h.2;have h1:=h.1;unfold onB at h1;unfold onR;split
  ·exact hr
  ·rename_i n1;rw[if_neg n1] at h1;split
   ·exact hr
   ·rename_i n2;rw[if_neg n2] at h1;split
    ·rename_i n3;rw[if_pos n3] at h1;exact (of_decide_eq_true h1).2.2.2.2.2.1
    ·split <;> exact hr
theorem sum_take (M:List Ck) (k:Nat):sumC (M.take k)≤sumC M:=by
 induction M generalizing k with
 | nil=>rw[List.take_nil];exact Nat.le_refl _
 | cons c M ih=>
  cases k with
  | zero=>exact Nat.zero_le _
  | succ k=>
   have:=ih k;show 12+c.d.size+sumC (M.take k)≤12+c.d.size+sumC M;omega
theorem sum_drop (M:List Ck):sumC M.dropLast≤sumC M:=by
 rw[List.dropLast_eq_take];exact sum_take M _
/-- what a file that is read holds -/
theorem read_facts {s:ByteArray} {L:List Ck} (hs:s.size≤300000) (h:readL s=.ok L):(∀c∈L,c.Ok∧kindB c.k.data.toList=true)∧8+sumC L=s.size∧L.length≤300000:=by
 obtain⟨h1,h2,h3⟩:=read_writeG (Nat.le_refl _) hs h;obtain⟨h4,h5⟩:=fileL_enc (Nat.le_refl _) h1;rw[List.take_length] at h4 h5;refine⟨fun c hc=>⟨h2 c hc,h5 c hc⟩,?_,h3⟩;have e:s.data.toList.length=s.size:=rfl;have e8:sigB.length=8:=rfl;rw[← e,h4,List.length_append,e8,enc_sum L h5]
theorem head_ok {c:Ck} {W H d k:Nat} (h:headR c=.ok W H d k):1≤W∧W≤256∧1≤H∧H≤256∧byN k≠0∧depOk k d:=by
 unfold headR at h;split at h
 ·dsimp only at h;split at h
  ·rename_i h1;split at h
   ·rename_i h2;injection h with e1 e2 e3 e4;subst e1 e2 e3 e4;exact⟨h1.1,h1.2.1,h1.2.2.1,h1.2.2.2,h2.1,h2.2.1⟩
   ·cases h
  ·cases h
 ·cases h
theorem head_err {c:Ck} {e:Nat} (h:headR c=.bad e):e<2:=by
 unfold headR at h;split at h
 ·dsimp only at h;split at h
  ·split at h
   ·cases h
   ·injection h with h;omega
  ·injection h with h;omega
 ·injection h with h;omega
/-- a picture that is read is right -/
theorem pic_right {s:ByteArray} {W H:Nat} {px:Nat→P4} (h:picR s=.ok W H px):(1≤W∧W≤256)∧(1≤H∧H≤256)∧∀i,(px i).Ok:=by
 unfold picR at h;split at h
 ·cases h
 ·cases h
 ·rename_i hd L _;split at h
  ·cases h
  ·rename_i W0 H0 d k hh;obtain⟨a1,a2,a3,a4,_,_⟩:=head_ok hh;unfold bodyR at h;split at h
   ·dsimp only at h;split at h
    ·cases h
    ·split at h
     ·cases h
     ·rename_i t _;unfold pixR at h;obtain⟨q1,q2,q3,q4⟩:=runR_same (rd0 W0 H0 d k) L.dropLast;split at h
      ·split at h
       ·injection h with e1 e2 e3;subst e1 e2 e3;rw[q1,q2];exact⟨⟨a1,a2⟩,⟨a3,a4⟩,fun i=>pxAt_ok _ _ _ i⟩
       ·cases h
      ·cases h
   ·cases h
end Png
/-- a reader at its start -/
theorem RdAt.start (w:World):RdAt w.heap.size w.heap.size (Png.rd0 0 0 0 0) (w.alloc (.cells (rdV (Png.rd0 0 0 0 0) (.pointer none) (.slice none 0 0)) 72)):=
 ⟨Nat.le_refl _,.pointer none,.slice none 0 0,.inl rfl,heap_alloc_new w _,World.ownsRow_nil _ _ _ _,⟨fun _=>rfl,fun _=>rfl⟩⟩
def zeroPic:Value:=.agg #[.int .i64 0,.int .i64 0,.slice none 0 0]
/-- what png.Read tells -/
def RePost (w w':World) (E:Nat→Addr) (r:Png.PcR) (e:Ending):Prop:=
 Ext w w'∧match r with
 | .fault c i=>∃F:Nat,c<9∧(i:Int)≤9223372036854775807∧e=.returned (.tuple #[zeroPic,.iface 107 (.pointer (some ⟨F,0,none⟩))])∧w'.heap[F]? =some (.cells #[.int .i64 (i:Int),sentV (E c)] 109 (0,0))
 | .bad c=>c<9∧e=.returned (.tuple #[zeroPic,sentV (E c)])
 | .ok W H px=>∃x c,e=.returned (.tuple #[.agg #[.int .i64 (W:Int),.int .i64 (H:Int),.slice x (H*W) c],.nilIface])∧Pxs w' x (H*W) px
end Go.Proofs.YthlibiocadimhaaGreatDoor
