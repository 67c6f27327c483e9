/-
  Matches of a text: ways of tokens, the longest match, the fewest tokens, greed. No function of the program is named.
  A map whose keys are three bytes, in memory.
  A finder of matches in memory. No function of the program is named.
  match: newFinder, bad.
  match.finder: put.
-/
import Derived.Test.YthlibiocadimhaaGreatDoorPngTwiceG1
import Derived.Maps.OwnSet
import Derived.DeepKeys4
import Derived.Test.YthlibiocadimhaaGreatDoorPngTwiceG8
import Derived.BigQuiet
import Derived.Deep.RegionHeld3
set_option linter.unusedSimpArgs false
set_option linter.unusedVariables false
set_option maxRecDepth 100000
namespace Go.Proofs.YthlibiocadimhaaGreatDoor.Mt
/-- how far two places of a text go on alike, from size on; at most 258 -/
def mlf (b:Nat→Nat) (n k a:Nat) (size:Nat):Nat:=
 if _h:size<258∧a+size<n∧b (k+size)=b (a+size) then mlf b n k a (size+1) else size
termination_by 258-size
def mlen (b:Nat→Nat) (n k a:Nat):Nat:=mlf b n k a 0
theorem mlf_yes {b:Nat→Nat} {n k a size:Nat} (h:size<258∧a+size<n∧b (k+size)=b (a+size)):mlf b n k a size=mlf b n k a (size+1):=by
 rw[mlf,dif_pos h]
theorem mlf_no {b:Nat→Nat} {n k a size:Nat} (h:¬ (size<258∧a+size<n∧b (k+size)=b (a+size))):mlf b n k a size=size:=by
 rw[mlf,dif_neg h]
theorem mlf_spec (b:Nat→Nat) (n k a:Nat):∀f size,258-size=f→size≤mlf b n k a size∧(size≤258→mlf b n k a size≤258)∧(a+size≤n→a+mlf b n k a size≤n)∧
  (∀j,size≤j→j<mlf b n k a size→b (k+j)=b (a+j))∧(mlf b n k a size<258→a+mlf b n k a size<n→b (k+mlf b n k a size)≠b (a+mlf b n k a size)):=by
 intro f;induction f with
 | zero=>
  intro size hf;rw[mlf_no (by omega)];exact⟨Nat.le_refl _,id,id,fun j h1 h2=>by omega,fun h=>by omega⟩
 | succ f ih=>
  intro size hf;by_cases h:size<258∧a+size<n∧b (k+size)=b (a+size)
  ·rw[mlf_yes h];obtain⟨h1,h2,h3,h4,h5⟩:=ih (size+1) (by omega);refine⟨by omega,fun _=>h2 (by omega),fun _=>h3 (by omega),fun j hj hl=>?_,h5⟩;rcases Nat.eq_or_lt_of_le hj with e | e
   ·subst e;exact h.2.2
   ·exact h4 j e hl
  ·rw[mlf_no h];exact⟨Nat.le_refl _,id,id,fun j h1 h2=>by omega,fun h1 h2 h3=>h ⟨h1,h2,h3⟩⟩
/-- a match at a: m bytes, d back -/
structure Mat (b:Nat→Nat) (n w a m d:Nat):Prop where
 three:3≤m
 most:m≤258
 fits:a+m≤n
 pos:1≤d
 win:d≤w
 back:d≤a
 same:∀j,j<m→b (a-d+j)=b (a+j)
theorem mlen_ge {b:Nat→Nat} {n k a m:Nat} (h1:m≤258) (h2:a+m≤n) (h3:∀j,j<m→b (k+j)=b (a+j)):m≤mlen b n k a:=by
 obtain⟨_,_,_,_,h5⟩:=mlf_spec b n k a _ 0 rfl;unfold mlen;rcases Nat.lt_or_ge (mlf b n k a 0) m with q | q
 ·exact absurd (h3 _ q) (h5 (by omega) (by omega))
 ·exact q
theorem mlen_mat {b:Nat→Nat} {n w k a m:Nat} (ha:a≤n) (hk:k<a) (hw:a-k≤w) (h3:3≤m) (hm:m≤mlen b n k a):Mat b n w a m (a-k):=by
 obtain⟨_,h1,h2,h4,_⟩:=mlf_spec b n k a _ 0 rfl;have h1:=h1 (by omega);have h2:=h2 (by omega);unfold mlen at hm;refine⟨h3,by omega,by omega,by omega,hw,by omega,fun j hj=>?_⟩;rw[show a-(a-k)=k by omega];exact h4 j (Nat.zero_le _) (by omega)
theorem Mat.mlen {b:Nat→Nat} {n w a m d:Nat} (h:Mat b n w a m d):m≤mlen b n (a-d) a:=mlen_ge h.most h.fits h.same
theorem Mat.less {b:Nat→Nat} {n w a m d:Nat} (h:Mat b n w a m d) {k:Nat} (hk:3≤k) (hm:k≤m):Mat b n w a k d:=
 ⟨hk,by have:=h.most;omega,by have:=h.fits;omega,h.pos,h.win,h.back,fun j hj=>h.same j (by omega)⟩
theorem Mat.tail {b:Nat→Nat} {n w a m d:Nat} (h:Mat b n w a m d) {i:Nat} (hi:i+3≤m):Mat b n w (a+i) (m-i) d:=by
 have:=h.fits;have:=h.most;have:=h.back;refine⟨by omega,by omega,by omega,h.pos,h.win,by omega,fun j hj=>?_⟩;have:=h.same (i+j) (by omega);rw[show a+i-d+j=a-d+(i+j) by omega,show a+i+j=a+(i+j) by omega];exact this
/-- c tokens lead from a to e -/
inductive Way (b:Nat→Nat) (n w:Nat):Nat→Nat→Nat→Prop where
 | nil (a:Nat):Way b n w a 0 a
 | lit {a c e:Nat}:a<n→Way b n w (a+1) c e→Way b n w a (c+1) e
 | mat {a c e m d:Nat}:Mat b n w a m d→Way b n w (a+m) c e→Way b n w a (c+1) e
theorem Way.le {b:Nat→Nat} {n w a c e:Nat} (h:Way b n w a c e):a≤e:=by
 induction h with
 | nil=>exact Nat.le_refl _
 | lit _ _ ih=>omega
 | mat _ _ ih=>omega
theorem Way.lits {b:Nat→Nat} {n w:Nat}:∀k a,a+k≤n→Way b n w a k (a+k):=by
 intro k;induction k with
 | zero=>intro a _;exact .nil a
 | succ k ih=>intro a h;have:=ih (a+1) (by omega);rw[show a+1+k=a+(k+1) by omega] at this;exact .lit (by omega) this
theorem Way.trans {b:Nat→Nat} {n w a c e c' e':Nat} (h:Way b n w a c e) (h':Way b n w e c' e'):Way b n w a (c+c') e':=by
 induction h with
 | nil=>rw[Nat.zero_add];exact h'
 | lit h1 _ ih=>rw[show ∀x y:Nat,x+1+y=x+y+1 by omega];exact .lit h1 (ih h')
 | mat h1 _ ih=>rw[show ∀x y:Nat,x+1+y=x+y+1 by omega];exact .mat h1 (ih h')
/-- the longest match at a: 0, or one; none is longer -/
structure Long (b:Nat→Nat) (n w a m d:Nat):Prop where
 one:m≠0→Mat b n w a m d
 zero:m=0→d=0
 best:∀m' d',Mat b n w a m' d'→m'≤m
/-- greed's way: the longest match at each place -/
inductive Greed (b:Nat→Nat) (n w:Nat):Nat→Nat→Prop where
 | nil (a:Nat):n≤a→Greed b n w a 0
 | lit {a c d:Nat}:a<n→Long b n w a 0 d→Greed b n w (a+1) c→Greed b n w a (c+1)
 | mat {a c m d:Nat}:m≠0→Long b n w a m d→Greed b n w (a+m) c→Greed b n w a (c+1)
theorem Greed.mono_or {b:Nat→Nat} {n w:Nat}:∀c e,Way b n w e c n→∀a g,e≤a→Greed b n w a g→g≤2*c:=by
 intro c;induction c with
 | zero=>
  intro e h a g hea hg;cases h
  cases hg with
  | nil=>omega
  | lit h1=>omega
  | mat h0 h1=>have:=(h1.one h0).fits;have:=(h1.one h0).three;omega
 | succ c ih=>
  intro e h a g hea hg;cases h with
  | lit hn h2=>
   rcases Nat.eq_or_lt_of_le hea with q | q
   ·subst q;cases hg with
    | nil=>omega
    | lit h1 h3 h4=>have:=ih _ h2 _ _ (Nat.le_refl _) h4;omega
    | mat h0 h1 h4=>have:=(h1.one h0).three;have:=ih _ h2 _ _ (by omega) h4;omega
   ·have:=ih _ h2 _ _ q hg;omega
  | @mat _ _ _ m d hm h2=>
   rcases Nat.lt_or_ge a (e+m) with q | q
   ·-- the first token of greed that begins in here
    rcases Nat.lt_or_ge (a+2) (e+m) with q3 | q3
    ·have ht:=hm.tail (i:=a-e) (by omega);rw[show e+(a-e)=a by omega] at ht;cases hg with
     | nil=>omega
     | lit h1 h3 h4=>have:=h3.best _ _ ht;have:=ht.three;omega
     | mat h0 h1 h4=>have:=h1.best _ _ ht;have:=ih _ h2 _ _ (by omega) h4;omega
    ·-- two at most
     have step:∀a',e+m≤a'+1→∀g',Greed b n w a' g'→g'≤2*c+1:=by
      intro a' ha' g' hg';cases hg' with
      | nil=>omega
      | lit h1 h3 h4=>have:=ih _ h2 _ _ (by omega) h4;omega
      | mat h0 h1 h4=>have:=(h1.one h0).three;have:=ih _ h2 _ _ (by omega) h4;omega
     cases hg with
     | nil=>omega
     | lit h1 h3 h4=>have:=step _ (by omega) _ h4;omega
     | mat h0 h1 h4=>have:=(h1.one h0).three;have:=ih _ h2 _ _ (by omega) h4;omega
   ·have:=ih _ h2 _ _ q hg;omega
theorem Greed.few {b:Nat→Nat} {n w g c:Nat} (hg:Greed b n w 0 g) (h:Way b n w 0 c n):g≤2*c:=hg.mono_or _ _ h _ _ (Nat.le_refl _)
theorem Greed.way {b:Nat→Nat} {n w a g:Nat} (h:Greed b n w a g):a≤n→Way b n w a g n:=by
 induction h with
 | nil a h=>
  intro h2;obtain rfl:a=n:=by omega
  exact .nil _
 | lit h1 _ _ ih=>intro _;exact .lit h1 (ih (by omega))
 | mat h0 h1 _ ih=>intro _;have:=(h1.one h0).fits;exact .mat (h1.one h0) (ih this)
/-- the fewest tokens from 0 to e -/
structure Least (b:Nat→Nat) (n w a e x:Nat):Prop where
 way:Way b n w a x e
 least:∀c,Way b n w a c e→x≤c
theorem Least.one {b:Nat→Nat} {n w a e x y:Nat} (h:Least b n w a e x) (h':Least b n w a e y):x=y:=
 Nat.le_antisymm (h.least _ h'.way) (h'.least _ h.way)
/-- a way's last token -/
theorem Way.last {b:Nat→Nat} {n w a c e:Nat} (h:Way b n w a (c+1) e):∃f,Way b n w a c f∧((f<n∧e=f+1)∨∃m d,Mat b n w f m d∧e=f+m):=by
 generalize hc:c+1=c1 at h;induction h generalizing c with
 | nil=>omega
 | @lit a c' e h1 h2 ih=>
  obtain rfl:c'=c:=by omega
  cases c' with
  | zero=>cases h2;exact⟨a,.nil _,.inl ⟨h1,rfl⟩⟩
  | succ c=>obtain⟨f,hf,r⟩:=ih rfl;exact⟨f,.lit h1 hf,r⟩
 | @mat a c' e m d h1 h2 ih=>
  obtain rfl:c'=c:=by omega
  cases c' with
  | zero=>cases h2;exact⟨a,.nil _,.inr ⟨m,d,h1,rfl⟩⟩
  | succ c=>obtain⟨f,hf,r⟩:=ih rfl;exact⟨f,.mat h1 hf,r⟩
/-- one token leads from f to j -/
def Step (b:Nat→Nat) (n w f j:Nat):Prop:=(f<n∧j=f+1)∨∃m d,Mat b n w f m d∧j=f+m
theorem Step.way {b:Nat→Nat} {n w a c f j:Nat} (h:Way b n w a c f) (hs:Step b n w f j):Way b n w a (c+1) j:=by
 rcases hs with⟨h1,rfl⟩ | ⟨m,d,h1,rfl⟩
 ·exact h.trans (.lit h1 (.nil _))
 ·exact h.trans (.mat h1 (.nil _))
/-- the row of the fewest, p places done -/
structure Row (b:Nat→Nat) (n w p:Nat) (B:Nat→Nat):Prop where
 way:∀j,j≤n→Way b n w 0 (B j) j
 le:∀j,j≤n→B j≤j
 least:∀j,j≤n→∀c f,f<p→Way b n w 0 c f→Step b n w f j→B j≤c+1
theorem Row.start (b:Nat→Nat) (n w:Nat):Row b n w 0 (fun j=>j):=
 ⟨fun j hj=>by have:=Way.lits (b:=b) (n:=n) (w:=w) j 0 (by omega);rwa [Nat.zero_add] at this,fun j _=>Nat.le_refl _,fun j _ c f hf=>by omega⟩
theorem Step.lt {b:Nat→Nat} {n w f j:Nat} (h:Step b n w f j):f<j∧j≤n:=by
 rcases h with⟨h1,rfl⟩ | ⟨m,d,h1,rfl⟩
 ·omega
 ·have:=h1.three;have:=h1.fits;omega
theorem Row.here {b:Nat→Nat} {n w p:Nat} {B:Nat→Nat} (h:Row b n w p B) {j:Nat} (hj:j≤p) (hn:j≤n):Least b n w 0 j (B j):=by
 refine⟨h.way j hn,fun c hc=>?_⟩;cases c with
 | zero=>cases hc;have:=h.le 0 hn;omega
 | succ c=>
  obtain⟨f,hf,hs⟩:=hc.last;exact h.least j hn c f (by have:=(show Step b n w f j from hs).lt;omega) hf hs
/-- between two places: what one token more from p gives, up to matches of k bytes -/
structure RowIn (b:Nat→Nat) (n w p k L:Nat) (B:Nat→Nat):Prop extends Row b n w p B where
 here:∀j,j≤n→∀c,Way b n w 0 c p→(j=p+1∨∃m,3≤m∧m<k∧m≤L∧j=p+m)→B j≤c+1
def upd (B:Nat→Nat) (q x:Nat):Nat→Nat:=fun j=>if j=q then x else B j
def low (B:Nat→Nat) (q p:Nat):Nat:=if B p+1<B q then B p+1 else B q
theorem Row.upd_ {b:Nat→Nat} {n w p q:Nat} {B:Nat→Nat} (h:Row b n w p B) (hp:p<n) (hs:Step b n w p q):Row b n w p (upd B q (low B q p)):=by
 have hq:=hs.lt;refine⟨fun j hj=>?_,fun j hj=>?_,fun j hj c f hf hw hst=>?_⟩
 ·unfold upd low;split
  ·rename_i e;subst e;split
   ·exact hs.way (h.way p (by omega))
   ·exact h.way _ hj
  ·exact h.way j hj
 ·unfold upd low;split
  ·rename_i e;subst e;split
   ·have:=h.le p (by omega);omega
   ·exact h.le _ hj
  ·exact h.le j hj
 ·have:=h.least j hj c f hf hw hst;unfold upd low;split
  ·rename_i e;subst e;split <;> omega
  ·exact this
theorem Row.lit {b:Nat→Nat} {n w p L:Nat} {B:Nat→Nat} (h:Row b n w p B) (hp:p<n):RowIn b n w p 3 L (upd B (p+1) (low B (p+1) p)):=by
 have hl:=h.here (Nat.le_refl p) (by omega);refine { h.upd_ hp (.inl ⟨hp,rfl⟩) with here:=fun j hj c hc hx=>?_ };have:=hl.least c hc;rcases hx with rfl | ⟨m,h1,h2,_,_⟩
 ·unfold upd low;rw[if_pos rfl];split <;> omega
 ·omega
theorem RowIn.more {b:Nat→Nat} {n w p k L d:Nat} {B:Nat→Nat} (h:RowIn b n w p k L B) (hp:p<n) (hk:3≤k) (hm:Mat b n w p L d) (hkL:k≤L):RowIn b n w p (k+1) L (upd B (p+k) (low B (p+k) p)):=by
 have hl:=h.toRow.here (Nat.le_refl p) (by omega);refine { h.toRow.upd_ hp (.inr ⟨k,d,hm.less hk hkL,rfl⟩) with here:=fun j hj c hc hx=>?_ };have h0:=hl.least c hc;by_cases e:j=p+k
 ·subst e;unfold upd low;rw[if_pos rfl];split <;> omega
 ·unfold upd;rw[if_neg e];refine h.here j hj c hc ?_;rcases hx with hx | ⟨m,h1,h2,h3,h4⟩
  ·exact .inl hx
  ·exact .inr ⟨m,h1,by omega,h3,h4⟩
theorem RowIn.next {b:Nat→Nat} {n w p k L d:Nat} {B:Nat→Nat} (h:RowIn b n w p k L B) (hL:Long b n w p L d) (hk:L<k):Row b n w (p+1) B:=by
 refine⟨h.way,h.le,fun j hj c f hf hw hs=>?_⟩;rcases Nat.lt_or_ge f p with q | q
 ·exact h.least j hj c f q hw hs
 ·obtain rfl:f=p:=by omega
  refine h.here j hj c hw ?_;rcases hs with⟨_,h1⟩ | ⟨m,d',hm,h1⟩
  ·exact .inl h1
  ·have:=hL.best m d' hm;exact .inr ⟨m,hm.three,by omega,this,h1⟩
/-- from behind: the fewest from each place to the end -/
structure Back (b:Nat→Nat) (n w p:Nat) (B:Nat→Nat):Prop where
 least:∀j,p≤j→j≤n→Least b n w j n (B j)
 le:∀j,p≤j→j≤n→B j+j≤n
theorem Back.start (b:Nat→Nat) (n w:Nat) (B:Nat→Nat) (h:B n=0):Back b n w n B:=by
 refine⟨fun j h1 h2=>?_,fun j h1 h2=>?_⟩
 ·obtain rfl:j=n:=by omega
  rw[h];exact⟨.nil _,fun c _=>Nat.zero_le _⟩
 ·obtain rfl:j=n:=by omega
  omega
/-- inside: at p all matches from before f, and from f of less than k bytes -/
structure BackIn (b:Nat→Nat) (n w p f k:Nat) (B:Nat→Nat):Prop where
 back:Back b n w (p+1) B
 way:Way b n w p (B p) n
 le:B p+p≤n
 lit:B p≤B (p+1)+1
 mats:∀m d,Mat b n w p m d→(p-d<f∨p-d=f∧m<k)→B p≤B (p+m)+1
theorem upd_ne {B:Nat→Nat} {q x j:Nat} (h:j≠q):upd B q x j=B j:=if_neg h
theorem upd_eq {B:Nat→Nat} {q x:Nat}:upd B q x q=x:=if_pos rfl
theorem Back.upd_ {b:Nat→Nat} {n w p x:Nat} {B:Nat→Nat} (h:Back b n w (p+1) B):Back b n w (p+1) (upd B p x):=
 ⟨fun j h1 h2=>by rw[upd_ne (by omega)];exact h.least j h1 h2,fun j h1 h2=>by rw[upd_ne (by omega)];exact h.le j h1 h2⟩
theorem Back.lit {b:Nat→Nat} {n w p:Nat} {B:Nat→Nat} (h:Back b n w (p+1) B) (hp:p<n):BackIn b n w p 0 3 (upd B p (B (p+1)+1)):=by
 have h1:=h.least (p+1) (Nat.le_refl _) (by omega);have h2:=h.le (p+1) (Nat.le_refl _) (by omega);refine⟨h.upd_,?_,?_,?_,fun m d hm hx=>?_⟩
 ·rw[upd_eq];exact .lit hp h1.way
 ·rw[upd_eq];omega
 ·rw[upd_eq,upd_ne (by omega)];omega
 ·have:=hm.three;omega
theorem BackIn.more {b:Nat→Nat} {n w p f k:Nat} {B:Nat→Nat} (h:BackIn b n w p f k B) (hf:f<p) (hw:p-f≤w) (hp:p<n) (hk:3≤k) (hm:k≤mlen b n f p):BackIn b n w p f (k+1) (upd B p (if B (p+k)+1<B p then B (p+k)+1 else B p)):=by
 have M:=mlen_mat (Nat.le_of_lt hp) hf hw hk hm;have F:=M.fits;have h1:=h.back.least (p+k) (by omega) F;have h2:=h.back.le (p+k) (by omega) F;have h3:=h.le;have h4:=h.lit;refine⟨h.back.upd_,?_,?_,?_,fun m d hM hx=>?_⟩
 ·rw[upd_eq];split
  ·exact .mat M h1.way
  ·exact h.way
 ·rw[upd_eq];split <;> omega
 ·rw[upd_eq,upd_ne (by omega)];split <;> omega
 ·have h5:=hM.three;rw[upd_eq,upd_ne (by omega)];by_cases e:p-d=f∧m=k
  ·obtain⟨_,rfl⟩:=e;split <;> omega
  ·have:=h.mats m d hM (by omega);split <;> omega
theorem BackIn.skip {b:Nat→Nat} {n w p f:Nat} {B:Nat→Nat} (h:BackIn b n w p f 3 B) (hw:w<p-f):BackIn b n w p (f+1) 3 B:=
 { h with mats:=fun m d hM hx=>h.mats m d hM (by have:=hM.win;have:=hM.back;have:=hM.three;omega) }
theorem BackIn.from {b:Nat→Nat} {n w p f k:Nat} {B:Nat→Nat} (h:BackIn b n w p f k B) (_hf:f<p) (hk:mlen b n f p<k):BackIn b n w p (f+1) 3 B:=
 { h with mats:=fun m d hM hx=>h.mats m d hM (by
   have h3:=hM.three;have h4:=hM.back;by_cases e:p-d=f
   ·have:=hM.mlen;rw[e] at this;omega
   ·omega) }
theorem BackIn.next {b:Nat→Nat} {n w p:Nat} {B:Nat→Nat} (h:BackIn b n w p p 3 B) (_hp:p<n):Back b n w p B:=by
 refine⟨fun j h1 h2=>?_,fun j h1 h2=>?_⟩
 ·rcases Nat.eq_or_lt_of_le h1 with e | e
  ·subst e;refine⟨h.way,fun c hc=>?_⟩;cases hc with
   | nil=>omega
   | lit q1 q2=>have:=(h.back.least (p+1) (Nat.le_refl _) (by omega)).least _ q2;have:=h.lit;omega
   | @mat _ c _ m d q1 q2=>
    have:=q1.three;have:=q1.fits;have:=q1.pos;have:=q1.back;have h5:=(h.back.least (p+m) (by omega) (by omega)).least _ q2;have h6:=h.mats m d q1 (.inl (by omega));omega
  ·exact h.back.least j e h2
 ·rcases Nat.eq_or_lt_of_le h1 with e | e
  ·subst e;exact h.le
  ·exact h.back.le j e h2
/-- where three bytes stood last, ahead of p -/
def prv (b:Nat→Nat) (x y z:Nat):Nat→Option Nat
 | 0=>none
 | p+1=>if b p=x∧b (p+1)=y∧b (p+2)=z then some p else prv b x y z p
theorem prv_some {b:Nat→Nat} {x y z k:Nat}:∀ {p:Nat},prv b x y z p=some k→k<p∧b k=x∧b (k+1)=y∧b (k+2)=z∧∀j,k<j→j<p→¬ (b j=x∧b (j+1)=y∧b (j+2)=z):=by
 intro p;induction p with
 | zero=>intro h;cases h
 | succ p ih=>
  intro h;simp only[prv] at h;split at h
  ·rename_i q;injection h with h;subst h;exact⟨by omega,q.1,q.2.1,q.2.2,fun j h1 h2=>by omega⟩
  ·rename_i q;obtain⟨h1,h2,h3,h4,h5⟩:=ih h;refine⟨by omega,h2,h3,h4,fun j h6 h7=>?_⟩;rcases Nat.lt_or_ge j p with r | r
   ·exact h5 j h6 r
   ·obtain rfl:j=p:=by omega
    exact q
theorem prv_none {b:Nat→Nat} {x y z:Nat}:∀ {p:Nat},prv b x y z p=none→∀j,j<p→¬ (b j=x∧b (j+1)=y∧b (j+2)=z):=by
 intro p;induction p with
 | zero=>intro _ j h;omega
 | succ p ih=>
  intro h j hj;simp only[prv] at h;split at h
  ·cases h
  ·rename_i q;rcases Nat.lt_or_ge j p with r | r
   ·exact ih h j r
   ·obtain rfl:j=p:=by omega
    exact q
/-- the look for the longest match at a: c says which places are still to come -/
structure Look (b:Nat→Nat) (n w a:Nat) (c:Option Nat) (m d:Nat):Prop where
 one:m≠0→Mat b n w a m d
 zero:m=0→d=0
 best:∀m' d',Mat b n w a m' d'→(∀k,c=some k→k<a-d')→m'≤m
theorem Mat.key {b:Nat→Nat} {n w a m d:Nat} (h:Mat b n w a m d):b (a-d)=b a∧b (a-d+1)=b (a+1)∧b (a-d+2)=b (a+2):=by
 have:=h.three;exact⟨h.same 0 (by omega),h.same 1 (by omega),h.same 2 (by omega)⟩
theorem Look.start (b:Nat→Nat) (n w a:Nat):Look b n w a (prv b (b a) (b (a+1)) (b (a+2)) a) 0 0:=by
 refine⟨fun h=>absurd rfl h,fun _=>rfl,fun m' d' hM hk=>?_⟩;exfalso
 have hp:=hM.pos;have hb:=hM.back;cases hc:prv b (b a) (b (a+1)) (b (a+2)) a with
 | none=>exact prv_none hc (a-d') (by omega) hM.key
 | some k=>have:=hk k hc;exact (prv_some hc).2.2.2.2 (a-d') this (by omega) hM.key
theorem Look.next {b:Nat→Nat} {n w a k m d:Nat} (h:Look b n w a (some k) m d) (ha:a+3≤n) (hk:k<a) (hw:a-k≤w) (h0:b k=b a) (h1:b (k+1)=b (a+1)) (h2:b (k+2)=b (a+2)):
  Look b n w a (prv b (b k) (b (k+1)) (b (k+2)) k) (if m<mlen b n k a then mlen b n k a else m) (if m<mlen b n k a then a-k else d):=by
 have h3:3≤mlen b n k a:=mlen_ge (by omega) ha (fun j hj=>by
  rcases (by omega:j=0∨j=1∨j=2) with rfl | rfl | rfl
  ·exact h0
  ·exact h1
  ·exact h2)
 refine⟨fun hm=>?_,fun hm=>?_,fun m' d' hM hx=>?_⟩
 ·split
  ·exact mlen_mat (by omega) hk hw h3 (Nat.le_refl _)
  ·rename_i q;rw[if_neg q] at hm;exact h.one hm
 ·split
  ·rename_i q;rw[if_pos q] at hm;omega
  ·rename_i q;rw[if_neg q] at hm;exact h.zero hm
 ·have hp:=hM.pos;have hb:=hM.back;have:m'≤m∨m'≤mlen b n k a:=by
   rcases Nat.lt_trichotomy (a-d') k with q | q | q
   ·exfalso
    rw[h0,h1,h2] at hx;cases hc:prv b (b a) (b (a+1)) (b (a+2)) k with
    | none=>exact prv_none hc (a-d') q hM.key
    | some k2=>have:=hx k2 hc;exact (prv_some hc).2.2.2.2 (a-d') this q hM.key
   ·right;rw[← q];exact hM.mlen
   ·left;exact h.best m' d' hM (fun k' hk'=>by injection hk' with hk';omega)
  split <;> omega
/-- what a look gives in the end -/
structure Good (b:Nat→Nat) (n w a m d:Nat):Prop where
 one:m≠0→Mat b n w a m d
 zero:m=0→d=0
theorem Look.good {b:Nat→Nat} {n w a m d:Nat} {c:Option Nat} (h:Look b n w a c m d):Good b n w a m d:=⟨h.one,h.zero⟩
theorem Look.none_ {b:Nat→Nat} {n w a m d:Nat} (h:Look b n w a none m d):Long b n w a m d:=⟨h.one,h.zero,fun m' d' hM=>h.best m' d' hM (fun k hk=>by cases hk)⟩
theorem Look.far {b:Nat→Nat} {n w a k m d:Nat} (h:Look b n w a (some k) m d) (hw:w<a-k):Long b n w a m d:=
 ⟨h.one,h.zero,fun m' d' hM=>h.best m' d' hM (fun k' hk=>by injection hk with hk;have:=hM.win;have:=hM.back;omega)⟩
theorem Long.edge (b:Nat→Nat) (n w a:Nat) (h:n<a+3):Long b n w a 0 0:=⟨fun h=>absurd rfl h,fun _=>rfl,fun m' d' hM=>by have:=hM.fits;have:=hM.three;omega⟩
theorem Good.edge (b:Nat→Nat) (n w a:Nat):Good b n w a 0 0:=⟨fun h=>absurd rfl h,fun _=>rfl⟩
end Go.Proofs.YthlibiocadimhaaGreatDoor.Mt
namespace Go.Proofs.YthlibiocadimhaaGreatDoor
open Go.RowKit
def kb (x y z:Nat):Value:=.agg #[.int .u8 (x:Int),.int .u8 (y:Int),.int .u8 (z:Int)]
theorem kb_inj {x y z x' y' z':Nat} (h:kb x y z=kb x' y' z'):x=x'∧y=y'∧z=z':=by
 unfold kb at h;injection h with h;simp at h;omega
theorem key3_law:Maps.Keyed Tryz.prog 223 :=Maps.Keyed.of_law (deep_law_laid (by kernel_rfl) (m:=5) (by decide) (of_decide_eq_true (by kernel_rfl)) (by kernel_rfl) (by kernel_rfl))
theorem key3_gen {P:Program} {K U:TypeId} (uK:P.underlying K=some (.array 3 U)) (uU:P.underlying U=some (.int .u8)) (e1:P.keyType K=true) (e2:P.cellsOf K=3) (e4:P.cellsOf U=1) (hp:0<P.types.size) (x y z:Nat) (hx:x<256) (hy:y<256) (hz:z<256):∃l,keyOf P K (kb x y z)=some l:=by
 have h1:(Lit.int .u8 (x:Int)).wf=true:=WalkArith.wf_u8 (by omega);have h2:(Lit.int .u8 (y:Int)).wf=true:=WalkArith.wf_u8 (by omega);have h3:(Lit.int .u8 (z:Int)).wf=true:=WalkArith.wf_u8 (by omega);obtain⟨d,hd⟩:∃d,P.types.size=d+1:=⟨P.types.size-1,by omega⟩;refine⟨.string (keyBytes [.int .u8 (x:Int),.int .u8 (y:Int),.int .u8 (z:Int)]),?_⟩;unfold keyOf kb;simp[uK,Value.formed,Value.cells,Program.keyLits,hd,h1,h2,h3,e1,e2,e4,uU,List.range,List.range.loop]
theorem key3_u: Tryz.prog.keyType 223 =true:=by kernel_rfl
theorem key3_c: Tryz.prog.cellsOf 223 =3:=by kernel_rfl
theorem key3_cu: Tryz.prog.cellsOf 5 =1:=by kernel_rfl
theorem key3_p:0 < Tryz.prog.types.size:=of_decide_eq_true (by kernel_rfl)
theorem key3_of (x y z:Nat) (hx:x<256) (hy:y<256) (hz:z<256):∃l,keyOf Tryz.prog 223 (kb x y z)=some l:=
 key3_gen Tryz.underlying223 Tryz.underlying5 key3_u key3_c key3_cu key3_p x y z hx hy hz
/-- block b is a map that reads as g -/
def MB (w:World) (b:Nat) (g:Nat→Nat→Nat→Option Nat):Prop:=
 ∃es clock,w.heap[b]? =some (.map es clock)∧(∀e∈es.toList,∃x y z n,e.key=kb x y z∧x<256∧y<256∧z<256∧e.val=.int .i64 ((n:Nat):Int)∧g x y z=some n)∧(∀x y z n,x<256→y<256→z<256→g x y z=some n→∃e∈es.toList,e.key=kb x y z)∧(∀(i j:Nat) (d e:MapEntry),es[i]? =some d→es[j]? =some e→d.key=e.key→i=j)
theorem MB.lt {w:World} {b:Nat} {g:Nat→Nat→Nat→Option Nat} (h:MB w b g):b<w.heap.size:=by
 obtain⟨es,clock,hb,_⟩:=h;exact lt_of_block hb
theorem MB.keeps {S:Nat→Prop} {w w':World} {b:Nat} {g:Nat→Nat→Nat→Option Nat} (h:MB w b g) (hk:Keeps S w w') (hS:¬ S b):MB w' b g:=by
 have hl:=h.lt;obtain⟨es,clock,hb,r⟩:=h;exact⟨es,clock,(hk.block b hl hS).trans hb,r⟩
theorem MB.ext {w w':World} {b:Nat} {g:Nat→Nat→Nat→Option Nat} (h:MB w b g) (hE:Ext w w'):MB w' b g:=h.keeps (S:=fun _=>False) hE.keeps id
theorem MB.new (w:World) (g:Nat→Nat→Nat→Option Nat) (hg:∀x y z,g x y z=none):MB (w.alloc (.map #[] 0)) w.heap.size g:=
 ⟨#[],0,heap_alloc_new w _,(by simp),(fun x y z n _ _ _ h=>by rw[hg] at h;cases h),(fun i j d e h=>by simp at h)⟩
theorem MB.look {w:World} {b x y z:Nat} {g:Nat→Nat→Nat→Option Nat} (h:MB w b g) (hx:x<256) (hy:y<256) (hz:z<256):
  (Instr.lookup 220 (.map (some b)) (kb x y z) true).run Tryz.prog w=.ok (.tuple #[.int .i64 (((g x y z).getD 0:Nat):Int),.bool (g x y z).isSome]) w:=by
 obtain⟨es,clock,hb,h1,h2,h3⟩:=h;obtain⟨l,hl⟩:=key3_of x y z hx hy hz;have hzv:(zeroValue 3).run Tryz.prog w=.ok (.int .i64 0) w:=by kernel_rfl
 have hes:∀e∈es.toList,∃l,keyOf Tryz.prog 223 e.key=some l:=by
  intro e he;obtain⟨x',y',z',n,hk',q1,q2,q3,_⟩:=h1 e he;rw[hk'];exact key3_of x' y' z' q1 q2 q3
 have hcheck:=key3_law.check w es.isEmpty hl;rcases key3_law.find w hl es.toList hes with⟨hf,hno⟩ | ⟨j,e,hf,hj,he⟩
 ·have hg:g x y z=none:=by
   cases hq:g x y z with
   | none=>rfl
   | some n=>obtain⟨e,hm,hk2⟩:=h2 x y z n hx hy hz hq;exact absurd hk2 (hno e hm)
  rw[hg];simp[Instr.lookup,run_underlying Tryz.underlying220,MapKept.run_getObj_map hb,hcheck,hf,hzv,Result.andThen]
 ·obtain⟨x',y',z',n,hk',_,_,_,hv,hg⟩:=h1 e (List.mem_of_getElem? hj);obtain⟨rfl,rfl,rfl⟩:=kb_inj (hk'.symm.trans he);rw[hg];simp[Instr.lookup,run_underlying Tryz.underlying220,MapKept.run_getObj_map hb,hcheck,hf,hv,Result.andThen]
def updB (g:Nat→Nat→Nat→Option Nat) (x y z n:Nat):Nat→Nat→Nat→Option Nat:=fun x' y' z'=>if x'=x∧y'=y∧z'=z then some n else g x' y' z'
theorem MB.store {w:World} {b x y z n:Nat} {g:Nat→Nat→Nat→Option Nat} (h:MB w b g) (hx:x<256) (hy:y<256) (hz:z<256):
  ∃w',(Instr.mapUpdate 220 (.map (some b)) (kb x y z) (.int .i64 (n:Int))).run Tryz.prog w=.ok () w'∧MB w' b (updB g x y z n)∧Keeps (fun i=>i=b) w w':=by
 have hlt:=h.lt;obtain⟨es,clock,hb,h1,h2,h3⟩:=h;obtain⟨l,hl⟩:=key3_of x y z hx hy hz;have hes:∀e∈es.toList,∃l,keyOf Tryz.prog 223 e.key=some l:=by
  intro e he;obtain⟨x',y',z',n,hk',q1,q2,q3,_⟩:=h1 e he;rw[hk'];exact key3_of x' y' z' q1 q2 q3
 have hcheck:=key3_law.check w false hl;have hstay:=key3_law.stays w hl;have hset:∀o:Obj,(w.heap.setIfInBounds b o)[b]? =some o:=by
  intro o;rw[Array.getElem?_setIfInBounds];simp[hlt]
 have hkeep:∀o:Obj,Keeps (fun i=>i=b) w (ChangeMaps.setBlock w b o):=fun o=>⟨rfl,rfl,rfl,by simp[ChangeMaps.setBlock],fun i hi hn=>by
  show (w.heap.setIfInBounds b _)[i]? =_;rw[Array.getElem?_setIfInBounds,if_neg (fun e=>hn e.symm)]⟩
 rcases key3_law.find w hl es.toList hes with⟨hf,hno⟩ | ⟨j,e0,hf,hj,he0⟩
 ·refine⟨ChangeMaps.setBlock w b (.map (es.push { key:=kb x y z,val:=.int .i64 (n:Int),born:=clock }) (clock+1)),?_,⟨_,_,hset _,?_,?_,?_⟩,hkeep _⟩
  ·simp[Instr.mapUpdate,run_underlying Tryz.underlying220,MapKept.run_getObj_map hb,hcheck,hf,MapKept.run_setObj_map _ hb,Result.andThen,ChangeMaps.setBlock]
  ·intro e he;rw[Array.toList_push,List.mem_append,List.mem_singleton] at he;rcases he with he | rfl
   ·obtain⟨x',y',z',n',q1,q2,q3,q4,q5,q6⟩:=h1 e he;refine⟨x',y',z',n',q1,q2,q3,q4,q5,?_⟩;unfold updB;rw[if_neg]
    ·exact q6
    ·rintro⟨rfl,rfl,rfl⟩;exact hno e he q1
   ·exact⟨x,y,z,n,rfl,hx,hy,hz,rfl,if_pos ⟨rfl,rfl,rfl⟩⟩
  ·intro x' y' z' n' bx by' bz hq;unfold updB at hq;rw[Array.toList_push];by_cases hkc:x'=x∧y'=y∧z'=z
   ·obtain⟨rfl,rfl,rfl⟩:=hkc;exact⟨_,List.mem_append_right _ (List.mem_singleton.2 rfl),rfl⟩
   ·rw[if_neg hkc] at hq;obtain⟨e,hm,hk2⟩:=h2 x' y' z' n' bx by' bz hq;exact⟨e,List.mem_append_left _ hm,hk2⟩
  ·intro i j d e hi hj he;rw[Array.getElem?_push] at hi hj;have no:∀(i:Nat) (d:MapEntry),es[i]? =some d→d.key≠kb x y z:=fun i d hi=>hno d (by rw[Array.mem_toList_iff,Array.mem_iff_getElem?];exact⟨i,hi⟩);split at hi <;> split at hj
   ·omega
   ·injection hi with hi;subst hi;exact absurd he.symm (no j e hj)
   ·injection hj with hj;subst hj;exact absurd he (no i d hi)
   ·exact h3 i j d e hi hj he
 ·have hje:es[j]? =some e0:=by rw[← Array.getElem?_toList];exact hj
  refine⟨ChangeMaps.setBlock w b (.map (es.modify j fun e=> { e with key:=kb x y z,val:=.int .i64 (n:Int) }) clock),?_,⟨_,_,hset _,?_,?_,?_⟩,hkeep _⟩
  ·have hg0:((es[j]?).map (·.key)).getD (kb x y z)=kb x y z:=by rw[hje];exact he0
   simp[Instr.mapUpdate,run_underlying Tryz.underlying220,MapKept.run_getObj_map hb,hcheck,hf,hje,he0,hstay,MapKept.run_setObj_map _ hb,Result.andThen,ChangeMaps.setBlock]
  ·intro e he;rw[Array.mem_toList_iff,Array.mem_iff_getElem?] at he;obtain⟨i,hi⟩:=he;rw[Array.getElem?_modify] at hi;split at hi
   ·rename_i hji;subst hji;rw[hje] at hi;simp at hi;subst hi;exact⟨x,y,z,n,rfl,hx,hy,hz,rfl,if_pos ⟨rfl,rfl,rfl⟩⟩
   ·have hm:e∈es.toList:=by rw[Array.mem_toList_iff,Array.mem_iff_getElem?];exact⟨i,hi⟩
    obtain⟨x',y',z',n',q1,q2,q3,q4,q5,q6⟩:=h1 e hm;by_cases hkc:x'=x∧y'=y∧z'=z
    ·obtain⟨rfl,rfl,rfl⟩:=hkc;exact absurd (h3 j i e0 e hje hi (he0.trans q1.symm)) (by assumption)
    ·exact⟨x',y',z',n',q1,q2,q3,q4,q5,(if_neg hkc).trans q6⟩
  ·intro x' y' z' n' bx by' bz hq;unfold updB at hq;by_cases hkc:x'=x∧y'=y∧z'=z
   ·obtain⟨rfl,rfl,rfl⟩:=hkc;exact⟨{ e0 with key:=kb x' y' z',val:=.int .i64 (n:Int) },by rw[Array.mem_toList_iff,Array.mem_iff_getElem?];exact⟨j,by rw[Array.getElem?_modify,if_pos rfl,hje];rfl⟩,rfl⟩
   ·rw[if_neg hkc] at hq;obtain⟨e,hm,hk2⟩:=h2 x' y' z' n' bx by' bz hq;refine⟨e,?_,hk2⟩;rw[Array.mem_toList_iff,Array.mem_iff_getElem?] at hm⊢;obtain⟨i,hi⟩:=hm;refine⟨i,?_⟩;rw[Array.getElem?_modify,if_neg]
    ·exact hi
    ·rintro rfl;rw[hje] at hi;injection hi with hi;subst hi;obtain⟨a1,a2,a3⟩:=kb_inj (he0.symm.trans hk2);exact hkc ⟨a1.symm,a2.symm,a3.symm⟩
  ·intro i k d e hi hk he;have same:∀(i:Nat) (d:MapEntry),(es.modify j fun e=> { e with key:=kb x y z,val:=.int .i64 (n:Int) })[i]? =some d→∃d',es[i]? =some d'∧d'.key=d.key:=by
    intro i d hi;rw[Array.getElem?_modify] at hi;split at hi
    ·rename_i hji;subst hji;rw[hje] at hi;simp at hi;subst hi;exact⟨e0,hje,he0⟩
    ·exact⟨d,hi,rfl⟩
   obtain⟨d',a1,a2⟩:=same i d hi;obtain⟨e',b1,b2⟩:=same k e hk;exact h3 i k d' e' a1 b1 (a2.trans (he.trans b2.symm))
def byt (s:ByteArray) (i:Nat):Nat:=(s.data.toList.getD i 0).toNat
theorem byt_at (s:ByteArray) (i:Nat) (h:i<s.size):byt s i=s[i].toNat:=by
 have h':i<s.data.toList.length:=by show i<s.data.toList.length;simpa using h
 unfold byt;rw[List.getD,List.getElem?_eq_getElem h'];simp;rfl
def cI:Option Nat→Int
 | none=> -1
 | some k=>(k:Int)
/-- where the three bytes at i stood last -/
def prO (s:ByteArray) (i:Nat):Option Nat:=Mt.prv (byt s) (byt s i) (byt s (i+1)) (byt s (i+2)) i
structure FSt (w:World) (B mp ab:Nat) (s:ByteArray) (wd tries:Int) (q:Nat):Prop where
 bk:Bk w B #[.string s,.int .i64 wd,.map (some mp),.slice (some ⟨ab,0,none⟩) s.size s.size,.int .i64 tries]
 mm:MB w mp (fun x y z=>Mt.prv (byt s) x y z q)
 ah:∀i,i<s.size→∃v:Int,w.cell? ⟨ab,i,none⟩=some (.int .i64 v)∧w.frozen? ⟨ab,i,none⟩=false∧(i<q→v=cI (prO s i))
 n1:B≠mp
 n2:B≠ab
 n3:mp≠ab
 al:ab<w.heap.size
theorem FSt.keeps {S:Nat→Prop} {w w':World} {B mp ab q:Nat} {s:ByteArray} {wd tries:Int} (h:FSt w B mp ab s wd tries q) (hk:Keeps S w w') (h1:¬ S B) (h2:¬ S mp) (h3:¬ S ab):FSt w' B mp ab s wd tries q:=
 ⟨h.bk.keeps hk h1,h.mm.keeps hk h2,fun i hi=>by
  obtain⟨v,a,b,c⟩:=h.ah i hi;exact⟨v,(hk.cell (p:=⟨ab,i,none⟩) h.al h3).trans a,(hk.frozen (p:=⟨ab,i,none⟩) h.al h3).trans b,c⟩,h.n1,h.n2,h.n3,Nat.lt_of_lt_of_le h.al hk.size⟩
theorem FSt.ext {w w':World} {B mp ab q:Nat} {s:ByteArray} {wd tries:Int} (h:FSt w B mp ab s wd tries q) (hE:Ext w w'):FSt w' B mp ab s wd tries q:=h.keeps (S:=fun _=>False) hE.keeps id id id
/-- a store into the row of the places ahead, at a place that says nothing yet -/
theorem FSt.setA {w:World} {B mp ab q a:Nat} {s:ByteArray} {wd tries:Int} (h:FSt w B mp ab s wd tries q) (hq:q≤a) (ha:a<s.size) (v:Int):
  FSt (w.setCell ⟨ab,a,none⟩ (.int .i64 v)) B mp ab s wd tries q∧(w.setCell ⟨ab,a,none⟩ (.int .i64 v)).cell? ⟨ab,a,none⟩=some (.int .i64 v)∧Keeps (fun k=>k=mp∨k=ab) w (w.setCell ⟨ab,a,none⟩ (.int .i64 v)):=by
 have hk:Keeps (fun k=>k=ab) w (w.setCell ⟨ab,a,none⟩ (.int .i64 v)):=(Keeps.refl (fun k=>k=ab) w).setCell (.inl rfl) _;obtain⟨u,hu,hf,_⟩:=h.ah a ha;have hsame:(w.setCell ⟨ab,a,none⟩ (.int .i64 v)).cell? ⟨ab,a,none⟩=some (.int .i64 v):=World.cell?_setCell_same _ _ _ hu;refine⟨⟨h.bk.keeps hk h.n2,h.mm.keeps hk h.n3,fun i hi=>?_,h.n1,h.n2,h.n3,by have:=hk.size;have:=h.al;omega⟩,hsame,hk.mono fun _ _ e=>.inr e⟩;by_cases e:i=a
 ·subst e;exact⟨v,hsame,by rw[World.frozen?_setCell];exact hf,fun hi=>by omega⟩
 ·obtain⟨u2,hu2,hf2,r⟩:=h.ah i hi;exact⟨u2,(World.cell?_setCell_other _ _ _ _ (by intro q;injection q with _ q;exact e q.symm)).trans hu2,by rw[World.frozen?_setCell];exact hf2,r⟩
theorem FSt.close {w w':World} {B mp ab a:Nat} {s:ByteArray} {wd tries:Int} (h:FSt w B mp ab s wd tries a) (_ha:a<s.size) (hc:w.cell? ⟨ab,a,none⟩=some (.int .i64 (cI (prO s a))))
  (hm:MB w' mp (updB (fun x y z=>Mt.prv (byt s) x y z a) (byt s a) (byt s (a+1)) (byt s (a+2)) a)) (hk:Keeps (fun k=>k=mp) w w'):FSt w' B mp ab s wd tries (a+1):=by
 refine⟨h.bk.keeps hk h.n1,?_,fun i hi=>?_,h.n1,h.n2,h.n3,by have:=hk.size;have:=h.al;omega⟩
 ·have e:(fun x y z=>Mt.prv (byt s) x y z (a+1))=updB (fun x y z=>Mt.prv (byt s) x y z a) (byt s a) (byt s (a+1)) (byt s (a+2)) a:=by
   funext x y z
   simp only[Mt.prv,updB];by_cases q:byt s a=x∧byt s (a+1)=y∧byt s (a+2)=z
   ·rw[if_pos q,if_pos ⟨q.1.symm,q.2.1.symm,q.2.2.symm⟩]
   ·rw[if_neg q,if_neg (fun r=>q ⟨r.1.symm,r.2.1.symm,r.2.2.symm⟩)]
  rw[e];exact hm
 ·obtain⟨v,a1,a2,a3⟩:=h.ah i hi;refine⟨v,(hk.cell (p:=⟨ab,i,none⟩) h.al (fun e=>h.n3 e.symm)).trans a1,(hk.frozen (p:=⟨ab,i,none⟩) h.al (fun e=>h.n3 e.symm)).trans a2,fun hq=>?_⟩;rcases Nat.lt_or_ge i a with r | r
  ·exact a3 r
  ·obtain rfl:i=a:=by omega
   rw[hc] at a1;injection a1 with a1;injection a1 with _ a1;exact a1.symm
structure FC (w:World) (B mp ab:Nat) (s:ByteArray) (wd tries:Int) (a:Nat) (v:Int):Prop where
 st:FSt w B mp ab s wd tries a
 c:w.cell? ⟨ab,a,none⟩=some (.int .i64 v)
theorem FC.ext {w w':World} {B mp ab a:Nat} {s:ByteArray} {wd tries v:Int} (h:FC w B mp ab s wd tries a v) (hE:Ext w w'):FC w' B mp ab s wd tries a v:=
 ⟨h.st.ext hE,(hE.keeps (S:=fun _=>False) |>.cell (p:=⟨ab,a,none⟩) h.st.al id).trans h.c⟩
def KP (mp ab:Nat) (w w':World):Prop:=Keeps (fun k=>k=mp∨k=ab) w w'
theorem KP.trans {mp ab:Nat} {a b c:World} (h:KP mp ab a b) (k:Ext b c):KP mp ab a c:=Keeps.trans h k.keeps (fun _ _ e=>e)
theorem KP.more {mp ab:Nat} {a b c:World} (h:KP mp ab a b) (k:Keeps (fun k=>k=mp) b c):KP mp ab a c:=Keeps.trans h k (fun _ _ e=>.inl e)
theorem KP.both {mp ab:Nat} {a b c:World} (h:KP mp ab a b) (k:KP mp ab b c):KP mp ab a c:=Keeps.trans h k (fun _ _ e=>e)
theorem wrapi {x:Int} (h: -9223372036854775808≤x) (h':x≤9223372036854775807):IntKind.i64.wrap x=x:=by unfold IntKind.wrap;simp[IntKind.bits,IntKind.signed];omega
theorem mi64info:(Tryz.prog.info? 3).map (fun i=>(i.zero,i.size,i.bytes))=some (some (.int .i64 0),1,8):=by kernel_rfl
def badB (s:ByteArray) (wd:Int):Bool:=decide (300000<s.size∨wd<1∨32768<wd)
theorem mbad_any (s:ByteArray) (wd:Int) (w:World) (hs:s.size≤maxLen):
  Calls Tryz.prog 116 #[.string s,.int .i64 wd] w fun e w'=>e=.returned (.bool (badB s wd))∧w'=w:=by
 unfold maxLen at hs;by_cases h1:(300000:Int)<(s.size:Int)
 ·have t1:decide ((300000:Int)<(s.size:Int))=true:=decide_eq_true h1;go_enter Tryz.func116,Tryz.ntmps116
  go_wp2_with fail;go_ret;exact⟨ret_bool (by unfold badB;simp;omega),rfl⟩
 ·have t1:decide ((300000:Int)<(s.size:Int))=false:=decide_eq_false h1;by_cases h2:wd<1
  ·have t2:decide (wd<1)=true:=decide_eq_true h2;go_enter Tryz.func116,Tryz.ntmps116
   go_wp2_with fail;go_ret;exact⟨ret_bool (by unfold badB;simp;omega),rfl⟩
  ·have t2:decide (wd<1)=false:=decide_eq_false h2;by_cases h3:32768<wd
   ·have t3:decide (32768<wd)=true:=decide_eq_true h3;go_enter Tryz.func116,Tryz.ntmps116
    go_wp2_with fail;go_ret;exact⟨ret_bool (by unfold badB;simp;omega),rfl⟩
   ·have t3:decide (32768<wd)=false:=decide_eq_false h3;go_enter Tryz.func116,Tryz.ntmps116
    go_wp2_with fail;go_ret;exact⟨ret_bool (by unfold badB;simp;omega),rfl⟩
theorem newFinder_any (s:ByteArray) (wd tries:Int) (w:World) (hs:s.size≤300000):
  Calls Tryz.prog 117 #[.string s,.int .i64 wd,.int .i64 tries] w fun e w'=>∃B mp ab,e=.returned (.pointer (some ⟨B,0,none⟩))∧FSt w' B mp ab s wd tries 0∧Ext w w'∧w.heap.size≤B∧w.heap.size≤mp∧w.heap.size≤ab:=by
 have hmm:=@run_makeMap Tryz.prog;have hmk:=run_make_row' (P:=Tryz.prog) 88 3 (.int .i64 0) 8 Tryz.underlying88 mi64info rfl .i64 .i64 s.size (by omega) (by omega);go_enter Tryz.func117,Tryz.ntmps117
 go_wp2_with fail;go_ret;have hM:=MB.new w (fun x y z=>Mt.prv (byt s) x y z 0) (fun _ _ _=>rfl);have hC:=Cv.made (w.alloc (.map #[] 0)) s.size (.int .i64 0) 3;refine⟨w.heap.size+1+1,w.heap.size,w.heap.size+1,rfl,⟨Bk.at (by simp),?_,?_,by omega,by omega,by omega,by simp⟩,?_,by omega,by omega,by omega⟩
 ·exact (hM.ext ((Ext.refl _).alloc _)).ext ((Ext.refl _).alloc _)
 ·intro i hi;obtain⟨a,b⟩:=(hC.ext ((Ext.refl _).alloc _)) i hi;exact⟨0,(by simpa using a),(by simpa using b),fun h=>by omega⟩
 ·exact ((Ext.refl _).alloc _).alloc _ |>.alloc _
theorem set3_all' {w wr:World} {b:Nat} {x y z x' y' z':Value} (hE:Ext w wr) (hT:w.heap.size≤b) (hB:Bk wr b #[x,y,z]):
  Ext w (((wr.setCell ⟨b,0,none⟩ x').setCell ⟨b,1,none⟩ y').setCell ⟨b,2,none⟩ z')∧Bk (((wr.setCell ⟨b,0,none⟩ x').setCell ⟨b,1,none⟩ y').setCell ⟨b,2,none⟩ z') b #[x',y',z']∧Keeps (fun k=>k=b) wr (((wr.setCell ⟨b,0,none⟩ x').setCell ⟨b,1,none⟩ y').setCell ⟨b,2,none⟩ z'):=
 ⟨Below.setCell (Below.setCell (Below.setCell hE (by exact hT) _) (by exact hT) _) (by exact hT) _,((hB.set_ 0 x').set_ 1 y').set_ 2 z',(((Keeps.refl (fun k=>k=b) wr).setCell (.inl rfl) _).setCell (.inl rfl) _).setCell (.inl rfl) _⟩
theorem put_no (B mp ab a q:Nat) (s:ByteArray) (wd tries:Int) (w:World) (h:FSt w B mp ab s wd tries q) (ha:s.size<a+3) (hs:s.size≤300000) (hl:a≤s.size):
  Calls Tryz.prog 119 #[.pointer (some ⟨B,0,none⟩),.int .i64 (a:Int)] w fun e w'=>e=.returned (.tuple #[])∧w'=w:=by
 have c0:=h.bk.cell 0;have t:(s.size:Int)<(a:Int)+3:=by omega
 clear h;go_enter Tryz.func119,Tryz.ntmps119
 go_wp2_with fail;exact bodyPost_ret (v:=.tuple #[]) (by simp[results,Tryz.results119,go_sem]) rfl ⟨rfl,rfl⟩
set_option maxHeartbeats 4000000 in
theorem put_yes (B mp ab a:Nat) (s:ByteArray) (wd tries:Int) (w:World) (h:FSt w B mp ab s wd tries a) (ha:a+3≤s.size) (hs:s.size≤300000):
  Calls Tryz.prog 119 #[.pointer (some ⟨B,0,none⟩),.int .i64 (a:Int)] w fun e w'=>e=.returned (.tuple #[])∧FSt w' B mp ab s wd tries (a+1)∧Keeps (fun k=>k=mp∨k=ab) w w':=by
 have HF:=Hd h;have HB0:=Hd (And.intro h.bk.lt (And.intro h.mm.lt h.al));have c0:=h.bk.cell 0;have t:¬ (s.size:Int)<(a:Int)+3:=by omega
 have h0:a<s.size:=by omega
 clear h;obtain⟨A1,hA1⟩:∃A,a+1=A:=⟨_,rfl⟩;obtain⟨A2,hA2⟩:∃A,a+2=A:=⟨_,rfl⟩;have d1:(a:Int)+1=(A1:Int):=by omega
 have d2:(a:Int)+2=(A2:Int):=by omega
 have h1:A1<s.size:=by omega
 have h2:A2<s.size:=by omega
 obtain⟨x,hx⟩:∃z,(s[a]'h0).toNat=z:=⟨_,rfl⟩;have HBx:Hid (byt s a=x):=Hd ((byt_at s a h0).trans hx);have hxI:(((s[a]'h0).toNat:Nat):Int)=(x:Int):=by rw[hx]
 have hxl:x<256:=by rw[← hx];exact UInt8.toNat_lt _
 clear hx;obtain⟨y,hy⟩:∃z,(s[A1]'h1).toNat=z:=⟨_,rfl⟩;have HBy:Hid (byt s A1=y):=Hd ((byt_at s A1 h1).trans hy);have hyI:(((s[A1]'h1).toNat:Nat):Int)=(y:Int):=by rw[hy]
 have hyl:y<256:=by rw[← hy];exact UInt8.toNat_lt _
 clear hy;obtain⟨z,hz⟩:∃z,(s[A2]'h2).toNat=z:=⟨_,rfl⟩;have HBz:Hid (byt s A2=z):=Hd ((byt_at s A2 h2).trans hz);have hzI:(((s[A2]'h2).toNat:Nat):Int)=(z:Int):=by rw[hz]
 have hzl:z<256:=by rw[← hz];exact UInt8.toNat_lt _
 clear hz;have HA:=Hd (And.intro hA1 hA2);clear hA1 hA2;go_enter Tryz.func119,Tryz.ntmps119
 go_wp2_with fail;obtain⟨wa1,wa2⟩:IntKind.i64.wrap (A1:Int)=(A1:Int)∧IntKind.i64.wrap (A2:Int)=(A2:Int):=⟨wrapi (by omega) (by omega),wrapi (by omega) (by omega)⟩;have S_0:=Hd (HF.out);have X_0:=Hd (Ext.refl w);clear HF;refine wp_region_held_drew (S:=fun w'=>w'.cell? ⟨B,0,none⟩=some (.string s)) (by kernel_rfl) (S_0.out.bk.cell 0) (fun hHeld=>?_);clear hHeld;refine anyH_world (fun wz=>Ext w wz) (show Ext w w.drew from Below.drew (Ext.refl w)) ?_;rintro w1 h;have S_1:=Hd (S_0.out.ext h);have X_1:=Hd (X_0.out.trans h);clear h S_0 X_0;have hHeld:w1.cell? ⟨B,0,none⟩=some (.string s):=(S_1.out.bk.cell 0);refine tkH 0 rfl hHeld ?_;(try simp only[Act.put,xz]);refine tkH 1 rfl hHeld ?_;(try simp only[Act.put,xz]);refine tkH 2 rfl hHeld ?_;(try simp only[Act.put,xz]);refine tkH 3 rfl hHeld ?_;(try simp only[Act.put,xz]);refine tkH 4 rfl hHeld ?_;(try simp only[Act.put,xz]);refine tkH 5 rfl hHeld ?_;(try simp only[Act.put,xz]);refine tkH 6 rfl hHeld ?_;(try simp only[Act.put,xz]);refine tkH 7 rfl hHeld ?_;(try simp only[Act.put,xz]);refine tkH 8 rfl hHeld ?_;(try simp only[Act.put,xz]);refine tkH 9 rfl hHeld ?_;(try simp only[Act.put,xz]);refine tkH 10 rfl hHeld ?_;(try simp only[Act.put,xz]);refine tkH 11 rfl hHeld ?_;(try simp only[Act.put,xz]);refine tkH 12 rfl hHeld ?_;(try simp only[Act.put,xz]);refine tkH 13 rfl hHeld ?_;(try simp only[Act.put,xz]);refine tkH 14 rfl hHeld ?_;(try simp only[Act.put,xz]);refine tkH 15 rfl hHeld ?_
 (try simp only[Act.put,xz]);refine tkH 16 rfl hHeld ?_;(try simp only[Act.put,xz]);refine tkH 17 rfl hHeld ?_;(try simp only[Act.put,xz]);refine tkH 18 rfl hHeld ?_;(try simp only[Act.put,xz]);refine tkH 19 rfl hHeld ?_;(try simp only[Act.put,xz]);refine tkH 20 rfl hHeld ?_;(try simp only[Act.put,xz]);refine rdH 21 rfl fun KK hK=>?_;clear hHeld;go_simp;refine hK.out _ _ ((S_1.out.ext (Ext.alloc (Ext.refl w1) _)).bk.cell 0) (fun hHeld=>?_);clear hK KK hHeld;(try simp only[Act.put,xz]);have GE_K:=Hd X_1.out.size;refine anyH_world (fun wz=>Ext w1 wz∧Bk wz w1.heap.size #[.int .u8 0,.int .u8 0,.int .u8 0]) ⟨Ext.alloc (Ext.refl _) _,Bk.at rfl⟩ ?_;rintro w2 ⟨h,hB⟩;have S_2:=Hd (S_1.out.ext h);have X_2:=Hd (X_1.out.trans h);clear h S_1 X_1;have K_2:=Hd (hB);clear hB;have hHeld:w2.cell? ⟨B,0,none⟩=some (.string s):=(S_2.out.bk.cell 0);refine rdH 22 rfl fun KK hK=>?_;clear hHeld;have t0:=K_2.out.cell 0;have f0:=K_2.out.frozen 0;have t1:=K_2.out.cell 1;have f1:=K_2.out.frozen 1;have t2:=K_2.out.cell 2;have f2:=K_2.out.frozen 2;have SF:=set3_all' (x':=.int .u8 (x:Int)) (y':=.int .u8 (y:Int)) (z':=.int .u8 (z:Int)) X_2.out GE_K.out K_2.out;have SFH:=Hd SF;clear SF;go_simp;clear t0 t1 t2 f0 f1 f2;refine hK.out _ _ ((S_2.out.keeps SFH.out.2.2 (fun e=>by have:=GE_K.out;have:=HB0.out;omega) (fun e=>by have:=GE_K.out;have:=HB0.out;omega) (fun e=>by have:=GE_K.out;have:=HB0.out;omega)).bk.cell 0) (fun hHeld=>?_)
 clear hK KK hHeld;(try simp only[Act.put,xz]);refine anyH_world (fun wz=>FSt wz B mp ab s wd tries a∧Ext w wz∧Bk wz (w1.heap.size) #[.int .u8 (x:Int),.int .u8 (y:Int),.int .u8 (z:Int)]) ⟨S_2.out.keeps SFH.out.2.2 (fun e=>by have:=GE_K.out;have:=HB0.out;omega) (fun e=>by have:=GE_K.out;have:=HB0.out;omega) (fun e=>by have:=GE_K.out;have:=HB0.out;omega),SFH.out.1,SFH.out.2.1⟩ ?_;rintro v9 ⟨hS,hX,hKb⟩;have S_9:=Hd hS;have X_9:=Hd hX;have K_9:=Hd hKb;clear hS hX hKb SFH S_2 X_2 K_2;have hHeld:v9.cell? ⟨B,0,none⟩=some (.string s):=S_9.out.bk.cell 0;refine wpAnyH_done (by kernel_rfl) ?_ _;clear hHeld;obtain⟨kB,hkB⟩:∃z,w1.heap.size=z:=⟨_,rfl⟩;rw[hkB] at K_9⊢;have HKB:Hid (B≠kB∧mp≠kB∧ab≠kB):=Hd (by have:=HB0.out;have:=GE_K.out;omega);clear hkB GE_K wa1 wa2 c0 t d1 d2;obtain⟨u,hu,hfu,_⟩:=S_9.out.ah a h0;have k3:=S_9.out.bk.cell 3;have SA:=Hd (S_9.out.setA (Nat.le_refl a) h0 (-1));have KA:=Hd (K_9.out.far (p:=⟨ab,a,none⟩) (fun e=>HKB.out.2.2 e.symm) (.int .i64 (-1)));go_wp2_with fail;refine wp_world (fun wz=>FSt wz B mp ab s wd tries a∧wz.cell? ⟨ab,a,none⟩=some (.int .i64 (-1))∧Keeps (fun k=>k=mp∨k=ab) v9 wz∧Bk wz kB #[.int .u8 (x:Int),.int .u8 (y:Int),.int .u8 (z:Int)]) ⟨SA.out.1,SA.out.2.1,SA.out.2.2,KA.out⟩ ?_;rintro u1 ⟨q1,q2,q3,q4⟩;have F1:=Hd q1;have C1:=Hd q2;have P1:=Hd ((Ext.keeps X_9.out).trans q3 (fun _ _ e=>e):Keeps (fun k=>k=mp∨k=ab) w u1)
 have K1:=Hd q4;clear q1 q2 q3 q4 SA KA hu hfu k3 S_9 X_9 K_9;have k2:=F1.out.bk.cell 2;have b0:=K1.out.cell 0;have b1:=K1.out.cell 1;have b2:=K1.out.cell 2;have lk:=True.intro;have HPO:Hid (prO s a=Mt.prv (byt s) x y z a):=Hd (by unfold prO;rw[HA.out.1,HA.out.2,HBx.out,HBy.out,HBz.out]);obtain⟨r,hr⟩:∃r,Mt.prv (byt s) x y z a=r:=⟨_,rfl⟩;have HR:=Hd hr;rw[hr] at HPO;clear hr;go_wp2_with fail;have S_20:=Hd ((FC.mk F1.out C1.out));have K_20:=Hd (K1.out);have P_20:=Hd ((show KP mp ab w u1 from P1.out));clear F1 C1 P1;clear k2 b0 b1 b2 lk;refine wp_region_held_drew (S:=fun w'=>w'.cell? ⟨B,2,none⟩=some (.map (some mp))∧w'.cell? ⟨kB,0,none⟩=some (.int .u8 (x:Int))∧w'.cell? ⟨kB,1,none⟩=some (.int .u8 (y:Int))∧w'.cell? ⟨kB,2,none⟩=some (.int .u8 (z:Int))) (by kernel_rfl) ⟨S_20.out.st.bk.cell 2,K_20.out.cell 0,K_20.out.cell 1,K_20.out.cell 2⟩ (fun hHeld=>?_);clear hHeld;refine anyH_world (fun wz=>Ext u1 wz) (show Ext u1 u1.drew from Below.drew (Ext.refl u1)) ?_;rintro w21 h;have S_21:=Hd (S_20.out.ext h);have K_21:=Hd (K_20.out.ext h);have P_21:=Hd (P_20.out.trans h);clear h S_20 K_20 P_20;have hHeld:w21.cell? ⟨B,2,none⟩=some (.map (some mp))∧w21.cell? ⟨kB,0,none⟩=some (.int .u8 (x:Int))∧w21.cell? ⟨kB,1,none⟩=some (.int .u8 (y:Int))∧w21.cell? ⟨kB,2,none⟩=some (.int .u8 (z:Int)):=⟨S_21.out.st.bk.cell 2,K_21.out.cell 0,K_21.out.cell 1,K_21.out.cell 2⟩;refine tkH 0 rfl hHeld ?_
 (try simp only[Act.put,xz]);refine tkH 1 rfl hHeld ?_;(try simp only[Act.put,xz]);refine tkH 2 rfl hHeld ?_;(try simp only[Act.put,xz]);refine tkH 3 rfl hHeld ?_;(try simp only[Act.put,xz]);refine tkH 4 rfl hHeld ?_;(try simp only[Act.put,xz]);refine rdH 5 rfl fun KK hK=>?_;clear hHeld;have t0:=S_21.out.st.mm.look hxl hyl hzl;unfold kb at t0;rw[HR.out] at t0;go_simp;clear t0;refine hK.out _ _ ⟨S_21.out.st.bk.cell 2,K_21.out.cell 0,K_21.out.cell 1,K_21.out.cell 2⟩ (fun hHeld=>?_);clear hK KK;(try simp only[Act.put,xz]);refine tkH 6 rfl hHeld ?_;(try simp only[Act.put,xz]);refine tkH 7 rfl hHeld ?_;(try simp only[Act.put,xz]);refine tkH 8 rfl hHeld ?_;(try simp only[Act.put,xz]);refine tkH 9 rfl hHeld ?_;(try simp only[Act.put,xz]);refine tkH 10 rfl hHeld ?_;(try simp only[Act.put,xz]);refine wpAnyH_done (by kernel_rfl) ?_ _;clear hHeld;cases r with
 | none=>
  go_wp2_with fail;refine wp_region_held_drew (S:=fun w'=>w'.cell? ⟨B,2,none⟩=some (.map (some mp))∧w'.cell? ⟨kB,0,none⟩=some (.int .u8 (x:Int))∧w'.cell? ⟨kB,1,none⟩=some (.int .u8 (y:Int))∧w'.cell? ⟨kB,2,none⟩=some (.int .u8 (z:Int))) (by kernel_rfl) ⟨S_21.out.st.bk.cell 2,K_21.out.cell 0,K_21.out.cell 1,K_21.out.cell 2⟩ (fun hHeld=>?_);clear hHeld;refine anyH_world (fun wz=>Ext w21 wz) (show Ext w21 w21.drew from Below.drew (Ext.refl w21)) ?_;rintro w22 h;have S_22:=Hd (S_21.out.ext h);have K_22:=Hd (K_21.out.ext h);have P_22:=Hd (P_21.out.trans h);clear h S_21 K_21 P_21;have hHeld:w22.cell? ⟨B,2,none⟩=some (.map (some mp))∧w22.cell? ⟨kB,0,none⟩=some (.int .u8 (x:Int))∧w22.cell? ⟨kB,1,none⟩=some (.int .u8 (y:Int))∧w22.cell? ⟨kB,2,none⟩=some (.int .u8 (z:Int)):=⟨S_22.out.st.bk.cell 2,K_22.out.cell 0,K_22.out.cell 1,K_22.out.cell 2⟩;refine tkH 0 rfl hHeld ?_;(try simp only[Act.put,xz]);refine tkH 1 rfl hHeld ?_;(try simp only[Act.put,xz]);refine tkH 2 rfl hHeld ?_;(try simp only[Act.put,xz]);refine tkH 3 rfl hHeld ?_;(try simp only[Act.put,xz]);refine tkH 4 rfl hHeld ?_;(try simp only[Act.put,xz]);refine tkH 5 rfl hHeld ?_;(try simp only[Act.put,xz]);refine rdH 6 rfl fun KK hK=>?_;clear hHeld;obtain⟨w5,hrun,hM5,hK5⟩:=S_22.out.st.mm.store (n:=a) hxl hyl hzl;have F5:=Hd (FSt.close S_22.out.st h0 (show FC _ B mp ab s wd tries a (cI (prO s a)) from (by rw[HPO.out];exact S_22.out)).c (by rw[HA.out.1,HA.out.2,HBx.out,HBy.out,HBz.out];exact hM5) hK5)
  have K5:=Hd (K_22.out.keeps hK5 (fun e=>HKB.out.2.1 e.symm));have P5:=Hd (P_22.out.more hK5);unfold kb at hrun;go_simp;refine hK.out _ _ ⟨F5.out.bk.cell 2,K5.out.cell 0,K5.out.cell 1,K5.out.cell 2⟩ (fun hHeld=>?_);clear hK KK hrun hM5 hK5;(try simp only[Act.put,xz]);refine wpAnyH_done (by kernel_rfl) ?_ _;clear hHeld;go_wp2_with fail;go_end0;exact⟨rfl,F5.out,P5.out⟩
 | some k=>
  obtain⟨v0,hv0,hf0,_⟩:=S_21.out.st.ah a h0;have k3:=S_21.out.st.bk.cell 3;have SA:=Hd (S_21.out.st.setA (Nat.le_refl a) h0 (k:Int));have KA:=Hd (K_21.out.far (p:=⟨ab,a,none⟩) (fun e=>HKB.out.2.2 e.symm) (.int .i64 (k:Int)));go_wp2_with fail;refine wp_world (fun wz=>FC wz B mp ab s wd tries a (k:Int)∧KP mp ab w21 wz∧Bk wz kB #[.int .u8 (x:Int),.int .u8 (y:Int),.int .u8 (z:Int)]) ⟨⟨SA.out.1,SA.out.2.1⟩,SA.out.2.2,KA.out⟩ ?_;rintro u5 ⟨q1,q2,q3⟩;have S_30:=Hd q1;have P_30:=Hd (P_21.out.both q2);have K_30:=Hd q3;clear q1 q2 q3 SA KA hv0 hf0 k3 S_21 K_21 P_21;refine wp_region_held_drew (S:=fun w'=>w'.cell? ⟨B,2,none⟩=some (.map (some mp))∧w'.cell? ⟨kB,0,none⟩=some (.int .u8 (x:Int))∧w'.cell? ⟨kB,1,none⟩=some (.int .u8 (y:Int))∧w'.cell? ⟨kB,2,none⟩=some (.int .u8 (z:Int))) (by kernel_rfl) ⟨S_30.out.st.bk.cell 2,K_30.out.cell 0,K_30.out.cell 1,K_30.out.cell 2⟩ (fun hHeld=>?_);clear hHeld;refine anyH_world (fun wz=>Ext u5 wz) (show Ext u5 u5.drew from Below.drew (Ext.refl u5)) ?_;rintro w31 h;have S_31:=Hd (S_30.out.ext h);have K_31:=Hd (K_30.out.ext h);have P_31:=Hd (P_30.out.trans h);clear h S_30 K_30 P_30;have hHeld:w31.cell? ⟨B,2,none⟩=some (.map (some mp))∧w31.cell? ⟨kB,0,none⟩=some (.int .u8 (x:Int))∧w31.cell? ⟨kB,1,none⟩=some (.int .u8 (y:Int))∧w31.cell? ⟨kB,2,none⟩=some (.int .u8 (z:Int)):=⟨S_31.out.st.bk.cell 2,K_31.out.cell 0,K_31.out.cell 1,K_31.out.cell 2⟩
  refine tkH 0 rfl hHeld ?_;(try simp only[Act.put,xz]);refine tkH 1 rfl hHeld ?_;(try simp only[Act.put,xz]);refine tkH 2 rfl hHeld ?_;(try simp only[Act.put,xz]);refine tkH 3 rfl hHeld ?_;(try simp only[Act.put,xz]);refine tkH 4 rfl hHeld ?_;(try simp only[Act.put,xz]);refine tkH 5 rfl hHeld ?_;(try simp only[Act.put,xz]);refine rdH 6 rfl fun KK hK=>?_;clear hHeld;obtain⟨w5,hrun,hM5,hK5⟩:=S_31.out.st.mm.store (n:=a) hxl hyl hzl;have F5:=Hd (FSt.close S_31.out.st h0 (show FC _ B mp ab s wd tries a (cI (prO s a)) from (by rw[HPO.out];exact S_31.out)).c (by rw[HA.out.1,HA.out.2,HBx.out,HBy.out,HBz.out];exact hM5) hK5);have K5:=Hd (K_31.out.keeps hK5 (fun e=>HKB.out.2.1 e.symm));have P5:=Hd (P_31.out.more hK5);unfold kb at hrun;go_simp;refine hK.out _ _ ⟨F5.out.bk.cell 2,K5.out.cell 0,K5.out.cell 1,K5.out.cell 2⟩ (fun hHeld=>?_);clear hK KK hrun hM5 hK5;(try simp only[Act.put,xz]);refine wpAnyH_done (by kernel_rfl) ?_ _;clear hHeld;go_wp2_with fail;go_end0;exact⟨rfl,F5.out,P5.out⟩
end Go.Proofs.YthlibiocadimhaaGreatDoor
