/-
  inflate: tokens: what stands beside a reader on its way: a tree, a closure for distances; the tables; the plain machine's steps.
  A packed text read: blocks, one behind the other: what they may not pass. No function of the program is named.
  A packed text read: where it ends. No function of the program is named.
  Stored blocks: what they are, and what they mean. No function of the program is named.
  A packed text read: how many bytes there may be. No function of the program is named.
  Tokens as bits, and their bits read: plain laws. No function of the program is named.
  Turned: bits, the highest first.
  deflate.place; a writer of a block: its symbols.
  Quiet regions that draw, step by step (as in XRfA; for seats without the reader).
-/
import Derived.Test.YthlibiocadimhaaGreatDoorPngTwiceG1
import Derived.Test.YthlibiocadimhaaGreatDoorPngTwiceG5
import Derived.Deep.AppendLies
import Derived.Test.YthlibiocadimhaaGreatDoorPngTwiceG4
import Derived.Test.YthlibiocadimhaaGreatDoorPngTwiceG3
import Derived.Outline
import Derived.Test.YthlibiocadimhaaGreatDoorPngTwiceG2
import Derived.StillTailTactics
import Derived.StillTactics
set_option linter.unusedSimpArgs false
set_option linter.unusedVariables false
set_option maxRecDepth 100000
namespace Go.Proofs.YthlibiocadimhaaGreatDoor
open Go.RowKit
namespace Inf
def pr (r:TRes):Except Nat (Nat × List UInt8):=
 match r with
 | .ok (a,out,_)=>.ok (a,out)
 | .error c=>.error c
section
variable {L:List UInt8} {most:Nat} {f:Nat→Int} {len:Nat} {g:Nat→Int} {gen F a:Nat} {out:List UInt8} {tr:List Ev} {r:TRes}
theorem toks_err1 {c:Nat} (hF:0<F) (h:toks L most f len g gen F a out tr=r) (hn:nxt L f len a=.error c):.error c=pr r:=by
 cases F with
 | zero=>omega
 | succ F=>simp only[toks,hn] at h;subst h;rfl
theorem toks_fin {a1:Nat} (hF:0<F) (h:toks L most f len g gen F a out tr=r) (hn:nxt L f len a=.ok (256,a1)):.ok (a1,out)=pr r:=by
 cases F with
 | zero=>omega
 | succ F=>simp only[toks,hn,if_pos] at h;subst h;rfl
theorem toks_err2 {k a1 c:Nat} (hF:0<F) (h:toks L most f len g gen F a out tr=r) (hn:nxt L f len a=.ok (k,a1)) (hk:k≠256) (ht:tok L most g gen k a1 out=.error c):.error c=pr r:=by
 cases F with
 | zero=>omega
 | succ F=>simp only[toks,hn,if_neg hk,ht] at h;subst h;rfl
theorem toks_go {k a1 a2:Nat} {out2:List UInt8} {e:Ev} (hF:0<F) (h:toks L most f len g gen F a out tr=r) (hn:nxt L f len a=.ok (k,a1)) (hk:k≠256) (ht:tok L most g gen k a1 out=.ok (a2,out2,e)):∃F',F=F'+1∧toks L most f len g gen F' a2 out2 (tr ++ [e])=r:=by
 cases F with
 | zero=>omega
 | succ F=>simp only[toks,hn,if_neg hk,ht] at h;exact⟨F,rfl,h⟩
variable {k a1 x:Nat}
theorem tok_over (hk:k<256) (h:most≤out.length):tok L most g gen k a out=.error 1:=by unfold tok;rw[if_pos hk,if_neg (by omega)]
theorem tok_lit (hk:k<256) (h:out.length<most):tok L most g gen k a out=.ok (a,out ++ [UInt8.ofNat k],⟨k,0,0,0⟩):=by unfold tok;rw[if_pos hk,if_pos h]
theorem tok_big (hk:286≤k):tok L most g gen k a out=.error 0:=by unfold tok;rw[if_neg (by omega),if_pos hk]
theorem tok_x {c:Nat} (h1:256<k) (h2:k<286) (hg:get L (lensB.getD (k-257) 0) a=.error c):tok L most g gen k a out=.error c:=by unfold tok;rw[if_neg (by omega),if_neg (by omega),hg]
theorem tok_d {c:Nat} (h1:256<k) (h2:k<286) (hg:get L (lensB.getD (k-257) 0) a=.ok (x,a1)) (hd:nxt L g gen a1=.error c):tok L most g gen k a out=.error c:=by unfold tok;rw[if_neg (by omega),if_neg (by omega),hg];simp only[hd]
theorem tok_f {d a2:Nat} (h1:256<k) (h2:k<286) (hg:get L (lensB.getD (k-257) 0) a=.ok (x,a1)) (hd:nxt L g gen a1=.ok (d,a2)):tok L most g gen k a out=far L most k d a2 out x:=by unfold tok;rw[if_neg (by omega),if_neg (by omega),hg];simp only[hd]
theorem far_big {d:Nat} (h:30≤d):far L most k d a out x=.error 0:=by unfold far;rw[if_pos h]
theorem far_x {d c:Nat} (h:d<30) (hg:get L (distsB.getD d 0) a=.error c):far L most k d a out x=.error c:=by unfold far;rw[if_neg (by omega),hg]
theorem far_back {d y:Nat} (h:d<30) (hg:get L (distsB.getD d 0) a=.ok (y,a1)) (hb:out.length<distsL.getD d 0+y):far L most k d a out x=.error 0:=by unfold far;rw[if_neg (by omega),hg];simp only[if_pos hb]
theorem far_most {d y:Nat} (h:d<30) (hg:get L (distsB.getD d 0) a=.ok (y,a1)) (hb:¬ out.length<distsL.getD d 0+y) (hm:most<out.length+(lensL.getD (k-257) 0+x)):far L most k d a out x=.error 1:=by unfold far;rw[if_neg (by omega),hg];simp only[if_neg hb,if_pos hm]
theorem far_ok {d y:Nat} (h:d<30) (hg:get L (distsB.getD d 0) a=.ok (y,a1)) (hb:¬ out.length<distsL.getD d 0+y) (hm:¬ most<out.length+(lensL.getD (k-257) 0+x)):
  far L most k d a out x=.ok (a1,copyL out (distsL.getD d 0+y) (lensL.getD (k-257) 0+x),⟨k,d,lensL.getD (k-257) 0+x,distsL.getD d 0+y⟩):=by unfold far;rw[if_neg (by omega),hg];simp only[if_neg hb,if_neg hm]
end
theorem lensL_le:∀k,lensL.getD k 0≤258:=by
 intro k;by_cases h:k<29
 ·have:∀k,k<29→lensL.getD k 0≤258:=by decide
  exact this k h
 ·rw[List.getD,List.getElem?_eq_none (by simp[lensL];omega)];exact Nat.zero_le _
theorem lensB_le:∀k,lensB.getD k 0≤5:=by
 intro k;by_cases h:k<29
 ·have:∀k,k<29→lensB.getD k 0≤5:=by decide
  exact this k h
 ·rw[List.getD,List.getElem?_eq_none (by simp[lensB];omega)];exact Nat.zero_le _
theorem distsB_le:∀k,distsB.getD k 0≤13:=by
 intro k;by_cases h:k<30
 ·have:∀k,k<30→distsB.getD k 0≤13:=by decide
  exact this k h
 ·rw[List.getD,List.getElem?_eq_none (by simp[distsB];omega)];exact Nat.zero_le _
theorem distsL_le:∀k,distsL.getD k 0≤24577:=by
 intro k;by_cases h:k<30
 ·have:∀k,k<30→distsL.getD k 0≤24577:=by decide
  exact this k h
 ·rw[List.getD,List.getElem?_eq_none (by simp[distsL];omega)];exact Nat.zero_le _
theorem distsL_pos:∀k,k<30→1≤distsL.getD k 0:=by decide
theorem nxt_le {L:List UInt8} {f:Nat→Int} {len a a' k:Nat} (h:nxt L f len a=.ok (k,a')):a<a'∧a'≤8*L.length∧k<len:=by
 obtain⟨n,rfl,h1,h2,h3,h4,h5,h6⟩:=nxt_ok h;exact⟨by omega,h3,h4⟩
end Inf
/-- a tree beside a reader -/
structure Tr (w:World) (T:Nat) (f:Nat→Int) (len:Nat) (R B:Nat) (v:Value):Prop where
 at_:∃u,TAt w T u f len (symA f len 15)∧(∀k,u.ownBlock=some k→k≠R∧k≠B∧v.ownBlock≠some k)
 good:Inf.good f len
 tr:T≠R
 tb:T≠B
 tv:v.ownBlock≠some T
theorem Tr.step {w w':World} {T len R B:Nat} {f:Nat→Int} {v v':Value} (h:Tr w T f len R B v) (k:IStep w w' R B v v'):Tr w' T f len R B v':=by
 obtain⟨⟨u,h1,h2⟩,h3,h4,h5,h6⟩:=h;have hT:T<w.heap.size:=World.block_lt_of_cell? w _ h1.cell;refine⟨⟨u,h1.kept k.keeps ?_ ?_,?_⟩,h3,h4,h5,?_⟩
 ·rintro (q | q | q)
  ·exact h4 q
  ·exact h5 q
  ·exact h6 q
 ·intro i hi q;obtain⟨a1,a2,a3⟩:=h2 i hi;rcases q with q | q | q
  ·exact a1 q
  ·exact a2 q
  ·exact a3 q
 ·intro i hi;obtain⟨a1,a2,a3⟩:=h2 i hi;refine⟨a1,a2,fun q=>?_⟩;have hlt:=ownsRow_lt h1.row hi;rcases k.new i q with r | r
  ·exact a3 r
  ·omega
 ·intro q;rcases k.new T q with r | r
  ·exact h6 r
  ·omega
theorem Tr.tree {w:World} {T len R B:Nat} {f:Nat→Int} {v:Value} (h:Tr w T f len R B v):Tree w T f len B:=by
 obtain⟨⟨u,h1,h2⟩,h3,h4,h5,h6⟩:=h;exact⟨⟨u,h1,fun e=>(h2 B e).2.1 rfl⟩,h3,h5⟩
theorem gnext_yes (R B T a k a' most len:Nat) (f:Nat→Int) (s:ByteArray) (v0 v:Value) (out:List UInt8) (w0 w wr:World) (E:Nat→Addr) (hE:Errs w0 E) (hI:IGo w0 w wr R B s a v0 v out most) (hT:Tr wr T f len R B v) (hg:Inf.nxt s.data.toList f len a=.ok (k,a')):
  Calls Tryz.prog 164 #[.pointer (some ⟨R,0,none⟩),.pointer (some ⟨T,0,none⟩)] wr fun e w'=>e=.returned (.int .i64 (k:Int))∧IGo w0 w w' R B s a' v0 v out most∧RStep wr w' B 0:=by
 refine (rnext_yes R B T a k a' most len f s v out w0 wr E hE hI.old hI.st.hB hI.st.at_ hI.st.le hT.tree hg).mono ?_;rintro e w' ⟨rfl,h1,h2⟩;have:=(Inf.nxt_le hg).2.1;rw[list_size] at this;exact⟨rfl,hI.read h1 h2 this,h2⟩
theorem gnext_no (R B T a c most len:Nat) (f:Nat→Int) (s:ByteArray) (v0 v:Value) (out:List UInt8) (w0 w wr:World) (E:Nat→Addr) (hE:Errs w0 E) (hI:IGo w0 w wr R B s a v0 v out most) (hT:Tr wr T f len R B v) (hg:Inf.nxt s.data.toList f len a=.error c):
  Calls Tryz.prog 164 #[.pointer (some ⟨R,0,none⟩),.pointer (some ⟨T,0,none⟩)] wr fun e w'=>e=thrown (E c)∧Ext w0 w':=by
 refine (rnext_no R B T a c most len f s v out w0 wr E hE hI.old hI.st.hB hI.st.at_ hI.st.le hT.tree hg).mono ?_;rintro e w' ⟨rfl,h1⟩;exact⟨rfl,hI.st.gone (IStep.rd h1)⟩
/-- a reader on its way, with a tree and with what a closure holds -/
structure TGo (D:World→Value→Prop) (w0 w wr:World) (R B:Nat) (s:ByteArray) (a:Nat) (v0 v:Value) (out:List UInt8) (most T:Nat) (f:Nat→Int) (len:Nat):Prop where
 go:IGo w0 w wr R B s a v0 v out most
 tr:Tr wr T f len R B v
 d:D wr v
 stab:∀w w' v v',D w v→IStep w w' R B v v'→D w' v'
section
variable {D:World→Value→Prop} {w0 w wr w':World} {R B a a' most T len:Nat} {f:Nat→Int} {s:ByteArray} {v0 v v':Value} {out out':List UInt8}
theorem TGo.old (h:TGo D w0 w wr R B s a v0 v out most T f len):Ext w0 wr:=h.go.old
theorem TGo.bk (h:TGo D w0 w wr R B s a v0 v out most T f len):Bk wr R #[.pointer (some ⟨B,0,none⟩),v,.int .i64 (most:Int)]:=h.go.bk
theorem TGo.row (h:TGo D w0 w wr R B s a v0 v out most T f len):wr.ownsRow 0 5 1 v out.length (bytesV out):=h.go.row
theorem TGo.to (h:TGo D w0 w wr R B s a v0 v out most T f len) (hG:IGo w0 w w' R B s a' v0 v' out' most) (hS:IStep wr w' R B v v'):TGo D w0 w w' R B s a' v0 v' out' most T f len:=
 ⟨hG,h.tr.step hS,h.stab _ _ _ _ h.d hS,h.stab⟩
theorem TGo.ext (h:TGo D w0 w wr R B s a v0 v out most T f len) (hE:Ext wr w'):TGo D w0 w w' R B s a v0 v out most T f len:=h.to (h.go.ext hE) (IStep.ext hE)
theorem TGo.rd (h:TGo D w0 w wr R B s a v0 v out most T f len) (hG:IGo w0 w w' R B s a' v0 v out most) (hS:RStep wr w' B 0):TGo D w0 w w' R B s a' v0 v out most T f len:=h.to hG (IStep.rd hS)
end
structure Dist (dn:Nat) (cs:Array Value) (w0:World) (R B:Nat) (s:ByteArray) (most:Nat) (E:Nat→Addr) (g:Nat→Int) (gen:Nat) (D:World→Value→Prop):Prop where
 enters:∀(args:Array Value) (w:World),(callFunc dn args).run Tryz.prog w=.ok (.enter dn args) w
 stab:∀w w' v v',D w v→IStep w w' R B v v'→D w' v'
 yes:∀w wr a v0 v out k a',IGo w0 w wr R B s a v0 v out most→D wr v→Inf.nxt s.data.toList g gen a=.ok (k,a')→Calls Tryz.prog dn cs wr fun e w'=>e=.returned (.int .i64 (k:Int))∧IGo w0 w w' R B s a' v0 v out most∧IStep wr w' R B v v
 no:∀w wr a v0 v out c,IGo w0 w wr R B s a v0 v out most→D wr v→Inf.nxt s.data.toList g gen a=.error c→Calls Tryz.prog dn cs wr fun e w'=>e=thrown (E c)∧Ext w0 w'
/-- the tables -/
structure Tabs (w:World):Prop where
 lens:∀k,k<29→w.cell? ⟨11,k,none⟩=some (.int .i64 ((Inf.lensL.getD k 0:Nat):Int))
 lenB:∀k,k<29→w.cell? ⟨12,k,none⟩=some (.int .i64 ((Inf.lensB.getD k 0:Nat):Int))
 dists:∀k,k<30→w.cell? ⟨13,k,none⟩=some (.int .i64 ((Inf.distsL.getD k 0:Nat):Int))
 distB:∀k,k<30→w.cell? ⟨14,k,none⟩=some (.int .i64 ((Inf.distsB.getD k 0:Nat):Int))
 order:∀k,k<19→w.cell? ⟨10,k,none⟩=some (.int .i64 ((Inf.orderL.getD k 0:Nat):Int))
theorem ext_cell {w w':World} (h:Ext w w') {p:Addr} {u:Value} (hc:w.cell? p=some u):w'.cell? p=some u:=
 (Below.cell h (World.block_lt_of_cell? w _ hc)).trans hc
theorem Tabs.ext {w w':World} (h:Tabs w) (hE:Ext w w'):Tabs w':=
 ⟨fun k q=>ext_cell hE (h.lens k q),fun k q=>ext_cell hE (h.lenB k q),fun k q=>ext_cell hE (h.dists k q),fun k q=>ext_cell hE (h.distB k q),fun k q=>ext_cell hE (h.order k q)⟩
/-- a byte more, behind a block that was laid -/
theorem IGo.push {w0 w wr wb w':World} {R B a most L:Nat} {s:ByteArray} {v0 v v':Value} {out:List UInt8} {y:UInt8} (h:IGo w0 w wr R B s a v0 v out most) (hL:out.length=L) (hE:Ext wr wb) (hg:wb.grownBy w' v.ownBlock) (ho:w'.ownsRow 0 5 1 v' (L+1) (bytesV out ++ [.int .u8 (y.toNat:Int)]))
  (hat:v'.ownBlock=v.ownBlock∨v'.ownBlock=some wb.heap.size):
  Bk w' R #[.pointer (some ⟨B,0,none⟩),v,.int .i64 (most:Int)]∧IGo w0 w (w'.setCell ⟨R,1,none⟩ v') R B s a v0 v' (out ++ [y]) most∧IStep wr (w'.setCell ⟨R,1,none⟩ v') R B v v':=by
 have h1:=IAt.grow (t:=(⟨#[y]⟩:ByteArray)) h.st.at_ hE hg (by rw[hL];rw[strCells_eq];exact ho) hat;exact⟨h1.1,h.to h1.2.1 h1.2.2 h.st.le,h1.2.2⟩
end Go.Proofs.YthlibiocadimhaaGreatDoor
namespace Go.Proofs.YthlibiocadimhaaGreatDoor
open Go.RowKit
namespace Inf
theorem get_mono {L:List UInt8} {k a n a':Nat} (h:get L k a=.ok (n,a')):a'=a+k:=(get_ok h).1
theorem tok_grow {L:List UInt8} {most:Nat} {g:Nat→Int} {gen k a a':Nat} {out out':List UInt8} {e:Ev} (h:tok L most g gen k a out=.ok (a',out',e)):a≤a'∧out.length≤out'.length∧out'.length≤most:=by
 unfold tok at h;split at h
 ·split at h
  ·injection h with h;injection h with h1 h;injection h with h2 h3;subst h1 h2;exact⟨Nat.le_refl _,by simp,by simp;omega⟩
  ·cases h
 ·split at h
  ·cases h
  ·split at h
   ·cases h
   ·rename_i x a2 hx;split at h
    ·cases h
    ·rename_i d a3 hd;have h1:=get_mono hx;have h2:=(nxt_le hd).1;unfold far at h;split at h
     ·cases h
     ·split at h
      ·cases h
      ·rename_i y a4 hy;have h3:=get_mono hy;split at h
       ·cases h
       ·split at h
        ·cases h
        ·injection h with h;injection h with e1 h;injection h with e2 e3;subst e1 e2;rw[copyL_length];exact⟨by omega,by omega,by omega⟩
theorem toks_grow {L:List UInt8} {most:Nat} {f g:Nat→Int} {len gen:Nat}:∀(F a:Nat) (out:List UInt8) (tr:List Ev) (a':Nat) (out':List UInt8) (tr':List Ev),out.length≤most→toks L most f len g gen F a out tr=.ok (a',out',tr')→a≤a'∧out'.length≤most:=by
 intro F;induction F with
 | zero=>intro a out tr a' out' tr' _ h;cases h
 | succ F ih=>
  intro a out tr a' out' tr' ho h;simp only[toks] at h;split at h
  ·cases h
  ·rename_i k a1 hn;have h1:=(nxt_le hn).1;split at h
   ·injection h with h;injection h with e1 h;injection h with e2 e3;subst e1 e2;exact⟨by omega,ho⟩
   ·split at h
    ·cases h
    ·rename_i a2 out2 e ht;have h2:=tok_grow ht;have h3:=ih _ _ _ _ _ _ h2.2.2 h;exact⟨by omega,h3.2⟩
theorem stored_grow {L:List UInt8} {most a a':Nat} {out out':List UInt8} (h:stored L most a out=.ok (a',out')):a≤a'∧out'.length≤most:=by
 unfold stored at h;split at h
 ·cases h
 ·rename_i n a2 h1;split at h
  ·cases h
  ·rename_i m a3 h2;split at h
   ·cases h
   ·split at h
    ·cases h
    ·split at h
     ·cases h
     ·injection h with h;injection h with e1 e2;have q1:=get_mono h1;have q2:=get_mono h2;subst e1 e2;rw[List.length_append,List.length_take];exact⟨by omega,by omega⟩
theorem smalls_grow {L:List UInt8}:∀(r i a:Nat) (f f':Nat→Int) (a':Nat),smalls L r i a f=.ok (f',a')→a≤a':=by
 intro r;induction r with
 | zero=>intro i a f f' a' h;injection h with h;injection h with h1 h2;omega
 | succ r ih=>
  intro i a f f' a' h;simp only[smalls] at h;split at h
  ·cases h
  ·rename_i x a2 hg;have:=get_mono hg;have:=ih _ _ _ _ _ h;omega
theorem rep_grow {L:List UInt8} {k a t w a':Nat} {l:List Nat} (h:rep L k a l=.ok (t,w,a')):a≤a':=by
 unfold rep at h;split at h
 ·split at h
  ·cases h
  ·split at h
   ·cases h
   ·rename_i x a2 hg;have:=get_mono hg;injection h with h;injection h with _ h;injection h with _ h;omega
 ·split at h
  ·split at h
   ·cases h
   ·rename_i x a2 hg;have:=get_mono hg;injection h with h;injection h with _ h;injection h with _ h;omega
  ·split at h
   ·split at h
    ·cases h
    ·rename_i x a2 hg;have:=get_mono hg;injection h with h;injection h with _ h;injection h with _ h;omega
   ·injection h with h;injection h with _ h;injection h with _ h;omega
theorem lens_grow {L:List UInt8} {f:Nat→Int} {want:Nat}:∀(F a:Nat) (l l':List Nat) (a':Nat),l.length≤want→lens L f want F a l=.ok (l',a')→a≤a'∧l'.length=want:=by
 intro F;induction F with
 | zero=>intro a l l' a' _ h;cases h
 | succ F ih=>
  intro a l l' a' hl h;simp only[lens] at h;split at h
  ·injection h with h;injection h with h1 h2;subst h1;exact⟨by omega,by omega⟩
  ·split at h
   ·cases h
   ·rename_i k a1 hn;have h1:=(nxt_le hn).1;split at h
    ·cases h
    ·rename_i t w a2 hr;have h2:=rep_grow hr;split at h
     ·cases h
     ·have:=ih _ _ _ _ (by rw[List.length_append,List.length_replicate];omega) h;exact⟨by omega,this.2⟩
theorem dyn_grow {L:List UInt8} {a a':Nat} {l d:List Nat} (h:dyn L a=.ok (l,d,a')):a≤a':=by
 unfold dyn at h;split at h
 ·cases h
 ·rename_i m a1 h1;split at h
  ·cases h
  ·rename_i r a2 h2;split at h
   ·cases h
   ·rename_i w a3 h3;split at h
    ·cases h
    ·split at h
     ·cases h
     ·rename_i f a4 h4;split at h
      ·cases h
      ·split at h
       ·cases h
       ·rename_i l0 a5 h5;split at h
        ·cases h
        ·split at h
         ·cases h
         ·split at h
          ·cases h
          ·have q1:=get_mono h1;have q2:=get_mono h2;have q3:=get_mono h3;have q4:=smalls_grow _ _ _ _ _ _ h4;have q5:=(lens_grow _ _ _ _ _ (Nat.zero_le _) h5).1;injection h with h;injection h with _ h;injection h with _ h;omega
theorem block_grow {L:List UInt8} {most a last a':Nat} {out out':List UInt8} {b:Blk} (ho:out.length≤most) (h:block L most a out=.ok (last,a',out',b)):a<a'∧out'.length≤most:=by
 unfold block at h;split at h
 ·cases h
 ·rename_i la a1 h1;split at h
  ·cases h
  ·rename_i kind a2 h2;have q1:=get_mono h1;have q2:=get_mono h2;split at h
   ·split at h
    ·cases h
    ·rename_i a3 o3 h3;have:=stored_grow h3;injection h with h;injection h with _ h;injection h with e1 h;injection h with e2 _;subst e1 e2;exact⟨by omega,this.2⟩
   ·split at h
    ·split at h
     ·cases h
     ·rename_i a3 o3 tr h3;have:=toks_grow _ _ _ _ _ _ _ ho h3;injection h with h;injection h with _ h;injection h with e1 h;injection h with e2 _;subst e1 e2;exact⟨by omega,this.2⟩
    ·split at h
     ·split at h
      ·cases h
      ·rename_i l r a3 h3;have p1:=dyn_grow h3;split at h
       ·cases h
       ·rename_i a4 o4 tr h4;have:=toks_grow _ _ _ _ _ _ _ ho h4;injection h with h;injection h with _ h;injection h with e1 h;injection h with e2 _;subst e1 e2;exact⟨by omega,this.2⟩
     ·cases h
section
variable {L:List UInt8} {most F a:Nat} {out:List UInt8} {bs:List Blk} {r:Except Nat (Nat × List UInt8 × List Blk)}
theorem blocks_err {c:Nat} (hF:0<F) (h:blocks L most F a out bs=r) (e:block L most a out=.error c):r=.error c:=by
 cases F with
 | zero=>omega
 | succ F=>simp only[blocks,e] at h;exact h.symm
theorem blocks_last {a1:Nat} {out1:List UInt8} {b:Blk} (hF:0<F) (h:blocks L most F a out bs=r) (e:block L most a out=.ok (1,a1,out1,b)):r=.ok (a1,out1,bs ++ [b]):=by
 cases F with
 | zero=>omega
 | succ F=>simp only[blocks,e,if_pos] at h;exact h.symm
theorem blocks_go {last a1:Nat} {out1:List UInt8} {b:Blk} (hF:0<F) (h:blocks L most F a out bs=r) (e:block L most a out=.ok (last,a1,out1,b)) (hl:last≠1):∃F',F=F'+1∧blocks L most F' a1 out1 (bs ++ [b])=r:=by
 cases F with
 | zero=>omega
 | succ F=>simp only[blocks,e,if_neg hl] at h;exact⟨F,rfl,h⟩
end
/-- a text of bytes, and how many there may be -/
noncomputable def infl (s:ByteArray) (most:Int):Except Nat (List UInt8 × Nat × List Blk):=
 if most<0∨300000<most∨300000<s.size then .error 1 else inf s.data.toList most.toNat
end Inf
end Go.Proofs.YthlibiocadimhaaGreatDoor
namespace Go.Proofs.YthlibiocadimhaaGreatDoor
open Go.RowKit
namespace Inf
section
variable {L:List UInt8} {most a a1 a2 last:Nat} {out:List UInt8}
theorem block_sto {a3:Nat} {out3:List UInt8} (h1:get L 1 a=.ok (last,a1)) (h2:get L 2 a1=.ok (0,a2)) (h3:stored L most a2 out=.ok (a3,out3)):block L most a out=.ok (last,a3,out3,⟨0,[],[],[]⟩):=by unfold block;simp only[h1,h2,if_pos,h3]
theorem block_fxo {a3:Nat} {out3:List UInt8} {tr:List Ev} (h1:get L 1 a=.ok (last,a1)) (h2:get L 2 a1=.ok (1,a2)) (h3:toks L most fixF 288 fiveF 32 (8*L.length+1) a2 out []=.ok (a3,out3,tr)):block L most a out=.ok (last,a3,out3,⟨1,[],[],tr⟩):=by unfold block;simp only[h1,h2,if_neg (show ¬ (1:Nat)=0 by decide),if_pos,h3]
theorem block_dyo {l d:List Nat} {a3 a4:Nat} {out4:List UInt8} {tr:List Ev} (h1:get L 1 a=.ok (last,a1)) (h2:get L 2 a1=.ok (2,a2)) (h3:dyn L a2=.ok (l,d,a3)) (h4:toks L most (fn l) l.length (fn d) d.length (8*L.length+1) a3 out []=.ok (a4,out4,tr)):block L most a out=.ok (last,a4,out4,⟨2,l,d,tr⟩):=by
  unfold block;simp only[h1,h2,if_neg (show ¬ (2:Nat)=0 by decide),if_neg (show ¬ (2:Nat)=1 by decide),if_pos,h3,h4]
end
end Inf
end Go.Proofs.YthlibiocadimhaaGreatDoor
namespace Go.Proofs.YthlibiocadimhaaGreatDoor
open Go.RowKit
theorem numcat (l m:List UInt8):Crc.num (l++m)=Crc.num l+Crc.num m*2^(8*l.length):=by
 induction l with
 | nil=>simp[Crc.num]
 | cons b l ih=>
  show b.toNat+256*Crc.num (l++m)=b.toNat+256*Crc.num l+_;rw[ih,List.length_cons,show 8*(l.length+1)=8*l.length+8 by omega,Nat.pow_add,Nat.mul_add,← Nat.add_assoc];congr 1
  rw[Nat.mul_comm 256,Nat.mul_assoc]
theorem num_behind (l m:List UInt8):Crc.num (l++m)/2^(8*l.length)=Crc.num m:=by
 have h:=Crc.num_lt l;rw[numcat,Nat.add_mul_div_right _ _ (Nat.two_pow_pos _),Nat.div_eq_of_lt h,Nat.zero_add]
namespace Sto
/-- a stored block -/
def blk (last:Nat) (p:List UInt8):List UInt8:=[UInt8.ofNat last,UInt8.ofNat (p.length%256),UInt8.ofNat (p.length/256),UInt8.ofNat (255-p.length%256),UInt8.ofNat (255-p.length/256)]++p
theorem blk_length (last:Nat) (p:List UInt8):(blk last p).length=5+p.length:=by simp[blk];omega
/-- a text in stored blocks -/
def all:Nat→List UInt8→List UInt8
 | 0,_=> []
 | k+1,t=>if t.length≤65535 then blk 1 t else blk 0 (t.take 65535)++all k (t.drop 65535)
theorem all_last {k:Nat} {t:List UInt8} (h:t.length≤65535):all (k+1) t=blk 1 t:=by simp only[all,if_pos h]
theorem all_more {k:Nat} {t:List UInt8} (h:¬ t.length≤65535):all (k+1) t=blk 0 (t.take 65535)++all k (t.drop 65535):=by simp only[all,if_neg h]
theorem get_at (pre M:List UInt8) (j k:Nat) (h:8*pre.length+j+k≤8*(pre++M).length):Inf.get (pre++M) k (8*pre.length+j)=.ok (Crc.num M/2^j%2^k,8*pre.length+j+k):=by
 unfold Inf.get;rw[if_pos h,Nat.pow_add,← Nat.div_div_eq_div_mul,num_behind]
theorem ofNat_toNat (n:Nat) (h:n<256):(UInt8.ofNat n).toNat=n:=by rw[UInt8.toNat_ofNat',Nat.mod_eq_of_lt h]
/-- a stored block is read -/
theorem block_is (pre p post:List UInt8) (last most:Nat) (out:List UInt8) (hl:last<2) (hp:p.length≤65535) (hm:out.length+p.length≤most):
  Inf.block (pre++(blk last p++post)) most (8*pre.length) out=.ok (last,8*(pre++blk last p).length,out++p,⟨0,[],[],[]⟩):=by
 obtain⟨n,hn⟩:∃n,p.length=n:=⟨_,rfl⟩;obtain⟨L,hL⟩:∃L,pre++(blk last p++post)=L:=⟨_,rfl⟩;have hLl:L.length=pre.length+(5+n+post.length):=by rw[← hL,List.length_append,List.length_append,blk_length,hn]
 have hM:Crc.num (blk last p++post)=last+256*(n%256+256*(n/256+256*((255-n%256)+256*((255-n/256)+256*Crc.num (p++post))))):=by
  unfold blk;rw[hn];simp only[List.cons_append,List.nil_append,Crc.num];rw[ofNat_toNat _ (by omega),ofNat_toNat _ (by omega),ofNat_toNat _ (by omega),ofNat_toNat _ (by omega),ofNat_toNat _ (by omega)]
 obtain⟨z,hz⟩:∃z,Crc.num (p++post)=z:=⟨_,rfl⟩;rw[hz] at hM;have g:=fun j k h=>get_at pre (blk last p++post) j k h;rw[hL,hLl,hM] at g;have g1:=g 0 1 (by omega);have g2:=g 1 2 (by omega);have g3:=g 8 16 (by omega);have g4:=g 24 16 (by omega);rw[show (last+256*(n%256+256*(n/256+256*((255-n%256)+256*((255-n/256)+256*z)))))/2^0%2^1=last by omega] at g1;rw[show (last+256*(n%256+256*(n/256+256*((255-n%256)+256*((255-n/256)+256*z)))))/2^1%2^2=0 by omega] at g2;rw[show (last+256*(n%256+256*(n/256+256*((255-n%256)+256*((255-n/256)+256*z)))))/2^8%2^16=n by omega] at g3;have five:∀a b c y u z:Nat,a<256→b<256→c<256→y<256→u<256→(a+256*(b+256*(c+256*(y+256*(u+256*z)))))/2^24%2^16=y+256*u:=by intros;omega
 rw[five _ _ _ _ _ _ (by omega) (by omega) (by omega) (by omega) (by omega),show 255-n%256+256*(255-n/256)=65535-n by omega] at g4;have hs:Inf.stored L most (8*pre.length+1+2) out=.ok (8*(pre++blk last p).length,out++p):=by
  unfold Inf.stored;rw[show (8*pre.length+1+2+7)/8*8=8*pre.length+8 by omega,g3];simp only[];rw[show 8*pre.length+8+16=8*pre.length+24 by omega,g4];simp only[];rw[if_neg (by omega),if_neg (by omega),if_neg (by omega)];have e1:8*pre.length+24+16+8*n=8*(pre++blk last p).length:=by rw[List.length_append,blk_length,hn];omega
  have e2:(L.drop ((8*pre.length+24+16)/8)).take n=p:=by
   rw[show (8*pre.length+24+16)/8=pre.length+5 by omega,← hL,← List.drop_drop,List.drop_left];unfold blk;simp only[List.cons_append,List.nil_append,List.drop_succ_cons,List.drop_zero];rw[← hn,List.take_left]
  rw[e1,e2]
 rw[Nat.add_zero] at g1;rw[hL];exact Inf.block_sto g1 g2 hs
theorem all_length:∀(k:Nat) (t:List UInt8),(all k t).length≤t.length+5*(t.length/65535+1):=by
 intro k;induction k with
 | zero=>intro t;simp[all]
 | succ k ih=>
  intro t;by_cases h:t.length≤65535
  ·rw[all_last h,blk_length];omega
  ·rw[all_more h,List.length_append,blk_length,List.length_take];have:=ih (t.drop 65535);rw[List.length_drop] at this;omega
end Sto
namespace Inf
theorem tok_most {L:List UInt8} {m m':Nat} {g:Nat→Int} {gen k a a':Nat} {out out':List UInt8} {e:Ev} (h:tok L m g gen k a out=.ok (a',out',e)):
  (out'.length≤m'→tok L m' g gen k a out=.ok (a',out',e))∧(out.length≤m'→m'<out'.length→tok L m' g gen k a out=.error 1):=by
 unfold tok at h⊢;split at h
 ·rename_i hk;rw[if_pos hk];split at h
  ·injection h with h;injection h with h1 h;injection h with h2 h3;subst h1 h2 h3;simp only[List.length_append,List.length_singleton];exact⟨fun q=>by rw[if_pos (by omega)],fun q1 q2=>by rw[if_neg (by omega)]⟩
  ·cases h
 ·rename_i hk;rw[if_neg hk];split at h
  ·cases h
  ·rename_i hk2;rw[if_neg hk2];split at h
   ·cases h
   ·rename_i x a2 hx;(try simp only[hx]);split at h
    ·cases h
    ·rename_i d a3 hd;(try simp only[hd]);unfold far at h⊢;split at h
     ·cases h
     ·rename_i hd3;rw[if_neg hd3];split at h
      ·cases h
      ·rename_i y a4 hy;(try simp only[hy]);split at h
       ·cases h
       ·rename_i hb;rw[if_neg hb];split at h
        ·cases h
        ·injection h with h;injection h with e1 h;injection h with e2 e3;subst e1 e2 e3;rw[copyL_length];exact⟨fun q=>by rw[if_neg (by omega)],fun q1 q2=>by rw[if_pos (by omega)]⟩
theorem toks_most {L:List UInt8} {m m':Nat} {f g:Nat→Int} {len gen:Nat}:∀(F a:Nat) (out:List UInt8) (tr:List Ev) (a':Nat) (out':List UInt8) (tr':List Ev),toks L m f len g gen F a out tr=.ok (a',out',tr')→
  out.length≤out'.length∧(out'.length≤m'→toks L m' f len g gen F a out tr=.ok (a',out',tr'))∧(out.length≤m'→m'<out'.length→toks L m' f len g gen F a out tr=.error 1):=by
 intro F;induction F with
 | zero=>intro a out tr a' out' tr' h;cases h
 | succ F ih=>
  intro a out tr a' out' tr' h;simp only[toks] at h⊢;split at h
  ·cases h
  ·rename_i k a1 hn;split at h
   ·rename_i hk;injection h with h;injection h with e1 h;injection h with e2 e3;subst e1 e2 e3;simp only[if_pos hk];exact⟨Nat.le_refl _,fun _=>trivial,fun q1 q2=>by omega⟩
   ·rename_i hk;simp only[if_neg hk];split at h
    ·cases h
    ·rename_i a2 out2 e ht;have hg:=tok_grow ht;obtain⟨i1,i2,i3⟩:=ih _ _ _ _ _ _ h;refine⟨by omega,fun q=>?_,fun q1 q2=>?_⟩
     ·rw[(tok_most ht).1 (by omega)];exact i2 q
     ·by_cases hm:out2.length≤m'
      ·rw[(tok_most ht).1 hm];exact i3 hm q2
      ·rw[(tok_most ht).2 q1 (by omega)]
theorem toks_le {L:List UInt8} {m:Nat} {f g:Nat→Int} {len gen:Nat}:∀(F a:Nat) (out:List UInt8) (tr:List Ev) (a':Nat) (out':List UInt8) (tr':List Ev),toks L m f len g gen F a out tr=.ok (a',out',tr')→a'≤8*L.length:=by
 intro F;induction F with
 | zero=>intro a out tr a' out' tr' h;cases h
 | succ F ih=>
  intro a out tr a' out' tr' h;simp only[toks] at h;split at h
  ·cases h
  ·rename_i k a1 hn;split at h
   ·injection h with h;injection h with e1 h;subst e1;exact (nxt_le hn).2.1
   ·split at h
    ·cases h
    ·exact ih _ _ _ _ _ _ h
theorem stored_most {L:List UInt8} {m m' a a':Nat} {out out':List UInt8} (h:stored L m a out=.ok (a',out')):
  a'≤8*L.length∧out.length≤out'.length∧(out'.length≤m'→stored L m' a out=.ok (a',out'))∧(out.length≤m'→m'<out'.length→stored L m' a out=.error 1):=by
 unfold stored at h⊢;split at h
 ·cases h
 ·rename_i n a2 h1;(try simp only[h1]);split at h
  ·cases h
  ·rename_i k a3 h2;(try simp only[h2]);split at h
   ·cases h
   ·rename_i hx;rw[if_neg hx];split at h
    ·cases h
    ·rename_i hb;rw[if_neg hb];split at h
     ·cases h
     ·injection h with h;injection h with e1 e2;have q1:=get_ok h1;have q2:=get_ok h2;have hl:((L.drop (a3/8)).take n).length=n:=by rw[List.length_take,List.length_drop];omega
      subst e1 e2;rw[List.length_append,hl];exact⟨by omega,by omega,fun q=>by rw[if_neg (by omega)],fun q1 q2=>by rw[if_pos (by omega)]⟩
theorem block_most {L:List UInt8} {m m' a last a':Nat} {out out':List UInt8} {b:Blk} (h:block L m a out=.ok (last,a',out',b)):
  a'≤8*L.length∧out.length≤out'.length∧(out'.length≤m'→block L m' a out=.ok (last,a',out',b))∧(out.length≤m'→m'<out'.length→block L m' a out=.error 1):=by
 unfold block at h⊢;split at h
 ·cases h
 ·rename_i la a1 h1;(try simp only[h1]);split at h
  ·cases h
  ·rename_i kind a2 h2;(try simp only[h2]);split at h
   ·rename_i hk;simp only[if_pos hk];split at h
    ·cases h
    ·rename_i a3 o3 h3;obtain⟨i0,i1,i2,i3⟩:=stored_most (m':=m') h3;injection h with h;injection h with e0 h;injection h with e1 h;injection h with e2 e3;subst e0 e1 e2 e3;exact⟨i0,i1,fun q=>by rw[i2 q],fun q1 q2=>by rw[i3 q1 q2]⟩
   ·rename_i hk;simp only[if_neg hk];split at h
    ·rename_i hk1;simp only[if_pos hk1];split at h
     ·cases h
     ·rename_i a3 o3 tr h3;obtain⟨i1,i2,i3⟩:=toks_most (m':=m') _ _ _ _ _ _ _ h3;have i0:=toks_le _ _ _ _ _ _ _ h3;injection h with h;injection h with e0 h;injection h with e1 h;injection h with e2 e3;subst e0 e1 e2 e3;exact⟨i0,i1,fun q=>by rw[i2 q],fun q1 q2=>by rw[i3 q1 q2]⟩
    ·rename_i hk1;simp only[if_neg hk1];split at h
     ·rename_i hk2;simp only[if_pos hk2];split at h
      ·cases h
      ·rename_i l r a3 h3;(try simp only[h3]);split at h
       ·cases h
       ·rename_i a4 o4 tr h4;obtain⟨i1,i2,i3⟩:=toks_most (m':=m') _ _ _ _ _ _ _ h4;have i0:=toks_le _ _ _ _ _ _ _ h4;injection h with h;injection h with e0 h;injection h with e1 h;injection h with e2 e3;subst e0 e1 e2 e3;exact⟨i0,i1,fun q=>by rw[i2 q],fun q1 q2=>by rw[i3 q1 q2]⟩
     ·cases h
theorem blocks_most {L:List UInt8} {m m':Nat}:∀(F a:Nat) (out:List UInt8) (bs:List Blk) (a':Nat) (out':List UInt8) (bs':List Blk),blocks L m F a out bs=.ok (a',out',bs')→
  a'≤8*L.length∧out.length≤out'.length∧(out'.length≤m'→blocks L m' F a out bs=.ok (a',out',bs'))∧(out.length≤m'→m'<out'.length→blocks L m' F a out bs=.error 1):=by
 intro F;induction F with
 | zero=>intro a out bs a' out' bs' h;cases h
 | succ F ih=>
  intro a out bs a' out' bs' h;simp only[blocks] at h⊢;split at h
  ·cases h
  ·rename_i last a1 out1 b hb;obtain⟨j0,j1,j2,j3⟩:=block_most (m':=m') hb;split at h
   ·rename_i hl;injection h with h;injection h with e1 h;injection h with e2 e3;subst e1 e2 e3;exact⟨j0,j1,fun q=>by rw[j2 q];simp only[if_pos hl],fun q1 q2=>by rw[j3 q1 q2]⟩
   ·rename_i hl;obtain⟨i0,i1,i2,i3⟩:=ih _ _ _ _ _ _ h;refine⟨i0,by omega,fun q=>?_,fun q1 q2=>?_⟩
    ·rw[j2 (by omega)];simp only[if_neg hl];exact i2 q
    ·by_cases hm:out1.length≤m'
     ·rw[j2 hm];simp only[if_neg hl];exact i3 hm q2
     ·rw[j3 q1 (by omega)]
theorem blocks_grow {L:List UInt8} {m:Nat}:∀(F a:Nat) (out:List UInt8) (bs:List Blk) (a':Nat) (out':List UInt8) (bs':List Blk),out.length≤m→blocks L m F a out bs=.ok (a',out',bs')→out'.length≤m:=by
 intro F;induction F with
 | zero=>intro a out bs a' out' bs' _ h;cases h
 | succ F ih=>
  intro a out bs a' out' bs' ho h;simp only[blocks] at h;split at h
  ·cases h
  ·rename_i last a1 out1 b hb;have:=block_grow ho hb;split at h
   ·injection h with h;injection h with e1 h;injection h with e2 e3;subst e2;exact this.2
   ·exact ih _ _ _ _ _ _ this.2 h
/-- what is told with so many bytes allowed is told with as many as it has; with fewer it is not -/
theorem infl_most {s:ByteArray} {most:Int} {out:List UInt8} {used:Nat} {bs:List Blk} (h:infl s most=.ok (out,used,bs)):
  (out.length:Int)≤most∧used≤s.size∧infl s (out.length:Int)=.ok (out,used,bs)∧(0<out.length→infl s ((out.length:Int)-1)=.error 1):=by
 unfold infl at h;split at h
 ·cases h
 ·rename_i hb;obtain⟨m,rfl⟩:∃m:Nat,most=m:=⟨most.toNat,by omega⟩;rw[Int.toNat_natCast] at h;unfold inf at h;split at h
  ·cases h
  ·rename_i a o b hbl;injection h with h;injection h with e1 h;injection h with e2 e3;subst e1 e2 e3;have hg:=blocks_grow _ _ _ _ _ _ _ (Nat.zero_le _) hbl;refine⟨by omega,?_,?_,fun hp=>?_⟩
   ·have:=(blocks_most (m':=m) _ _ _ _ _ _ _ hbl).1;rw[list_size] at this;omega
   ·unfold infl;rw[if_neg (by omega),Int.toNat_natCast];unfold inf;rw[(blocks_most _ _ _ _ _ _ _ hbl).2.2.1 (Nat.le_refl _)]
   ·unfold infl;rw[if_neg (by omega),show ((o.length:Int)-1).toNat=o.length-1 by omega];unfold inf;rw[(blocks_most _ _ _ _ _ _ _ hbl).2.2.2 (Nat.zero_le _) (by omega)]
theorem infl_bd {s:ByteArray} {most:Int} {q:List UInt8 × Nat × List Blk} (h:infl s most=.ok q):0≤most∧most≤300000∧s.size≤300000:=by
 unfold infl at h;split at h
 ·cases h
 ·omega
theorem get_e {L:List UInt8} {k a c:Nat} (h:get L k a=.error c):c<2:=by have:=(get_error h).1;omega
theorem nxt_e {L:List UInt8} {f:Nat→Int} {len a c:Nat} (h:nxt L f len a=.error c):c<2:=by have:=nxt_error h;omega
theorem err_e {α:Type} {c k:Nat} (h:(Except.error k:Except Nat α)=.error c) (hk:k<2):c<2:=by injection h with h;omega
theorem tok_e {L:List UInt8} {m:Nat} {g:Nat→Int} {gen k a c:Nat} {out:List UInt8} (h:tok L m g gen k a out=.error c):c<2:=by
 unfold tok at h;split at h
 ·split at h
  ·cases h
  ·exact err_e h (by omega)
 ·split at h
  ·exact err_e h (by omega)
  ·split at h
   ·rename_i hx;exact err_e h (get_e hx)
   ·split at h
    ·rename_i hx;exact err_e h (nxt_e hx)
    ·unfold far at h;split at h
     ·exact err_e h (by omega)
     ·split at h
      ·rename_i hx;exact err_e h (get_e hx)
      ·split at h
       ·exact err_e h (by omega)
       ·split at h
        ·exact err_e h (by omega)
        ·cases h
theorem toks_e {L:List UInt8} {m:Nat} {f g:Nat→Int} {len gen c:Nat}:∀(F a:Nat) (out:List UInt8) (tr:List Ev),toks L m f len g gen F a out tr=.error c→c<2:=by
 intro F;induction F with
 | zero=>intro a out tr h;exact err_e h (by omega)
 | succ F ih=>
  intro a out tr h;simp only[toks] at h;split at h
  ·rename_i hx;exact err_e h (nxt_e hx)
  ·split at h
   ·cases h
   ·split at h
    ·rename_i hx;exact err_e h (tok_e hx)
    ·exact ih _ _ _ h
theorem stored_e {L:List UInt8} {m a c:Nat} {out:List UInt8} (h:stored L m a out=.error c):c<2:=by
 unfold stored at h;split at h
 ·rename_i hx;exact err_e h (get_e hx)
 ·split at h
  ·rename_i hx;exact err_e h (get_e hx)
  ·split at h
   ·exact err_e h (by omega)
   ·split at h
    ·exact err_e h (by omega)
    ·split at h
     ·exact err_e h (by omega)
     ·cases h
theorem smalls_e {L:List UInt8} {c:Nat}:∀(r i a:Nat) (f:Nat→Int),smalls L r i a f=.error c→c<2:=by
 intro r;induction r with
 | zero=>intro i a f h;cases h
 | succ r ih=>
  intro i a f h;simp only[smalls] at h;split at h
  ·rename_i hx;exact err_e h (get_e hx)
  ·exact ih _ _ _ h
theorem rep_e {L:List UInt8} {k a c:Nat} {l:List Nat} (h:rep L k a l=.error c):c<2:=by
 unfold rep at h;split at h
 ·split at h
  ·exact err_e h (by omega)
  ·split at h
   ·rename_i hx;exact err_e h (get_e hx)
   ·cases h
 ·split at h
  ·split at h
   ·rename_i hx;exact err_e h (get_e hx)
   ·cases h
  ·split at h
   ·split at h
    ·rename_i hx;exact err_e h (get_e hx)
    ·cases h
   ·cases h
theorem lens_e {L:List UInt8} {f:Nat→Int} {want c:Nat}:∀(F a:Nat) (l:List Nat),lens L f want F a l=.error c→c<2:=by
 intro F;induction F with
 | zero=>intro a l h;exact err_e h (by omega)
 | succ F ih=>
  intro a l h;simp only[lens] at h;split at h
  ·cases h
  ·split at h
   ·rename_i hx;exact err_e h (nxt_e hx)
   ·split at h
    ·rename_i hx;exact err_e h (rep_e hx)
    ·split at h
     ·exact err_e h (by omega)
     ·exact ih _ _ h
theorem dyn_e {L:List UInt8} {a c:Nat} (h:dyn L a=.error c):c<2:=by
 unfold dyn at h;split at h
 ·rename_i hx;exact err_e h (get_e hx)
 ·split at h
  ·rename_i hx;exact err_e h (get_e hx)
  ·split at h
   ·rename_i hx;exact err_e h (get_e hx)
   ·split at h
    ·exact err_e h (by omega)
    ·split at h
     ·rename_i hx;exact err_e h (smalls_e _ _ _ _ hx)
     ·split at h
      ·exact err_e h (by omega)
      ·split at h
       ·rename_i hx;exact err_e h (lens_e _ _ _ hx)
       ·split at h
        ·exact err_e h (by omega)
        ·split at h
         ·exact err_e h (by omega)
         ·split at h
          ·exact err_e h (by omega)
          ·cases h
theorem block_e {L:List UInt8} {m a c:Nat} {out:List UInt8} (h:block L m a out=.error c):c<2:=by
 unfold block at h;split at h
 ·rename_i hx;exact err_e h (get_e hx)
 ·split at h
  ·rename_i hx;exact err_e h (get_e hx)
  ·split at h
   ·split at h
    ·rename_i hx;exact err_e h (stored_e hx)
    ·cases h
   ·split at h
    ·split at h
     ·rename_i hx;exact err_e h (toks_e _ _ _ _ hx)
     ·cases h
    ·split at h
     ·split at h
      ·rename_i hx;exact err_e h (dyn_e hx)
      ·split at h
       ·rename_i hx;exact err_e h (toks_e _ _ _ _ hx)
       ·cases h
     ·exact err_e h (by omega)
theorem blocks_e {L:List UInt8} {m c:Nat}:∀(F a:Nat) (out:List UInt8) (bs:List Blk),blocks L m F a out bs=.error c→c<2:=by
 intro F;induction F with
 | zero=>intro a out bs h;exact err_e h (by omega)
 | succ F ih=>
  intro a out bs h;simp only[blocks] at h;split at h
  ·rename_i hx;exact err_e h (block_e hx)
  ·split at h
   ·cases h
   ·exact ih _ _ _ h
theorem infl_err {s:ByteArray} {most:Int} {c:Nat} (h:infl s most=.error c):c<2:=by
 unfold infl at h;split at h
 ·exact err_e h (by omega)
 ·unfold inf at h;split at h
  ·rename_i hx;exact err_e h (blocks_e _ _ _ _ hx)
  ·cases h
end Inf
namespace Dfl
/-- the place of the greatest number of a row that is not above v, from k down -/
def plcF (l:List Nat) (v:Nat):Nat→Nat
 | 0=>0
 | k+1=>if l.getD (k+1) 0≤v then k+1 else plcF l v k
def plc (l:List Nat) (v:Nat):Nat:=plcF l v (l.length-1)
theorem plcF_is {l:List Nat} {v:Nat} (h0:l.getD 0 0≤v):∀k,plcF l v k≤k∧l.getD (plcF l v k) 0≤v∧∀j,plcF l v k<j→j≤k→v<l.getD j 0
 | 0=>⟨Nat.le_refl _,h0,fun j h1 h2=>by simp[plcF] at h1;omega⟩
 | k+1=>by
  obtain⟨h1,h2,h3⟩:=plcF_is h0 k;unfold plcF;by_cases h:l.getD (k+1) 0≤v
  ·rw[if_pos h];exact⟨Nat.le_refl _,h,fun j q1 q2=>by omega⟩
  ·rw[if_neg h];refine⟨by omega,h2,fun j q1 q2=>?_⟩;rcases Nat.lt_or_ge j (k+1) with q | q
   ·exact h3 j q1 (by omega)
   ·have:j=k+1:=by omega
    subst this;omega
theorem plc_lens {v:Nat} (h1:3≤v) (h2:v≤258):plc Inf.lensL v<29∧Inf.lensL.getD (plc Inf.lensL v) 0≤v∧v-Inf.lensL.getD (plc Inf.lensL v) 0<2^Inf.lensB.getD (plc Inf.lensL v) 0:=by
 obtain⟨a1,a2,a3⟩:=plcF_is (l:=Inf.lensL) (v:=v) h1 28;have e:plc Inf.lensL v=plcF Inf.lensL v 28:=rfl;rw[e];generalize plcF Inf.lensL v 28=k at a1 a2 a3;refine⟨by omega,a2,?_⟩;have gap:∀k,k<28→Inf.lensL.getD (k+1) 0≤Inf.lensL.getD k 0+2^Inf.lensB.getD k 0:=by decide
 rcases Nat.lt_or_ge k 28 with q | q
 ·have:=gap k q;have:=a3 (k+1) (by omega) (by omega);omega
 ·have:k=28:=by omega
  subst this;show v-258<1;omega
theorem plc_dists {v:Nat} (h1:1≤v) (h2:v≤32768):plc Inf.distsL v<30∧Inf.distsL.getD (plc Inf.distsL v) 0≤v∧v-Inf.distsL.getD (plc Inf.distsL v) 0<2^Inf.distsB.getD (plc Inf.distsL v) 0:=by
 obtain⟨a1,a2,a3⟩:=plcF_is (l:=Inf.distsL) (v:=v) h1 29;have e:plc Inf.distsL v=plcF Inf.distsL v 29:=rfl;rw[e];generalize plcF Inf.distsL v 29=k at a1 a2 a3;refine⟨by omega,a2,?_⟩;have gap:∀k,k<29→Inf.distsL.getD (k+1) 0≤Inf.distsL.getD k 0+2^Inf.distsB.getD k 0:=by decide
 rcases Nat.lt_or_ge k 29 with q | q
 ·have:=gap k q;have:=a3 (k+1) (by omega) (by omega);omega
 ·have:k=29:=by omega
  subst this;show v-24577<8192;omega
/-- a symbol's word as bits -/
def wordB (f:Nat→Int) (len k:Nat):List Bool:=Bts.high (word f len k) (f k).toNat
def tokB (f:Nat→Int) (len:Nat) (g:Nat→Int) (gen:Nat) (t:Tk):List Bool:=
 if t.l=0 then wordB f len t.b.toNat
 else wordB f len (257+plc Inf.lensL t.l.toNat)++(Bts.low (t.l.toNat-Inf.lensL.getD (plc Inf.lensL t.l.toNat) 0) (Inf.lensB.getD (plc Inf.lensL t.l.toNat) 0) ++
  (wordB g gen (plc Inf.distsL t.d.toNat)++Bts.low (t.d.toNat-Inf.distsL.getD (plc Inf.distsL t.d.toNat) 0) (Inf.distsB.getD (plc Inf.distsL t.d.toNat) 0)))
def toksB (f:Nat→Int) (len:Nat) (g:Nat→Int) (gen:Nat) (ts:List Tk):List Bool:=(ts.map (tokB f len g gen)).flatten
/-- what tokens mean behind a text -/
inductive Means:List UInt8→List Tk→List UInt8→Prop
 | nil (o:List UInt8):Means o [] o
 | lit {o o':List UInt8} {t:Tk} {ts:List Tk} (h1:t.l=0) (h2:t.d=0) (h:Means (o ++ [t.b]) ts o'):Means o (t ::ts) o'
 | mat {o o':List UInt8} {t:Tk} {ts:List Tk} (h0:t.b=0) (h1:3≤t.l) (h2:t.l≤258) (h3:1≤t.d) (h4:t.d≤32768) (h5:t.d.toNat≤o.length) (h:Means (copyL o t.d.toNat t.l.toNat) ts o'):Means o (t ::ts) o'
theorem Means.grow {o o':List UInt8} {ts:List Tk} (h:Means o ts o'):o.length≤o'.length:=by
 induction h with
 | nil o=>exact Nat.le_refl _
 | lit h1 h2 h ih=>simp at ih;omega
 | mat h0 h1 h2 h3 h4 h5 h ih=>rw[copyL_length] at ih;omega
/-- the symbols that tokens use -/
def Uses (f:Nat→Int) (len:Nat) (g:Nat→Int) (gen:Nat) (t:Tk):Prop:=
 (t.l=0→t.b.toNat<len∧1≤f t.b.toNat∧f t.b.toNat≤15)∧
 (t.l≠0→(257+plc Inf.lensL t.l.toNat<len∧1≤f (257+plc Inf.lensL t.l.toNat)∧f (257+plc Inf.lensL t.l.toNat)≤15)∧plc Inf.distsL t.d.toNat<gen∧1≤g (plc Inf.distsL t.d.toNat)∧g (plc Inf.distsL t.d.toNat)≤15)
/-- bits that stand in a text -/
def At (L:List UInt8) (a:Nat) (B:List Bool):Prop:=a+B.length≤8*L.length∧Crc.num L/2^a%2^B.length=Bts.val B
theorem At.left {L:List UInt8} {a:Nat} {B C:List Bool} (h:At L a (B++C)):At L a B:=by
 obtain⟨h1,h2⟩:=h;rw[List.length_append] at h1;refine⟨by omega,?_⟩;rw[List.length_append,Nat.pow_add,Nat.mod_mul,Bts.val_append,Nat.mul_comm] at h2;have q1:=Bts.val_lt B;have q2:Crc.num L/2^a%2^B.length<2^B.length:=Nat.mod_lt _ (Nat.two_pow_pos _);have e:=congrArg (· % 2^B.length) h2;simp only[Nat.add_mul_mod_self_right,Nat.mod_eq_of_lt q1,Nat.mod_mod] at e;exact e
theorem At.right {L:List UInt8} {a:Nat} {B C:List Bool} (h:At L a (B++C)):At L (a+B.length) C:=by
 obtain⟨h1,h2⟩:=h;rw[List.length_append] at h1;refine⟨by omega,?_⟩;rw[List.length_append,Nat.pow_add,Nat.mod_mul,Bts.val_append,Nat.mul_comm] at h2;have q1:=Bts.val_lt B;have q2:Crc.num L/2^a%2^B.length<2^B.length:=Nat.mod_lt _ (Nat.two_pow_pos _);have e:=congrArg (· / 2^B.length) h2;simp only[Nat.add_mul_div_right _ _ (Nat.two_pow_pos B.length),Nat.div_eq_of_lt q1,Nat.div_eq_of_lt q2,Nat.zero_add] at e;rw[Nat.pow_add,← Nat.div_div_eq_div_mul];exact e
theorem At.get {L:List UInt8} {a x k:Nat} (h:At L a (Bts.low x k)) (hx:x<2^k):Inf.get L k a=.ok (x,a+k):=by
 obtain⟨h1,h2⟩:=h;rw[Bts.low_length] at h1 h2;rw[Bts.val_low,Nat.mod_eq_of_lt hx] at h2;unfold Inf.get;rw[if_pos h1,h2]
theorem At.nxt {L:List UInt8} {a len k:Nat} {f:Nat→Int} (h:At L a (wordB f len k)) (hc:complete f len) (hk:k<len) (h1:1≤f k) (h2:f k≤15):Inf.nxt L f len a=.ok (k,a+(wordB f len k).length):=by
 obtain⟨m,hm⟩:∃m:Nat,f k=(m:Int):=⟨(f k).toNat,by omega⟩;obtain⟨h3,h4⟩:=h;unfold wordB at h3 h4⊢;rw[Bts.high_length] at h3 h4⊢;rw[hm,Int.toNat_natCast] at h3 h4⊢;have hw:=(word_lt2 f len k m hc hk hm (by omega) (by omega)).2;have hcode:=codeAt_high (word f len k) m (Crc.num L) a h4;rw[Nat.mod_eq_of_lt hw] at hcode;exact Inf.nxt_hit hc ⟨by omega,by omega,h3,hk,hm,hcode.symm⟩
def ev (t:Tk):Inf.Ev:=if t.l=0 then ⟨t.b.toNat,0,0,0⟩ else ⟨257+plc Inf.lensL t.l.toNat,plc Inf.distsL t.d.toNat,t.l.toNat,t.d.toNat⟩
theorem toks_read {L:List UInt8} {most len gen:Nat} {f g:Nat→Int} (hcf:complete f len) (hcg:complete g gen) (hE:256<len∧1≤f 256∧f 256≤15) {o o':List UInt8} {ts:List Tk} (hM:Means o ts o'):
  ∀(F a:Nat) (tr:List Inf.Ev),o'.length≤most→(∀t∈ts,Uses f len g gen t)→ts.length<F→At L a (toksB f len g gen ts++wordB f len 256)→
   Inf.toks L most f len g gen F a o tr=.ok (a+(toksB f len g gen ts++wordB f len 256).length,o',tr++(ts.map ev ++ [⟨256,0,0,0⟩])):=by
 induction hM with
 | nil o=>
  intro F a tr _ _ hF hA;obtain⟨F,rfl⟩:∃F',F=F'+1:=⟨F-1,by simp at hF;omega⟩;simp only[toksB,List.map_nil,List.flatten_nil,List.nil_append] at hA⊢;simp only[Inf.toks,hA.nxt hcf hE.1 hE.2.1 hE.2.2,if_true]
 | @lit o o' t ts h1 h2 h ih=>
  intro F a tr hm hu hF hA;obtain⟨F,rfl⟩:∃F',F=F'+1:=⟨F-1,by simp at hF;omega⟩;have e:toksB f len g gen (t ::ts)=wordB f len t.b.toNat++toksB f len g gen ts:=by simp[toksB,tokB,h1]
  rw[e,List.append_assoc] at hA⊢;have hb:t.b.toNat<256:=t.b.toNat_lt;obtain⟨u1,u2,u3⟩:=(hu t (List.mem_cons_self ..)).1 h1;have hg:=h.grow;rw[List.length_append,List.length_singleton] at hg;have hn:=hA.left.nxt hcf u1 u2 u3;have ht:Inf.tok L most g gen t.b.toNat (a+(wordB f len t.b.toNat).length) o=.ok (a+(wordB f len t.b.toNat).length,o ++ [t.b],⟨t.b.toNat,0,0,0⟩):=by
   unfold Inf.tok;rw[if_pos hb,if_pos (by omega),UInt8.ofNat_toNat]
  simp only[Inf.toks,hn,if_neg (show ¬ t.b.toNat=256 by omega),ht];rw[ih F (a+(wordB f len t.b.toNat).length) (tr ++ [(⟨t.b.toNat,0,0,0⟩:Inf.Ev)]) hm (fun x hx=>hu x (List.mem_cons_of_mem _ hx)) (by simp at hF;omega) hA.right];congr 2
  ·simp only[List.length_append];omega
  ·congr 1
   simp[ev,h1]
 | @mat o o' t ts h0 h1 h2 h3 h4 h5 h ih=>
  intro F a tr hm hu hF hA;obtain⟨F,rfl⟩:∃F',F=F'+1:=⟨F-1,by simp at hF;omega⟩;have hl0:t.l≠0:=by omega
  obtain⟨p1,p2,p3⟩:=plc_lens (v:=t.l.toNat) (by omega) (by omega);obtain⟨d1,d2,d3⟩:=plc_dists (v:=t.d.toNat) (by omega) (by omega);obtain⟨⟨u1,u2,u3⟩,v1,v2,v3⟩:=(hu t (List.mem_cons_self ..)).2 hl0;have e:toksB f len g gen (t ::ts)=tokB f len g gen t++toksB f len g gen ts:=by simp[toksB]
  have e2:ev t=⟨257+plc Inf.lensL t.l.toNat,plc Inf.distsL t.d.toNat,t.l.toNat,t.d.toNat⟩:=by unfold ev;rw[if_neg hl0]
  unfold tokB at e;rw[if_neg hl0] at e;rw[e] at hA⊢;rw[List.map_cons,e2];have hg:=h.grow;rw[copyL_length] at hg;generalize hk:plc Inf.lensL t.l.toNat=k at *;generalize hd:plc Inf.distsL t.d.toNat=d at *;simp only[List.append_assoc] at hA⊢;have a1:=hA.left.nxt hcf u1 u2 u3;have A2:=hA.right;have a2:=A2.left.get p3;have A3:=A2.right;have a3:=A3.left.nxt hcg v1 v2 v3;have A4:=A3.right;have a4:=A4.left.get d3;have A5:=A4.right;rw[Bts.low_length] at A3 a3 A4 a4 A5;rw[Bts.low_length] at A5;have ht:Inf.tok L most g gen (257+k) (a+(wordB f len (257+k)).length) o=.ok (a+(wordB f len (257+k)).length+Inf.lensB.getD k 0+(wordB g gen d).length+Inf.distsB.getD d 0,copyL o t.d.toNat t.l.toNat,⟨257+k,d,t.l.toNat,t.d.toNat⟩):=by
   unfold Inf.tok;rw[if_neg (by omega),if_neg (by omega),show 257+k-257=k by omega,a2];simp only[];rw[a3];simp only[];unfold Inf.far;rw[if_neg (by omega),a4];simp only[];rw[show 257+k-257=k by omega,show Inf.distsL.getD d 0+(t.d.toNat-Inf.distsL.getD d 0)=t.d.toNat by omega,show Inf.lensL.getD k 0+(t.l.toNat-Inf.lensL.getD k 0)=t.l.toNat by omega,if_neg (by omega),if_neg (by omega)]
  simp only[Inf.toks,a1,if_neg (show ¬ 257+k=256 by omega),ht];rw[ih F _ (tr ++ [(⟨257+k,d,t.l.toNat,t.d.toNat⟩:Inf.Ev)]) hm (fun x hx=>hu x (List.mem_cons_of_mem _ hx)) (by simp at hF;omega) A5];congr 2
  ·simp only[List.length_append,Bts.low_length];omega
  ·congr 1
   simp
end Dfl
theorem turned_in (B o n V x k:Nat) (v:Value) (w:World) (hW:WAt w B o v V n) (hk:k≤32) (hx:x<2^k) (hn:n+32<1099511627776):
  Calls Tryz.prog 130 #[.pointer (some ⟨B,o,none⟩),.int .u32 (x:Int),.int .i64 (k:Int)] w fun e w'=>e=.returned .nilIface∧∃v',WAt w' B o v' (V+Bts.val (Bts.high x k)*2^n) (n+k)∧WStep w w' B o v v':=by
 have hx32:x<4294967296:=Nat.lt_of_lt_of_le hx (Nat.pow_le_pow_right (n:=2) (by decide) hk);have hfit:decide (0≤(k:Int)∧(k:Int)≤32∧x<2^(k:Int).toNat)=true:=by rw[decide_eq_true_iff];exact⟨by omega,by omega,by simpa using hx⟩
 have HX:=Hd hx;have HW:=Hd hW;have HF:=Hd hfit;clear hx hW hfit;go_enter Tryz.func130,Tryz.ntmps130
 go_wp2_with fail;refine (fits_calls x k _ (by omega) (by omega) hx32).mono ?_;rintro e w1 ⟨he,rfl⟩;rw[HF.out] at he;subst he;go_wp2_with fail;go_loopw [7] (fun c wr=>∃(d Vt:Nat) (u:Value),d≤k∧c=.int .i64 ((d:Int)-1)∧Hid (WAt wr B o u Vt (n+(k-d)))∧Hid (Vt+Bts.val (Bts.high x d)*2^(n+(k-d))=V+Bts.val (Bts.high x k)*2^n)∧Hid (WStep w wr B o v u)) (fun c _=>(intOf c+1).toNat)
 case atStart=>
  refine⟨k,V,v,by omega,rfl,?_,?_,Hd (WStep.refl _ _ _ _)⟩
  ·rw[Nat.sub_self,Nat.add_zero];exact HW
  ·rw[Nat.sub_self,Nat.add_zero];exact Hd rfl
 case round=>
  obtain⟨d,Vt,u,hd,rfl,HA,HV,HS⟩:=hrel;by_cases hlt:0<d
  ·obtain⟨j,rfl⟩:∃j,d=j+1:=⟨d-1,by omega⟩;rw[show (((j+1:Nat):Int)-1)=(j:Int) by omega];go_wp2_with fail;rw[bit_and x j (Nat.lt_of_le_of_lt (Nat.div_le_self _ _) hx32)];refine (one_calls B o (n+(k-(j+1))) _ _ u _ HA.out (by omega) (by omega)).mono ?_;rintro e w2 ⟨rfl,u2,hA2,hS2⟩;have HA2:Hid (WAt w2 B o u2 (Vt+x/2^j%2*2^(n+(k-(j+1)))) (n+(k-j))):=Hd (by
    rw[show n+(k-j)=n+(k-(j+1))+1 by omega];exact hA2)
   have HV2:Hid (Vt+x/2^j%2*2^(n+(k-(j+1)))+Bts.val (Bts.high x j)*2^(n+(k-j))=V+Bts.val (Bts.high x k)*2^n):=Hd (by
    rw[← HV.out,Bts.val_high_succ,show n+(k-j)=n+(k-(j+1))+1 by omega,Nat.pow_succ,Nat.add_mul,Nat.mul_comm 2 (Bts.val _),Nat.mul_assoc (Bts.val _) 2,Nat.mul_comm 2 (2^_)];omega)
   have HS2:=Hd (HS.out.trans hS2);clear hA2 hS2 HA HS HV;go_wp2_with fail;go_roundw
   case rel=>exact⟨j,_,u2,by omega,rfl,HA2,HV2,HS2⟩
   case measure=>first | (simp[intOf];done) | (simp[intOf];omega)
  ·obtain rfl:d=0:=by omega
   rw[show (((0:Nat):Int)-1)= -1 by omega];go_wp2_with fail;go_ret;refine⟨rfl,u,?_,HS.out⟩;have q:=HA.out;have q2:=HV.out;simp only[Bts.high,Bts.val,Nat.zero_mul,Nat.add_zero,Nat.sub_zero] at q q2;rwa [q2] at q
theorem WAt.drew {w:World} {B o V n:Nat} {v:Value} (h:WAt w B o v V n):WAt w.drew B o v V n:=⟨h.c0,h.c1,h.f0,h.f1,h.row,h.apart,h.lt⟩
theorem WStep.undrew {w w':World} {B o:Nat} {v v':Value} (h:WStep w.drew w' B o v v'):WStep w w' B o v v':=⟨⟨h.keeps.os,h.keeps.tape,h.keeps.output,h.keeps.size,h.keeps.block⟩,h.cells,h.marks,h.new⟩
theorem WAt.ext {w w':World} {B o V n:Nat} {v:Value} (h:WAt w B o v V n) (hE:Ext w w'):WAt w' B o v V n:=by
 have hb:=World.block_lt_of_cell? w _ h.c0;obtain⟨l,q1,q2,q3⟩:=h.row;exact⟨(hE.cell (p:=⟨B,o,none⟩) hb).trans h.c0,(hE.cell (p:=⟨B,o+1,none⟩) hb).trans h.c1,(hE.frozen (p:=⟨B,o,none⟩) hb).trans h.f0,(hE.frozen (p:=⟨B,o+1,none⟩) hb).trans h.f1,⟨l,q1,q2,ownsRow_kept q3 hE.keeps (fun _ _=>id)⟩,h.apart,h.lt⟩
theorem WStep.ext {a b c:World} {B o:Nat} {u v:Value} (h:WStep a b B o u v) (hE:Ext b c) (hB:B<b.heap.size):WStep a c B o u v:=
 ⟨h.keeps.trans hE.keeps (S':=fun _=>False) (fun _ _ q=>q.elim),fun j h1 h2=>(hE.cell (p:=⟨B,j,none⟩) hB).trans (h.cells j h1 h2),fun j=>(hE.frozen (p:=⟨B,j,none⟩) hB).trans (h.marks j),h.new⟩
theorem place_any (a:Addr) (n cap v:Nat) (l:List Nat) (w:World) (hl:l.length=n) (hn:1≤n) (hn2:n≤1000) (hc:∀k,k<n→w.cell? (a.add k)=some (.int .i64 ((l.getD k 0:Nat):Int))) (h0:l.getD 0 0≤v) (hv:v<1000000000):
  Calls Tryz.prog 150 #[.slice (some a) n cap,.int .i64 (v:Int)] w fun e w'=>e=.returned (.int .i64 ((Dfl.plc l v:Nat):Int))∧w=w':=by
 have HC:=Hd hc;have e1:(n:Int)-1=((n-1:Nat):Int):=by omega
 obtain⟨m,hm⟩:∃m,n-1=m:=⟨_,rfl⟩;rw[hm] at e1;have wm:∀z,z=(m:Int)→IntKind.i64.wrap z=z:=by intro z hz;rw[IntKind.wrap_i64];omega
 have HP:Hid (Dfl.plc l v=Dfl.plcF l v m):=Hd (by unfold Dfl.plc;rw[hl,hm]);have H0:=Hd h0;have hmn:m<n:=by omega
 clear hc hm h0 hl;go_enter Tryz.func150,Tryz.ntmps150
 go_wp2_with fail;go_loopw [5] (fun c wr=>∃k:Nat,c=.int .i64 k∧k≤m∧Hid (Dfl.plc l v=Dfl.plcF l v k)∧wr=w) (fun c _=>(intOf c).toNat)
 case atStart=>exact⟨m,rfl,by omega,HP,by first | rfl | trivial⟩
 case round=>
  clear HP;obtain⟨k,rfl,hk,HP,hw⟩:=hrel;have hw2:=hw.symm;clear hw;subst hw2;have hkn:k<n:=by omega
  have hc:=HC.out k hkn;obtain⟨x,hx⟩:∃x,l.getD k 0=x:=⟨_,rfl⟩;have HX:=Hd hx;rw[hx] at hc;clear hx;by_cases hvx:v<x
  ·have t:decide ((v:Int)<(x:Int))=true:=decide_eq_true (by omega);have hk0:0<k:=by
    rcases Nat.eq_zero_or_pos k with q | q
    ·have h1:=HX.out;have h2:=H0.out;rw[q] at h1;omega
    ·exact q
   obtain⟨k',hk'⟩:∃k',k-1=k':=⟨_,rfl⟩;have e2:(k:Int)-1=(k':Int):=by omega
   have wk:∀z,z=(k':Int)→IntKind.i64.wrap z=z:=by intro z hz;rw[IntKind.wrap_i64];omega
   have HN:Hid (Dfl.plc l v=Dfl.plcF l v k'):=Hd (by
    rw[HP.out];obtain⟨q,rfl⟩:∃q,k=q+1:=⟨k-1,by omega⟩;have:k'=q:=by omega
    subst this;simp only[Dfl.plcF];rw[if_neg (by rw[HX.out];omega)])
   have HK:=Hd hk';clear hk';go_wp2_with fail;refine⟨⟨k',rfl,by have:=HK.out;omega,HN,by first | rfl | trivial⟩,by have:=HK.out;simp[intOf];omega⟩
  ·have t:decide ((v:Int)<(x:Int))=false:=decide_eq_false (by omega);have HR:Hid (Dfl.plc l v=k):=Hd (by
    rw[HP.out];cases k with
    | zero=>rfl
    | succ q=>
     simp only[Dfl.plcF];rw[if_pos (by rw[HX.out];omega)])
   go_wp2_with fail;go_ret;exact⟨by rw[HR.out];rfl,by first | rfl | trivial⟩
/-- a writer of a block at D, whose bits are written at Wb: its rows -/
structure DF (w:World) (D Wb:Nat) (la da ca ea:Addr) (ln lc dn dc cc ec:Nat) (f g:Nat→Int):Prop where
 c0:w.cell? ⟨D,0,none⟩=some (.pointer (some ⟨Wb,0,none⟩))
 c1:w.cell? ⟨D,1,none⟩=some (.slice (some la) ln lc)
 c2:w.cell? ⟨D,2,none⟩=some (.slice (some da) dn dc)
 c3:w.cell? ⟨D,3,none⟩=some (.slice (some ca) ln cc)
 c4:w.cell? ⟨D,4,none⟩=some (.slice (some ea) dn ec)
 li:Ints w (some la) ln f
 di:Ints w (some da) dn g
 lw:U32s w (some ca) ln (word f ln)
 dw:U32s w (some ea) dn (word g dn)
theorem DF.drew {w:World} {D Wb:Nat} {la da ca ea:Addr} {ln lc dn dc cc ec:Nat} {f g:Nat→Int} (h:DF w D Wb la da ca ea ln lc dn dc cc ec f g):DF w.drew D Wb la da ca ea ln lc dn dc cc ec f g:=⟨h.c0,h.c1,h.c2,h.c3,h.c4,h.li,h.di,h.lw,h.dw⟩
/-- the bits that a writer holds -/
def WB (w:World) (Wb:Nat) (u:Value) (L:List Bool):Prop:=WAt w Wb 0 u (Bts.val L) L.length
theorem WB.ext {w w':World} {Wb:Nat} {u:Value} {L:List Bool} (h:WB w Wb u L) (hE:Ext w w'):WB w' Wb u L:=WAt.ext h hE
theorem WB.drew {w:World} {Wb:Nat} {u:Value} {L:List Bool} (h:WB w Wb u L):WB w.drew Wb u L:=WAt.drew h
theorem putB_any (Wb x k:Nat) (u:Value) (L:List Bool) (w:World) (hW:WB w Wb u L) (hk:k≤32) (hx:x<2^k) (hn:L.length+32<1099511627776):
  Calls Tryz.prog 120 #[.pointer (some ⟨Wb,0,none⟩),.int .u32 (x:Int),.int .i64 (k:Int)] w fun e w'=>e=.returned .nilIface∧∃u',WB w' Wb u' (L++Bts.low x k)∧WStep w w' Wb 0 u u':=
 (put_in Wb 0 L.length (Bts.val L) x k u w hW hk hx hn).mono fun e w' ⟨h1,u',h2,h3⟩=>⟨h1,u',by unfold WB;rw[List.length_append,Bts.low_length,Bts.val_append,Bts.val_low,Nat.mod_eq_of_lt hx];exact h2,h3⟩
theorem turnedB_any (Wb x k:Nat) (u:Value) (L:List Bool) (w:World) (hW:WB w Wb u L) (hk:k≤32) (hx:x<2^k) (hn:L.length+32<1099511627776):
  Calls Tryz.prog 130 #[.pointer (some ⟨Wb,0,none⟩),.int .u32 (x:Int),.int .i64 (k:Int)] w fun e w'=>e=.returned .nilIface∧∃u',WB w' Wb u' (L++Bts.high x k)∧WStep w w' Wb 0 u u':=
 (turned_in Wb 0 L.length (Bts.val L) x k u w hW hk hx hn).mono fun e w' ⟨h1,u',h2,h3⟩=>⟨h1,u',by unfold WB;rw[List.length_append,Bts.high_length,Bts.val_append];exact h2,h3⟩
theorem word_fits {f:Nat→Int} {len k m:Nat} (hc:complete f len) (hk:k<len) (hf:f k=(m:Int)) (hm:m≤15):word f len k<2^m:=by
 rcases Nat.eq_zero_or_pos m with q | q
 ·subst q;unfold word;rw[if_neg (by omega)];exact Nat.one_pos
 ·exact (word_lt2 f len k m hc hk hf q hm).2
theorem symbol_any (D Wb:Nat) (la da ca ea:Addr) (ln lc dn dc cc ec:Nat) (f g:Nat→Int) (k:Nat) (u:Value) (L:List Bool) (w:World) (hD:DF w D Wb la da ca ea ln lc dn dc cc ec f g) (hW:WB w Wb u L) (hc:complete f ln) (hk:k<ln) (hf:0≤f k∧f k≤15) (hn:L.length+32<1099511627776):
  Calls Tryz.prog 149 #[.pointer (some ⟨D,0,none⟩),.int .i64 (k:Int)] w fun e w'=>e=.returned (.tuple #[])∧∃u',WB w' Wb u' (L++Dfl.wordB f ln k)∧WStep w w' Wb 0 u u':=by
 obtain⟨m,hm⟩:∃m:Nat,f k=(m:Int):=⟨(f k).toNat,by omega⟩;have hw:=word_fits hc hk hm (by omega);have k0:=hD.c0;have k1:=hD.c1;have k3:=hD.c3;have k5:=(hD.li.2 la rfl k hk).1;have k6:=hD.lw.2 ca rfl k hk;rw[hm] at k5;have HB:Hid (Dfl.wordB f ln k=Bts.high (word f ln k) m):=Hd (by unfold Dfl.wordB;rw[hm];rfl);obtain⟨z,hz⟩:∃z,word f ln k=z:=⟨_,rfl⟩;rw[hz] at k6 hw HB;have HT:=Hd (turnedB_any Wb z m u L w.drew hW.drew (by omega) hw hn);have kl:(k:Int)<(ln:Int):=by omega
 clear hD hW hc hm hw hz hf;go_enter Tryz.func149,Tryz.ntmps149
 go_wp2_with fail;refine wp_region_still_tail 18 (by kernel_rfl) (by kernel_rfl) ?_;simp only[List.take_succ_cons,List.take_zero,List.drop_succ_cons,List.drop_zero];repeat still_step
 refine wpStill_nil ?_;change wpList _ _ _ _ _ w.drew;go_wp2_with fail;refine HT.out.mono ?_;rintro e w' ⟨rfl,u',h1,h2⟩;go_wp2_with fail;go_end0;exact⟨rfl,u',by rw[HB.out];exact h1,h2.undrew⟩
/-- a still region, step by step (the kernel alone reckons which operations are wanted) -/
@[irreducible] def wpQ (P:Program) (ops:Array Oper) (w:World) (Q:Act→Prop) (l:List Oper) (a:Act):Prop:=wpStill P ops w Q l a
theorem wpQ_eq {P:Program} {ops:Array Oper} {w:World} {Q:Act→Prop} {l:List Oper} {a:Act}:wpQ P ops w Q l a=wpStill P ops w Q l a:=by unfold wpQ;rfl
theorem wpQ_nil {P:Program} {ops:Array Oper} {w:World} {Q:Act→Prop} {a:Act} (h:Q a):wpQ P ops w Q [] a:=by rw[wpQ_eq];exact h
theorem wpQ_no {P:Program} {ops:Array Oper} {w:World} {Q:Act→Prop} {a:Act} {o:Oper} {rest:List Oper} (hw:Region.wanted o (yielded ops a.tmps)=false) (h:wpQ P ops w Q rest (a.put o.dst undef)):wpQ P ops w Q (o ::rest) a:=by
  rw[wpQ_eq] at h⊢;unfold wpStill;rw[hw];exact h
theorem wpQ_yes {P:Program} {ops:Array Oper} {w:World} {Q:Act→Prop} {a:Act} {o:Oper} {rest:List Oper} (hw:Region.wanted o (yielded ops a.tmps)=true)
    (h:∀K:Act→Prop,(∀a,wpQ P ops w Q rest a→K a)→o.still P a w K):wpQ P ops w Q (o ::rest) a:=by
  rw[wpQ_eq];unfold wpStill;rw[hw];exact h _ (fun _ q=>by rw[wpQ_eq] at q;exact q)
theorem wp_regionQ {P:Program} {id:Nat} {Q:Exit→Act→World→Prop} {a:Act} {w:World} {l:List Oper} (hm:P.follows .mixedOrders=true) (hB:Region.lexB .any l.toArray=true)
    (h:wpQ P l.toArray w.drew (fun a'=>Q .normal a' w.drew) l a):(Code.region id l.toArray true).wp P Q a w:=
  wp_region_still_lit hm hB (by rw[wpQ_eq] at h;exact h)
theorem wp_region_tailQ {P:Program} {id:Nat} {Q:Exit→Act→World→Prop} {a:Act} {w:World} {l:List Oper} (n:Nat) (hm:P.follows .mixedOrders=true) (hB:Region.lexTailB .any l.toArray n=true)
    (h:wpQ P l.toArray w.drew (fun a'=>wpList P l.toArray Q (l.drop n) a' w.drew) (l.take n) a):(Code.region id l.toArray true).wp P Q a w:=
  wp_region_still_tail n hm hB (by rw[wpQ_eq] at h;exact h)
end Go.Proofs.YthlibiocadimhaaGreatDoor
