/-
  huff's Tree.Next: what symbol comes next.
  Symbols written by their words and read again: plain laws.
  Tokens: what they mean, as lists; rows of tokens as they lie in memory; a row of bytes that grows. No function of the program is named.
  A packed text read: a plain machine. No function of the program is named.
  huff.Read, huff.Codes of lengths that are not right.
  A reader of bits: Align.
  A reader of bits: Bytes.
  A text in blocks, and back: the plain law; rows of bytes that grow. No function of the program is named.
  A row of bytes that grew out of a string: its block bears a mark behind its end. Appending strings to it. No function of the program is named.
  inflate: a reader of a packed text in memory: must, get, tree, next.
  append of a text's bytes to a row of one's own: where the new row lies. No function of the program is named.
  inflate: what a reader of a packed text does between two blocks; a stored block.
-/
import Derived.Test.YthlibiocadimhaaGreatDoorPngTwiceG1
import Derived.Test.YthlibiocadimhaaGreatDoorPngTwiceG4
import Derived.Test.YthlibiocadimhaaGreatDoorPngTwiceG3
import Derived.StillTailTactics
import Derived.Deep.DeepCutAuto
import Derived.Lib.AppendStr
import Derived.Lib.ConvBytes
import Derived.Laws.CopyRow
import Derived.Deep.RegionHeld3
set_option linter.unusedSimpArgs false
set_option linter.unusedVariables false
set_option maxRecDepth 100000
namespace Go.Proofs.YthlibiocadimhaaGreatDoor
open Go.RowKit
theorem TAt.kept {S:Nat→Prop} {w w':World} {T:Nat} {v:Value} {f:Nat→Int} {len:Nat} {l:List Nat} (h:TAt w T v f len l) (hk:Keeps S w w') (hT:¬ S T) (hv:∀k,v.ownBlock=some k→¬ S k):TAt w' T v f len l:=by
 have hlt:T<w.heap.size:=World.block_lt_of_cell? w _ h.cell;exact⟨fun j hj=>(hk.cell (p:=⟨T,j,none⟩) hlt hT).trans (h.many j hj),(hk.cell (p:=⟨T,16,none⟩) hlt hT).trans h.cell,(hk.frozen (p:=⟨T,16,none⟩) hlt hT).trans h.free,ownsRow_kept h.row hk hv,h.apart⟩
theorem or_bit (c b:Nat) (hc:c<1048576) (hb:b<2):bits BinOp.or IntKind.i64 ((2*c:Nat):Int) (b:Int)=((2*c+b:Nat):Int):=by
 have e:(2*c) ||| b=2*c+b:=by
  have:=Nat.two_pow_add_eq_or_of_lt (i:=1) (b:=b) (by omega) c;simpa using this.symm
 show IntKind.i64.wrap ((BitVec.ofInt 64 ((2*c:Nat):Int) ||| BitVec.ofInt 64 (b:Int)).toNat:Int)=_;rw[BitVec.ofInt_natCast,BitVec.ofInt_natCast,BitVec.toNat_or,BitVec.toNat_ofNat,BitVec.toNat_ofNat,Nat.mod_eq_of_lt (by omega),Nat.mod_eq_of_lt (by omega),e,IntKind.wrap_i64];omega
theorem RAt.lt {w:World} {B o a:Nat} {s:ByteArray} (h:RAt w B o s a):B<w.heap.size:=World.block_lt_of_cell? w _ h.c0
theorem RAt.ext {w w':World} {B o a:Nat} {s:ByteArray} (h:RAt w B o s a) (hE:Ext w w'):RAt w' B o s a:=
 ⟨(hE.cell (p:=⟨B,o,none⟩) h.lt).trans h.c0,(hE.cell (p:=⟨B,o+1,none⟩) h.lt).trans h.c1,(hE.frozen (p:=⟨B,o+1,none⟩) h.lt).trans h.f1,h.size,h.le⟩
theorem RStep.of_ext {w w':World} {B:Nat} (o:Nat) (hE:Ext w w') (hB:B<w.heap.size):RStep w w' B o:=
 ⟨hE.keeps,fun j _=>hE.cell (p:=⟨B,j,none⟩) hB,fun j=>hE.frozen (p:=⟨B,j,none⟩) hB⟩
theorem RStep.after {w0 w w':World} {B o:Nat} (h:RStep w w' B o) (hX:Ext w0 w) (hB:w0.heap.size≤B):Ext w0 w':=Below.trans hX (h.below hB hX.size)
def NextIs (w':World) (e:Ending) (B o:Nat) (s:ByteArray) (a:Nat) (f:Nat→Int) (len:Nat) (E:Nat→Addr):Prop:=
 (∃n k,1≤n∧n≤15∧a+n≤8*s.size∧NoHit f len (Crc.num s.data.toList) a (n-1)∧k<len∧f k=(n:Int)∧word f len k=codeAt (Crc.num s.data.toList) a n∧e=.returned (.tuple #[.int .i64 (k:Int),.nilIface])∧RAt w' B o s (a+n))∨
 ((∀m,m≤15→a+m≤8*s.size→NoHit f len (Crc.num s.data.toList) a m)∧e=.returned (.tuple #[.int .i64 0,sentV (E 0)])∧∃a',a'≤8*s.size∧RAt w' B o s a')
theorem next_none (T B o a:Nat) (x:Option Addr) (cap:Nat) (f:Nat→Int) (len:Nat) (s:ByteArray) (w0 w:World) (E:Nat→Addr) (hE:Errs w0 E) (hX:Ext w0 w) (hU:upTo f len 15=0) (hT:w.cell? ⟨T,16,none⟩=some (.slice x 0 cap)) (hR:RAt w B o s a) (ha:a≤8*s.size):
  Calls Tryz.prog 176 #[.pointer (some ⟨T,0,none⟩),.pointer (some ⟨B,o,none⟩)] w fun e w'=>NextIs w' e B o s a f len E∧RStep w w' B o:=by
 have hv:=(hE.ext hX).var 0 (by decide);simp only[gk,sentV] at hv;have HR:=Hd hR;have HU:=Hd hU;clear hE hX hR hU;go_enter Tryz.func176,Tryz.ntmps176
 go_wp2_with fail;refine wp_loop_rounds 1 ?_;rw[rounds_succ];go_wp2_with fail;go_region;all_goals go_wp2_with fail
 all_goals go_ret2
 all_goals exact⟨.inr ⟨fun m hm _=>by
  intro j h1 h2;exact NoHit.all (NoHit.zero f len (Crc.num s.data.toList) a) (by rw[HU.out];exact Nat.zero_le _) (by omega) j h1 (by omega),rfl,a,ha,HR.out.drewN 1⟩,(RStep.refl _ _ _).drewN 1⟩
theorem next_some (T B o a g cap:Nat) (f:Nat→Int) (len:Nat) (s:ByteArray) (w0 w:World) (E:Nat→Addr) (hE:Errs w0 E) (hX:Ext w0 w) (hB:w0.heap.size≤B) (hl:len≤300) (hT:TAt w T (.slice (some ⟨g,0,none⟩) (upTo f len 15) cap) f len (symA f len 15)) (hR:RAt w B o s a) (ha:a≤8*s.size) (hTB:T≠B) (hvB:g≠B):
  Calls Tryz.prog 176 #[.pointer (some ⟨T,0,none⟩),.pointer (some ⟨B,o,none⟩)] w fun e w'=>NextIs w' e B o s a f len E∧RStep w w' B o:=by
 have hsz:=hR.size;have HE:=Hd hE;have HX:=Hd hX;have HT:=Hd hT;have HR:=Hd hR;have HTB:=Hd hTB;have HVB:=Hd hvB;have HLL:=Hd (symA_length f len 15);have HS0:=Hd (hit_sym f len);clear hE hX hT hR hTB hvB;go_enter Tryz.func176,Tryz.ntmps176
 go_wp2_with fail;go_loopw [6,7,8,9] (fun c fi at_ n wr=>∃m:Nat,m≤15∧c=.int .i64 ((2*codeAt (Crc.num s.data.toList) a m:Nat):Int)∧fi=.int .i64 (first f len (m+1):Int)∧at_=.int .i64 (upTo f len m:Int)∧n=.int .i64 ((m:Int)+1)∧Hid (NoHit f len (Crc.num s.data.toList) a m)∧a+m≤8*s.size∧Hid (RAt wr B o s (a+m))∧Hid (RStep w wr B o)) (fun _ _ _ n _=>16-(intOf n).toNat)
 case atStart=>exact⟨0,by omega,rfl,rfl,rfl,rfl,Hd (NoHit.zero _ _ _ _),by omega,HR,Hd (RStep.refl _ _ _)⟩
 case round=>
  obtain⟨m,hm,rfl,rfl,rfl,rfl,HN,ham,HA,HS⟩:=hrel;have hTw:=HT.out.kept (S:=fun k=>k=B) HS.out.keeps HTB.out (fun k hk e=>HVB.out (by cases hk;exact e));have hcl:codeAt (Crc.num s.data.toList) a m<32768:=Nat.lt_of_lt_of_le (codeAt_lt _ _ m) (Nat.pow_le_pow_right (n:=2) (by decide) hm);have hu1:upTo f len m≤4500:=Nat.le_trans (upTo_bd f len m) (Nat.mul_le_mul hm hl);have hu2:upTo f len 15≤4500:=Nat.le_trans (upTo_bd f len 15) (Nat.mul_le_mul (Nat.le_refl _) hl);have hfi:=HN.out.next;have c16:=hTw.cell;have HTW:=Hd hTw;clear hTw;obtain⟨C,hC⟩:∃C,2*codeAt (Crc.num s.data.toList) a m=C:=⟨_,rfl⟩;obtain⟨F,hF⟩:∃F,first f len (m+1)=F:=⟨_,rfl⟩
  obtain⟨U,hU⟩:∃U,upTo f len m=U:=⟨_,rfl⟩;obtain⟨V,hV⟩:∃V,upTo f len 15=V:=⟨_,rfl⟩;have hC2:C≤65536:=by omega
  rw[hC,hF] at hfi;rw[hU] at hu1;rw[hV] at hu2 c16;rw[hC,hF,hU];have HC:=Hd hC;have HF:=Hd hF;have HU:=Hd hU;have HV:=Hd hV;clear hC hF hU hV hcl;by_cases hgo:m<15∧U<V
  ·obtain⟨hm15,hup⟩:=hgo;have t1:decide ((m:Int)+1≤15)=true:=decide_eq_true (by omega);have t2:decide (U<V)=true:=decide_eq_true hup;by_cases hbit:a+m+1≤8*s.size
   ·obtain⟨b,hb⟩:∃b,Crc.num s.data.toList/2^(a+m)%2=b:=⟨_,rfl⟩;have hb2:b<2:=by rw[← hb];exact Nat.mod_lt _ (by decide)
    have HBI:=Hd hb;clear hb;go_wp2_with fail;refine (get_in B o (a+m) 1 s _ HA.out (by omega) hbit).mono ?_;rintro e w2 ⟨rfl,hA2,hS2⟩;rw[show (2:Nat)^1=2 from rfl,HBI.out];have HA2:=Hd hA2;have HS2:=Hd (HS.out.trans hS2);have hTw2:=HT.out.kept (S:=fun k=>k=B) (HS2.out).keeps HTB.out (fun k hk e=>HVB.out (by cases hk;exact e));have hcn:=hTw2.many (m+1) (by omega);have c16':=hTw2.cell;rw[HV.out] at c16';have HTW2:=Hd hTw2;obtain⟨K,hK⟩:∃K,many f (m+1) len=K:=⟨_,rfl⟩;have hKl:K≤300:=by rw[← hK];exact Nat.le_trans (many_le f (m+1) len) hl
    rw[hK] at hcn;obtain⟨D,hD⟩:∃D,C+b=D:=⟨_,rfl⟩;have hor:bits BinOp.or IntKind.i64 (C:Int) (b:Int)=(D:Int):=by
     have:=or_bit (codeAt (Crc.num s.data.toList) a m) b (Nat.lt_of_lt_of_le (codeAt_lt _ _ m) (Nat.pow_le_pow_right (n:=2) (by decide) (by omega:m≤20))) hb2;rw[HC.out] at this;rw[this,hD]
    have HOR:=Hd hor;have hD1:C≤D:=by omega
    have hD2:D≤C+1:=by omega
    have HD:=Hd hD;have HK:=Hd hK;clear hA2 hS2 hTw2 c16 hD hK;by_cases hhit:D<F+K
    ·have t3:decide ((D:Int)-F<K)=true:=decide_eq_true (by omega);have hcode:codeAt (Crc.num s.data.toList) a (m+1)=D:=by
      rw[← HD.out,← HC.out,← HBI.out];rfl
     obtain⟨k,hk1,hk2,hk3,hk4⟩:=HS0.out D (m+1) (by omega) (by omega) (by rw[HF.out];omega) (by rw[HF.out,HK.out];exact hhit);rw[Nat.add_sub_cancel,HU.out,HF.out] at hk1;have hidx:U+D-F<V:=by
      rw[← HV.out,← HLL.out];rcases Nat.lt_or_ge (U+(D-F)) (symA f len 15).length with q | q
      ·omega
      ·rw[List.getElem?_eq_none q] at hk1;cases hk1
     have hrow:=HTW2.out.row;rw[HLL.out,HV.out] at hrow;have hcell:w2.cell? ⟨g,U+D-F,none⟩=some (.int .i64 (k:Int)):=by
      have q:=hrow.cellAt (U+D-F) (by omega);rw[q];unfold symV;rw[List.getElem?_map,show U+D-F=U+(D-F) by omega,hk1];rfl
     have HK2:=Hd hk2;have HK3:=Hd hk3;have HK4:=Hd hk4;have HCD:=Hd hcode;have hi1:(0:Int)≤(U:Int)+D-F:=by omega
     have hi2:(U:Int)+D-F<(V:Int):=by omega
     clear hrow hk1 hk2 hk3 hk4 hcode t3 hcn hor;have t3:decide ((D:Int)-F<K)=true:=decide_eq_true (by omega);have hcn:=HTW2.out.many (m+1) (by omega);rw[HK.out] at hcn;have hor:bits BinOp.or IntKind.i64 (C:Int) (b:Int)=(D:Int):=HOR.out;go_wp2_with fail;go_ret2;refine⟨.inl ⟨m+1,k,by omega,by omega,by omega,?_,HK2.out,HK3.out,?_,rfl,HA2.out⟩,HS2.out⟩
     ·rw[Nat.add_sub_cancel];exact HN.out
     ·rw[HCD.out];exact HK4.out
    ·have t3:decide ((D:Int)-F<K)=false:=decide_eq_false (by omega);go_wp2_with fail;go_roundw
     case rel=>
      have hcode:codeAt (Crc.num s.data.toList) a (m+1)=D:=by
       rw[← HD.out,← HC.out,← HBI.out];rfl
      refine⟨m+1,by omega,?_,?_,?_,by go_num,Hd (HN.out.succ ?_),by omega,HA2,HS2⟩
      ·rw[hcode];exact val_int (by omega)
      ·rw[first_succ f len (m+1) (by omega),HF.out,HK.out];exact val_int (by omega)
      ·exact val_int (by rw[← HU.out,← HK.out];simp only[upTo];omega)
      ·rw[hcode,HF.out,HK.out];omega
     case measure=>simp[intOf];omega
   ·have hv:=(HE.out.ext (HS.out.after HX.out hB)).var 0 (by decide);go_wp2_with fail;refine (get_text B o (a+m) 1 s _ E (HE.out.ext (HS.out.after HX.out hB)) HA.out (by omega) (by omega) ham).mono ?_;rintro e w2 ⟨rfl,h2⟩;have HA2:=Hd (HA.out.ext h2);have HS2:=Hd (HS.out.trans (RStep.of_ext o h2 HA.out.lt));clear h2 hv c16;unfold sentV;go_wp2_with fail;go_ret2;refine⟨.inr ⟨fun m' h1 h2=>?_,rfl,a+m,ham,HA2.out⟩,HS2.out⟩;have:m'≤m:=by omega
    exact fun j q1 q2=>HN.out j q1 (by omega)
  ·have hv:=(HE.out.ext (HS.out.after HX.out hB)).var 0 (by decide);simp only[gk,sentV] at hv;by_cases hm15:m<15
   ·have t1:decide ((m:Int)+1≤15)=true:=decide_eq_true (by omega);have t2:decide (U<V)=false:=decide_eq_false (by omega);have huv:V≤U:=by omega
    go_wp2_with fail;go_region;all_goals go_wp2_with fail
    all_goals go_ret2
    all_goals exact⟨.inr ⟨fun m' h1 h2=>fun j q1 q2=>NoHit.all HN.out (by rw[HV.out,HU.out];exact huv) hm j q1 (by omega),rfl,a+m,ham,HA.out.drewN 1⟩,HS.out.drewN 1⟩
   ·have t1:decide ((m:Int)+1≤15)=false:=decide_eq_false (by omega);go_wp2_with fail;go_region;all_goals go_wp2_with fail
    all_goals go_ret2
    all_goals exact⟨.inr ⟨fun m' h1 h2=>fun j q1 q2=>HN.out j q1 (by omega),rfl,a+m,ham,HA.out.drewN 1⟩,HS.out.drewN 1⟩
theorem next_any (T B o a:Nat) (v:Value) (f:Nat→Int) (len:Nat) (s:ByteArray) (w0 w:World) (E:Nat→Addr) (hE:Errs w0 E) (hX:Ext w0 w) (hB:w0.heap.size≤B) (hl:len≤300) (hT:TAt w T v f len (symA f len 15)) (hR:RAt w B o s a) (ha:a≤8*s.size) (hTB:T≠B) (hvB:v.ownBlock≠some B):
  Calls Tryz.prog 176 #[.pointer (some ⟨T,0,none⟩),.pointer (some ⟨B,o,none⟩)] w fun e w'=>NextIs w' e B o s a f len E∧RStep w w' B o:=by
 have hrow:=hT.row;rcases ownsRow_slice hrow with⟨rfl,h2⟩ | ⟨g,cap,rfl⟩
 ·exact next_none T B o a none 0 f len s w0 w E hE hX (by rw[← symA_length];exact h2) hT.cell hR ha
 ·rw[symA_length] at hT hvB;exact next_some T B o a g cap f len s w0 w E hE hX hB hl hT hR ha hTB (fun e=>hvB (by rw[e];rfl))
theorem word_lt2 (f:Nat→Int) (len k m:Nat) (hc:complete f len) (hk:k<len) (hf:f k=m) (h1:1≤m) (h2:m≤15):word f len k<first f len m+many f m len∧word f len k<2^m:=by
 have hw:word f len k=first f len m+many f m k:=by unfold word;rw[if_pos (by omega),hf];rfl
 have:=word_lt f len hc k m hk hf h1 h2;omega
/-- what comes next where a symbol's word stands -/
theorem next_word {w':World} {e:Ending} {B o a len k m:Nat} {s:ByteArray} {E:Nat→Addr} {f:Nat→Int} (h:NextIs w' e B o s a f len E) (hc:complete f len) (hk:k<len) (hf:f k=m) (h1:1≤m) (h2:m≤15)
  (hs:a+m≤8*s.size) (hv:codeAt (Crc.num s.data.toList) a m=word f len k):e=.returned (.tuple #[.int .i64 (k:Int),.nilIface])∧RAt w' B o s (a+m):=by
 have hN:=nohit_word hf h1 hv;have hlt:=(word_lt2 f len k m hc hk hf h1 h2).1;rcases h with⟨n,k',q1,q2,_,qN,q5,q6,q7,he,hR⟩ | ⟨hA,_,_⟩
 ·have hlt':=(word_lt2 f len k' n hc q5 q6 q1 q2).1;have hnm:n=m:=by
   rcases Nat.lt_trichotomy n m with q | q | q
   ·have:=hN n q1 (by omega);omega
   ·exact q
   ·have:=qN m h1 (by omega);omega
  subst hnm;have hkk:k'=k:=by
   rcases Nat.decEq k' k with q | q
   ·have:=apart f len k k' hk (fun e=>q e.symm) (by omega) (by omega);rw[q6,hf,Int.sub_self,Int.toNat_zero,Nat.pow_zero,Nat.div_one,q7,hv] at this;exact absurd rfl this
   ·exact q
  subst hkk;exact⟨he,hR⟩
 ·have:=hA m h2 hs m h1 (Nat.le_refl _);omega
theorem ownsRow_ne {w:World} {b b' e e' s s' n n':Nat} {v v':Value} {xs xs':List Value} (h:w.ownsRow b e s v n xs) (h':w.ownsRow b' e' s' v' n' xs') (hne:e≠e'):∀k,v.ownBlock=some k→v'.ownBlock≠some k:=by
 intro k hk hk';rcases h.2 with⟨rfl,_⟩ | ⟨g,cap,cur,rfl,_,hh,_⟩
 ·cases hk
 ·rcases h'.2 with⟨rfl,_⟩ | ⟨g',cap',cur',rfl,_,hh',_⟩
  ·cases hk'
  ·have e1:g=k:=by simpa [Value.ownBlock] using hk
   have e2:g'=k:=by simpa [Value.ownBlock] using hk'
   subst e1;subst e2;rw[hh] at hh';injection hh' with q;injection q with _ q2;exact hne q2
/-- a writer and a row of numbers beside it, both newer than H -/
structure WR (w0 w:World) (W0:Nat) (u:Value) (V n:Nat) (t:Value) (l:List Nat):Prop where
 ext:Ext w0 w
 wat:WAt w W0 0 u V n
 row:w.ownsRow 0 3 1 t l.length (symV l)
 wn:w0.heap.size≤W0
 un:∀k,u.ownBlock=some k→w0.heap.size≤k
 tn:∀k,t.ownBlock=some k→w0.heap.size≤k∧k≠W0
theorem WR.apart {w0 w:World} {W0:Nat} {u:Value} {V n:Nat} {t:Value} {l:List Nat} (h:WR w0 w W0 u V n t l):∀k,u.ownBlock=some k→t.ownBlock≠some k:=by
 obtain⟨b,_,_,hb⟩:=h.wat.row;exact ownsRow_ne hb h.row (by decide)
theorem WR.drew {w0 w:World} {W0:Nat} {u:Value} {V n:Nat} {t:Value} {l:List Nat} (h:WR w0 w W0 u V n t l):WR w0 w.drew W0 u V n t l:=
 ⟨h.ext.drew,⟨h.wat.c0,h.wat.c1,h.wat.f0,h.wat.f1,h.wat.row,h.wat.apart,h.wat.lt⟩,h.row,h.wn,h.un,h.tn⟩
structure Tk where
 b:UInt8
 l:Int
 d:Int
structure Tk.Ok (t:Tk):Prop where
 l: -9223372036854775808≤t.l∧t.l≤9223372036854775807
 d: -9223372036854775808≤t.d∧t.d≤9223372036854775807
/-- a row of tokens, wherever it lies -/
def Toks (w:World) (x:Option Addr) (n:Nat) (tk:Nat→Tk):Prop:=
 (x=none→n=0)∧∀a,x=some a→∀i,i<n→
  w.cell? (a.add (i*3))=some (.int .u8 ((tk i).b.toNat:Int))∧w.cell? ⟨(a.add (i*3)).block,(a.add (i*3)).off+1,none⟩=some (.int .i64 (tk i).l)∧
  w.cell? ⟨(a.add (i*3)).block,(a.add (i*3)).off+2,none⟩=some (.int .i64 (tk i).d)∧(tk i).Ok
theorem add_block3 (a:Addr) (k:Nat):(a.add k).block=a.block:=by unfold Addr.add;split <;> rfl
theorem Toks.keeps {S:Nat→Prop} {w w':World} {x:Option Addr} {n:Nat} {tk:Nat→Tk} (h:Toks w x n tk) (hk:Keeps S w w') (hS:∀a,x=some a→¬ S a.block):Toks w' x n tk:=by
 refine⟨h.1,fun a ha i hi=>?_⟩;obtain⟨c0,c1,c2,ok⟩:=h.2 a ha i hi;have hs:¬ S (a.add (i*3)).block:=by rw[add_block3];exact hS a ha
 have hl:(a.add (i*3)).block<w.heap.size:=World.block_lt_of_cell? w _ c0;exact⟨(hk.cell hl hs).trans c0,(hk.cell (p:=⟨_,_,none⟩) hl hs).trans c1,(hk.cell (p:=⟨_,_,none⟩) hl hs).trans c2,ok⟩
theorem Toks.ext {w w':World} {x:Option Addr} {n:Nat} {tk:Nat→Tk} (h:Toks w x n tk) (hE:Ext w w'):Toks w' x n tk:=h.keeps (S:=fun _=>False) hE.keeps (fun _ _=>id)
theorem Toks.isSome {w:World} {x:Option Addr} {n:Nat} {tk:Nat→Tk} (h:Toks w x n tk) {i:Nat} (hi:i<n):∃a,x=some a:=by
 cases x with
 | none=>have:=h.1 rfl;omega
 | some a=>exact⟨a,rfl⟩
/-- the text behind k bytes more, each one from d back -/
def copyL (out:List UInt8) (d:Nat):Nat→List UInt8
 | 0=>out
 | k+1=>copyL out d k ++ [(copyL out d k).getD ((copyL out d k).length-d) 0]
theorem copyL_length (out:List UInt8) (d:Nat):∀k,(copyL out d k).length=out.length+k:=by
 intro k;induction k with
 | zero=>rfl
 | succ k ih=>simp only[copyL,List.length_append,ih];simp;omega
/-- what tokens mean: a text, or an error's number and place -/
inductive XRes where
 | ok (out:List UInt8)
 | bad (c i:Nat)
def litP (t:Tk):Prop:=t.l=0∧t.d=0
def badP (t:Tk) (n:Nat):Prop:=t.b≠0∨t.l<3∨258<t.l∨t.d<1∨32768<t.d∨(n:Int)<t.d
instance (t:Tk):Decidable (litP t):=by unfold litP;infer_instance
instance (t:Tk) (n:Nat):Decidable (badP t n):=by unfold badP;infer_instance
def stepX (t:Tk) (k:Nat) (out:List UInt8):XRes:=
 if litP t then (if 300000<out.length+1 then .bad 1 k else .ok (out ++ [t.b]))
 else if badP t out.length then .bad 2 k
 else if 300000<out.length+t.l.toNat then .bad 1 k else .ok (copyL out t.d.toNat t.l.toNat)
def expL (tk:Nat→Tk):Nat→XRes
 | 0=>.ok []
 | k+1=>match expL tk k with
  | .ok out=>stepX (tk k) k out
  | .bad c i=>.bad c i
theorem expL_succ {tk:Nat→Tk} {k:Nat} {out:List UInt8} (h:expL tk k=.ok out):expL tk (k+1)=stepX (tk k) k out:=by
 simp only[expL,h]
theorem stepX_lit {t:Tk} {k:Nat} {out:List UInt8} (h:litP t) (hb:out.length+1≤300000):stepX t k out=.ok (out ++ [t.b]):=by
 unfold stepX;rw[if_pos h,if_neg (by omega)]
theorem stepX_copy {t:Tk} {k l d:Nat} {out:List UInt8} (h:¬ litP t) (h2:¬ badP t out.length) (hl:t.l=l) (hd:t.d=d) (hb:out.length+l≤300000):stepX t k out=.ok (copyL out d l):=by
 unfold stepX;rw[if_neg h,if_neg h2,hl,hd,Int.toNat_natCast,Int.toNat_natCast,if_neg (by omega)]
namespace Inf
/-- a text of bytes: its number, and how many bits it has -/
def get (L:List UInt8) (k a:Nat):Except Nat (Nat × Nat):=if a+k≤8*L.length then .ok (Crc.num L/2^a%2^k,a+k) else .error 0
/-- where a word of a code stands: its length and its symbol -/
def Hit (L:List UInt8) (f:Nat→Int) (len a n k:Nat):Prop:=1≤n∧n≤15∧a+n≤8*L.length∧k<len∧f k=(n:Int)∧word f len k=codeAt (Crc.num L) a n
theorem Hit.nohit {L:List UInt8} {f:Nat→Int} {len a n k:Nat} (h:Hit L f len a n k):NoHit f len (Crc.num L) a (n-1):=nohit_word h.2.2.2.2.1 h.1 h.2.2.2.2.2.symm
theorem Hit.lt {L:List UInt8} {f:Nat→Int} {len a n k:Nat} (h:Hit L f len a n k) (hc:complete f len):codeAt (Crc.num L) a n<first f len n+many f n len:=by
 rw[← h.2.2.2.2.2];exact (word_lt2 f len k n hc h.2.2.2.1 h.2.2.2.2.1 h.1 h.2.1).1
theorem Hit.uniq {L:List UInt8} {f:Nat→Int} {len a n k n' k':Nat} (hc:complete f len) (h:Hit L f len a n k) (h':Hit L f len a n' k'):n=n'∧k=k':=by
 have hn:n=n':=by
  rcases Nat.lt_trichotomy n n' with q | q | q
  ·have:=h'.nohit n h.1 (by omega);have:=h.lt hc;omega
  ·exact q
  ·have:=h.nohit n' h'.1 (by omega);have:=h'.lt hc;omega
 subst hn;refine⟨rfl,?_⟩;rcases Nat.decEq k k' with q | q
 ·have h1:=h.2.2.2.2.1;have h2:=h'.2.2.2.2.1;have:=apart f len k k' h.2.2.2.1 q (by have:=h.1;omega) (by omega);rw[h1,h2,Int.sub_self,Int.toNat_zero,Nat.pow_zero,Nat.div_one] at this;exact absurd (h'.2.2.2.2.2.trans h.2.2.2.2.2.symm) this
 ·exact q
noncomputable def nxt (L:List UInt8) (f:Nat→Int) (len a:Nat):Except Nat (Nat × Nat):=
 open Classical in if h:∃p:Nat × Nat,Hit L f len a p.1 p.2 then .ok (h.choose.2,a+h.choose.1) else .error 0
theorem nxt_hit {L:List UInt8} {f:Nat→Int} {len a n k:Nat} (hc:complete f len) (h:Hit L f len a n k):nxt L f len a=.ok (k,a+n):=by
 have hx:∃p:Nat × Nat,Hit L f len a p.1 p.2:=⟨(n,k),h⟩;unfold nxt;rw[dif_pos hx];obtain⟨e1,e2⟩:=Hit.uniq hc h hx.choose_spec;rw[← e1,← e2]
theorem nxt_none {L:List UInt8} {f:Nat→Int} {len a:Nat} (h:∀n k,¬ Hit L f len a n k):nxt L f len a=.error 0:=by
 unfold nxt;rw[dif_neg];rintro⟨p,hp⟩;exact h _ _ hp
theorem nxt_ok {L:List UInt8} {f:Nat→Int} {len a a' k:Nat} (h:nxt L f len a=.ok (k,a')):∃n,a'=a+n∧Hit L f len a n k:=by
 unfold nxt at h;split at h
 ·rename_i hx;injection h with h;injection h with h1 h2;subst h1 h2;exact⟨_,rfl,hx.choose_spec⟩
 ·cases h
theorem nxt_error {L:List UInt8} {f:Nat→Int} {len a c:Nat} (h:nxt L f len a=.error c):c=0:=by
 unfold nxt at h;split at h
 ·cases h
 ·injection h with h;exact h.symm
theorem get_ok {L:List UInt8} {k a n a':Nat} (h:get L k a=.ok (n,a')):a'=a+k∧a+k≤8*L.length∧n<2^k∧n=Crc.num L/2^a%2^k:=by
 unfold get at h;split at h
 ·injection h with h;injection h with h1 h2;subst h1 h2;exact⟨rfl,by assumption,Nat.mod_lt _ (Nat.two_pow_pos _),rfl⟩
 ·cases h
theorem get_error {L:List UInt8} {k a c:Nat} (h:get L k a=.error c):c=0∧8*L.length<a+k:=by
 unfold get at h;split at h
 ·cases h
 ·injection h with h;exact⟨h.symm,by omega⟩
/-- rows of lengths, and of distances; how many bits more -/
def lensL:List Nat:=[3,4,5,6,7,8,9,10,11,13,15,17,19,23,27,31,35,43,51,59,67,83,99,115,131,163,195,227,258]
def distsL:List Nat:=[1,2,3,4,5,7,9,13,17,25,33,49,65,97,129,193,257,385,513,769,1025,1537,2049,3073,4097,6145,8193,12289,16385,24577]
def lensB:List Nat:=[0,0,0,0,0,0,0,0,1,1,1,1,2,2,2,2,3,3,3,3,4,4,4,4,5,5,5,5,0]
def distsB:List Nat:=[0,0,0,0,1,1,2,2,3,3,4,4,5,5,6,6,7,7,8,8,9,9,10,10,11,11,12,12,13,13]
def orderL:List Nat:=[16,17,18,0,8,7,9,6,10,5,11,4,12,3,13,2,14,1,15]
/-- what a word of a block was: a symbol; of a match its distance's symbol, its length, how far back -/
structure Ev where
 k:Nat
 d:Nat
 n:Nat
 back:Nat
abbrev TRes:=Except Nat (Nat × List UInt8 × List Ev)
/-- a match: behind its symbol -/
def far (L:List UInt8) (most k d a:Nat) (out:List UInt8) (x:Nat):Except Nat (Nat × List UInt8 × Ev):=
 if 30≤d then .error 0 else
 match get L (distsB.getD d 0) a with
 | .error c=>.error c
 | .ok (y,a')=>
  if out.length<distsL.getD d 0+y then .error 0
  else if most<out.length+(lensL.getD (k-257) 0+x) then .error 1
  else .ok (a',copyL out (distsL.getD d 0+y) (lensL.getD (k-257) 0+x),⟨k,d,lensL.getD (k-257) 0+x,distsL.getD d 0+y⟩)
noncomputable def tok (L:List UInt8) (most:Nat) (g:Nat→Int) (gen k a:Nat) (out:List UInt8):Except Nat (Nat × List UInt8 × Ev):=
 if k<256 then if out.length<most then .ok (a,out ++ [UInt8.ofNat k],⟨k,0,0,0⟩) else .error 1
 else if 286≤k then .error 0 else
 match get L (lensB.getD (k-257) 0) a with
 | .error c=>.error c
 | .ok (x,a2)=>
  match nxt L g gen a2 with
  | .error c=>.error c
  | .ok (d,a3)=>far L most k d a3 out x
noncomputable def toks (L:List UInt8) (most:Nat) (f:Nat→Int) (len:Nat) (g:Nat→Int) (gen:Nat):Nat→Nat→List UInt8→List Ev→TRes
 | 0,_,_,_=>.error 0
 | F+1,a,out,tr=>
  match nxt L f len a with
  | .error c=>.error c
  | .ok (k,a1)=>
   if k=256 then .ok (a1,out,tr ++ [⟨256,0,0,0⟩]) else
   match tok L most g gen k a1 out with
   | .error c=>.error c
   | .ok (a2,out2,e)=>toks L most f len g gen F a2 out2 (tr ++ [e])
def stored (L:List UInt8) (most a:Nat) (out:List UInt8):Except Nat (Nat × List UInt8):=
 match get L 16 ((a+7)/8*8) with
 | .error c=>.error c
 | .ok (n,a2)=>
  match get L 16 a2 with
  | .error c=>.error c
  | .ok (m,a3)=>
   if n+m≠65535 then .error 0
   else if 8*L.length<a3+8*n then .error 0
   else if most<out.length+n then .error 1
   else .ok (a3+8*n,out++(L.drop (a3/8)).take n)
def upd (f:Nat→Int) (i:Nat) (x:Int):Nat→Int:=fun j=>if j=i then x else f j
def smalls (L:List UInt8):Nat→Nat→Nat→(Nat→Int)→Except Nat ((Nat→Int) × Nat)
 | 0,_,a,f=>.ok (f,a)
 | r+1,i,a,f=>
  match get L 3 a with
  | .error c=>.error c
  | .ok (x,a')=>smalls L r (i+1) a' (upd f (orderL.getD i 0) x)
/-- how often, and what: behind a symbol of lengths -/
def rep (L:List UInt8) (k a:Nat) (l:List Nat):Except Nat (Nat × Nat × Nat):=
 if k=16 then if l=[] then .error 0 else
  match get L 2 a with
  | .error c=>.error c
  | .ok (x,a')=>.ok (3+x,l.getD (l.length-1) 0,a')
 else if k=17 then
  match get L 3 a with
  | .error c=>.error c
  | .ok (x,a')=>.ok (3+x,0,a')
 else if k=18 then
  match get L 7 a with
  | .error c=>.error c
  | .ok (x,a')=>.ok (11+x,0,a')
 else .ok (1,k,a)
noncomputable def lens (L:List UInt8) (f:Nat→Int) (want:Nat):Nat→Nat→List Nat→Except Nat (List Nat × Nat)
 | 0,_,_=>.error 0
 | F+1,a,l=>
  if want≤l.length then .ok (l,a) else
  match nxt L f 19 a with
  | .error c=>.error c
  | .ok (k,a1)=>
   match rep L k a1 l with
   | .error c=>.error c
   | .ok (t,what,a2)=>if want<l.length+t then .error 0 else lens L f want F a2 (l++List.replicate t what)
def fn (l:List Nat):Nat→Int:=fun i=>((l.getD i 0:Nat):Int)
def good (f:Nat→Int) (len:Nat):Prop:=inBounds f len∧complete f len
/-- a dynamic block's two rows of lengths -/
noncomputable def dyn (L:List UInt8) (a:Nat):Except Nat (List Nat × List Nat × Nat):=
 match get L 5 a with
 | .error c=>.error c
 | .ok (m,a1)=>
  match get L 5 a1 with
  | .error c=>.error c
  | .ok (r,a2)=>
   match get L 4 a2 with
   | .error c=>.error c
   | .ok (w,a3)=>
    if 286<m+257∨30<r+1 then .error 0 else
    match smalls L (w+4) 0 a3 (fun _=>0) with
    | .error c=>.error c
    | .ok (f,a4)=>
     open Classical in if ¬ good f 19 then .error 0 else
     match lens L f (m+257+(r+1)) (m+257+(r+1)+1) a4 [] with
     | .error c=>.error c
     | .ok (l,a5)=>
      if ¬ good (fn (l.take (m+257))) (m+257) then .error 0
      else if ¬ good (fn (l.drop (m+257))) (r+1) then .error 0
      else if l.getD 256 0=0 then .error 0
      else .ok (l.take (m+257),l.drop (m+257),a5)
def fixF:Nat→Int:=fun i=>if i<144 then 8 else if i<256 then 9 else if i<280 then 7 else 8
def fiveF:Nat→Int:=fun _=>5
/-- a block as it was read: its kind, its rows of lengths, its words -/
structure Blk where
 kind:Nat
 f:List Nat
 g:List Nat
 tr:List Ev
noncomputable def block (L:List UInt8) (most a:Nat) (out:List UInt8):Except Nat (Nat × Nat × List UInt8 × Blk):=
 match get L 1 a with
 | .error c=>.error c
 | .ok (last,a1)=>
  match get L 2 a1 with
  | .error c=>.error c
  | .ok (kind,a2)=>
   if kind=0 then
    match stored L most a2 out with
    | .error c=>.error c
    | .ok (a3,out3)=>.ok (last,a3,out3,⟨0,[],[],[]⟩)
   else if kind=1 then
    match toks L most fixF 288 fiveF 32 (8*L.length+1) a2 out [] with
    | .error c=>.error c
    | .ok (a3,out3,tr)=>.ok (last,a3,out3,⟨1,[],[],tr⟩)
   else if kind=2 then
    match dyn L a2 with
    | .error c=>.error c
    | .ok (l,r,a3)=>
     match toks L most (fn l) l.length (fn r) r.length (8*L.length+1) a3 out [] with
     | .error c=>.error c
     | .ok (a4,out4,tr)=>.ok (last,a4,out4,⟨2,l,r,tr⟩)
   else .error 0
noncomputable def blocks (L:List UInt8) (most:Nat):Nat→Nat→List UInt8→List Blk→Except Nat (Nat × List UInt8 × List Blk)
 | 0,_,_,_=>.error 0
 | F+1,a,out,bs=>
  match block L most a out with
  | .error c=>.error c
  | .ok (last,a1,out1,b)=>if last=1 then .ok (a1,out1,bs ++ [b]) else blocks L most F a1 out1 (bs ++ [b])
noncomputable def inf (L:List UInt8) (most:Nat):Except Nat (List UInt8 × Nat × List Blk):=
 match blocks L most (8*L.length+1) 0 [] [] with
 | .error c=>.error c
 | .ok (a,out,bs)=>.ok (out,(a+7)/8,bs)
end Inf
/-- of lengths that are not right: the error's number -/
theorem valid_no (x:Option Addr) (len cap:Nat) (f:Nat→Int) (w:World) (E:Nat→Addr) (hE:Errs w E) (hx:Ints w x len f) (hl:len≤maxLen) (h:¬ (inBounds f len∧complete f len)):
    Calls Tryz.prog 147 #[.slice x len cap] w fun e w'=>(∃k,k<9∧e=.returned (.iface 275 (.pointer (some (E k))))∧vcode f len=(k:Int)+1)∧Ext w w':=by
  refine (valid_calls x len cap f w hx hl _ _ (hE.var 1 (by decide)) (hE.var 2 (by decide))).mono ?_;rintro e w2 ⟨h2,q | q | q⟩
  · exact absurd q.2 h
  · exact⟨⟨1,by decide,q.1,by unfold vcode;rw[if_neg q.2];rfl⟩,h2⟩
  · exact⟨⟨2,by decide,q.1,by unfold vcode;rw[if_pos q.2.1,if_neg q.2.2];rfl⟩,h2⟩
theorem read_no (x:Option Addr) (len cap:Nat) (f:Nat→Int) (w:World) (E:Nat→Addr) (hE:Errs w E) (hx:Ints w x len f) (hl:len≤maxLen) (h:¬ (inBounds f len∧complete f len)):
    Calls Tryz.prog 175 #[.slice x len cap] w fun e w'=>(∃k,k<9∧e=.returned (.tuple #[.pointer none,.iface 275 (.pointer (some (E k)))])∧vcode f len=(k:Int)+1)∧Ext w w':=by
  have HE:=Hd hE;have HX:=Hd hx;have HH:=Hd h;clear hE hx h;go_enter Tryz.func175,Tryz.ntmps175
  go_wp2_with fail;refine (valid_no x len cap f w E HE.out HX.out hl HH.out).mono ?_;rintro e w2 ⟨⟨k,hk,rfl,hv⟩,h2⟩;have X2:=Hd (h2);have HV:=Hd (hv);clear h2 hv;go_wp2_with fail;first | go_ret2 | (go_region;all_goals go_wp2_with fail;all_goals go_ret2)
  all_goals exact⟨⟨k,hk,rfl,HV.out⟩,by first | exact X2.out | exact X2.out.drewN _ | exact X2.out.drew⟩
theorem ralign_calls (B o a:Nat) (s:ByteArray) (w:World) (hR:RAt w B o s a) (ha:a≤8*s.size):
    Calls Tryz.prog 136 #[.pointer (some ⟨B,o,none⟩)] w fun e w'=>e=.returned (.tuple #[])∧RAt w' B o s ((a+7)/8*8)∧RStep w w' B o:=by
  have P:=hR.put ((a+7)/8*8) (by omega);obtain⟨c0,c1,f1,hs,hle⟩:=hR;have e8:((a:Int)+7)/8*8=(((a+7)/8*8:Nat):Int):=by omega
  rw[← e8] at P;have HP:=Hd P;have H8:=Hd e8;clear P e8;go_enter Tryz.func136,Tryz.ntmps136
  go_wp2
  go_end0;exact⟨rfl,HP.out⟩
theorem rbytes_no (B o a k:Nat) (s:ByteArray) (w:World) (hR:RAt w B o s a) (ha:a≤8*s.size) (hk:k≤100000000) (h:8*s.size<(a+7)/8*8+8*k):
  Calls Tryz.prog 174 #[.pointer (some ⟨B,o,none⟩),.int .i64 (k:Int)] w fun e w'=>e=.returned (.tuple #[.string ⟨#[]⟩,.bool false])∧RAt w' B o s ((a+7)/8*8)∧RStep w w' B o:=by
 have HA:=Hd (ralign_calls B o a s w hR ha);have hsz:=hR.size;clear hR;obtain⟨a',ha'⟩:∃x,(a+7)/8*8=x:=⟨_,rfl⟩;rw[ha'] at h HA⊢;have hlt:8*(s.size:Int)-(a':Int)<8*(k:Int):=by omega
 have wk:∀z,z=8*(k:Int)→IntKind.i64.wrap z=z:=by rintro _ rfl;rw[IntKind.wrap_i64];omega
 clear h ha';go_enter Tryz.func174,Tryz.ntmps174
 go_wp2_with fail;refine HA.out.mono ?_;rintro e w1 ⟨rfl,hR,hS⟩;have R1:=Hd hR;have S1:=Hd hS;clear hR hS HA;go_wp2_with fail;refine (left_calls B o a' s w1 R1.out).mono ?_;rintro e w2 ⟨rfl,m,rfl⟩;go_wp2_with fail;go_ret2;exact⟨rfl,R1.out.drewN m,S1.out.drewN m⟩
theorem rbytes_yes (B o a k:Nat) (s:ByteArray) (w:World) (hR:RAt w B o s a) (ha:a≤8*s.size) (h:(a+7)/8*8+8*k≤8*s.size):
  Calls Tryz.prog 174 #[.pointer (some ⟨B,o,none⟩),.int .i64 (k:Int)] w fun e w'=>e=.returned (.tuple #[.string (s.extract ((a+7)/8) ((a+7)/8+k)),.bool true])∧RAt w' B o s ((a+7)/8*8+8*k)∧RStep w w' B o:=by
 have HA:=Hd (ralign_calls B o a s w hR ha);have hsz:=hR.size;clear hR;obtain⟨q,hq⟩:∃x,(a+7)/8=x:=⟨_,rfl⟩;rw[hq] at h HA⊢;obtain⟨a',ha'⟩:∃x,q*8=x:=⟨_,rfl⟩;rw[ha'] at h HA⊢;obtain⟨q2,hq2⟩:∃x,q+k=x:=⟨_,rfl⟩;obtain⟨a2,ha2⟩:∃x,a'+8*k=x:=⟨_,rfl⟩;rw[hq2];rw[ha2] at h⊢;have hlt:¬ 8*(s.size:Int)-(a':Int)<8*(k:Int):=by omega
 have e1:(a':Int)/8=(q:Int):=by omega
 have e2:(q:Int)+(k:Int)=(q2:Int):=by omega
 have e3:(a':Int)+8*(k:Int)=(a2:Int):=by omega
 have e4:q≤q2∧q2≤s.size:=by omega
 have e5:=e4.1;have e6:=e4.2;have wk:∀z,z=8*(k:Int)→IntKind.i64.wrap z=z:=by rintro _ rfl;rw[IntKind.wrap_i64];omega
 have wq2:∀z,z=(q2:Int)→IntKind.i64.wrap z=z:=by rintro _ rfl;rw[IntKind.wrap_i64];omega
 have wq1:∀z,z=(q:Int)→IntKind.i64.wrap z=z:=by rintro _ rfl;rw[IntKind.wrap_i64];omega
 have e7:((q:Nat):Int).toNat=q:=by omega
 have e8:((q2:Nat):Int).toNat=q2:=by omega
 have wa2:∀z,z=(a2:Int)→IntKind.i64.wrap z=z:=by rintro _ rfl;rw[IntKind.wrap_i64];omega
 have H2:=Hd h;clear h hq ha' hq2 ha2 e4;go_enter Tryz.func174,Tryz.ntmps174
 go_wp2_with fail;refine HA.out.mono ?_;rintro e w1 ⟨rfl,hR,hS⟩;have R1:=Hd hR;have S1:=Hd hS;clear hR hS HA;go_wp2_with fail;refine (left_calls B o a' s w1 R1.out).mono ?_;rintro e w2 ⟨rfl,m,rfl⟩;have R2:=Hd (R1.out.drewN m);have S2:=Hd (S1.out.drewN m);go_upto_region 4 with fail;refine wp_world (fun wz=>Hid (RAt wz B o s a')∧Hid (RStep w wz B o)) ⟨R2,S2⟩ ?_;clear R1 S1 R2 S2 hlt;rintro w3 ⟨R3,S3⟩;have c0:=R3.out.c0;have c1:=R3.out.c1;have f1:=R3.out.f1;have P:=Hd (R3.out.put a2 (by have:=H2.out;omega));refine wp_region_still_tail 17 (by kernel_rfl) (by kernel_rfl) ?_;simp only[List.take_succ_cons,List.take_zero,List.drop_succ_cons,List.drop_zero];repeat still_step
 refine wpStill_nil ?_;change wpList _ _ _ _ _ w3.drew;go_wp2_with fail;go_ret2;exact⟨rfl,P.out.1.drewN 1,S3.out.trans (P.out.2.drewN 1)⟩
@[irreducible] def tb (l:List UInt8):ByteArray:=⟨l.toArray⟩
theorem tb_eq (l:List UInt8):tb l=⟨l.toArray⟩:=by unfold tb;rfl
theorem tb_list (l:List UInt8):(tb l).data.toList=l:=by unfold tb;rfl
theorem tb_size (l:List UInt8):(tb l).size=l.length:=by rw[tb_eq];rfl
theorem bts_ext {a b:ByteArray} (h:a.data.toList=b.data.toList):a=b:=by
  obtain⟨⟨a⟩⟩:=a;obtain⟨⟨b⟩⟩:=b;simp at h;rw[h]
theorem list_size (s:ByteArray):s.data.toList.length=s.size:=by rw[Array.length_toList];rfl
theorem ex_list (s:ByteArray) (a b:Nat):(s.extract a b).data.toList=(s.data.toList.drop a).take (b-a):=by
  rw[ByteArray.data_extract,Array.toList_extract,List.extract_eq_take_drop]
/-- rows of bytes that grow -/
theorem strCells_eq (s:ByteArray):Lib.strCells s=bytesV s.data.toList:=rfl
theorem lit_row {w:World} {base:Nat} {e:TypeId} {size:Nat} {v:Value} {n:Nat} {xs:List Value} (h:w.ownsRow base e size v n xs):∃x c,v=.slice x n c:=by
  rcases ownsRow_slice h with⟨h1,h2⟩ | ⟨g,cap,h1⟩
  · exact⟨none,0,by rw[h1,h2]⟩
  · exact⟨_,cap,h1⟩
theorem conv_row {w:World} {base L:Nat} {v:Value} {l:List UInt8} (hl:l.length=L) (h:w.ownsRow base 5 1 v L (bytesV l)):(convert 62 9 v).run Tryz.prog w=.ok (.string (tb l)) w:=by
  rw[tb_eq];subst hl;rcases ownsRow_slice h with⟨rfl,h0⟩ | ⟨g,cap,rfl⟩
  · rw[run_convert_bytes_string w 62 9 5 none 0 0 Tryz.underlying62 Tryz.underlying5 Tryz.underlying9,List.eq_nil_of_length_eq_zero h0];rfl
  · refine run_convert_bytes_back (P:=Tryz.prog) w 62 9 5 ⟨g,0,none⟩ cap l Tryz.underlying62 Tryz.underlying5 Tryz.underlying9 (fun j hj=>?_);rw[add_plain,h.cellAt j (by omega),bytesV_get _ j hj]
theorem u8inf:(Tryz.prog.info? 5).map (fun i=>(i.zero,i.size,i.bytes))=some (some (.int .u8 0),1,1):=by kernel_rfl
theorem one8 (b:Int):∀u∈ [Value.int .u8 b],u.oneCell'=true:=by intro u hu;rw[List.mem_singleton.1 hu];rfl
theorem emp_iff (s:ByteArray):s.toList.isEmpty=decide (s.size=0):=by
  rw[ByteArray.toList_eq,← list_size];cases s.data.toList <;> rfl
theorem emp_no (s:ByteArray) (h:s.size≠0):s.toList.isEmpty=false:=by rw[emp_iff];exact decide_eq_false h
def Unfr (cur:Array Value) (fr:Nat × Nat):Prop:=∀j,j<cur.size→(decide (fr.1≤j)&&decide (j<fr.2))=false
/-- a row of bytes in a block of its own, whose mark marks none of its cells -/
def MRow (w:World) (base:Nat) (v:Value) (l:List UInt8):Prop:=
 ∃g cap cur fr,v=.slice (some ⟨g,0,none⟩) l.length cap∧base≤g∧w.heap[g]? =some (.cells cur 5 fr)∧Unfr cur fr∧l.length≤cap∧cap≤maxLen∧cur.size=cap∧cur.toList.take l.length=bytesV l
theorem MRow.keeps {S:Nat→Prop} {w w':World} {base:Nat} {v:Value} {l:List UInt8} (h:MRow w base v l) (hk:Keeps S w w') (hn:∀k,v.ownBlock=some k→¬ S k):MRow w' base v l:=by
 obtain⟨g,cap,cur,fr,rfl,h1,h2,r⟩:=h;exact⟨g,cap,cur,fr,rfl,h1,by rw[hk.block g (lt_of_block h2) (hn g rfl)];exact h2,r⟩
theorem MRow.ext {w w':World} {base:Nat} {v:Value} {l:List UInt8} (h:MRow w base v l) (hE:Ext w w'):MRow w' base v l:=h.keeps (S:=fun _=>False) hE.keeps (fun _ _=>id)
theorem MRow.own {w:World} {base k:Nat} {v:Value} {l:List UInt8} (h:MRow w base v l) (hk:v.ownBlock=some k):base≤k∧k<w.heap.size:=by
 obtain⟨g,cap,cur,fr,rfl,h1,h2,_⟩:=h;obtain rfl:g=k:=Option.some.inj (show some g=some k from hk);exact⟨h1,lt_of_block h2⟩
theorem MRow.cell {w:World} {base j:Nat} {v:Value} {l:List UInt8} (h:MRow w base v l) (hj:j<l.length):∃g cap,v=.slice (some ⟨g,0,none⟩) l.length cap∧w.cell? ⟨g,j,none⟩=(bytesV l)[j]?:=by
 obtain⟨g,cap,cur,fr,rfl,h1,h2,_,h4,h5,h6,h7⟩:=h;refine⟨g,cap,rfl,?_⟩;rw[cell_of_row w g j cur _ fr h2,← h7,List.getElem?_take_of_lt hj];simp
theorem MRow.conv {w:World} {base:Nat} {v:Value} {l:List UInt8} (h:MRow w base v l):(convert 62 9 v).run Tryz.prog w=.ok (.string (tb l)) w:=by
 rw[tb_eq];have hc:=h;obtain⟨g,cap,cur,fr,rfl,h1,h2,_⟩:=h;refine run_convert_bytes_back (P:=Tryz.prog) w 62 9 5 ⟨g,0,none⟩ cap l Tryz.underlying62 Tryz.underlying5 Tryz.underlying9 (fun j hj=>?_);obtain⟨g',cap',e1,e2⟩:=hc.cell hj;injection e1 with e1;injection e1 with e1;injection e1 with e1;subst e1;rw[add_plain,e2,bytesV_get _ j hj]
/-- []byte(s) -/
theorem MRow.made (w:World) (s:ByteArray) (hs:s.size≤maxLen):∃v w',(convert 9 62 (.string s)).run Tryz.prog w=.ok v w'∧MRow w' w.heap.size v s.data.toList∧Ext w w':=by
 have hge:=grownCap_ge w s.size 0 5;have hcm:=grownCap_le_maxLen w s.size 0 5 hs;have hsz:(Lib.bytesCells w 5 s).size=grownCap w s.size 0 5 :=by
  unfold Lib.bytesCells;rw[Array.size_append,Array.size_map,Array.size_replicate];show s.size+_=_;omega
 refine⟨_,_,Lib.run_convert_string_bytes (P:=Tryz.prog) w 9 62 5 s Tryz.underlying9 Tryz.underlying62 Tryz.underlying5,⟨w.heap.size,_,_,_,by rw[list_size],Nat.le_refl _,Lib.bytesWorld_at_new w _ s,?_,by rw[list_size];exact hge,hcm,hsz,?_⟩,?_⟩
 ·intro j hj;simp only[Bool.and_eq_false_iff,decide_eq_false_iff_not];left;omega
 ·have e:(Lib.bytesCells w 5 s).toList=bytesV s.data.toList++(Array.replicate (grownCap w s.size 0 5 - s.size) (Value.int .u8 0)).toList:=by
   unfold Lib.bytesCells bytesV;simp
  rw[e,List.take_append_of_le_length (by rw[bytesV_length];exact Nat.le_refl _),List.take_of_length_le (by rw[bytesV_length];exact Nat.le_refl _)]
 ·exact⟨rfl,rfl,rfl,by rw[Lib.bytesWorld_size];omega,fun k hk=>Lib.bytesWorld_at_old w _ s k hk⟩
/-- what is thrown -/
def failV (a:Addr):Value:=.iface 197 (.agg #[sentV a])
def thrown (a:Addr):Ending:=.panicked [{ v:=failV a,recovered:=false }]
structure IAt (w:World) (R B:Nat) (s:ByteArray) (a:Nat) (v:Value) (out:List UInt8) (most:Nat):Prop where
 bk:Bk w R #[.pointer (some ⟨B,0,none⟩),v,.int .i64 (most:Int)]
 rd:RAt w B 0 s a
 row:w.ownsRow 0 5 1 v out.length (bytesV out)
 rb:R≠B
 rv:v.ownBlock≠some R
 bv:v.ownBlock≠some B
structure IStep (w w':World) (R B:Nat) (v v':Value):Prop where
 keeps:Keeps (fun k=>k=R∨k=B∨v.ownBlock=some k) w w'
 new:∀k,v'.ownBlock=some k→v.ownBlock=some k∨w.heap.size≤k
theorem must_yes (p e:Value) (w:World):Calls Tryz.prog 173 #[p,.bool true,e] w fun r w'=>r=.returned (.tuple #[])∧w=w':=by
 go_enter Tryz.func173,Tryz.ntmps173
 go_wp2_with fail;go_end0;exact⟨rfl,rfl⟩
theorem must_no (p:Value) (a:Addr) (w:World):Calls Tryz.prog 173 #[p,.bool false,sentV a] w fun r w'=>r=thrown a∧w=w':=by
 unfold sentV;go_enter Tryz.func173,Tryz.ntmps173
 go_wp2_with fail;exact⟨rfl,rfl,rfl⟩
theorem IStep.refl (w:World) (R B:Nat) (v:Value):IStep w w R B v v:=⟨Keeps.refl _ _,fun _ h=>.inl h⟩
theorem IStep.trans {a b c:World} {R B:Nat} {u v x:Value} (h:IStep a b R B u v) (k:IStep b c R B v x):IStep a c R B u x:=by
 refine⟨h.keeps.trans k.keeps ?_,?_⟩
 ·intro i hi q;rcases q with q | q | q
  ·exact .inl q
  ·exact .inr (.inl q)
  ·rcases h.new i q with r | r
   ·exact .inr (.inr r)
   ·omega
 ·intro i q;rcases k.new i q with r | r
  ·exact h.new i r
  ·have:=h.keeps.size;exact .inr (by omega)
theorem IStep.rd {w w':World} {R B:Nat} {v:Value} (h:RStep w w' B 0):IStep w w' R B v v:=⟨h.keeps.mono fun _ _ q=>.inr (.inl q),fun _ q=>.inl q⟩
theorem IStep.ext {w w':World} {R B:Nat} {v:Value} (h:Ext w w'):IStep w w' R B v v:=⟨h.keeps,fun _ q=>.inl q⟩
theorem IAt.size {w:World} {R B a most:Nat} {s:ByteArray} {v:Value} {out:List UInt8} (h:IAt w R B s a v out most):s.size≤1099511627776:=h.rd.size
theorem IAt.read {w w':World} {R B a a' most:Nat} {s:ByteArray} {v:Value} {out:List UInt8} (h:IAt w R B s a v out most) (hR:RAt w' B 0 s a') (hS:RStep w w' B 0):IAt w' R B s a' v out most:=
 ⟨h.bk.keeps hS.keeps h.rb,hR,ownsRow_kept h.row hS.keeps (fun k hk e=>h.bv (by rw[hk,e])),h.rb,h.rv,h.bv⟩
theorem IAt.keep {w w':World} {R B a most:Nat} {s:ByteArray} {v:Value} {out:List UInt8} {S:Nat→Prop} (h:IAt w R B s a v out most) (hk:Keeps S w w') (hR:¬ S R) (hB:¬ S B) (hv:∀k,v.ownBlock=some k→¬ S k):IAt w' R B s a v out most:=
 ⟨h.bk.keeps hk hR,⟨(hk.cell (p:=⟨B,0,none⟩) h.rd.lt hB).trans h.rd.c0,(hk.cell (p:=⟨B,0+1,none⟩) h.rd.lt hB).trans h.rd.c1,(hk.frozen (p:=⟨B,0+1,none⟩) h.rd.lt hB).trans h.rd.f1,h.rd.size,h.rd.le⟩,ownsRow_kept h.row hk hv,h.rb,h.rv,h.bv⟩
theorem IAt.ext {w w':World} {R B a most:Nat} {s:ByteArray} {v:Value} {out:List UInt8} (h:IAt w R B s a v out most) (hE:Ext w w'):IAt w' R B s a v out most:=
 h.keep (S:=fun _=>False) hE.keeps id id (fun _ _=>id)
theorem Errs.at {w0 w:World} {E:Nat→Addr} (hE:Errs w0 E) (hX:Ext w0 w):w.cell? ⟨1,0,none⟩=some (sentV (E 0))∧w.cell? ⟨2,0,none⟩=some (sentV (E 1)):=
 ⟨(hE.ext hX).var 0 (by decide),(hE.ext hX).var 1 (by decide)⟩
theorem rget_yes (R B a k n:Nat) (s:ByteArray) (v:Value) (out:List UInt8) (most:Nat) (w0 w:World) (E:Nat→Addr) (hE:Errs w0 E) (hX:Ext w0 w) (hB:w0.heap.size≤B) (hI:IAt w R B s a v out most) (hk:k≤16) (a':Nat) (hg:Inf.get s.data.toList k a=.ok (n,a')):
  Calls Tryz.prog 157 #[.pointer (some ⟨R,0,none⟩),.int .i64 (k:Int)] w fun e w'=>e=.returned (.int .i64 (n:Int))∧RAt w' B 0 s a'∧RStep w w' B 0:=by
 obtain⟨rfl,h2,h3,rfl⟩:=Inf.get_ok hg;rw[list_size] at h2;have hr:=hI.rd;have c0:=hI.bk.cell 0;have hE2:=Hd hE;have hX2:=Hd hX;have HI:=Hd hI;obtain⟨n,hn⟩:∃n,Crc.num s.data.toList/2^a%2^k=n:=⟨_,rfl⟩;have h4:n<65536:=by have:2^k≤2^16:=Nat.pow_le_pow_right (by decide) hk;omega
 have hn2:=get_in B 0 a k s w hr (by omega) h2;rw[hn] at hn2⊢;have HG:=Hd hn2;clear hE hX hr hI hg h2 h3 hn hn2;go_enter Tryz.func157,Tryz.ntmps157
 go_wp2_with fail;refine HG.out.mono ?_;rintro e w2 ⟨rfl,hR,hS⟩;have HR:=Hd hR;have HS:=Hd hS;have hX3:Ext w0 w2:=hS.after hX2.out hB;have c1:=(hE2.out.at hX3).1;clear hR hS hX3;go_wp2_with fail;refine wp_region_still_tail 4 (by kernel_rfl) (by kernel_rfl) ?_;simp only[List.take_succ_cons,List.take_zero,List.drop_succ_cons,List.drop_zero];repeat still_step
 refine wpStill_nil ?_;change wpList _ _ _ _ _ w2.drew;go_wp2_with fail;refine (must_yes _ _ _).mono ?_;rintro e _ ⟨rfl,rfl⟩;go_wp2_with fail;go_ret;exact⟨rfl,HR.out.drewN 1,HS.out.drewN 1⟩
theorem rget_no (R B a k c:Nat) (s:ByteArray) (v:Value) (out:List UInt8) (most:Nat) (w0 w:World) (E:Nat→Addr) (hE:Errs w0 E) (hX:Ext w0 w) (hI:IAt w R B s a v out most) (hk:k≤16) (ha:a≤8*s.size) (hg:Inf.get s.data.toList k a=.error c):
  Calls Tryz.prog 157 #[.pointer (some ⟨R,0,none⟩),.int .i64 (k:Int)] w fun e w'=>e=thrown (E c)∧Ext w w':=by
 obtain⟨rfl,h2⟩:=Inf.get_error hg;rw[list_size] at h2;have hr:=hI.rd;have c0:=hI.bk.cell 0;have hE2:=Hd hE;have hX2:=Hd hX;have HG:=Hd (get_text B 0 a k s w E (hE.ext hX) hr (by omega) h2 ha);clear hE hX hr hI hg h2;go_enter Tryz.func157,Tryz.ntmps157
 go_wp2_with fail;refine HG.out.mono ?_;rintro e w2 ⟨rfl,hS⟩;have HS:=Hd hS;have c1:=(hE2.out.at (Ext.trans hX2.out hS)).1;clear hS;simp only[sentV] at c1⊢;go_wp2_with fail;refine wp_region_still_tail 4 (by kernel_rfl) (by kernel_rfl) ?_;simp only[List.take_succ_cons,List.take_zero,List.drop_succ_cons,List.drop_zero];repeat still_step
 refine wpStill_nil ?_;change wpList _ _ _ _ _ w2.drew;go_wp2_with fail;refine (must_no _ (E 0) _).mono ?_;rintro e _ ⟨rfl,rfl⟩;exact⟨rfl,rfl,HS.out.drewN 1⟩
/-- a tree in memory, of a code that is right -/
structure Tree (w:World) (T:Nat) (f:Nat→Int) (len:Nat) (B:Nat):Prop where
 at_:∃v,TAt w T v f len (symA f len 15)∧v.ownBlock≠some B
 good:Inf.good f len
 tb:T≠B
theorem Tree.keep {w w':World} {T len B:Nat} {f:Nat→Int} {S:Nat→Prop} (h:Tree w T f len B) (hk:Keeps S w w') (hT:∀k,k=T∨(∃v,TAt w T v f len (symA f len 15)∧v.ownBlock=some k)→¬ S k):Tree w' T f len B:=by
 obtain⟨⟨v,h1,h2⟩,h3,h4⟩:=h;exact⟨⟨v,h1.kept hk (hT T (.inl rfl)) (fun k q=>hT k (.inr ⟨v,h1,q⟩)),h2⟩,h3,h4⟩
theorem rtree_yes (R len cap:Nat) (x:Option Addr) (f:Nat→Int) (w0 w:World) (E:Nat→Addr) (hE:Errs w0 E) (hX:Ext w0 w) (hI:Ints w x len f) (hg:Inf.good f len):
  Calls Tryz.prog 160 #[.pointer (some ⟨R,0,none⟩),.slice x len cap] w fun e w'=>(∃T v,w.heap.size≤T∧(∀k,v.ownBlock=some k→w.heap.size≤k)∧e=.returned (.pointer (some ⟨T,0,none⟩))∧TAt w' T v f len (symA f len 15))∧Ext w w':=by
 have hE2:=Hd hE;have hX2:=Hd hX;have HG:=Hd (read_good x len cap f w E (hE.ext hX) hI hg.1 hg.2);clear hE hX hI hg;go_enter Tryz.func160,Tryz.ntmps160
 go_wp2_with fail;refine HG.out.mono ?_;rintro e w2 ⟨⟨T,v,h1,h2,rfl,h3⟩,hS⟩;have H1:=Hd h1;have H2:=Hd h2;have H3:=Hd h3;have HS:=Hd hS;have c1:=(hE2.out.at (Ext.trans hX2.out hS)).1;clear hS h1 h2 h3;go_wp2_with fail;refine wp_region_still_tail 4 (by kernel_rfl) (by kernel_rfl) ?_;simp only[List.take_succ_cons,List.take_zero,List.drop_succ_cons,List.drop_zero];repeat still_step
 refine wpStill_nil ?_;change wpList _ _ _ _ _ w2.drew;go_wp2_with fail;refine (must_yes _ _ _).mono ?_;rintro e _ ⟨rfl,rfl⟩;go_wp2_with fail;go_ret;exact⟨⟨T,v,H1.out,H2.out,rfl,H3.out.kept (S:=fun _=>False) ((Keeps.refl _ _).drewN 1) id (fun _ _=>id)⟩,HS.out.drewN 1⟩
theorem rtree_no (R len cap:Nat) (x:Option Addr) (f:Nat→Int) (w0 w:World) (E:Nat→Addr) (hE:Errs w0 E) (hX:Ext w0 w) (hI:Ints w x len f) (hl:len≤maxLen) (hg:¬ Inf.good f len):
  Calls Tryz.prog 160 #[.pointer (some ⟨R,0,none⟩),.slice x len cap] w fun e w'=>e=thrown (E 0)∧Ext w w':=by
 have hE2:=Hd hE;have hX2:=Hd hX;have HG:=Hd (read_no x len cap f w E (hE.ext hX) hI hl hg);clear hE hX hI hg;go_enter Tryz.func160,Tryz.ntmps160
 go_wp2_with fail;refine HG.out.mono ?_;rintro e w2 ⟨⟨k,hk,rfl,hv⟩,hS⟩;have HS:=Hd hS;have c1:=(hE2.out.at (Ext.trans hX2.out hS)).1;clear hS hv;simp only[sentV] at c1⊢;go_wp2_with fail;refine wp_region_still_tail 4 (by kernel_rfl) (by kernel_rfl) ?_;simp only[List.take_succ_cons,List.take_zero,List.drop_succ_cons,List.drop_zero];repeat still_step
 refine wpStill_nil ?_;change wpList _ _ _ _ _ w2.drew;go_wp2_with fail;refine (must_no _ (E 0) _).mono ?_;rintro e _ ⟨rfl,rfl⟩;exact⟨rfl,rfl,HS.out.drewN 1⟩
theorem next_hit {w':World} {e:Ending} {B a a' len k:Nat} {s:ByteArray} {f:Nat→Int} {E:Nat→Addr} (hN:NextIs w' e B 0 s a f len E) (hc:complete f len) (hg:Inf.nxt s.data.toList f len a=.ok (k,a')):e=.returned (.tuple #[.int .i64 (k:Int),.nilIface])∧RAt w' B 0 s a':=by
 obtain⟨n,rfl,h1,h2,h3,h4,h5,h6⟩:=Inf.nxt_ok hg;rw[list_size] at h3;exact next_word hN hc h4 h5 h1 h2 h3 h6.symm
theorem next_miss {w':World} {e:Ending} {B a len c:Nat} {s:ByteArray} {f:Nat→Int} {E:Nat→Addr} (hN:NextIs w' e B 0 s a f len E) (hc:complete f len) (hg:Inf.nxt s.data.toList f len a=.error c):e=.returned (.tuple #[.int .i64 0,sentV (E c)]):=by
 obtain rfl:=Inf.nxt_error hg;rcases hN with⟨n,k,h1,h2,h3,h4,h5,h6,h7,_⟩ | ⟨_,h,_⟩
 ·have:=Inf.nxt_hit (L:=s.data.toList) hc (n:=n) (k:=k) (a:=a) ⟨h1,h2,by rw[list_size];exact h3,h5,h6,h7⟩;rw[hg] at this;cases this
 ·exact h
theorem rnext_yes (R B T a k a' most len:Nat) (f:Nat→Int) (s:ByteArray) (v:Value) (out:List UInt8) (w0 w:World) (E:Nat→Addr) (hE:Errs w0 E) (hX:Ext w0 w) (hB:w0.heap.size≤B) (hI:IAt w R B s a v out most) (ha:a≤8*s.size) (hT:Tree w T f len B) (hg:Inf.nxt s.data.toList f len a=.ok (k,a')):
  Calls Tryz.prog 164 #[.pointer (some ⟨R,0,none⟩),.pointer (some ⟨T,0,none⟩)] w fun e w'=>e=.returned (.int .i64 (k:Int))∧RAt w' B 0 s a'∧RStep w w' B 0:=by
 obtain⟨⟨u,hT1,hT2⟩,hgo,hTB⟩:=hT;have c0:=hI.bk.cell 0;have hE2:=Hd hE;have hX2:=Hd hX;have HG:=Hd (next_any T B 0 a u f len s w0 w E hE hX hB hgo.1.1 hT1 hI.rd ha hTB hT2);have HN:=Hd hg;have HC:=Hd hgo.2;have HB:=Hd hB;clear hE hX hI hg hT1 hT2 hgo hB;go_enter Tryz.func164,Tryz.ntmps164
 go_wp2_with fail;refine HG.out.mono ?_;rintro e w2 ⟨hN,hS⟩;obtain⟨rfl,hR⟩:=next_hit hN HC.out HN.out;have HR:=Hd hR;have HS:=Hd hS;have c1:=(hE2.out.at (hS.after hX2.out HB.out)).1;clear hS hR hN;go_wp2_with fail;refine wp_region_still_tail 4 (by kernel_rfl) (by kernel_rfl) ?_;simp only[List.take_succ_cons,List.take_zero,List.drop_succ_cons,List.drop_zero];repeat still_step
 refine wpStill_nil ?_;change wpList _ _ _ _ _ w2.drew;go_wp2_with fail;refine (must_yes _ _ _).mono ?_;rintro e _ ⟨rfl,rfl⟩;go_wp2_with fail;go_ret;exact⟨rfl,HR.out.drewN 1,HS.out.drewN 1⟩
theorem rnext_no (R B T a c most len:Nat) (f:Nat→Int) (s:ByteArray) (v:Value) (out:List UInt8) (w0 w:World) (E:Nat→Addr) (hE:Errs w0 E) (hX:Ext w0 w) (hB:w0.heap.size≤B) (hI:IAt w R B s a v out most) (ha:a≤8*s.size) (hT:Tree w T f len B) (hg:Inf.nxt s.data.toList f len a=.error c):
  Calls Tryz.prog 164 #[.pointer (some ⟨R,0,none⟩),.pointer (some ⟨T,0,none⟩)] w fun e w'=>e=thrown (E c)∧RStep w w' B 0:=by
 obtain⟨⟨u,hT1,hT2⟩,hgo,hTB⟩:=hT;have c0:=hI.bk.cell 0;obtain rfl:=Inf.nxt_error hg;have hE2:=Hd hE;have hX2:=Hd hX;have HG:=Hd (next_any T B 0 a u f len s w0 w E hE hX hB hgo.1.1 hT1 hI.rd ha hTB hT2);have HN:=Hd hg;have HC:=Hd hgo.2;have HB:=Hd hB;clear hE hX hI hg hT1 hT2 hgo hB;go_enter Tryz.func164,Tryz.ntmps164
 go_wp2_with fail;refine HG.out.mono ?_;rintro e w2 ⟨hN,hS⟩;obtain rfl:=next_miss hN HC.out HN.out;have HS:=Hd hS;have c1:=(hE2.out.at (hS.after hX2.out HB.out)).1;clear hS hN;simp only[sentV] at c1⊢;go_wp2_with fail;refine wp_region_still_tail 4 (by kernel_rfl) (by kernel_rfl) ?_;simp only[List.take_succ_cons,List.take_zero,List.drop_succ_cons,List.drop_zero];repeat still_step
 refine wpStill_nil ?_;change wpList _ _ _ _ _ w2.drew;go_wp2_with fail;refine (must_no _ (E 0) _).mono ?_;rintro e _ ⟨rfl,rfl⟩;exact⟨rfl,rfl,HS.out.drewN 1⟩
theorem app_string_at {P:Program} (w:World) (base:Nat) (t u ty e:TypeId) (i:TypeInfo) (ht:P.underlying t=some (.slice e)) (hu:P.underlying u=some .string) (hi:P.info? e=some i) (hz:i.zero=some (.int .u8 0))
  (hsize:i.size=1) (hby:i.bytes=1) (v:Value) (n:Nat) (xs:List Value) (hown:w.ownsRow base e 1 v n xs) (s:ByteArray) (h63:n+s.size≤maxLen) (hb:n+s.size≤140737488355328) (hbase:base≤w.heap.size):
  ∃v' w',(Builtin.append_ #[t,u] ty #[v,.string s]).run P w=.ok v' w'∧w'.ownsRow base e 1 v' (n+s.size) (xs++Lib.strCells s)∧w.grownBy w' v.ownBlock∧(v'.ownBlock=v.ownBlock∨v'.ownBlock=some w.heap.size):=by
 obtain⟨v',w',hr,h2,h3,h4⟩:=Lib.run_append_own_string (P:=P) w base t u ty e i ht hu hi hz hsize hby v n xs hown s h63 hb hbase;refine⟨v',w',hr,h2,h3,?_⟩;rcases hown.2 with⟨rfl,rfl⟩ | ⟨g,cap,cur,rfl,_,hg,hnc,_,hcs,_⟩
 ·by_cases h0:s.size=0
  ·rw[h4.2 ⟨rfl,h0⟩];exact .inl rfl
  ·have q:=run_append_nil_string (P:=P) w t u ty e i (.int .u8 0) ht hu hi hz s (by omega) (by omega) (by rw[hby];omega);rw[hr] at q;injection q with q1 q2;rw[q1];exact .inr rfl
 ·by_cases hroom:n+s.size≤cap
  ·have q:=Lib.run_append_room_string (P:=P) w t u ty e i ht hu hi hsize g n cap cur hg s hroom (by omega);rw[hr] at q;injection q with q1 q2;rw[q1];exact .inl rfl
  ·have hlo:xs.length=n*i.size:=by rw[hsize];simpa using hown.1
   have q:=Lib.run_append_grow_string (P:=P) w t u ty e i (.int .u8 0) ht hu hi hz ⟨g,0,none⟩ n cap xs hlo (hown.cells (g:=g) rfl) s (by omega) (by simp only[maxLen] at h63;omega) (by rw[hby];exact growslice_fits (by omega) (by omega));rw[hr] at q;injection q with q1 q2;rw[q1];exact .inr rfl
theorem wpList_app_string {P:Program} {w:World} {ops:Array Oper} {rest:List Oper} {o:Oper} {a:Act} {Q:Exit→Act→World→Prop} (hgd:o.guard=none) (sl x:Operand) (t u:TypeId)
  (ho:o.op=.call { callee:=.builtin .append,args:=#[sl,x],argTypes:=#[t,u] }) (base:Nat) (e:TypeId) (i:TypeInfo) (ht:P.underlying t=some (.slice e)) (hu:P.underlying u=some .string) (hi:P.info? e=some i) (hz:i.zero=some (.int .u8 0))
  (hsize:i.size=1) (hby:i.bytes=1) (v:Value) (n:Nat) (xs:List Value) (hs:a.eval sl=v) (hown:w.ownsRow base e 1 v n xs) (s:ByteArray) (hx:a.eval x=.string s) (h63:n+s.size≤maxLen) (hb:n+s.size≤140737488355328) (hbase:base≤w.heap.size)
  (h:∀v' w',w'.ownsRow base e 1 v' (n+s.size) (xs++Lib.strCells s)→w.grownBy w' v.ownBlock→(v'.ownBlock=v.ownBlock∨v'.ownBlock=some w.heap.size)→wpList P ops Q rest (a.put o.dst v') w'):wpList P ops Q (o ::rest) a w:=by
 refine wpList_plain hgd fun K hK=>?_;obtain⟨v',w',hr,h2,h3,h4⟩:=app_string_at (P:=P) w base t u o.type e i ht hu hi hz hsize hby v n xs hown s h63 hb hbase;unfold Oper.wp execOp;simp only[ho,resolve,invoke,builtin,Sem.run_bind,Sem.run_pure,Result.andThen_ok,List.map_toArray,List.map_cons,List.map_nil,hs,hx,hr];exact hK _ _ (h v' w' h2 h3 h4)
end Go.Proofs.YthlibiocadimhaaGreatDoor
namespace Go.Proofs.YthlibiocadimhaaGreatDoor
open Go.RowKit
theorem xor_ones (n:Nat) (hn:n<65536):n ^^^ 65535=65535-n:=by
 have h:=congrArg BitVec.toNat (BitVec.xor_allOnes (x:=BitVec.ofNat 16 n));rw[BitVec.toNat_xor,BitVec.toNat_not,BitVec.toNat_allOnes,BitVec.toNat_ofNat,Nat.mod_eq_of_lt (by omega)] at h;exact h
theorem xor_all (n m:Nat) (hn:n<65536) (hm:m<65536):(bits BinOp.xor IntKind.i64 (n:Int) (m:Int)=65535)↔n+m=65535:=by
 have e:bits BinOp.xor IntKind.i64 (n:Int) (m:Int)=((n ^^^ m:Nat):Int):=by
  show IntKind.i64.wrap ((BitVec.ofInt 64 (n:Int) ^^^ BitVec.ofInt 64 (m:Int)).toNat:Int)=_;have hx:n ^^^ m<2^16:=Nat.xor_lt_two_pow (by omega) (by omega);rw[BitVec.ofInt_natCast,BitVec.ofInt_natCast,BitVec.toNat_xor,BitVec.toNat_ofNat,BitVec.toNat_ofNat,Nat.mod_eq_of_lt (by omega),Nat.mod_eq_of_lt (by omega),IntKind.wrap_i64];omega
 rw[e,show ((n ^^^ m:Nat):Int)=65535↔n ^^^ m=65535 by omega];constructor
 ·intro h;have:m=n ^^^ 65535:=by rw[← h,← Nat.xor_assoc,Nat.xor_self,Nat.zero_xor]
  rw[xor_ones n hn] at this;omega
 ·intro h;have:m=n ^^^ 65535:=by rw[xor_ones n hn];omega
  rw[this,← Nat.xor_assoc,Nat.xor_self,Nat.zero_xor]
/-- what a reader of a text may do with its row: a text is appended -/
theorem IAt.grow {w0 W w':World} {R B a most:Nat} {s t:ByteArray} {v v':Value} {out:List UInt8} (h:IAt w0 R B s a v out most) (hE:Ext w0 W) (hg:W.grownBy w' v.ownBlock) (ho:w'.ownsRow 0 5 1 v' (out.length+t.size) (bytesV out++Lib.strCells t))
  (hat:v'.ownBlock=v.ownBlock∨v'.ownBlock=some W.heap.size):
  Bk w' R #[.pointer (some ⟨B,0,none⟩),v,.int .i64 (most:Int)]∧IAt (w'.setCell ⟨R,1,none⟩ v') R B s a v' (out++t.data.toList) most∧IStep w0 (w'.setCell ⟨R,1,none⟩ v') R B v v':=by
 have h1:=h.ext hE;have hk:=Keeps.grown hg;have hs:=hE.size;have hbk:Bk w' R #[.pointer (some ⟨B,0,none⟩),v,.int .i64 (most:Int)]:=h1.bk.keeps hk h.rv;have hRl:R<w0.heap.size:=h.bk.lt;have hBl:B<w0.heap.size:=h.rd.lt;have hv:∀k,v'.ownBlock=some k→v.ownBlock=some k∨w0.heap.size≤k:=by
  intro k hk;rcases hat with q | q
  ·rw[q] at hk;exact .inl hk
  ·rw[q] at hk;injection hk with hk;exact .inr (by omega)
 have hvR:v'.ownBlock≠some R:=by
  intro e;rcases hv R e with q | q
  ·exact h.rv q
  ·omega
 have hvB:v'.ownBlock≠some B:=by
  intro e;rcases hv B e with q | q
  ·exact h.bv q
  ·omega
 have hK0:Keeps (fun k=>v.ownBlock=some k) w0 w':=(hE.keeps (S:=fun k=>v.ownBlock=some k)).trans hk (fun _ _ q=>q);have h2:RAt w' B 0 s a:=by
  have hb:¬ v.ownBlock=some B:=h.bv;exact⟨(hK0.cell (p:=⟨B,0,none⟩) hBl hb).trans h.rd.c0,(hK0.cell (p:=⟨B,0+1,none⟩) hBl hb).trans h.rd.c1,(hK0.frozen (p:=⟨B,0+1,none⟩) hBl hb).trans h.rd.f1,h.rd.size,h.rd.le⟩
 have hKs:Keeps (fun k=>k=R) w' (w'.setCell ⟨R,1,none⟩ v'):=(Keeps.refl (fun k=>k=R) _).setCell (p:=⟨R,1,none⟩) (.inl rfl) _;have hBl':B<w'.heap.size:=h2.lt;have e:bytesV (out++t.data.toList)=bytesV out++Lib.strCells t:=by rw[strCells_eq];simp[bytesV]
 refine⟨hbk,⟨hbk.set_ 1 _,⟨(hKs.cell (p:=⟨B,0,none⟩) hBl' (fun q=>h.rb q.symm)).trans h2.c0,(hKs.cell (p:=⟨B,0+1,none⟩) hBl' (fun q=>h.rb q.symm)).trans h2.c1,(hKs.frozen (p:=⟨B,0+1,none⟩) hBl' (fun q=>h.rb q.symm)).trans h2.f1,h.rd.size,h.rd.le⟩,?_,h.rb,hvR,hvB⟩,⟨?_,hv⟩⟩
 ·rw[e,List.length_append,list_size];exact ownsRow_setCell_other ho hvR _
 ·exact (hK0.mono (fun _ _ q=>.inr (.inr q))).setCell (.inl (.inl rfl)) _
/-- a reader behind the start of a call -/
structure ISt (w0 w:World) (R B:Nat) (s:ByteArray) (a:Nat) (v:Value) (out:List UInt8) (most:Nat):Prop where
 at_:IAt w R B s a v out most
 old:Ext w0 w
 hR:w0.heap.size≤R
 hB:w0.heap.size≤B
 hv:∀k,v.ownBlock=some k→w0.heap.size≤k
 le:a≤8*s.size
theorem ISt.gone {w0 w w':World} {R B a most:Nat} {s:ByteArray} {v v':Value} {out:List UInt8} (h:ISt w0 w R B s a v out most) (k:IStep w w' R B v v'):Ext w0 w':=
 Below.trans h.old (k.keeps.below h.old.size (fun i hi q=>by
  have:=h.hR;have:=h.hB;rcases q with q | q | q
  ·omega
  ·omega
  ·have:=h.hv i q;omega))
theorem ISt.to {w0 w w':World} {R B a a' most:Nat} {s:ByteArray} {v v':Value} {out out':List UInt8} (h:ISt w0 w R B s a v out most) (hA:IAt w' R B s a' v' out' most) (k:IStep w w' R B v v') (hle:a'≤8*s.size):ISt w0 w' R B s a' v' out' most:=
 ⟨hA,h.gone k,h.hR,h.hB,fun i q=>by
  have:=h.old.size;rcases k.new i q with r | r
  ·exact h.hv i r
  ·omega,hle⟩
theorem ISt.read {w0 w w':World} {R B a a' most:Nat} {s:ByteArray} {v:Value} {out:List UInt8} (h:ISt w0 w R B s a v out most) (hR:RAt w' B 0 s a') (hS:RStep w w' B 0) (hle:a'≤8*s.size):ISt w0 w' R B s a' v out most:=
 h.to (h.at_.read hR hS) (IStep.rd hS) hle
theorem ISt.ext {w0 w w':World} {R B a most:Nat} {s:ByteArray} {v:Value} {out:List UInt8} (h:ISt w0 w R B s a v out most) (hE:Ext w w'):ISt w0 w' R B s a v out most:=
 h.to (h.at_.ext hE) (IStep.ext hE) h.le
/-- a reader on its way: from w, behind w0 -/
structure IGo (w0 w wr:World) (R B:Nat) (s:ByteArray) (a:Nat) (v0 v:Value) (out:List UInt8) (most:Nat):Prop where
 st:ISt w0 wr R B s a v out most
 step:IStep w wr R B v0 v
section
variable {w0 w wr w':World} {R B a a' most:Nat} {s:ByteArray} {v0 v v':Value} {out out':List UInt8}
theorem IGo.old (h:IGo w0 w wr R B s a v0 v out most):Ext w0 wr:=h.st.old
theorem IGo.ext (h:IGo w0 w wr R B s a v0 v out most) (hE:Ext wr w'):IGo w0 w w' R B s a v0 v out most:=⟨h.st.ext hE,h.step.trans (IStep.ext hE)⟩
theorem IGo.read (h:IGo w0 w wr R B s a v0 v out most) (hR:RAt w' B 0 s a') (hS:RStep wr w' B 0) (hle:a'≤8*s.size):IGo w0 w w' R B s a' v0 v out most:=⟨h.st.read hR hS hle,h.step.trans (IStep.rd hS)⟩
theorem IGo.to (h:IGo w0 w wr R B s a v0 v out most) (hA:IAt w' R B s a' v' out' most) (k:IStep wr w' R B v v') (hle:a'≤8*s.size):IGo w0 w w' R B s a' v0 v' out' most:=⟨h.st.to hA k hle,h.step.trans k⟩
theorem IGo.start (h:ISt w0 w R B s a v out most):IGo w0 w w R B s a v v out most:=⟨h,IStep.refl _ _ _ _⟩
theorem IGo.bk (h:IGo w0 w wr R B s a v0 v out most):Bk wr R #[.pointer (some ⟨B,0,none⟩),v,.int .i64 (most:Int)]:=h.st.at_.bk
theorem IGo.row (h:IGo w0 w wr R B s a v0 v out most):wr.ownsRow 0 5 1 v out.length (bytesV out):=h.st.at_.row
end
theorem get_le {L:List UInt8} {k a n a':Nat} (h:Inf.get L k a=.ok (n,a')):a'≤8*L.length:=by
 obtain⟨rfl,h,_⟩:=Inf.get_ok h;exact h
def IPost (w0 w:World) (R B:Nat) (s:ByteArray) (most:Nat) (v:Value) (E:Nat→Addr) (r:Except Nat (Nat × List UInt8)) (e:Ending) (w':World):Prop:=
 match r with
 | .ok (a,out)=>e=.returned (.tuple #[])∧∃v',IGo w0 w w' R B s a v v' out most
 | .error c=>e=thrown (E c)∧Ext w0 w'
theorem ipost_ok {w0 w w':World} {R B a most:Nat} {s:ByteArray} {v v':Value} {E:Nat→Addr} {out:List UInt8} {r:Except Nat (Nat × List UInt8)} (hr:.ok (a,out)=r) (h:IGo w0 w w' R B s a v v' out most):IPost w0 w R B s most v E r (.returned (.tuple #[])) w':=by
 subst hr;exact⟨rfl,v',h⟩
theorem ipost_error {w0 w w':World} {R B c most:Nat} {s:ByteArray} {v:Value} {E:Nat→Addr} {r:Except Nat (Nat × List UInt8)} (hr:.error c=r) (h:Ext w0 w'):IPost w0 w R B s most v E r (thrown (E c)) w':=by
 subst hr;exact⟨rfl,h⟩
theorem err_cells {w0 w:World} {E:Nat→Addr} (hE:Errs w0 E) (hX:Ext w0 w):w.cell? ⟨1,0,none⟩=some (.iface 275 (.pointer (some (E 0))))∧w.cell? ⟨2,0,none⟩=some (.iface 275 (.pointer (some (E 1)))):=hE.at hX
theorem gget_yes (R B a k n a' most:Nat) (s:ByteArray) (v0 v:Value) (out:List UInt8) (w0 w wr:World) (E:Nat→Addr) (hE:Errs w0 E) (hI:IGo w0 w wr R B s a v0 v out most) (hk:k≤16) (hg:Inf.get s.data.toList k a=.ok (n,a')):
  Calls Tryz.prog 157 #[.pointer (some ⟨R,0,none⟩),.int .i64 (k:Int)] wr fun e w'=>e=.returned (.int .i64 (n:Int))∧IGo w0 w w' R B s a' v0 v out most∧RStep wr w' B 0:=by
 refine (rget_yes R B a k n s v out most w0 wr E hE hI.old hI.st.hB hI.st.at_ hk a' hg).mono ?_;rintro e w' ⟨rfl,h1,h2⟩;have:=get_le hg;rw[list_size] at this;exact⟨rfl,hI.read h1 h2 this,h2⟩
theorem gget_no (R B a k c most:Nat) (s:ByteArray) (v0 v:Value) (out:List UInt8) (w0 w wr:World) (E:Nat→Addr) (hE:Errs w0 E) (hI:IGo w0 w wr R B s a v0 v out most) (hk:k≤16) (hg:Inf.get s.data.toList k a=.error c):
  Calls Tryz.prog 157 #[.pointer (some ⟨R,0,none⟩),.int .i64 (k:Int)] wr fun e w'=>e=thrown (E c)∧Ext w0 w':=by
 refine (rget_no R B a k c s v out most w0 wr E hE hI.old hI.st.at_ hk hI.st.le hg).mono ?_;rintro e w' ⟨rfl,h1⟩;exact⟨rfl,hI.st.gone (IStep.ext h1)⟩
end Go.Proofs.YthlibiocadimhaaGreatDoor
