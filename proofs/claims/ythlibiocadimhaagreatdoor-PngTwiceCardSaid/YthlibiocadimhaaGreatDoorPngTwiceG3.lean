/-
  A writer of bits: what its memory says (a number and how many bits), and the contract of 'one'.
  A row done and undone: the plain law, and the contracts of do, Do, Undo.
  Undo of a row, and rows that neither is done nor undone.
  Bits as texts of '0' and '1'. No program in sight.
  The document's bits: Byte, Low, High.
  The document's rows by their kinds.
  The document's rows, done and undone.
  Four of the package's errors, for a statement that lists no more: put in the place of Errs (merge.py, bb.py: ALIAS=Errs:Errs4).
  The best kind of a row.
  Rows of a text, done by their best kinds, and back: the plain law. No function of the program is named.
  filter.Rows, filter.Back.
-/
import Derived.Test.YthlibiocadimhaaGreatDoorPngTwiceG1
import Derived.Test.YthlibiocadimhaaGreatDoorPngTwiceG2
import Derived.StillTailTactics
import Derived.Deep.AppendLies
import Derived.Deep.RegionHeld3
import Derived.Outline
import Derived.RegionTactic
set_option linter.unusedSimpArgs false
set_option linter.unusedVariables false
set_option maxRecDepth 100000
namespace Go.Proofs.YthlibiocadimhaaGreatDoor
open Go.RowKit
def bytesV (l:List UInt8):List Value:=l.map fun b=>Value.int .u8 (b.toNat:Int)
structure WAt (w:World) (B o:Nat) (v:Value) (V n:Nat):Prop where
 c0:w.cell? ⟨B,o,none⟩=some v
 c1:w.cell? ⟨B,o+1,none⟩=some (.int .i64 (n:Int))
 f0:w.frozen? ⟨B,o,none⟩=false
 f1:w.frozen? ⟨B,o+1,none⟩=false
 row:∃l:List UInt8,l.length=(n+7)/8∧Crc.num l=V∧w.ownsRow 0 5 1 v l.length (bytesV l)
 apart:v.ownBlock≠some B
 lt:V<2^n
structure WStep (w w':World) (B o:Nat) (v v':Value):Prop where
 keeps:Keeps (fun k=>k=B∨v.ownBlock=some k) w w'
 cells:∀j,j≠o→j≠o+1→w'.cell? ⟨B,j,none⟩=w.cell? ⟨B,j,none⟩
 marks:∀j,w'.frozen? ⟨B,j,none⟩=w.frozen? ⟨B,j,none⟩
 new:∀k,v'.ownBlock=some k→v.ownBlock=some k∨w.heap.size≤k
theorem WStep.refl (w:World) (B o:Nat) (v:Value):WStep w w B o v v:=⟨Keeps.refl _ _,fun _ _ _=>rfl,fun _=>rfl,fun _ h=>.inl h⟩
theorem WStep.trans {a b c:World} {B o:Nat} {u v x:Value} (h:WStep a b B o u v) (k:WStep b c B o v x):WStep a c B o u x:=by
 refine⟨h.keeps.trans k.keeps ?_,fun j h1 h2=>(k.cells j h1 h2).trans (h.cells j h1 h2),fun j=>(k.marks j).trans (h.marks j),?_⟩
 ·intro i hi q;rcases q with q | q
  ·exact .inl q
  ·rcases h.new i q with r | r
   ·exact .inr r
   ·omega
 ·intro i q;rcases k.new i q with r | r
  ·exact h.new i r
  ·have:=h.keeps.size;exact .inr (by omega)
theorem bytesV_length (l:List UInt8):(bytesV l).length=l.length:=by simp[bytesV]
theorem bytesV_get (l:List UInt8) (j:Nat) (h:j<l.length):(bytesV l)[j]? =some (.int .u8 (l[j].toNat:Int)):=by simp[bytesV,h]
theorem bytesV_set (l:List UInt8) (j:Nat) (c:UInt8):(bytesV l).set j (.int .u8 (c.toNat:Int))=bytesV (l.set j c):=by simp[bytesV,List.map_set]
theorem num_append_zero (l:List UInt8):Crc.num (l ++ [0])=Crc.num l:=by
 induction l with
 | nil=>rfl
 | cons b l ih=>show b.toNat+256*Crc.num (l ++ [0])=_;rw[ih];rfl
/-- a bit laid on top of a number that does not reach so far -/
theorem xor_top (V n b:Nat) (hV:V<2^n):V ^^^ b*2^n=V+b*2^n:=by
 have h:=Nat.two_pow_add_eq_or_of_lt (i:=n) (b:=V) hV b;have h2:V+b*2^n=V ||| b*2^n:=by rw[Nat.add_comm,Nat.mul_comm,h,Nat.or_comm]
 rw[h2];apply Nat.eq_of_testBit_eq;intro i;rw[Nat.testBit_xor,Nat.testBit_or,Nat.mul_comm,Nat.testBit_two_pow_mul];by_cases hi:n≤i
 ·rw[Nat.testBit_lt_two_pow (Nat.lt_of_lt_of_le hV (Nat.pow_le_pow_right (by decide) hi))];simp
 ·simp[hi]
theorem num_byte (l:List UInt8):∀(j:Nat) (h:j<l.length),l[j].toNat=Crc.num l/256^j%256:=by
 induction l with
 | nil=>intro j h;simp at h
 | cons b l ih=>
  intro j h;have hb:b.toNat<256:=b.toNat_lt;cases j with
  | zero=>show b.toNat=(b.toNat+256*Crc.num l)/1%256;omega
  | succ j=>
   simp only[List.getElem_cons_succ];rw[ih j (by simpa using h),Nat.pow_succ,Nat.mul_comm,← Nat.div_div_eq_div_mul];show _=(b.toNat+256*Crc.num l)/256/256^j%256;congr 2;omega
theorem or_byte (x b t:Nat) (hx:x<2^t) (hb:b≤1) (ht:t<8):∃c:UInt8,c.toNat=x ^^^ b*2^t∧bits BinOp.or IntKind.u8 (x:Int) (((b*2^t:Nat):Int))=(c.toNat:Int):=by
 have h2:2^t≤2^7:=Nat.pow_le_pow_right (by decide) (by omega);have h3:b*2^t≤2^t:=by
  rcases (show b=0∨b=1 by omega) with h | h <;> subst h <;> omega
 have hlt:x ^^^ b*2^t<2^8:=Nat.xor_lt_two_pow (by omega) (by omega);have hc:(UInt8.ofNat (x ^^^ b*2^t)).toNat=x ^^^ b*2^t:=by rw[UInt8.toNat_ofNat'];exact Nat.mod_eq_of_lt hlt
 refine⟨UInt8.ofNat (x ^^^ b*2^t),hc,?_⟩;rw[hc,u8_or_nat _ _ (by omega) (by omega),xor_top x t b hx];have h:=Nat.two_pow_add_eq_or_of_lt (i:=t) (b:=x) hx b;rw[show x+b*2^t=2^t*b+x by rw[Nat.mul_comm,Nat.add_comm],h,Nat.mul_comm,Nat.or_comm]
/-- a bit more in the last byte: the memory behind it -/
theorem one_mem (w:World) (B o g cap n V b:Nat) (l:List UInt8) (hl:l.length=n/8+1) (hV:Crc.num l=V) (hlt:V<2^n) (hb:b≤1) (hne:g≠B)
  (c0:w.cell? ⟨B,o,none⟩=some (.slice (some ⟨g,0,none⟩) l.length cap)) (c1:w.cell? ⟨B,o+1,none⟩=some (.int .i64 (n:Int))) (f0:w.frozen? ⟨B,o,none⟩=false) (f1:w.frozen? ⟨B,o+1,none⟩=false)
  (hown:w.ownsRow 0 5 1 (.slice (some ⟨g,0,none⟩) l.length cap) l.length (bytesV l)) (hj:l.length-1<l.length) (x:Int)
  (hx:x=bits BinOp.or IntKind.u8 ((l[l.length-1].toNat:Nat):Int) ((b:Int)*2^(n%8)%256)):
  WAt ((w.setCell ⟨g,l.length-1,none⟩ (.int .u8 x)).setCell ⟨B,o+1,none⟩ (.int .i64 ((n:Int)+1))).drew B o (.slice (some ⟨g,0,none⟩) l.length cap) (V+b*2^n) (n+1)∧
   WStep w ((w.setCell ⟨g,l.length-1,none⟩ (.int .u8 x)).setCell ⟨B,o+1,none⟩ (.int .i64 ((n:Int)+1))).drew B o (.slice (some ⟨g,0,none⟩) l.length cap) (.slice (some ⟨g,0,none⟩) l.length cap):=by
 have ht:n%8<8:=by omega
 have hsm:l[l.length-1].toNat<2^(n%8):=by
  rw[num_byte l _ hj];have e:n=8*(l.length-1)+n%8:=by omega
  have h2:Crc.num l/256^(l.length-1)<2^(n%8):=by
   rw[show (256:Nat)=2^8 from rfl,← Nat.pow_mul];refine Nat.div_lt_of_lt_mul ?_;rw[← Nat.pow_add,← e,hV];exact hlt
  exact Nat.lt_of_le_of_lt (Nat.mod_le _ _) h2
 obtain⟨c,hc1,hc2⟩:=or_byte l[l.length-1].toNat b (n%8) hsm hb ht;have hpow:2^(n%8)≤2^7:=Nat.pow_le_pow_right (by decide) (by omega);have hm:(b:Int)*2^(n%8)%256=((b*2^(n%8):Nat):Int):=by
  have h3:b*2^(n%8)<256:=by
   rcases (show b=0∨b=1 by omega) with h | h <;> subst h <;> omega
  rw[show (b:Int)*2^(n%8)=((b*2^(n%8):Nat):Int) by simp];omega
 rw[hm,hc2] at hx;subst hx;obtain⟨st1,st2⟩:=hown.stored (l.length-1) (.int .u8 (c.toNat:Int));rw[bytesV_set] at st1;have a1:(⟨g,l.length-1,none⟩:Addr)≠⟨B,o,none⟩:=by intro e;injection e with e1;exact hne e1
 have a2:(⟨g,l.length-1,none⟩:Addr)≠⟨B,o+1,none⟩:=by intro e;injection e with e1;exact hne e1
 have a3:(⟨B,o+1,none⟩:Addr)≠⟨B,o,none⟩:=by intro e;injection e with _ e2;omega
 have d0:=(World.cell?_setCell_other w _ _ (.int .u8 (c.toNat:Int)) a1).trans c0;have d1:=(World.cell?_setCell_other w _ _ (.int .u8 (c.toNat:Int)) a2).trans c1;refine⟨⟨?_,?_,?_,?_,⟨l.set (l.length-1) c,?_,?_,?_⟩,?_,?_⟩,⟨?_,?_,?_,?_⟩⟩
 ·exact (World.cell?_setCell_other _ _ _ _ a3).trans d0
 ·exact World.cell?_setCell_same _ _ _ d1
 ·show World.frozen? (World.setCell _ _ _) _=_;rw[World.frozen?_setCell,World.frozen?_setCell];exact f0
 ·show World.frozen? (World.setCell _ _ _) _=_;rw[World.frozen?_setCell,World.frozen?_setCell];exact f1
 ·rw[List.length_set];omega
 ·have e1:l[l.length-1].toNat ^^^ c.toNat=b*2^(n%8):=by rw[hc1,← Nat.xor_assoc,Nat.xor_self,Nat.zero_xor]
  rw[Crc.num_set l _ c hj,e1,hV,Nat.mul_assoc,show (256:Nat)=2^8 from rfl,← Nat.pow_mul,← Nat.pow_add,show n%8+8*(l.length-1)=n by omega,xor_top V n b hlt]
 ·rw[List.length_set];exact ownsRow_setCell_other st1 (by intro e;exact hne (Option.some.inj e)) _
 ·intro e;exact hne (Option.some.inj e)
 ·rw[Nat.pow_succ];rcases (show b=0∨b=1 by omega) with h | h <;> subst h <;> omega
 ·exact ((Keeps.refl _ w).setCell (.inl (.inr rfl)) _ |>.setCell (.inl (.inl rfl)) _).drew
 ·intro j h1 h2;have b1:(⟨B,o+1,none⟩:Addr)≠⟨B,j,none⟩:=by intro e;injection e with _ e2;exact h2 e2.symm
  have b2:(⟨g,l.length-1,none⟩:Addr)≠⟨B,j,none⟩:=by intro e;injection e with e1;exact hne e1
  exact (World.cell?_setCell_other _ _ _ _ b1).trans (World.cell?_setCell_other _ _ _ _ b2)
 ·intro j;show World.frozen? (World.setCell _ _ _) _=_;rw[World.frozen?_setCell,World.frozen?_setCell]
 ·intro k hk;exact .inl hk
theorem u8info:(Tryz.prog.info? 5).map (fun i=>(i.zero,i.size,i.bytes))=some (some (.int .u8 0),1,1):=by kernel_rfl
set_option maxRecDepth 100000 in
set_option maxHeartbeats 1000000 in
/-- within a byte -/
theorem one_in (B o n V b:Nat) (v:Value) (w:World) (hW:WAt w B o v V n) (hb:b≤1) (hn:n<1099511627776) (h8:n%8≠0):
  Calls Tryz.prog 144 #[.pointer (some ⟨B,o,none⟩),.int .u32 (b:Int)] w fun e w'=>e=.returned (.tuple #[])∧∃v',WAt w' B o v' (V+b*2^n) (n+1)∧WStep w w' B o v v':=by
 obtain⟨c0,c1,f0,f1,⟨l,hl,hV,hown⟩,hap,hlt⟩:=hW;have hpos:0<l.length:=by omega
 obtain⟨g,cap,rfl,hcap,hg⟩:=ownsRow_some hown hpos;have hj:l.length-1<l.length:=by omega
 have hcell:w.cell? ⟨g,l.length-1,none⟩=some (.int .u8 (l[l.length-1].toNat:Int)):=by
  rw[hown.cellAt _ (by omega),bytesV_get l _ hj]
 have hfr:=hown.frozenAt (l.length-1);have hne:g≠B:=fun e=>hap (by rw[e];rfl);have hq:((n:Int)%8 ==0)=false:=by rw[beq_eq_false_iff_ne];omega
 have H8:=Hd h8;have HL:=Hd hl;have HV:=Hd hV;have hlen:(l.length:Int)≤1099511627776:=by omega
 have hlen1:(1:Int)≤(l.length:Int):=by omega
 clear h8 hl hV;go_enter Tryz.func144,Tryz.ntmps144
 go_wp2
 go_region;go_wp2
 go_end0;refine⟨rfl,.slice (some ⟨g,0,none⟩) l.length cap,?_⟩;exact one_mem w B o g cap n V b l (by have:=HL.out;have:=H8.out;omega) HV.out hlt hb hne c0 c1 f0 f1 hown hj _ rfl
set_option maxRecDepth 100000 in
set_option maxHeartbeats 1000000 in
/-- a new byte -/
theorem one_new (B o n V b:Nat) (v:Value) (w:World) (hW:WAt w B o v V n) (hb:b≤1) (hn:n<1099511627776) (h8:n%8=0):
  Calls Tryz.prog 144 #[.pointer (some ⟨B,o,none⟩),.int .u32 (b:Int)] w fun e w'=>e=.returned (.tuple #[])∧∃v',WAt w' B o v' (V+b*2^n) (n+1)∧WStep w w' B o v v':=by
 obtain⟨c0,c1,f0,f1,⟨l,hl,hV,hown⟩,hap,hlt⟩:=hW;have hB:B<w.heap.size:=World.block_lt_of_cell? w _ c0;have hq:((n:Int)%8 ==0)=true:=by rw[beq_iff_eq];omega
 obtain⟨i0,hi,hz0,hz1,hz2⟩:=info_parts u8info;have H8:=Hd h8;have HL:=Hd hl;have HV:=Hd hV;have hlen:l.length≤1099511627776:=by omega
 clear h8 hl hV;go_enter Tryz.func144,Tryz.ntmps144
 go_wp2_with (at_builtin;refine wpList_append_own_at _ rfl _ _ 62 rfl 0 5 i0 (.int .u8 0) 1 1 Tryz.underlying62 hi hz0 hz1 hz2 rfl (by decide) _ _ _ rfl (hown.alloc _) ⟨w.heap.size,0,none⟩ 1 1 [.int .u8 0] rfl rfl ?c1 ?c2 ?c3 ?c4 ?c5 ?_)
 case c1=>exact (cell_one_new _ _ _)
 case c2=>intro u hu;simp at hu;subst hu;rfl
 case c3=>unfold maxLen;omega
 case c4=>omega
 case c5=>simp
 intro v' w' hown' hgrow _ hat;have K:Keeps (fun k=>v.ownBlock=some k) w w':=((Keeps.refl _ w).alloc _).trans (Keeps.grown hgrow) (fun _ _ q=>q);have hsz:w.heap.size+1≤w'.heap.size:=by have:=hgrow.size;simpa using this
 have e0:w'.cell? ⟨B,o,none⟩=some v:=(K.cell hB hap).trans c0;have e1:w'.cell? ⟨B,o+1,none⟩=some (.int .i64 (n:Int)):=(K.cell hB hap).trans c1;have z0:w'.frozen? ⟨B,o,none⟩=false:=(K.frozen hB hap).trans f0;have z1:w'.frozen? ⟨B,o+1,none⟩=false:=(K.frozen hB hap).trans f1;have hnew:∀k,v'.ownBlock=some k→v.ownBlock=some k∨w.heap.size≤k:=by
  intro k hk;rcases hat with q | q
  ·rw[q] at hk;exact .inl hk
  ·rw[q] at hk;injection hk with hk;have:w.heap.size≤(w.alloc (.cells #[.int .u8 0] 5)).heap.size:=by simp
   exact .inr (by omega)
 have hap':v'.ownBlock≠some B:=fun e=>by rcases hnew B e with q | q;exact hap q;omega
 have hown2:w'.ownsRow 0 5 1 v' (l ++ [0]).length (bytesV (l ++ [0])):=by
  have q:=hown';simp only[bytesV,List.map_append,List.length_append] at q⊢;exact q
 obtain⟨g,cap,hv,hcap,hg⟩:=ownsRow_some hown2 (by simp);have HP:Hid (w'.ownsRow 0 5 1 v' (l ++ [0]).length (bytesV (l ++ [0]))∧v'.ownBlock≠some B∧∀k,v'.ownBlock=some k→v.ownBlock=some k∨w.heap.size≤k):=⟨hown2,hap',hnew⟩;have ST:WStep w (w'.setCell ⟨B,o,none⟩ v') B o v v':=by
  refine⟨(K.mono fun _ _ q=>.inr q).setCell (.inl (.inl rfl)) _,?_,?_,hnew⟩
  ·intro j h1 h2;refine (World.cell?_setCell_other _ _ _ _ (by intro e;injection e with _ e2;exact h1 e2.symm)).trans (K.cell hB hap)
  ·intro j;rw[World.frozen?_setCell];exact K.frozen hB hap
 have HST:=Hd ST;clear ST;clear hown' hgrow hown2 hap' hnew hat K c0 c1 f0 f1;rw[hv] at HP HST⊢;clear hv;obtain⟨hown3,hap3,hnew3⟩:=HP.out;have hne:g≠B:=fun e=>hap3 (by rw[e];rfl);have eL:(l ++ [0]).length=l.length+1:=by simp
 rw[eL] at hown3 HST;go_wp2
 have a1:(⟨B,o,none⟩:Addr)≠⟨B,o+1,none⟩:=by intro e;injection e with _ e2;omega
 have y0:(w'.setCell ⟨B,o,none⟩ (.slice (some ⟨g,0,none⟩) (l.length+1) cap)).cell? ⟨B,o,none⟩=some (.slice (some ⟨g,0,none⟩) (l.length+1) cap):=World.cell?_setCell_same _ _ _ e0;have y1:(w'.setCell ⟨B,o,none⟩ (.slice (some ⟨g,0,none⟩) (l.length+1) cap)).cell? ⟨B,o+1,none⟩=some (.int .i64 (n:Int)):=(World.cell?_setCell_other _ _ _ _ a1).trans e1;have x0:(w'.setCell ⟨B,o,none⟩ (.slice (some ⟨g,0,none⟩) (l.length+1) cap)).frozen? ⟨B,o,none⟩=false:=by rw[World.frozen?_setCell];exact z0
 have x1:(w'.setCell ⟨B,o,none⟩ (.slice (some ⟨g,0,none⟩) (l.length+1) cap)).frozen? ⟨B,o+1,none⟩=false:=by rw[World.frozen?_setCell];exact z1
 have hown4:(w'.setCell ⟨B,o,none⟩ (.slice (some ⟨g,0,none⟩) (l.length+1) cap)).ownsRow 0 5 1 (.slice (some ⟨g,0,none⟩) (l.length+1) cap) (l.length+1) (bytesV (l ++ [0])):=ownsRow_setCell_other hown3 (by intro e;exact hne (Option.some.inj e)) _;clear a1 e0 e1 z0 z1 hown3 hsz;generalize (w'.setCell ⟨B,o,none⟩ (.slice (some ⟨g,0,none⟩) (l.length+1) cap))=w2 at *;have hj:l.length<(l ++ [0]).length:=by omega
 have hcell:w2.cell? ⟨g,l.length,none⟩=some (.int .u8 ((l ++ [0])[l.length].toNat:Int)):=by
  rw[hown4.cellAt _ (by omega),bytesV_get (l ++ [0]) _ hj]
 have hfr:=hown4.frozenAt l.length;have hlenI:(l.length:Int)≤1099511627776:=by omega
 have HE:=Hd eL;clear eL;go_wp2
 go_region;go_wp2
 go_end0;refine⟨rfl,.slice (some ⟨g,0,none⟩) (l.length+1) cap,?_⟩;have q:=one_mem w2 B o g cap n V b (l ++ [0]) (by rw[HE.out,HL.out];have:=H8.out;omega) (by rw[num_append_zero];exact HV.out) hlt hb hne (by rw[HE.out];exact y0) y1 x0 x1 (by rw[HE.out];exact hown4) (by rw[HE.out];omega)
  (bits BinOp.or IntKind.u8 0 ((b:Int)*2^(n%8)%256)) (by simp)
 simp only[HE.out,Nat.add_sub_cancel] at q;exact⟨q.1,HST.out.trans q.2⟩
/-- one bit more, whatever it is: only whether the number is odd counts -/
theorem one_calls (B o n V b:Nat) (v:Value) (w:World) (hW:WAt w B o v V n) (hb:b≤1) (hn:n<1099511627776):
  Calls Tryz.prog 144 #[.pointer (some ⟨B,o,none⟩),.int .u32 (b:Int)] w fun e w'=>e=.returned (.tuple #[])∧∃v',WAt w' B o v' (V+b*2^n) (n+1)∧WStep w w' B o v v':=by
 by_cases h:n%8=0
 ·exact one_new B o n V b v w hW hb hn h
 ·exact one_in B o n V b v w hW hb hn h
def preF (l:List UInt8) (step i:Nat):Nat:=if step≤i then (l.getD (i-step) 0).toNat else 0
theorem preF_lt (l:List UInt8) (step i:Nat):preF l step i<256:=by unfold preF;split;exact UInt8.toNat_lt _;decide
def doB (k:Int) (row ahead:List UInt8) (step i:Nat):UInt8:=row.getD i 0-UInt8.ofNat (fore k (preF row step i) (ahead.getD i 0).toNat (preF ahead step i))
def doL (k:Int) (row ahead:List UInt8) (step:Nat):List UInt8:=(List.range row.length).map fun i=>doB k row ahead step i
def undoL (k:Int) (row ahead:List UInt8) (step:Nat):Nat→List UInt8
 | 0=> []
 | n+1=>undoL k row ahead step n ++ [row.getD n 0+UInt8.ofNat (fore k (preF (undoL k row ahead step n) step n) (ahead.getD n 0).toNat (preF ahead step n))]
theorem undoL_length (k:Int) (row ahead:List UInt8) (step n:Nat):(undoL k row ahead step n).length=n:=by
 induction n with
 | zero=>rfl
 | succ n ih=>simp[undoL,ih]
theorem doL_length (k:Int) (row ahead:List UInt8) (step:Nat):(doL k row ahead step).length=row.length:=by simp[doL]
theorem doL_getD (k:Int) (row ahead:List UInt8) (step i:Nat) (h:i<row.length):(doL k row ahead step).getD i 0=doB k row ahead step i:=by simp[doL,List.getD,h]
theorem getD_append_left (l m:List UInt8) (i:Nat) (h:i<l.length):(l++m).getD i 0=l.getD i 0:=by simp[List.getD,List.getElem?_append_left h]
theorem preF_append (l m:List UInt8) (step i:Nat) (hs:1≤step) (h:i≤l.length):preF (l++m) step i=preF l step i:=by
 unfold preF;split
 ·by_cases hl:i-step<l.length
  ·rw[getD_append_left l m _ hl]
  ·omega
 ·rfl
theorem undo_do (k:Int) (row ahead:List UInt8) (step:Nat) (hs:1≤step):∀n,n≤row.length→undoL k (doL k row ahead step) ahead step n=row.take n:=by
 intro n;induction n with
 | zero=>intro _;rfl
 | succ n ih=>
  intro h;have h1:=ih (by omega);show undoL k (doL k row ahead step) ahead step n ++ [_]=_;rw[h1,doL_getD k row ahead step n (by omega)];have h2:preF row step n=preF (row.take n) step n:=by
   have:=preF_append (row.take n) (row.drop n) step n hs (by rw[List.length_take];omega);rwa [List.take_append_drop] at this
  unfold doB;rw[h2,UInt8.sub_add_cancel,List.take_succ_eq_append_getElem (by omega)];simp[List.getD,show n<row.length by omega]
theorem sub_spell (x:UInt8) (f:Nat):((x.toNat:Int)-f)%256=((x-UInt8.ofNat f).toNat:Int):=by
 rw[UInt8.toNat_sub,UInt8.toNat_ofNat'];have:=x.toNat_lt;omega
theorem add_spell (x:UInt8) (f:Nat):((x.toNat:Int)+f)%256=((x+UInt8.ofNat f).toNat:Int):=by
 rw[UInt8.toNat_add,UInt8.toNat_ofNat'];have:=x.toNat_lt;omega
theorem at_pre (s:ByteArray) (step i:Nat) (w:World) (h1:step≤8) (h2:i≤1099511627776):
  Calls Tryz.prog 115 #[.string s,.int .i64 ((i:Int)-step)] w fun e w'=>e=.returned (.int .u8 (preF s.data.toList step i:Int))∧w=w':=by
 refine (fat_calls s _ w (by omega) (by omega)).mono ?_;rintro e w' ⟨rfl,rfl⟩;refine⟨ret_int ?_,rfl⟩;unfold preF;by_cases h:step≤i
 ·rw[if_pos (by omega),if_pos h,show ((i:Int)-step).toNat=i-step by omega]
 ·rw[if_neg (by omega),if_neg h];rfl
theorem at_here (s:ByteArray) (i:Nat) (w:World) (h2:i≤1099511627776):
  Calls Tryz.prog 115 #[.string s,.int .i64 (i:Int)] w fun e w'=>e=.returned (.int .u8 ((s.data.toList.getD i 0).toNat:Int))∧w=w':=by
 refine (fat_calls s _ w (by omega) (by omega)).mono ?_;rintro e w' ⟨rfl,rfl⟩;exact⟨ret_int (by rw[if_pos (by omega)];rfl),rfl⟩
theorem row_at (s:ByteArray) (i:Nat) (h:i<s.size):s[i]=s.data.toList.getD i 0:=by
 have h':i<s.data.toList.length:=by simpa using h
 rw[List.getD,List.getElem?_eq_getElem h'];simp;rfl
theorem byteinfo:(Tryz.prog.info? 5).map (fun i=>(i.zero,i.size,i.bytes))=some (some (.int .u8 0),1,1):=by kernel_rfl
theorem do_calls (k:Int) (row ahead:ByteArray) (step:Nat) (w:World) (h1: -9223372036854775808≤k) (h2:k≤9223372036854775807) (h3:step≤8) (hr:row.size≤1099511627776):
  Calls Tryz.prog 85 #[.int .i64 k,.string row,.string ahead,.int .i64 (step:Int)] w fun e w'=>∃B,w.heap.size≤B∧e=.returned (.slice (some ⟨B,0,none⟩) row.size row.size)∧Cs w' B row.size .u8 (fun i=>((doB k row.data.toList ahead.data.toList step i).toNat:Int))∧Ext w w':=by
 have hmk:=run_make_row' (P:=Tryz.prog) 62 5 (.int .u8 0) 1 Tryz.underlying62 byteinfo rfl .i64 .i64 row.size (by omega) (by omega);go_enter Tryz.func85,Tryz.ntmps85
 go_wp2_with fail;rw[made_eq];clear hmk;have H1:=Hd (Cs.born w .u8 row.size (fun _=>0) 5);have H2:=Hd ((Ext.refl w).alloc (.cells (cellsI .u8 row.size fun _=>0) 5));generalize (w.alloc (.cells (cellsI .u8 row.size fun _=>0) 5))=w2 at *;go_loopw [10,16] (fun _ v wr=>∃i:Nat,i≤row.size∧v=.int .i64 i∧Hid (Cs wr w.heap.size row.size .u8 (fun j=>if j<i then ((doB k row.data.toList ahead.data.toList step j).toNat:Int) else 0))∧Hid (Ext w wr)) (fun _ v _=>row.size-(intOf v).toNat)
 case atStart=>exact⟨0,by omega,rfl,Hd (H1.out.congr fun j hj=>by rw[if_neg (by omega)]),H2⟩
 case round=>
  obtain⟨i,hi,rfl,HC,HE⟩:=hrel;by_cases hlt:i<row.size
  ·obtain⟨c1,c2⟩:=HC.out i hlt;have A1:=fun w=>at_pre row step i w h3 (by omega);have A2:=fun w=>at_here ahead i w (by omega);have A3:=fun w=>at_pre ahead step i w h3 (by omega);have A4:=fun w=>foretell_calls k (preF row.data.toList step i) (ahead.data.toList.getD i 0).toNat (preF ahead.data.toList step i) w h1 h2 (preF_lt _ _ _) (UInt8.toNat_lt _) (preF_lt _ _ _);have l4:=fore_lt k (preF row.data.toList step i) (ahead.data.toList.getD i 0).toNat (preF ahead.data.toList step i) (preF_lt _ _ _) (UInt8.toNat_lt _) (preF_lt _ _ _);have hv:doB k row.data.toList ahead.data.toList step i=row.data.toList.getD i 0-UInt8.ofNat (fore k (preF row.data.toList step i) (ahead.data.toList.getD i 0).toNat (preF ahead.data.toList step i)):=rfl;rw[← row_at row i hlt] at hv;generalize fore k (preF row.data.toList step i) (ahead.data.toList.getD i 0).toNat (preF ahead.data.toList step i)=r at *;generalize preF row.data.toList step i=a at *;generalize (ahead.data.toList.getD i 0).toNat=b at *;generalize preF ahead.data.toList step i=c at *;obtain⟨d,hd⟩:∃d:Int,(i:Int)-(step:Int)=d:=⟨_,rfl⟩;rw[hd] at A1 A3;have d1: -10≤d∧d≤1099511627776:=by omega
   obtain⟨d1,d2⟩:=d1;have hwd:IntKind.i64.wrap d=d:=by rw[IntKind.wrap_i64];omega
   have HA1:=Hd fun w=>still_of (A1 w);have HA2:=Hd fun w=>still_of (A2 w);have HA3:=Hd fun w=>still_of (A3 w);have HA4:=Hd fun w=>still_of (A4 w);have HV:=Hd hv;simp only[Nat.lt_irrefl,if_false] at c1;clear A1 A2 A3 A4 hv;go_wp2_with fail;refine wp_region_still_tail 22 (by kernel_rfl) (by kernel_rfl) ?_;simp only[List.take_succ_cons,List.take_zero,List.drop_succ_cons,List.drop_zero];repeat still_step
   still_call (HA1.out _)
   repeat still_step
   still_call (HA2.out _)
   repeat still_step
   still_call (HA3.out _)
   repeat still_step
   still_call (HA4.out _)
   repeat still_step
   refine wpStill_nil ?_;change wpList _ _ _ _ _ wr.drew;go_wp2_with fail;rw[sub_spell,← HV.out];refine⟨⟨i+1,by omega,by go_num,Hd ?_,Hd ?_⟩,by simp[intOf];omega⟩
   ·refine (HC.out.put i _ _ hlt ?_).drew;intro j hj;by_cases e:j=i
    ·subst e;simp
    ·rw[if_neg e];by_cases e2:j<i
     ·rw[if_pos e2,if_pos (by omega)]
     ·rw[if_neg e2,if_neg (by omega)]
   ·exact (HE.out.setCell (Nat.le_refl _) _).drew
  ·obtain rfl:i=row.size:=by omega
   go_wp2_with fail;go_ret;exact⟨w.heap.size,Nat.le_refl _,rfl,HC.out.congr fun j hj=>by rw[if_pos hj],HE.out⟩
def doS (k:Int) (row ahead:ByteArray) (step:Nat):ByteArray:=⟨(doL k row.data.toList ahead.data.toList step).toArray⟩
def undoS (k:Int) (row ahead:ByteArray) (step:Nat):ByteArray:=⟨(undoL k row.data.toList ahead.data.toList step row.size).toArray⟩
theorem doS_size (k:Int) (row ahead:ByteArray) (step:Nat):(doS k row ahead step).size=row.size:=by
 show (doL k row.data.toList ahead.data.toList step).toArray.size=_;rw[List.size_toArray,doL_length,Array.length_toList];rfl
theorem undoS_size (k:Int) (row ahead:ByteArray) (step:Nat):(undoS k row ahead step).size=row.size:=by
 show (undoL k row.data.toList ahead.data.toList step row.size).toArray.size=_;rw[List.size_toArray,undoL_length]
theorem undoS_doS (k:Int) (row ahead:ByteArray) (step:Nat) (hs:1≤step):undoS k (doS k row ahead step) ahead step=row:=by
 have h:=undo_do k row.data.toList ahead.data.toList step hs row.size (by rw[Array.length_toList];exact Nat.le_refl _);unfold undoS;rw[doS_size];show (⟨(undoL k (doL k row.data.toList ahead.data.toList step) ahead.data.toList step row.size).toArray⟩:ByteArray)=row;rw[h,List.take_of_length_le (by rw[Array.length_toList];exact Nat.le_refl _)]
theorem badUndo_calls (k:Int) (row ahead:ByteArray) (step:Int) (w:World) (h1: -9223372036854775808≤k) (h2:k≤9223372036854775807) (h3: -9223372036854775808≤step) (h4:step≤9223372036854775807) (hc:¬ (check k step∧check2 row ahead))
  (EB ES:Addr) (hB:w.cell? ⟨2,0,none⟩=some (.iface 275 (.pointer (some EB)))) (hS:w.cell? ⟨0,0,none⟩=some (.iface 275 (.pointer (some ES)))):
  Calls Tryz.prog 97 #[.int .i64 k,.string row,.string ahead,.int .i64 step] w fun e w'=>∃E,(E=EB∧¬ check k step∨E=ES∧check k step)∧e=.returned (.tuple #[.string ⟨#[]⟩,.iface 275 (.pointer (some E))])∧w=w':=by
 have HC:=Hd hc;clear hc;go_enter Tryz.func97,Tryz.ntmps97
 go_wp2_with fail;refine (check_calls k row ahead step w h1 h2 h3 h4 _ _ hB hS).mono ?_;rintro e w1 ⟨h | h | h,rfl⟩
 ·exact absurd h.2 HC.out
 ·obtain⟨rfl,hb⟩:=h;have HB:=Hd hb;clear hb;go_wp2_with fail;exact bodyPost_ret (v:=.tuple #[.string ⟨#[]⟩,.iface 275 (.pointer (some EB))]) (by simp[results,Tryz.results97,go_sem, *]) rfl ⟨EB,.inl ⟨rfl,HB.out⟩,rfl,rfl⟩
 ·obtain⟨rfl,hb,_⟩:=h;have HB:=Hd hb;clear hb;go_wp2_with fail;exact bodyPost_ret (v:=.tuple #[.string ⟨#[]⟩,.iface 275 (.pointer (some ES))]) (by simp[results,Tryz.results97,go_sem, *]) rfl ⟨ES,.inr ⟨rfl,HB.out⟩,rfl,rfl⟩
theorem undo_snoc (k:Int) (row ahead:List UInt8) (step i:Nat):undoL k row ahead step (i+1)=undoL k row ahead step i ++ [row.getD i 0+UInt8.ofNat (fore k (preF (undoL k row ahead step i) step i) (ahead.getD i 0).toNat (preF ahead step i))]:=rfl
theorem undo_mem (w wr w':World) (u v:Value) (i:Nat) (U:List UInt8) (x:Value) (y:UInt8) (hx:x=.int .u8 (y.toNat:Int)) (t:TypeId) (o:Obj) (HE:Ext w wr) (HR:wr.ownsRow w.heap.size t 1 u i (bytesV U))
  (hg:(wr.drew.alloc o).grownBy w' u.ownBlock) (hown:w'.ownsRow w.heap.size t 1 v (i+1) (bytesV U ++ [x])):w'.ownsRow w.heap.size t 1 v (i+1) (bytesV (U ++ [y]))∧Ext w w':=by
 refine⟨?_,?_⟩
 ·rw[hx] at hown;simpa [bytesV] using hown
 ·have K:Keeps (fun k=>u.ownBlock=some k) wr w':=((Keeps.refl _ wr).drew.alloc o).trans (Keeps.grown hg) (fun _ _ q=>q);exact Below.trans HE (K.below HE.size fun k hk q=>by have:=(HR.lt k q).1;omega)
set_option maxHeartbeats 4000000 in
theorem bigUndo_calls (k:Int) (row ahead:ByteArray) (step:Nat) (w:World) (h1: -9223372036854775808≤k) (h2:k≤9223372036854775807) (hr:row.size≤1099511627776) (hc:check k (step:Int)) (hc2:check2 row ahead)
  (EB ES:Value) (hB:w.cell? ⟨2,0,none⟩=some EB) (hS:w.cell? ⟨0,0,none⟩=some ES):
  Calls Tryz.prog 97 #[.int .i64 k,.string row,.string ahead,.int .i64 (step:Int)] w fun e w'=>e=.returned (.tuple #[.string (undoS k row ahead step),.nilIface])∧Ext w w':=by
 have HC:=Hd hc;have HC2:=Hd hc2;have hst:=hc.2.2.2;have hst1:=hc.2.2.1;obtain⟨i0,hi0,hz0,hz1,hz2⟩:=info_parts byteinfo;obtain⟨w2,hmk,hown,hgrow⟩:=run_make_own (P:=Tryz.prog) w w.heap.size 62 5 i0 (.int .u8 0) 1 Tryz.underlying62 hi0 hz0 hz1 .i64 .i64 row.size (by rw[hz2];omega) (by unfold maxLen;omega) (Nat.le_refl _);have HO:=Hd hown;have HG:Hid (Ext w w2):=(Keeps.grown hgrow).below (Nat.le_refl _) (fun k _ q=>by cases q);clear hc hc2 hown hgrow;go_enter Tryz.func97,Tryz.ntmps97
 go_wp2_with fail;refine (check_calls k row ahead step w h1 h2 (by omega) (by omega) _ _ hB hS).mono ?_;rintro e w1 ⟨h | h | h,rfl⟩
 ·obtain⟨rfl,_⟩:=h;go_wp2_with fail;clear hmk;go_loopw [11,12,13,27] (fun u _ _ v wr=>∃i:Nat,i≤row.size∧v=.int .i64 i∧Hid (wr.ownsRow w.heap.size 5 1 u i (bytesV (undoL k row.data.toList ahead.data.toList step i)))∧Hid (Ext w wr)) (fun _ _ _ v _=>row.size-(intOf v).toNat)
  case atStart=>exact⟨0,by omega,rfl,HO,HG⟩
  case round=>
   obtain⟨i,hi,rfl,HR,HE⟩:=hrel;by_cases hlt:i<row.size
   ·have A2:=fun w=>at_here ahead i w (by omega);have A3:=fun w=>at_pre ahead step i w (by omega) (by omega);have A4:=fun w=>foretell_calls k (preF (undoL k row.data.toList ahead.data.toList step i) step i) (ahead.data.toList.getD i 0).toNat (preF ahead.data.toList step i) w h1 h2 (preF_lt _ _ _) (UInt8.toNat_lt _) (preF_lt _ _ _);have hv:=undo_snoc k row.data.toList ahead.data.toList step i;rw[← row_at row i hlt] at hv;obtain⟨U,hU⟩:∃U,undoL k row.data.toList ahead.data.toList step i=U:=⟨_,rfl⟩;rw[hU] at hv A4 HR;have hUl:U.length=i:=by rw[← hU];exact undoL_length _ _ _ _ _
    have ha:∃a,preF U step i=a∧a<256:=⟨_,rfl,preF_lt _ _ _⟩;obtain⟨a,ha,la⟩:=ha;rw[ha] at hv A4;generalize fore k a (ahead.data.toList.getD i 0).toNat (preF ahead.data.toList step i)=r at *;generalize (ahead.data.toList.getD i 0).toNat=b at *;generalize preF ahead.data.toList step i=c at *;obtain⟨d,hd⟩:∃d:Int,(i:Int)-(step:Int)=d:=⟨_,rfl⟩;rw[hd] at A3;have hwd:IntKind.i64.wrap d=d:=by rw[IntKind.wrap_i64];omega
    have d1: -10≤d∧d≤1099511627776:=by omega
    obtain⟨d1,d2⟩:=d1;have HA2:=Hd A2;have HA3:=Hd A3;have HA4:=Hd A4;have HV:=Hd hv;have HUU:=Hd hU;have HUL:=Hd hUl;clear A2 A3 A4 hv hU hUl;have tail:∀(u:Value),Hid (wr.ownsRow w.heap.size 5 1 u i (bytesV U))→True:=fun _ _=>trivial;by_cases hs:step≤i
    ·have haU:(U.getD (i-step) 0).toNat=a:=by rw[← ha];unfold preF;rw[if_pos hs]
     have HAU:=Hd haU;have HA:=Hd ha;clear haU ha tail;obtain⟨g0,cap0,hu,_,_⟩:=ownsRow_some HR.out (by omega);obtain⟨j,hj⟩:∃j:Nat,d=(j:Int):=⟨i-step,by omega⟩;subst hj;rw[hu] at HR⊢;clear hu u11;have hji:j<i:=by omega
     have hc:wr.cell? ⟨g0,j,none⟩=some (.int .u8 (a:Int)):=by
      have hjl:j<U.length:=by rw[HUL.out];exact hji
      rw[HR.out.cellAt j (by omega),bytesV_get U j hjl,← HAU.out,show i-step=j by omega];simp[List.getD,hjl]
     have t1:decide ((step:Int)≤(i:Int))=true:=decide_eq_true (by omega);go_wp2_with fail;have HRd:Hid (wr.drew.ownsRow w.heap.size 5 1 (.slice (some ⟨g0,0,none⟩) i cap0) i (bytesV U)):=HR.out;have hsz:w.heap.size≤wr.heap.size+1:=by have:=HE.out.size;omega
     go_region_held3 (fun _=>True) (trivial)
      (first
       | (go_at_call_of 115 j;refine (HA3.out _).mono ?_;rintro e w' ⟨rfl,rfl⟩)
       | (go_at_call 115;refine (HA2.out _).mono ?_;rintro e w' ⟨rfl,rfl⟩)
       | (go_at_call 114;refine (HA4.out _).mono ?_;rintro e w' ⟨rfl,rfl⟩)
       | (refine step_append_lies _ rfl (.tmp 39) (.tmp 55) 62 rfl w.heap.size 5 i0 (.int .u8 0) 1 1 Tryz.underlying62 hi0 hz0 hz1 hz2 rfl (by decide) (.slice (some ⟨g0,0,none⟩) i cap0) i (bytesV U) (by simp[Act.eval]) (HRd.out.alloc _) ⟨wr.heap.size,0,none⟩ 1 1 [_] (by simp[Act.eval]) rfl (cell_one_new _ _ _) (by intro u hu;simp at hu;subst hu;rfl) (by omega) (by unfold maxLen;omega) (by omega) (by simp;exact hsz) _ rfl ?_;intro g cap w' hown' hgrow hat hlt'))
     all_goals
      obtain⟨q1,q2⟩:=undo_mem w wr w' _ _ i U _ (row[i]+UInt8.ofNat r) (val_int (add_spell _ _)) _ _ HE.out HR.out hgrow hown';have Q1:=Hd q1;have Q2:=Hd q2;clear hown' hgrow hat hlt' q1 q2;go_wp2_with fail;exact⟨⟨i+1,by omega,by go_num,by rw[HV.out];exact Q1,Q2⟩,by simp[intOf];omega⟩
    ·have ha0:a=0:=by rw[← ha];unfold preF;rw[if_neg hs]
     subst ha0;have HA:=Hd ha;clear ha tail;have t1:decide ((step:Int)≤(i:Int))=false:=decide_eq_false (by omega);go_wp2_with fail;have HRd:Hid (wr.drew.ownsRow w.heap.size 5 1 u11 i (bytesV U)):=HR.out;have hsz:w.heap.size≤wr.heap.size+1:=by have:=HE.out.size;omega
     go_region_held3 (fun _=>True) (trivial)
      (first
       | (go_at_call_of 115 d;refine (HA3.out _).mono ?_;rintro e w' ⟨rfl,rfl⟩)
       | (go_at_call 115;refine (HA2.out _).mono ?_;rintro e w' ⟨rfl,rfl⟩)
       | (go_at_call 114;refine (HA4.out _).mono ?_;rintro e w' ⟨rfl,rfl⟩)
       | (refine step_append_lies _ rfl (.tmp 39) (.tmp 55) 62 rfl w.heap.size 5 i0 (.int .u8 0) 1 1 Tryz.underlying62 hi0 hz0 hz1 hz2 rfl (by decide) u11 i (bytesV U) (by simp[Act.eval]) (HRd.out.alloc _) ⟨wr.heap.size,0,none⟩ 1 1 [_] (by simp[Act.eval]) rfl (cell_one_new _ _ _) (by intro u hu;simp at hu;subst hu;rfl) (by omega) (by unfold maxLen;omega) (by omega) (by simp;exact hsz) _ rfl ?_;intro g cap w' hown' hgrow hat hlt'))
     all_goals
      obtain⟨q1,q2⟩:=undo_mem w wr w' _ _ i U _ (row[i]+UInt8.ofNat r) (val_int (add_spell _ _)) _ _ HE.out HR.out hgrow hown';have Q1:=Hd q1;have Q2:=Hd q2;clear hown' hgrow hat hlt' q1 q2;go_wp2_with fail;exact⟨⟨i+1,by omega,by go_num,by rw[HV.out];exact Q1,Q2⟩,by simp[intOf];omega⟩
   ·obtain rfl:i=row.size:=by omega
    have hcr:(convert 62 9 u11).run Tryz.prog wr=.ok (.string (undoS k row ahead step)) wr:=by
     have hl:(undoL k row.data.toList ahead.data.toList step row.size).length=row.size:=undoL_length _ _ _ _ _;rcases ownsRow_slice HR.out with⟨hv,h0⟩ | ⟨g,cap,hv⟩
     ·rw[hv,run_convert_bytes_string wr 62 9 5 none 0 0 Tryz.underlying62 Tryz.underlying5 Tryz.underlying9];unfold undoS;rw[h0];rfl
     ·rw[hv];have hR:=HR.out;rw[hv] at hR;have q:=run_convert_bytes_back (P:=Tryz.prog) wr 62 9 5 ⟨g,0,none⟩ cap (undoL k row.data.toList ahead.data.toList step row.size) Tryz.underlying62 Tryz.underlying5 Tryz.underlying9 (fun j hj=>by
       rw[add_plain,hR.cellAt j (by omega),bytesV_get _ j hj])
      rwa [hl] at q
    go_wp2_with fail;exact bodyPost_ret (v:=.tuple #[.string (undoS k row ahead step),.nilIface]) (by simp[results,Tryz.results97,go_sem, *]) rfl ⟨rfl,HE.out⟩
 ·exact absurd HC.out h.2
 ·exact absurd HC2.out h.2.2
end Go.Proofs.YthlibiocadimhaaGreatDoor
namespace Bts
def ch (b:Bool):UInt8:=if b then 49 else 48
def str (L:List Bool):List UInt8:=L.map ch
def val:List Bool→Nat
  | []=>0
  | b ::L=>(if b then 1 else 0)+2*val L
theorem val_append (L M:List Bool):val (L++M)=val L+val M*2^L.length:=by
  induction L with
  | nil=>simp[val]
  | cons b L ih=>
    simp only[List.cons_append,val,ih,List.length_cons,Nat.pow_succ];rw[Nat.mul_add,Nat.mul_comm 2 (val M*2^L.length),Nat.mul_assoc];omega
theorem val_lt (L:List Bool):val L<2^L.length:=by
  induction L with
  | nil=>decide
  | cons b L ih=>simp only[val,List.length_cons,Nat.pow_succ];split <;> omega
theorem val_snoc (L:List Bool) (b:Bool):val (L ++ [b])=val L+(if b then 1 else 0)*2^L.length:=by
  rw[val_append];simp[val]
def low (x:Nat):Nat→List Bool
  | 0=> []
  | k+1=>low x k ++ [x/2^k%2 ==1]
def high (x:Nat):Nat→List Bool
  | 0=> []
  | k+1=>(x/2^k%2 ==1) ::high x k
theorem low_length (x k:Nat):(low x k).length=k:=by induction k with | zero=>rfl | succ k ih=>simp[low,ih]
theorem high_length (x k:Nat):(high x k).length=k:=by induction k with | zero=>rfl | succ k ih=>simp[high,ih]
theorem bit_val (y:Nat):(if (y%2 ==1)=true then 1 else 0)=y%2:=by
  rcases Nat.mod_two_eq_zero_or_one y with h | h <;> simp[h]
theorem val_low (x k:Nat):val (low x k)=x%2^k:=by
  induction k with
  | zero=>simp[low,val,Nat.mod_one]
  | succ k ih=>rw[low,val_snoc,ih,low_length,bit_val,Nat.pow_succ,Nat.mod_mul,Nat.mul_comm (2^k)]
theorem val_high_succ (x k:Nat):val (high x (k+1))=x/2^k%2+2*val (high x k):=by
  simp only[high,val];rw[bit_val]
end Bts
namespace Go.Proofs.YthlibiocadimhaaGreatDoor
open Go.RowKit
/-- bits as a text -/
@[irreducible] def bs (L:List Bool):ByteArray:=⟨(Bts.str L).toArray⟩
theorem bytes_ext {a b:ByteArray} (h:a.data.toList=b.data.toList):a=b:=by
  obtain⟨⟨a⟩⟩:=a;obtain⟨⟨b⟩⟩:=b;simp at h;rw[h]
theorem bytes_cat (a b:ByteArray):(a++b).data.toList=a.data.toList++b.data.toList:=by simp
set_option maxRecDepth 100000
/-- bytes as a text -/
@[irreducible] def tx (l:List UInt8):ByteArray:=⟨l.toArray⟩
theorem tx_eq (l:List UInt8):tx l=⟨l.toArray⟩:=by unfold tx;rfl
theorem tx_list (l:List UInt8):(tx l).data.toList=l:=by unfold tx;rfl
theorem tx_size (l:List UInt8):(tx l).size=l.length:=by rw[tx_eq];rfl
theorem tx_append (l m:List UInt8):tx l++tx m=tx (l++m):=bytes_ext (by rw[bytes_cat,tx_list,tx_list,tx_list])
theorem tx_nil:(⟨#[]⟩:ByteArray)=tx []:=bytes_ext (by rw[tx_list])
theorem tx_of (s:ByteArray):tx s.data.toList=s:=bytes_ext (by rw[tx_list])
/-- the variables of the errors, in the order of their numbers -/
def gk:Nat→Nat
  | 0=> 1
  | 1=> 2
  | 2=> 0
  | _=> 3
def sentV (a:Addr):Value:=.iface 275 (.pointer (some a))
/-- the package's errors as they lie in memory -/
structure Errs (w:World) (E:Nat→Addr):Prop where
  var:∀k,k<4→w.cell? ⟨gk k,0,none⟩=some (sentV (E k))
theorem Errs.ext {w w':World} {E:Nat→Addr} (h:Errs w E) (hE:Ext w w'):Errs w' E:=
  ⟨fun k hk=>(hE.cell (p:=⟨gk k,0,none⟩) (World.block_lt_of_cell? w _ (h.var k hk))).trans (h.var k hk)⟩
theorem Errs.four {w:World} {e0 e1 e2 e3:Addr} (h0:w.cell? ⟨1,0,none⟩=some (.iface 275 (.pointer (some e0)))) (h1:w.cell? ⟨2,0,none⟩=some (.iface 275 (.pointer (some e1)))) (h2:w.cell? ⟨0,0,none⟩=some (.iface 275 (.pointer (some e2)))) (h3:w.cell? ⟨3,0,none⟩=some (.iface 275 (.pointer (some e3)))):
    Errs w (fun k=>if k=0 then e0 else if k=1 then e1 else if k=2 then e2 else e3):=by
  refine⟨fun k hk=>?_⟩;match k,hk with
  | 0,_=>exact h0
  | 1,_=>exact h1
  | 2,_=>exact h2
  | 3,_=>exact h3
def cB (x:UInt8):Nat:=min x.toNat (256-x.toNat)
def costB (g:Nat→UInt8):Nat→Nat
 | 0=>0
 | i+1=>costB g i+cB (g i)
theorem cB_le (x:UInt8):cB x≤128:=by unfold cB;have:=x.toNat_lt;omega
theorem costB_le (g:Nat→UInt8):∀i,costB g i≤128*i:=by
 intro i;induction i with
 | zero=>exact Nat.le_refl _
 | succ i ih=>have:=cB_le (g i);simp only[costB];omega
/-- the best of the first k kinds, and what it costs -/
def bst (f:Nat→Nat):Nat→Nat × Int
 | 0=>(0,-1)
 | k+1=>if (bst f k).2<0∨(f k:Int)<(bst f k).2 then (k,f k) else bst f k
theorem bst_bd (f:Nat→Nat) (h:∀k,f k≤1000000000):∀k,(bst f k).1≤k∧ -1≤(bst f k).2∧(bst f k).2≤1000000000:=by
 intro k;induction k with
 | zero=>exact⟨Nat.le_refl _,Int.le_refl _,(by decide:(-1:Int)≤1000000000)⟩
 | succ k ih=>
  simp only[bst];split
  ·have:=h k;simp only;omega
  ·omega
def kindCost (row ahead:ByteArray) (step k:Nat):Nat:=costB (doB (k:Int) row.data.toList ahead.data.toList step) row.size
def bestS (row ahead:ByteArray) (step:Nat):Nat:=(bst (kindCost row ahead step) 5).1
theorem kindCost_le (row ahead:ByteArray) (step k:Nat) (h:row.size≤1000000):kindCost row ahead step k≤1000000000:=by
 unfold kindCost;have:=costB_le (doB (k:Int) row.data.toList ahead.data.toList step) row.size;omega
theorem best_good (row ahead:ByteArray) (step:Nat) (w:World) (E:Nat→Addr) (hE:Errs w E) (hr:row.size≤1000000) (hs:1≤step∧step≤8) (hc:check2 row ahead):
  Calls Tryz.prog 84 #[.string row,.string ahead,.int .i64 (step:Int)] w fun e w'=>e=.returned (.tuple #[.int .i64 (bestS row ahead step:Int),.nilIface])∧Ext w w':=by
 obtain⟨s1,s2⟩:=hs;have h1:=hE.var 1 (by decide);have h2:=hE.var 2 (by decide);have HC:=Hd (show check 0 (step:Int) from⟨by omega,by omega,by omega,by omega⟩);have HC2:=Hd hc;have KL:=Hd (fun k=>kindCost_le row ahead step k hr);clear hE hc;go_enter Tryz.func84,Tryz.ntmps84
 go_wp2_with fail;refine (check_calls 0 row ahead step _ (by omega) (by omega) (by omega) (by omega) _ _ h1 h2).mono ?_;rintro e w2 ⟨h,rfl⟩;have he:e=.returned .nilIface:=by
  rcases h with h | h | h
  ·exact h.1
  ·exact absurd HC.out h.2
  ·exact absurd HC2.out h.2.2
 subst he;clear h h1 h2;go_wp2_with fail;go_loopw [9,10,22] (fun b l c wr=>∃k:Nat,k≤5∧c=.int .i64 k∧b=.int .i64 ((bst (kindCost row ahead step) k).1:Int)∧l=.int .i64 (bst (kindCost row ahead step) k).2∧Hid (Ext w wr)) (fun _ _ c _=>5-(intOf c).toNat)
 case atStart=>exact⟨0,by omega,rfl,rfl,rfl,Hd (Ext.refl _)⟩
 case round=>
  obtain⟨k,hk,rfl,rfl,rfl,HX⟩:=hrel;obtain⟨bb1,bb2,bb3⟩:=bst_bd (kindCost row ahead step) KL.out k;have HB:Hid (bst (kindCost row ahead step) (k+1)=if (bst (kindCost row ahead step) k).2<0∨(kindCost row ahead step k:Int)<(bst (kindCost row ahead step) k).2 then (k,(kindCost row ahead step k:Int)) else bst (kindCost row ahead step) k):=Hd rfl;by_cases hlt:k<5
  ·have tk:decide ((k:Int)<5)=true:=decide_eq_true (by omega);go_wp2_with fail;refine (do_calls (k:Int) row ahead step _ (by omega) (by omega) s2 (by omega)).mono ?_;rintro e w3 ⟨B,hB,rfl,hC,hE3⟩;have HC3:=Hd hC;have HX3:=Hd (HX.out.trans hE3);have HKC:Hid (kindCost row ahead step k=costB (doB (k:Int) row.data.toList ahead.data.toList step) row.size):=Hd rfl;generalize doB (k:Int) row.data.toList ahead.data.toList step=g at *;clear hB hC hE3;go_wp2_with fail;go_loop [12,31] (fun s c=>∃i:Nat,i≤row.size∧c=.int .i64 i∧s=.int .i64 (costB g i:Int)) (fun _ c=>row.size-(intOf c).toNat)
   case atStart=>exact⟨0,by omega,rfl,rfl⟩
   case round=>
    obtain⟨i,hi,rfl,rfl⟩:=hrel;have hcl:=costB_le g i;by_cases hil:i<row.size
    ·have c0:=(HC3.out i hil).1;have hg256:=(g i).toNat_lt;have HS:Hid (costB g (i+1)=costB g i+cB (g i)):=Hd rfl;have HCB:Hid (cB (g i)=min (g i).toNat (256-(g i).toNat)):=Hd rfl;go_wp2_with fail;go_round
     case rel=>exact⟨i+1,by omega,by go_num,by rw[HS.out,HCB.out];exact val_int (by omega)⟩
     case measure=>simp[intOf];omega
    ·obtain rfl:i=row.size:=by omega
     rw[← HKC.out] at hcl⊢;obtain⟨F,hF⟩:∃F,kindCost row ahead step k=F:=⟨_,rfl⟩;obtain⟨L,hL⟩:∃L,(bst (kindCost row ahead step) k).2=L:=⟨_,rfl⟩;rw[hF,hL] at HB;rw[hL] at bb2 bb3;rw[hF,hL];have HF:=Hd hF;have HL:=Hd hL;clear hF hL;by_cases hbet:L<0∨(F:Int)<L
     ·rw[if_pos hbet] at HB;rcases hbet with q | q
      ·go_wp2_with fail;go_roundw
       case rel=>exact⟨k+1,by omega,by go_num,by rw[HB.out],by rw[HB.out],HX3⟩
       case measure=>simp[intOf];omega
      ·by_cases q0:L<0
       ·go_wp2_with fail;go_roundw
        case rel=>exact⟨k+1,by omega,by go_num,by rw[HB.out],by rw[HB.out],HX3⟩
        case measure=>simp[intOf];omega
       ·go_wp2_with fail;go_roundw
        case rel=>exact⟨k+1,by omega,by go_num,by rw[HB.out],by rw[HB.out],HX3⟩
        case measure=>simp[intOf];omega
     ·rw[if_neg hbet] at HB;have q1:¬ L<0:=fun q=>hbet (.inl q);have q2:¬ (F:Int)<L:=fun q=>hbet (.inr q);clear hbet;go_wp2_with fail;go_roundw
      case rel=>exact⟨k+1,by omega,by go_num,by rw[HB.out],by rw[HB.out,HL.out],HX3⟩
      case measure=>simp[intOf];omega
  ·obtain rfl:k=5:=by omega
   go_wp2_with fail;go_ret2;exact⟨rfl,HX.out⟩
def rowB (s:ByteArray) (w i:Nat):ByteArray:=s.extract (i*w) ((i+1)*w)
def ahB (s:ByteArray) (w:Nat):Nat→ByteArray
 | 0=>⟨#[]⟩
 | i+1=>rowB s w i
def bestI (s:ByteArray) (w step i:Nat):Nat:=bestS (rowB s w i) (ahB s w i) step
def chunkL (s:ByteArray) (w step i:Nat):List UInt8:=UInt8.ofNat (bestI s w step i) ::(doS (bestI s w step i:Int) (rowB s w i) (ahB s w i) step).data.toList
def rowsL (s:ByteArray) (w step:Nat):Nat→List UInt8
 | 0=> []
 | i+1=>rowsL s w step i++chunkL s w step i
theorem bestS_le (row ahead:ByteArray) (step:Nat) (h:row.size≤1000000):bestS row ahead step≤4:=by
 have q:=(bst_bd (kindCost row ahead step) (fun k=>kindCost_le row ahead step k h) 4).1;unfold bestS;show (bst (kindCost row ahead step) (4+1)).1≤4;unfold bst;split
 ·exact Nat.le_refl _
 ·exact q
theorem rowB_size {s:ByteArray} {w i n:Nat} (hn:s.size=n*w) (hi:i<n):(rowB s w i).size=w:=by
 unfold rowB;rw[ByteArray.size_extract];have h1:(i+1)*w≤n*w:=Nat.mul_le_mul_right w (by omega);rw[hn,Nat.min_eq_left h1,Nat.succ_mul];omega
theorem ahB_ok {s:ByteArray} {w i n:Nat} (hn:s.size=n*w) (hi:i<n):check2 (rowB s w i) (ahB s w i):=by
 cases i with
 | zero=>exact .inl rfl
 | succ i=>exact .inr (by rw[rowB_size hn hi];exact rowB_size hn (by omega))
theorem chunkL_length {s:ByteArray} {w step i n:Nat} (hn:s.size=n*w) (hi:i<n):(chunkL s w step i).length=w+1:=by
 unfold chunkL;rw[List.length_cons,Array.length_toList];show (doS _ _ _ _).size+1=_;rw[doS_size,rowB_size hn hi]
theorem rowsL_length {s:ByteArray} {w step n:Nat} (hn:s.size=n*w):∀i,i≤n→(rowsL s w step i).length=i*(w+1):=by
 intro i;induction i with
 | zero=>intro _;simp[rowsL]
 | succ i ih=>
  intro h;simp only[rowsL,List.length_append];rw[ih (by omega),chunkL_length hn (by omega),Nat.succ_mul]
theorem rowsL_split (s:ByteArray) (w step i:Nat):∀d,∃m,rowsL s w step (i+1+d)=rowsL s w step i++chunkL s w step i++m:=by
 intro d;induction d with
 | zero=>exact⟨[],by simp[rowsL]⟩
 | succ d ih=>
  obtain⟨m,hm⟩:=ih;exact⟨m++chunkL s w step (i+1+d),by show rowsL s w step (i+1+d)++_=_;rw[hm];simp⟩
/-- the kind of row i of a text of rows with their kinds; the row without it -/
def kdT (t:ByteArray) (w i:Nat):Nat:=(t.data.toList.getD (i*(w+1)) 0).toNat
def restT (t:ByteArray) (w i:Nat):ByteArray:=t.extract (i*(w+1)+1) ((i+1)*(w+1))
def unA (t:ByteArray) (w step:Nat):Nat→ByteArray
 | 0=>⟨#[]⟩
 | i+1=>undoS (kdT t w i:Int) (restT t w i) (unA t w step i) step
def unS (t:ByteArray) (w step:Nat):Nat→ByteArray
 | 0=>⟨#[]⟩
 | i+1=>unS t w step i++unA t w step (i+1)
theorem restT_size {t:ByteArray} {w i n:Nat} (hn:t.size=n*(w+1)) (hi:i<n):(restT t w i).size=w:=by
 unfold restT;rw[ByteArray.size_extract];have h1:(i+1)*(w+1)≤n*(w+1):=Nat.mul_le_mul_right _ (by omega);rw[hn,Nat.min_eq_left h1,Nat.succ_mul];omega
theorem unA_size {t:ByteArray} {w step i n:Nat} (hn:t.size=n*(w+1)) (hi:i<n):(unA t w step (i+1)).size=w:=by
 show (undoS _ _ _ _).size=_;rw[undoS_size,restT_size hn hi]
theorem unA_ok {t:ByteArray} {w step i n:Nat} (hn:t.size=n*(w+1)) (hi:i<n):check2 (restT t w i) (unA t w step i):=by
 cases i with
 | zero=>exact .inl rfl
 | succ i=>exact .inr (by rw[restT_size hn hi];exact unA_size hn (by omega))
theorem unS_size {t:ByteArray} {w step n:Nat} (hn:t.size=n*(w+1)):∀i,i≤n→(unS t w step i).size=i*w:=by
 intro i;induction i with
 | zero=>intro _;rw[Nat.zero_mul];rfl
 | succ i ih=>
  intro h;simp only[unS,ByteArray.size_append];rw[ih (by omega),unA_size hn (by omega),Nat.succ_mul]
theorem tx_extract (l:List UInt8) (a b:Nat):(tx l).extract a b=tx ((l.drop a).take (b-a)):=by
 rw[tx_eq,tx_eq,ByteArray.extract_mk]
/-- what was done, undone -/
theorem back_kind {s:ByteArray} {w step n i:Nat} (hn:s.size=n*w) (hi:i<n) (hw:w≤1000000):kdT (tx (rowsL s w step n)) w i=bestI s w step i:=by
 obtain⟨m,hm⟩:=rowsL_split s w step i (n-(i+1));rw[show i+1+(n-(i+1))=n by omega] at hm;unfold kdT;rw[tx_list,hm,List.append_assoc];have hl:=rowsL_length (step:=step) hn i (by omega);have hb:bestI s w step i≤4:=bestS_le _ _ _ (by rw[rowB_size hn hi];exact hw);rw[List.getD,List.getElem?_append_right (by omega),hl,Nat.sub_self];show (UInt8.ofNat (bestI s w step i)).toNat=_;rw[UInt8.toNat_ofNat'];omega
theorem back_rest {s:ByteArray} {w step n i:Nat} (hn:s.size=n*w) (hi:i<n):restT (tx (rowsL s w step n)) w i=doS (bestI s w step i:Int) (rowB s w i) (ahB s w i) step:=by
 obtain⟨m,hm⟩:=rowsL_split s w step i (n-(i+1));rw[show i+1+(n-(i+1))=n by omega] at hm;unfold restT;have hl:=rowsL_length (step:=step) hn i (by omega);have hd:(doS (bestI s w step i:Int) (rowB s w i) (ahB s w i) step).data.toList.length=w:=by
  rw[Array.length_toList];show (doS _ _ _ _).size=_;rw[doS_size,rowB_size hn hi]
 rw[tx_extract,hm,List.append_assoc,← tx_of (doS _ _ _ _)];congr 1
 rw[show i*(w+1)+1=(rowsL s w step i).length+1 by omega,List.drop_append,List.drop_of_length_le (by omega),List.nil_append,show (rowsL s w step i).length+1-(rowsL s w step i).length=1 by omega];unfold chunkL;simp only[List.cons_append,List.drop_succ_cons,List.drop_zero];rw[hl,show (i+1)*(w+1)-(i*(w+1)+1)=w by rw[Nat.succ_mul];omega];rw[List.take_append_of_le_length (by omega),List.take_of_length_le (by omega)]
theorem back_un {s:ByteArray} {w step n:Nat} (hn:s.size=n*w) (hw:w≤1000000) (hst:1≤step):∀i,i≤n→unA (tx (rowsL s w step n)) w step i=ahB s w i:=by
 intro i;induction i with
 | zero=>intro _;rfl
 | succ i ih=>
  intro h;show undoS _ _ _ _=rowB s w i;rw[back_kind hn (by omega) hw,back_rest hn (by omega),ih (by omega)];exact undoS_doS _ _ _ _ hst
theorem back_whole {s:ByteArray} {w step n:Nat} (hn:s.size=n*w) (hw:w≤1000000) (hst:1≤step):∀i,i≤n→unS (tx (rowsL s w step n)) w step i=s.extract 0 (i*w):=by
 intro i;induction i with
 | zero=>intro _;rw[Nat.zero_mul];apply bytes_ext;simp[unS]
 | succ i ih=>
  intro h;show unS _ _ _ i++unA _ _ _ (i+1)=_;rw[ih (by omega),back_un hn hw hst (i+1) h];show s.extract 0 (i*w)++s.extract (i*w) ((i+1)*w)=_;have h1:i*w≤(i+1)*w:=Nat.mul_le_mul_right w (by omega);apply bytes_ext;rw[bytes_cat];simp only[ByteArray.data_extract,Array.toList_extract];rw[List.extract_eq_take_drop,List.extract_eq_take_drop,List.extract_eq_take_drop];simp only[Nat.sub_zero,List.drop_zero];rw[show (i+1)*w=i*w+((i+1)*w-i*w) by omega,List.take_add];simp
theorem back_all {s:ByteArray} {w step n:Nat} (hn:s.size=n*w) (hw:w≤1000000) (hst:1≤step):unS (tx (rowsL s w step n)) w step n=s:=by
 rw[back_whole hn hw hst n (Nat.le_refl _),← hn];simp
theorem whole_ok (s:ByteArray) (D wide more step:Nat) (w:World) (hD:wide+more=D) (hw:1≤wide∧wide≤300000) (hm:more≤1) (hst:1≤step∧step≤8) (hs:s.size≤300000) (hd:s.size%D=0):
  Calls Tryz.prog 83 #[.string s,.int .i64 (wide:Int),.int .i64 (more:Int),.int .i64 (step:Int)] w fun e w'=>e=.returned .nilIface∧w=w':=by
 obtain⟨h1,h2⟩:=hw;obtain⟨h3,h4⟩:=hst;have hDI:(wide:Int)+(more:Int)=(D:Int):=by omega
 have hD1:1≤D:=by omega
 have t:(((s.size:Int)%(D:Int)) !=0)=false:=by
  have:(s.size:Int)%(D:Int)=((s.size%D:Nat):Int):=by simp
  rw[this,hd];rfl
 clear hd hD;go_enter Tryz.func83,Tryz.ntmps83
 go_wp2_with fail;go_ret;exact⟨rfl,rfl⟩
/-- a row of bytes that grew by others that lie elsewhere -/
theorem row_more {w w3 w4:World} {u v:Value} {L:Nat} {U D:List UInt8} (hE:Ext w w3) (hR:w3.ownsRow w.heap.size 5 1 u L (bytesV U)) (hg:w3.grownBy w4 u.ownBlock)
  (ho:w4.ownsRow w.heap.size 5 1 v (L+D.length) (bytesV U++bytesV D)):w4.ownsRow w.heap.size 5 1 v (L+D.length) (bytesV (U++D))∧Ext w w4:=by
 refine⟨?_,Below.trans hE ((Keeps.grown hg).below hE.size (fun k hk e=>by have:=(hR.lt k e).1;omega))⟩;have e:bytesV (U++D)=bytesV U++bytesV D:=by simp[bytesV]
 rw[e];exact ho
theorem bytesV_one (l:List UInt8):∀u∈bytesV l,u.oneCell'=true:=by
 intro u hu;obtain⟨b,_,rfl⟩:=List.mem_map.1 hu;rfl
theorem bytes_conv {w:World} {base L:Nat} {v:Value} {l:List UInt8} (hl:l.length=L) (h:w.ownsRow base 5 1 v L (bytesV l)):(convert 62 9 v).run Tryz.prog w=.ok (.string (tx l)) w:=by
 rw[tx_eq];subst hl;rcases ownsRow_slice h with⟨rfl,h0⟩ | ⟨g,cap,rfl⟩
 ·rw[run_convert_bytes_string w 62 9 5 none 0 0 Tryz.underlying62 Tryz.underlying5 Tryz.underlying9,List.eq_nil_of_length_eq_zero h0];rfl
 ·refine run_convert_bytes_back (P:=Tryz.prog) w 62 9 5 ⟨g,0,none⟩ cap l Tryz.underlying62 Tryz.underlying5 Tryz.underlying9 (fun j hj=>?_);rw[add_plain,h.cellAt j (by omega),bytesV_get _ j hj]
theorem empty_no (s:ByteArray) (h:s.size≠0):s.toList.isEmpty=false:=by rw[isEmpty_iff];exact decide_eq_false h
theorem empty_yes (s:ByteArray) (h:s.size=0):s.toList.isEmpty=true:=by rw[isEmpty_iff];exact decide_eq_true h
set_option maxHeartbeats 2000000 in
theorem rows_ok (s:ByteArray) (wide step n:Nat) (w:World) (E:Nat→Addr) (hE:Errs w E) (hn:s.size=n*wide) (hw:1≤wide∧wide≤300000) (hst:1≤step∧step≤8) (hs:s.size≤300000):
  Calls Tryz.prog 53 #[.string s,.int .i64 (wide:Int),.int .i64 (step:Int)] w fun e w'=>e=.returned (.tuple #[.string (tx (rowsL s wide step n)),.nilIface])∧Ext w w':=by
 have HE:=Hd hE;have HN:=Hd hn;have hwh:=Hd (fun w=>whole_ok s wide wide 0 step w (by omega) hw (by omega) hst hs (by rw[hn];exact Nat.mul_mod_left _ _));obtain⟨i0,hi0,hz0,hz1,hz2⟩:=info_parts byteinfo;obtain⟨h1,h2⟩:=hw;have HST:=Hd hst;obtain⟨h3,h4⟩:=hst;clear hE hn;go_enter Tryz.func53,Tryz.ntmps53
 go_wp2_with fail;refine (hwh.out _).mono ?_;rintro e w1 ⟨rfl,rfl⟩;go_wp2_with fail;go_loopw [0,9,10] (fun u v a wr=>∃(i:Nat) (S:ByteArray),i≤n∧u=.string S∧a=.string (ahB s wide i)∧Hid (S=s.extract (i*wide) s.size)∧Hid (wr.ownsRow w.heap.size 5 1 v (rowsL s wide step i).length (bytesV (rowsL s wide step i)))∧Hid (Ext w wr)) (fun u _ _ _=>match u with | .string S=>S.size | _=>0)
 case atStart=>exact⟨0,s,by omega,rfl,rfl,Hd (by rw[Nat.zero_mul];simp),Hd (World.ownsRow_nil _ _ _ _),Hd (Ext.refl _)⟩
 case round=>
  obtain⟨i,S,hi,rfl,rfl,HS,HR,HX⟩:=hrel;have hSz:S.size=s.size-i*wide:=by rw[HS.out,ByteArray.size_extract];omega
  have hll:=rowsL_length (step:=step) HN.out i hi;by_cases hlt:i<n
  ·have hiw:i*wide+wide≤s.size:=by rw[HN.out,← Nat.succ_mul];exact Nat.mul_le_mul_right _ hlt
   obtain⟨R,hR⟩:∃R,S.extract 0 wide=R:=⟨_,rfl⟩;obtain⟨S2,hS2⟩:∃S2,S.extract wide S.size=S2:=⟨_,rfl⟩;have HRr:Hid (R=rowB s wide i):=Hd (by rw[← hR,HS.out,ByteArray.extract_extract];unfold rowB;rw[Nat.add_zero,Nat.succ_mul,Nat.min_eq_left (by omega)]);have HS2:Hid (S2=s.extract ((i+1)*wide) s.size):=Hd (by rw[← hS2,hSz,HS.out,ByteArray.extract_extract,Nat.succ_mul,Nat.min_eq_right (by omega)]);have hRs:R.size=wide:=by rw[HRr.out];exact rowB_size HN.out hlt
   have hS2s:S2.size<S.size:=by rw[← hS2,ByteArray.size_extract];omega
   have hch:=ahB_ok HN.out hlt;obtain⟨A,hA⟩:∃A,ahB s wide i=A:=⟨_,rfl⟩;rw[hA,← HRr.out] at hch;have hbs:bestS R A step≤4:=bestS_le _ _ _ (by omega);have HBI:Hid (rowsL s wide step (i+1)=rowsL s wide step i++(UInt8.ofNat (bestS R A step) ::(doS (bestS R A step:Int) R A step).data.toList)):=Hd (by show _++chunkL s wide step i=_;unfold chunkL bestI;rw[hA,← HRr.out]);have HBG:=Hd (fun w5 (h5:Errs w5 E)=>best_good R A step w5 E h5 (by omega) HST.out hch);obtain⟨b,hb⟩:∃b,bestS R A step=b:=⟨_,rfl⟩;rw[hb] at HBI HBG hbs;obtain⟨O,hO⟩:∃O,rowsL s wide step i=O:=⟨_,rfl⟩;obtain⟨L,hL⟩:∃L,O.length=L:=⟨_,rfl⟩;rw[hO] at HR HBI hll;rw[hL] at HR hll;have HLL:=Hd hL;have hbig:L≤600000:=by
    rw[hll];have q1:i*wide≤300000:=by omega
    have q2:i≤i*wide:=Nat.le_mul_of_pos_right _ h1;rw[Nat.mul_add];omega
   obtain⟨D,hD⟩:∃D,(doS (b:Int) R A step).data.toList=D:=⟨_,rfl⟩;have hDl:D.length=wide:=by rw[← hD,Array.length_toList];show (doS _ _ _ _).size=_;rw[doS_size];exact hRs
   rw[hD] at HBI;have HDO:Hid (∀w5,Calls Tryz.prog 85 #[.int .i64 (b:Int),.string R,.string A,.int .i64 (step:Int)] w5 fun e w'=>∃B,w5.heap.size≤B∧e=.returned (.slice (some ⟨B,0,none⟩) wide wide)∧(∀j u,(bytesV D)[j]? =some u→w'.cell? ((⟨B,0,none⟩:Addr).add j)=some u)∧Ext w5 w'):=Hd (fun w5=>by
    refine (do_calls (b:Int) R A step w5 (by omega) (by omega) h4 (by omega)).mono ?_;rintro e w' ⟨B,hB,rfl,hCs,hX⟩;refine⟨B,hB,by rw[hRs],fun j u hj=>?_,hX⟩;have hjl:j<D.length:=by
     rcases Nat.lt_or_ge j D.length with q | q
     ·exact q
     ·rw[List.getElem?_eq_none (by rw[bytesV_length];exact q)] at hj;cases hj
    rw[bytesV_get D j hjl] at hj;injection hj with hj;subst hj;rw[add_plain,(hCs j (by omega)).1];congr 2
    have e:D[j]=doB (b:Int) R.data.toList A.data.toList step j:=by
     have q:=doL_getD (b:Int) R.data.toList A.data.toList step j (by rw[Array.length_toList];show j<R.size;omega);rw[← q];have q2:doL (b:Int) R.data.toList A.data.toList step=D:=by rw[← hD];rfl
     rw[q2];simp[List.getD,hjl]
    rw[e])
   have e1:S.toList.isEmpty=false:=empty_no S (by omega);have hw8:IntKind.u8.wrap (b:Int)=(b:Int):=by unfold IntKind.wrap;simp[IntKind.bits,IntKind.signed];omega
   have b1:wide≤S.size:=by omega
   have HHA:=Hd hA;have HRR:=Hd hR;have HSS:=Hd hS2;have hsz:w.heap.size≤wr.heap.size:=HX.out.size;have hSb:S.size≤300000:=by omega
   have HM:=Hd hS2s;rw[hA];clear hll hiw hch hb hO hL hD hA hSz hS2s;go_wp2_with fail;with_reducible refine (HBG.out _ (HE.out.ext HX.out)).mono ?_
   rintro e w2 ⟨rfl,h2⟩;have HX2:=Hd (HX.out.trans h2);have HR2:=Hd (ownsRow_kept (S:=fun _=>False) HR.out (Ext.keeps h2) (fun _ _=>id));have hsz2:w.heap.size≤w2.heap.size:=HX2.out.size;clear h2;go_wp2_with fail;have HRd:Hid (w2.drew.ownsRow w.heap.size 5 1 u9 L (bytesV O)):=HR2.out;refine wp_region_held_drew (S:=fun w'=>True) (by kernel_rfl) trivial (fun hHeld=>?_);clear hHeld;have hHeld:True:=trivial;refine tkH 0 rfl hHeld ?_;(try simp only[Act.put,xz]);refine tkH 1 rfl hHeld ?_;(try simp only[Act.put,xz]);refine tkH 2 rfl hHeld ?_;(try simp only[Act.put,xz]);refine tkH 5 rfl hHeld ?_;(try simp only[Act.put,xz]);refine tkH 6 rfl hHeld ?_;(try simp only[Act.put,xz]);refine tkH 7 rfl hHeld ?_;(try simp only[Act.put,xz]);refine tkH 8 rfl hHeld ?_;(try simp only[Act.put,xz]);refine tkH 9 rfl hHeld ?_;(try simp only[Act.put,xz]);refine tkH 10 rfl hHeld ?_;(try simp only[Act.put,xz]);refine rdH 3 rfl fun KK hK=>?_;clear hHeld;go_simp;refine hK.out _ _ trivial (fun hHeld=>?_);clear hK KK;(try simp only[Act.put,xz]);refine rdH 4 rfl fun KK hK=>?_;clear hHeld;refine step_append_lies _ rfl (.tmp 34) (.tmp 37) 62 rfl w.heap.size 5 i0 (.int .u8 0) 1 1 Tryz.underlying62 hi0 hz0 hz1 hz2 rfl (by decide) u9 L (bytesV O) (by simp[Act.eval]) (HRd.out.alloc _) ⟨w2.heap.size,0,none⟩ 1 1 [_] (by simp[Act.eval]) rfl (cell_one_new _ _ _) (by intro u hu;simp at hu;subst hu;rfl) (by omega) (by unfold maxLen;omega) (by omega) (by first | (simp;omega) | (have:=hsz2;simp;exact Nat.le_succ_of_le this)) _ rfl ?_
   intro g1 cap1 w1 hown1 hgrow1 hat1 hlt1;have P1:=undo_mem w w2 w1 _ _ L O _ (UInt8.ofNat b) (val_int (show _=(((UInt8.ofNat b).toNat:Nat):Int) by rw[UInt8.toNat_ofNat',Nat.mod_eq_of_lt (by omega)])) _ _ HX2.out HR2.out hgrow1 hown1;have HR1:=Hd P1.1;have HX1:=Hd P1.2;clear hown1 hgrow1 hat1 hlt1 P1;refine hK.out _ _ trivial (fun hHeld=>?_);clear hK KK;(try simp only[Act.put,xz]);refine rdH 11 rfl fun KK hK=>?_;clear hHeld;go_simp;refine (HDO.out _).mono ?_;rintro e w3 ⟨B,hB3,rfl,hcs,hx3⟩;have HX3:=Hd (HX1.out.trans hx3);have HR3:=Hd (ownsRow_kept (S:=fun _=>False) HR1.out (Ext.keeps hx3) (fun _ _=>id));have HCS:=Hd hcs;clear hx3 hB3 hcs;go_simp;refine hK.out _ _ trivial (fun hHeld=>?_);clear hK KK;(try simp only[Act.put,xz]);refine rdH 12 rfl fun KK hK=>?_;clear hHeld;have hsz3:w.heap.size≤w3.heap.size:=HX3.out.size;refine step_append_lies _ rfl (.tmp 38) (.tmp 45) 62 rfl w.heap.size 5 i0 (.int .u8 0) 1 1 Tryz.underlying62 hi0 hz0 hz1 hz2 rfl (by decide) (.slice (some ⟨g1,0,none⟩) (L+1) cap1) (L+1) (bytesV (O ++ [UInt8.ofNat b])) (by simp[Act.eval]) HR3.out ⟨B,0,none⟩ wide wide (bytesV D) (by simp[Act.eval]) (by rw[bytesV_length];omega) HCS.out (bytesV_one D) (by omega) (by unfold maxLen;omega) (by omega) hsz3 _ rfl ?_;intro g2 cap2 w4 hown2 hgrow2 hat2 hlt2;have P2:=row_more (D:=D) HX3.out HR3.out hgrow2 (by rw[hDl];exact hown2);have HF:Hid (w4.ownsRow w.heap.size 5 1 (.slice (some ⟨g2,0,none⟩) (L+1+wide) cap2) (rowsL s wide step (i+1)).length (bytesV (rowsL s wide step (i+1)))):=Hd (by
    have e:O++(UInt8.ofNat b ::D)=(O ++ [UInt8.ofNat b])++D:=by simp
    have l:((O ++ [UInt8.ofNat b])++D).length=L+1+D.length:=by rw[List.length_append,List.length_append,HLL.out];rfl
    rw[HBI.out,e,l,hDl];exact hDl▸P2.1)
   have HX4:=Hd P2.2;clear P2 hown2 hgrow2 hat2 hlt2;refine hK.out _ _ trivial (fun hHeld=>?_);clear hK KK;(try simp only[Act.put,xz]);refine tkH 13 rfl hHeld ?_;(try simp only[Act.put,xz]);refine wpAnyH_done (by kernel_rfl) ?_ _;clear hHeld;go_wp2_with fail;go_roundw
   case rel=>exact⟨i+1,S2,by omega,rfl,by rw[HRr.out];rfl,HS2,HF,HX4⟩
   case measure=>exact HM.out
  ·obtain rfl:i=n:=by omega
   have e1:S.toList.isEmpty=true:=empty_yes S (by rw[hSz,HN.out];omega);have hcr:=bytes_conv rfl HR.out;go_wp2_with fail;go_ret2;exact⟨rfl,HX.out⟩
end Go.Proofs.YthlibiocadimhaaGreatDoor
