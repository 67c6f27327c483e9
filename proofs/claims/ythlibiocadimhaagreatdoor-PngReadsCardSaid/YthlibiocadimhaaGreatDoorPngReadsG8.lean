/-
  huff.Read: a tree of a code.
  huff's Tree.Next: what symbol comes next.
  Symbols written by their words and read again: plain laws.
  A packed text read: a plain machine. No function of the program is named.
  huff.Read, huff.Codes of lengths that are not right.
  inflate: a reader of a packed text in memory: must, get, tree, next.
  inflate: what a reader of a packed text does between two blocks; a stored block.
  inflate: tokens: what stands beside a reader on its way: a tree, a closure for distances; the tables; the plain machine's steps.
  A packed text read: blocks, one behind the other: what they may not pass. No function of the program is named.
  A packed text read: where it ends. No function of the program is named.
  Stored blocks: what they are, and what they mean. No function of the program is named.
  A packed text read: how many bytes there may be. No function of the program is named.
  Tokens as bits, and their bits read: plain laws. No function of the program is named.
  deflate.place; a writer of a block: its symbols.
  deflate.counts: how often each symbol and each distance stands among tokens.
  deflate.counts walked.
  Runs of lengths: what they say, and how they are read: plain laws. No function of the program is named.
  What tokens mean, and their bits in a text: plain laws. No function of the program is named.
  A dynamic block's head: codes whose last lengths are 0 are cut; the head is read. Plain laws. No function of the program is named.
  slices.Grow of no row, slices.Concat of rows of whole numbers.
  slices.Clone, Grow, Concat of rows of packs.
-/
import Derived.Test.YthlibiocadimhaaGreatDoorPngReadsG6
import Derived.Test.YthlibiocadimhaaGreatDoorPngReadsG7
set_option linter.all false
set_option maxRecDepth 100000
namespace Go.Proofs.YthlibiocadimhaaGreatDoor
open Go.RowKit
def symV (l:List Nat):List Value:=l.map λ i:Nat=>Value.int .i64 (i:Int)
structure TAt (w:World) (T:Nat) (v:Value) (f:Nat->Int) (len:Nat) (l:List Nat):Prop where
 many:∀j,j<16->w.cell? ⟨T,j,none⟩=some (.int .i64 (many f j len:Int))
 cell:w.cell? ⟨T,16,none⟩=some v
 free:w.frozen? ⟨T,16,none⟩=false
 row:w.ownsRow 0 3 1 v l.length (symV l)
 apart:v.ownBlock≠some T
theorem zkE (F:Nat->Int):Array.foldl (λ (cs:Array Value) (x:Value × Nat)=>cs.setIfInBounds x.snd x.fst) #[.int .i64 0,.int .i64 0,.int .i64 0,.int .i64 0,.int .i64 0,.int .i64 0,.int .i64 0,.int .i64 0,.int .i64 0,.int .i64 0,.int .i64 0,.int .i64 0,.int .i64 0,.int .i64 0,.int .i64 0,.int .i64 0,.slice none 0 0] ((cellsI .i64 16 F).zipIdx) 0 16=#[.int .i64 (F 0),.int .i64 (F 1),.int .i64 (F 2),.int .i64 (F 3),.int .i64 (F 4),.int .i64 (F 5),.int .i64 (F 6),.int .i64 (F 7),.int .i64 (F 8),.int .i64 (F 9),.int .i64 (F 10),.int .i64 (F 11),.int .i64 (F 12),.int .i64 (F 13),.int .i64 (F 14),.int .i64 (F 15),.slice none 0 0]:=by
 rw[zki];kernel_rfl
theorem zfZ (f:Nat->Int) (len:Nat):∀n,upTo f len n<=n*len:=by
 intro n;induction n with
 | zero=>exact qbi _
 | succ n ih=>have:=zbi f (n+1) len;simp only[upTo,qcc];omega
theorem znn {w wr w5:World} {T:Nat} {v v':Value} {f:Nat->Int} {len i:Nat} {l l0:List Nat} {o:Obj} (hT:TAt wr T v f len l0) (hX:Ext w wr) (hTw:w.heap.size<=T) (hV:∀k,v.ownBlock=some k->w.heap.size<=k) (hl:l0=l)
  (hgrow:(wr.alloc o).grownBy w5 v.ownBlock) (hown:w5.ownsRow 0 3 1 v' (l.length+1) (symV l ++ [.int .i64 (i:Int)])) (hat:v'.ownBlock=v.ownBlock\/v'.ownBlock=some (wr.heap.size+1)):
  w5.cell? ⟨T,16,none⟩=some v/\w5.frozen? ⟨T,16,none⟩=false/\TAt (w5.setCell ⟨T,16,none⟩ v') T v' f len (l ++ [i])/\(∀k,v'.ownBlock=some k->w.heap.size<=k)/\Ext w (w5.setCell ⟨T,16,none⟩ v'):=by
 subst hl;have hlt:T<wr.heap.size:=qab wr _ hT.cell;have hlt2:T<(wr.alloc o).heap.size:=by rw[qb8];omega
 have hk:=Keeps.grown hgrow;have hn:¬ v.ownBlock=some T:=hT.apart;have cc:∀j,w5.cell? ⟨T,j,none⟩=wr.cell? ⟨T,j,none⟩:=λ j=>(hk.cell (p:=⟨T,j,none⟩) hlt2 hn).trans (World.cell?_alloc_past _ _ _ hlt);have ff:∀j,w5.frozen? ⟨T,j,none⟩=wr.frozen? ⟨T,j,none⟩:=λ j=>(hk.frozen (p:=⟨T,j,none⟩) hlt2 hn).trans (World.frozen?_alloc_past _ _ _ hlt);have hvT:v'.ownBlock≠some T:=by
  rcases hat with q | q
  ·rw[q];exact hn
  rw[q];intro e;injection e with e;omega
 have hv':∀k,v'.ownBlock=some k->w.heap.size<=k:=by
  intro k hk;rcases hat with q | q
  ·rw[q] at hk;exact hV k hk
  rw[q] at hk;injection hk with hk;have:=hX.size;omega
 have hE:Ext w w5:=by
  have h1:Ext w (wr.alloc o):=hX.alloc o;exact⟨hk.os.trans h1.os,hk.tape.trans h1.tape,hk.output.trans h1.output,qam h1.size hk.size,λ j hj=>(hk.block j (by have:=h1.size;omega) (λ q=>by have:=hV j q;omega)).trans (h1.block j hj)⟩
 refine⟨(cc 16).trans hT.cell,(ff 16).trans hT.free,⟨λ j hj=>?_,?_,?_,?_,hvT⟩,hv',hE.setCell hTw _⟩
 ·rw[qah _ _ _ _ (by intro e;injection e with _ e;omega),cc];exact hT.many j hj
 ·exact qa0 _ _ _ ((cc 16).trans hT.cell)
 ·rw[qap,ff];exact hT.free
 have e:symV (l0 ++ [i])=symV l0 ++ [.int .i64 (i:Int)]:=by simp[symV]
 rw[e,qaa];exact qaI hown hvT _
theorem zl4 (x:Option Addr) (len cap:Nat) (f:Nat->Int) (w:World) (E:Nat->Addr) (hE:Errs w E) (hx:Ints w x len f) (hb:zaT f len) (hc:zan f len):
  Calls Tryz.prog 175 #[.slice x len cap] w λ e w'=>(∃T v,w.heap.size<=T/\(∀k,v.ownBlock=some k->w.heap.size<=k)/\e=.returned (.tuple #[.pointer (some ⟨T,0,none⟩),.nilIface])/\TAt w' T v f len (symA f len 15))/\Ext w w':=by
 have hl:=hb.1;have HX:=Hd hx;have HB:=Hd hb;have HC:=Hd hc;have HE:=Hd hE;clear hx hb hc hE;go_enter Tryz.func175,Tryz.ntmps175
 go_wp2_with fail;refine (zdj x len cap f w HX.out (by unfold maxLen;omega) _ _ (HE.out.var 1 (by decide)) (HE.out.var 2 (by decide))).mono ?_;rintro e w2 ⟨h2,h | h | h⟩;rotate_left
 ·exact absurd HB.out h.2
 ·exact absurd HC.out h.2.2
 obtain⟨rfl,_⟩:=h;have X2:=Hd h2;clear h2;go_wp2_with fail;refine (zdh x len cap f _ (HX.out.ext X2.out) (by unfold maxLen;omega) HB.out.2).mono ?_;rintro e w3 ⟨rfl,rfl⟩;have X3:=Hd (X2.out.alloc (.cells (cellsI .i64 16 λ n=>(many f n len:Int)) 229));go_wp2_with fail;rw[zkE];refine zac (λ wz=>Ext w wz/\w2.heap.size+1<wz.heap.size/\(∀j,j<16->wz.cell? ⟨w2.heap.size+1,j,none⟩=some (.int .i64 (many f j len:Int)))/\wz.cell? ⟨w2.heap.size+1,16,none⟩=some (.slice none 0 0)/\wz.frozen? ⟨w2.heap.size+1,16,none⟩=false) ?_ ?_
 ·refine⟨X3.out.alloc _,by simp,λ j hj=>?_,?_,?_⟩
  ·rw[qaV _ _ _ _ (by simp)];match j,hj with
   | 0,_=>rfl
   | 1,_=>rfl
   | 2,_=>rfl
   | 3,_=>rfl
   | 4,_=>rfl
   | 5,_=>rfl
   | 6,_=>rfl
   | 7,_=>rfl
   | 8,_=>rfl
   | 9,_=>rfl
   | 10,_=>rfl
   | 11,_=>rfl
   | 12,_=>rfl
   | 13,_=>rfl
   | 14,_=>rfl
   | 15,_=>rfl
   | n+16,h=>exact absurd h (by omega)
  ·rw[qaV _ _ _ _ (by simp)];rfl
  rw[qbE _ _ _ _ (by simp)]
 rintro w4 ⟨hX4,hT,hM,hc,hf⟩;have X4:=Hd hX4;have TA:Hid (TAt w4 (w2.heap.size+1) (.slice none 0 0) f len (symA f len 0)):=Hd ⟨hM,hc,hf,qaK _ _ _ _,by intro e;cases e⟩;have hTw:w.heap.size<=w2.heap.size+1:=by have:=X2.out.size;omega
 clear hX4 hM hc hf X3;generalize w2.heap.size+1=T at *;obtain⟨i0,hi0,hz0,hz1,hz2⟩:=qbb zaX;go_loopw [6] (λ c wr=>∃(n:Nat) (v:Value),1<=n/\n<=16/\c=.int .i64 n/\Hid (TAt wr T v f len (symA f len (n-1)))/\Hid (∀k,v.ownBlock=some k->w.heap.size<=k)/\Hid (Ext w wr)) (λ c _=>16-(intOf c).toNat)
 case atStart=>exact⟨1,.slice none 0 0,by omega,by omega,rfl,TA,Hd (λ k h=>by cases h),X4⟩
 case round=>
  obtain⟨n,v,hn1,hn2,rfl,HT,HV,HXt⟩:=hrel;by_cases hlt:n<16
  ·have tn:=dT (p:=(n:Int)<=15);have HT0:Hid (TAt wr T v f len (symA f len (n-1)++symL f n 0)):=Hd (by simp only[symL,qbW];exact HT.out);go_wp2_with fail;go_loopw [24] (λ c wr=>∃(i:Nat) (v:Value),i<=len/\c=.int .i64 i/\Hid (TAt wr T v f len (symA f len (n-1)++symL f n i))/\Hid (∀k,v.ownBlock=some k->w.heap.size<=k)/\Hid (Ext w wr)) (λ c _=>len-(intOf c).toNat)
   case atStart=>exact⟨0,v,by omega,rfl,HT0,HV,HXt⟩
   case round=>
    clear HT HV HXt HT0;obtain⟨i,v,hi,rfl,HT,HV,HXt⟩:=hrel;by_cases hil:i<len
    ·obtain⟨a,rfl⟩:∃a,x=some a:=by
      cases x with
      | none=>have:=HX.out.1 rfl;omega
      | some a=>exact⟨a,rfl⟩
     obtain⟨hcell,f1,f2⟩:=(HX.out.ext HXt.out).2 a rfl i hil;by_cases hfn:f i=n
     ·have t1:(f i ==(n:Int))=true:=qbl.2 hfn;have HSY:=Hd (znx f n i hfn);have hct:=HT.out.cell;have hft:=HT.out.free;have hrow:=HT.out.row;have hTz:T<wr.heap.size:=qab wr _ hct;obtain⟨l,hl2⟩:=nmE (symA f len (n-1)++symL f n i);have hll:l.length<=5000:=by
       rw[<- hl2,qaa,zbz,zck];have q1:=zbi f n i;have q2:=zfZ f len (n-1);have q3:(n-1)*len<=15*300:=qaE (by omega) hl;omega
      rw[hl2] at hrow;have HLL:=Hd hl2;clear hl2 hfn;go_wp2_with (at_builtin;refine apA (hrow.alloc _) [.int .i64 (i:Int)] ?_ (hnews:=?c1))
      case c1=>
       intro j u hj;match j,hj with
       | 0,hj=>simp only[qay,Option.some.injEq] at hj;subst hj;rw[zae,qaV _ _ _ _ rfl];rfl
      intro v' w5 hown hgrow _ hat;obtain⟨g5,cap5,rfl,_,_⟩:=zaw hown (by omega);have P:=znn HT.out HXt.out hTw HV.out HLL.out hgrow hown hat;have c16:=P.1;have f16:=P.2.1;have HP:=Hd P.2.2;have HT2:Hid (TAt (w5.setCell ⟨T,16,none⟩ (.slice (some ⟨g5,0,none⟩) (l.length+1) cap5)) T (.slice (some ⟨g5,0,none⟩) (l.length+1) cap5) f len (symA f len (n-1)++symL f n (i+1))):=Hd (by rw[HSY.out,<- qat,HLL.out];exact HP.out.1);clear P hown hgrow hat hrow hct hft;go_wp2_with fail;go_roundw
      case rel=>exact⟨i+1,_,by omega,by go_num,HT2,Hd HP.out.2.1,Hd HP.out.2.2⟩
      case measure=>simp[intOf];omega
     have t1:(f i ==(n:Int))=false:=qak.2 hfn;have HSY:=Hd (zpt f n i hfn);clear hfn;go_wp2_with fail;go_roundw
     case rel=>exact⟨i+1,v,by omega,by go_num,by rw[HSY.out];exact HT,HV,HXt⟩
     case measure=>simp[intOf];omega
    obtain rfl:i=len:=by omega
    go_wp2_with fail;go_roundw
    case rel=>
     refine⟨n+1,v,by omega,by omega,by go_num,?_,HV,HXt⟩;have e:symA f i (n+1-1)=symA f i (n-1)++symL f n i:=by
      obtain⟨m,rfl⟩:∃m,n=m+1:=⟨n-1,by omega⟩;rfl
     rw[e];exact HT
    case measure=>simp[intOf];omega
  obtain rfl:n=16:=by omega
  go_wp2_with fail;go_ret2;exact⟨⟨T,v,hTw,HV.out,rfl,HT.out⟩,HXt.out⟩
theorem TAt.kept {S:Nat->Prop} {w w':World} {T:Nat} {v:Value} {f:Nat->Int} {len:Nat} {l:List Nat} (h:TAt w T v f len l) (hk:Keeps S w w') (hT:¬ S T) (hv:∀k,v.ownBlock=some k->¬ S k):TAt w' T v f len l:=by
 have hlt:T<w.heap.size:=qab w _ h.cell;exact⟨λ j hj=>(hk.cell (p:=⟨T,j,none⟩) hlt hT).trans (h.many j hj),(hk.cell (p:=⟨T,16,none⟩) hlt hT).trans h.cell,(hk.frozen (p:=⟨T,16,none⟩) hlt hT).trans h.free,zaa h.row hk hv,h.apart⟩
theorem zmr (c b:Nat) (hc:c<1048576) (hb:b<2):bits BinOp.or IntKind.i64 ((2*c:Nat):Int) (b:Int)=((2*c+b:Nat):Int):=by
 have e:(2*c) ||| b=2*c+b:=by
  have:=qcw (i:=1) (b:=b) (by omega) c;simpa using this.symm
 show IntKind.i64.wrap ((BitVec.ofInt 64 ((2*c:Nat):Int) ||| BitVec.ofInt 64 (b:Int)).toNat:Int)=_;rw[qb9,qb9,BitVec.toNat_or,qb7,qb7,qaF (by omega),qaF (by omega),e,qal];omega
theorem RAt.lt {w:World} {B o a:Nat} {s:ByteArray} (h:RAt w B o s a):B<w.heap.size:=qab w _ h.c0
theorem RAt.ext {w w':World} {B o a:Nat} {s:ByteArray} (h:RAt w B o s a) (hE:Ext w w'):RAt w' B o s a:=
 ⟨(hE.cell (p:=⟨B,o,none⟩) h.lt).trans h.c0,(hE.cell (p:=⟨B,o+1,none⟩) h.lt).trans h.c1,(hE.frozen (p:=⟨B,o+1,none⟩) h.lt).trans h.f1,h.size,h.le⟩
theorem RStep.of_ext {w w':World} {B:Nat} (o:Nat) (hE:Ext w w') (hB:B<w.heap.size):RStep w w' B o:=
 ⟨hE.keeps,λ j _=>hE.cell (p:=⟨B,j,none⟩) hB,λ j=>hE.frozen (p:=⟨B,j,none⟩) hB⟩
theorem RStep.after {w0 w w':World} {B o:Nat} (h:RStep w w' B o) (hX:Ext w0 w) (hB:w0.heap.size<=B):Ext w0 w':=Below.trans hX (h.below hB hX.size)
def zdu (w':World) (e:Ending) (B o:Nat) (s:ByteArray) (a:Nat) (f:Nat->Int) (len:Nat) (E:Nat->Addr):Prop:=
 (∃n k,1<=n/\n<=15/\a+n<=8*s.size/\NoHit f len (Crc.num s.data.toList) a (n-1)/\k<len/\f k=(n:Int)/\word f len k=codeAt (Crc.num s.data.toList) a n/\e=.returned (.tuple #[.int .i64 (k:Int),.nilIface])/\RAt w' B o s (a+n))\/
 ((∀m,m<=15->a+m<=8*s.size->NoHit f len (Crc.num s.data.toList) a m)/\e=.returned (.tuple #[.int .i64 0,sentV (E 0)])/\∃a',a'<=8*s.size/\RAt w' B o s a')
theorem zlA (T B o a:Nat) (x:Option Addr) (cap:Nat) (f:Nat->Int) (len:Nat) (s:ByteArray) (w0 w:World) (E:Nat->Addr) (hE:Errs w0 E) (hX:Ext w0 w) (hU:upTo f len 15=0) (hT:w.cell? ⟨T,16,none⟩=some (.slice x 0 cap)) (hR:RAt w B o s a) (ha:a<=8*s.size):
  Calls Tryz.prog 176 #[.pointer (some ⟨T,0,none⟩),.pointer (some ⟨B,o,none⟩)] w λ e w'=>zdu w' e B o s a f len E/\RStep w w' B o:=by
 have hv:=(hE.ext hX).var 0 (by decide);simp only[gk,sentV] at hv;have HR:=Hd hR;have HU:=Hd hU;clear hE hX hR hU;go_enter Tryz.func176,Tryz.ntmps176
 go_wp2_with fail;refine wp_loop_rounds 1 ?_;rw[rounds_succ];go_wp2_with fail;go_region;all_goals go_wp2_with fail
 all_goals go_ret2
 all_goals exact⟨.inr ⟨λ m hm _=>by
  intro j h1 h2;exact NoHit.all (NoHit.zero f len (Crc.num s.data.toList) a) (by rw[HU.out];exact qbi _) (by omega) j h1 (by omega),rfl,a,ha,HR.out.drewN 1⟩,(RStep.refl _ _ _).drewN 1⟩
theorem zmH (T B o a g cap:Nat) (f:Nat->Int) (len:Nat) (s:ByteArray) (w0 w:World) (E:Nat->Addr) (hE:Errs w0 E) (hX:Ext w0 w) (hB:w0.heap.size<=B) (hl:len<=300) (hT:TAt w T (.slice (some ⟨g,0,none⟩) (upTo f len 15) cap) f len (symA f len 15)) (hR:RAt w B o s a) (ha:a<=8*s.size) (hTB:T≠B) (hvB:g≠B):
  Calls Tryz.prog 176 #[.pointer (some ⟨T,0,none⟩),.pointer (some ⟨B,o,none⟩)] w λ e w'=>zdu w' e B o s a f len E/\RStep w w' B o:=by
 have hsz:=hR.size;have HE:=Hd hE;have HX:=Hd hX;have HT:=Hd hT;have HR:=Hd hR;have HTB:=Hd hTB;have HVB:=Hd hvB;have HLL:=Hd (zbz f len 15);have HS0:=Hd (zo0 f len);clear hE hX hT hR hTB hvB;go_enter Tryz.func176,Tryz.ntmps176
 go_wp2_with fail;go_loopw [6,7,8,9] (λ c fi at_ n wr=>∃m:Nat,m<=15/\c=.int .i64 ((2*codeAt (Crc.num s.data.toList) a m:Nat):Int)/\fi=.int .i64 (first f len (m+1):Int)/\at_=.int .i64 (upTo f len m:Int)/\n=.int .i64 ((m:Int)+1)/\Hid (NoHit f len (Crc.num s.data.toList) a m)/\a+m<=8*s.size/\Hid (RAt wr B o s (a+m))/\Hid (RStep w wr B o)) (λ _ _ _ n _=>16-(intOf n).toNat)
 case atStart=>exact⟨0,by omega,rfl,rfl,rfl,rfl,Hd (NoHit.zero _ _ _ _),by omega,HR,Hd (RStep.refl _ _ _)⟩
 case round=>
  obtain⟨m,hm,rfl,rfl,rfl,rfl,HN,ham,HA,HS⟩:=hrel;have hTw:=HT.out.kept (S:=λ k=>k=B) HS.out.keeps HTB.out (λ k hk e=>HVB.out (by cases hk;exact e));have hcl:codeAt (Crc.num s.data.toList) a m<32768:=qaA (zct _ _ m) (qaq (n:=2) (by decide) hm);have hu1:upTo f len m<=4500:=qam (zfZ f len m) (qaE hm hl);have hu2:upTo f len 15<=4500:=qam (zfZ f len 15) (qaE (qaj _) hl);have hfi:=HN.out.next;have c16:=hTw.cell;have HTW:=Hd hTw;clear hTw;obtain⟨C,hC⟩:=nmE (2*codeAt (Crc.num s.data.toList) a m);obtain⟨F,hF⟩:=nmE (first f len (m+1));obtain⟨U,hU⟩:=nmE (upTo f len m);obtain⟨V,hV⟩:=nmE (upTo f len 15);have hC2:C<=65536:=by omega
  rw[hC,hF] at hfi;rw[hU] at hu1;rw[hV] at hu2 c16;rw[hC,hF,hU];have HC:=Hd hC;have HF:=Hd hF;have HU:=Hd hU;have HV:=Hd hV;clear hC hF hU hV hcl;by_cases hgo:m<15/\U<V
  ·obtain⟨hm15,hup⟩:=hgo;have t1:=dT (p:=(m:Int)+1<=15);have t2:decide (U<V)=true:=qae hup;by_cases hbit:a+m+1<=8*s.size
   ·obtain⟨b,hb⟩:=nmE (Crc.num s.data.toList/2^(a+m)%2);have hb2:b<2:=by rw[<- hb];exact qbV _ (by decide)
    have HBI:=Hd hb;clear hb;go_wp2_with fail;refine (zmk B o (a+m) 1 s _ HA.out (by omega) hbit).mono ?_;rintro e w2 ⟨rfl,hA2,hS2⟩;rw[show (2:Nat)^1=2 from rfl,HBI.out];have HA2:=Hd hA2;have HS2:=Hd (HS.out.trans hS2);have hTw2:=HT.out.kept (S:=λ k=>k=B) (HS2.out).keeps HTB.out (λ k hk e=>HVB.out (by cases hk;exact e));have hcn:=hTw2.many (m+1) (by omega);have c16':=hTw2.cell;rw[HV.out] at c16';have HTW2:=Hd hTw2;obtain⟨K,hK⟩:=nmE (many f (m+1) len);have hKl:K<=300:=by rw[<- hK];exact qam (zbi f (m+1) len) hl
    rw[hK] at hcn;obtain⟨D,hD⟩:=nmE (C+b);have hor:bits BinOp.or IntKind.i64 (C:Int) (b:Int)=(D:Int):=by
     have:=zmr (codeAt (Crc.num s.data.toList) a m) b (qaA (zct _ _ m) (qaq (n:=2) (by decide) (by omega:m<=20))) hb2;rw[HC.out] at this;rw[this,hD]
    have HOR:=Hd hor;have hD1:C<=D:=by omega
    have hD2:D<=C+1:=by omega
    have HD:=Hd hD;have HK:=Hd hK;clear hA2 hS2 hTw2 c16 hD hK;by_cases hhit:D<F+K
    ·have t3:=dT (p:=(D:Int)-F<K);have hcode:codeAt (Crc.num s.data.toList) a (m+1)=D:=by
      rw[<- HD.out,<- HC.out,<- HBI.out];rfl
     obtain⟨k,hk1,hk2,hk3,hk4⟩:=HS0.out D (m+1) (by omega) (by omega) (by rw[HF.out];omega) (by rw[HF.out,HK.out];exact hhit);rw[qaX,HU.out,HF.out] at hk1;have hidx:U+D-F<V:=by
      rw[<- HV.out,<- HLL.out];rcases qa8 (U+(D-F)) (symA f len 15).length with q | q
      ·omega
      rw[qba q] at hk1;cases hk1
     have hrow:=HTW2.out.row;rw[HLL.out,HV.out] at hrow;have hcell:w2.cell? ⟨g,U+D-F,none⟩=some (.int .i64 (k:Int)):=by
      have q:=hrow.cellAt (U+D-F) (by omega);rw[q];unfold symV;rw[List.getElem?_map,show U+D-F=U+(D-F) by omega,hk1];rfl
     have HK2:=Hd hk2;have HK3:=Hd hk3;have HK4:=Hd hk4;have HCD:=Hd hcode;have hi1:(0:Int)<=(U:Int)+D-F:=by omega
     have hi2:(U:Int)+D-F<(V:Int):=by omega
     clear hrow hk1 hk2 hk3 hk4 hcode t3 hcn hor;have t3:=dT (p:=(D:Int)-F<K);have hcn:=HTW2.out.many (m+1) (by omega);rw[HK.out] at hcn;have hor:bits BinOp.or IntKind.i64 (C:Int) (b:Int)=(D:Int):=HOR.out;go_wp2_with fail;go_ret2;refine⟨.inl ⟨m+1,k,by omega,by omega,by omega,?_,HK2.out,HK3.out,?_,rfl,HA2.out⟩,HS2.out⟩
     ·rw[qaX];exact HN.out
     rw[HCD.out];exact HK4.out
    have t3:=dF (p:=(D:Int)-F<K);go_wp2_with fail;go_roundw
    case rel=>
     have hcode:codeAt (Crc.num s.data.toList) a (m+1)=D:=by
      rw[<- HD.out,<- HC.out,<- HBI.out];rfl
     refine⟨m+1,by omega,?_,?_,?_,by go_num,Hd (HN.out.succ ?_),by omega,HA2,HS2⟩
     ·rw[hcode];exact zbg (by omega)
     ·rw[zbv f len (m+1) (by omega),HF.out,HK.out];exact zbg (by omega)
     ·exact zbg (by rw[<- HU.out,<- HK.out];simp only[upTo];omega)
     rw[hcode,HF.out,HK.out];omega
    case measure=>simp[intOf];omega
   have hv:=(HE.out.ext (HS.out.after HX.out hB)).var 0 (by decide);go_wp2_with fail;refine (zhV B o (a+m) 1 s _ E (HE.out.ext (HS.out.after HX.out hB)) HA.out (by omega) (by omega) ham).mono ?_;rintro e w2 ⟨rfl,h2⟩;have HA2:=Hd (HA.out.ext h2);have HS2:=Hd (HS.out.trans (RStep.of_ext o h2 HA.out.lt));clear h2 hv c16;unfold sentV;go_wp2_with fail;go_ret2;refine⟨.inr ⟨λ m' h1 h2=>?_,rfl,a+m,ham,HA2.out⟩,HS2.out⟩;have:m'<=m:=by omega
   exact λ j q1 q2=>HN.out j q1 (by omega)
  have hv:=(HE.out.ext (HS.out.after HX.out hB)).var 0 (by decide);simp only[gk,sentV] at hv;by_cases hm15:m<15
  ·have t1:=dT (p:=(m:Int)+1<=15);have t2:=dF (p:=U<V);have huv:V<=U:=by omega
   go_wp2_with fail;go_region;all_goals go_wp2_with fail
   all_goals go_ret2
   all_goals exact⟨.inr ⟨λ m' h1 h2=>λ j q1 q2=>NoHit.all HN.out (by rw[HV.out,HU.out];exact huv) hm j q1 (by omega),rfl,a+m,ham,HA.out.drewN 1⟩,HS.out.drewN 1⟩
  have t1:=dF (p:=(m:Int)+1<=15);go_wp2_with fail;go_region;all_goals go_wp2_with fail
  all_goals go_ret2
  all_goals exact⟨.inr ⟨λ m' h1 h2=>λ j q1 q2=>HN.out j q1 (by omega),rfl,a+m,ham,HA.out.drewN 1⟩,HS.out.drewN 1⟩
theorem zhB (T B o a:Nat) (v:Value) (f:Nat->Int) (len:Nat) (s:ByteArray) (w0 w:World) (E:Nat->Addr) (hE:Errs w0 E) (hX:Ext w0 w) (hB:w0.heap.size<=B) (hl:len<=300) (hT:TAt w T v f len (symA f len 15)) (hR:RAt w B o s a) (ha:a<=8*s.size) (hTB:T≠B) (hvB:v.ownBlock≠some B):
  Calls Tryz.prog 176 #[.pointer (some ⟨T,0,none⟩),.pointer (some ⟨B,o,none⟩)] w λ e w'=>zdu w' e B o s a f len E/\RStep w w' B o:=by
 have hrow:=hT.row;rcases zah hrow with⟨rfl,h2⟩ | ⟨g,cap,rfl⟩
 ·exact zlA T B o a none 0 f len s w0 w E hE hX (by rw[<- zbz];exact h2) hT.cell hR ha
 rw[zbz] at hT hvB;exact zmH T B o a g cap f len s w0 w E hE hX hB hl hT hR ha hTB (λ e=>hvB (by rw[e];rfl))
theorem zcb (f:Nat->Int) (len k m:Nat) (hc:zan f len) (hk:k<len) (hf:f k=m) (h1:1<=m) (h2:m<=15):word f len k<first f len m+many f m len/\word f len k<2^m:=by
 have hw:word f len k=first f len m+many f m k:=by unfold word;rw[qad (by omega),hf];rfl
 have:=zf8 f len hc k m hk hf h1 h2;omega
theorem zlk {w':World} {e:Ending} {B o a len k m:Nat} {s:ByteArray} {E:Nat->Addr} {f:Nat->Int} (h:zdu w' e B o s a f len E) (hc:zan f len) (hk:k<len) (hf:f k=m) (h1:1<=m) (h2:m<=15)
  (hs:a+m<=8*s.size) (hv:codeAt (Crc.num s.data.toList) a m=word f len k):e=.returned (.tuple #[.int .i64 (k:Int),.nilIface])/\RAt w' B o s (a+m):=by
 have hN:=zfB hf h1 hv;have hlt:=(zcb f len k m hc hk hf h1 h2).1;rcases h with⟨n,k',q1,q2,_,qN,q5,q6,q7,he,hR⟩ | ⟨hA,_,_⟩
 ·have hlt':=(zcb f len k' n hc q5 q6 q1 q2).1;have hnm:n=m:=by
   rcases Nat.lt_trichotomy n m with q | q | q
   ·have:=hN n q1 (by omega);omega
   ·exact q
   have:=qN m h1 (by omega);omega
  subst hnm;have hkk:k'=k:=by
   rcases Nat.decEq k' k with q | q
   ·have:=apart f len k k' hk (λ e=>q e.symm) (by omega) (by omega);rw[q6,hf,Int.sub_self,Int.toNat_zero,Nat.pow_zero,Nat.div_one,q7,hv] at this;exact absurd rfl this
   exact q
  subst hkk;exact⟨he,hR⟩
 have:=hA m h2 hs m h1 (qaj _);omega
theorem zla {w:World} {b b' e e' s s' n n':Nat} {v v':Value} {xs xs':List Value} (h:w.ownsRow b e s v n xs) (h':w.ownsRow b' e' s' v' n' xs') (hne:e≠e'):∀k,v.ownBlock=some k->v'.ownBlock≠some k:=by
 intro k hk hk';rcases h.2 with⟨rfl,_⟩ | ⟨g,cap,cur,rfl,_,hh,_⟩
 ·cases hk
 rcases h'.2 with⟨rfl,_⟩ | ⟨g',cap',cur',rfl,_,hh',_⟩
 ·cases hk'
 have e1:g=k:=by simpa [Value.ownBlock] using hk
 have e2:g'=k:=by simpa [Value.ownBlock] using hk'
 subst e1;subst e2;rw[hh] at hh';injection hh' with q;injection q with _ q2;exact hne q2
structure WR (w0 w:World) (W0:Nat) (u:Value) (V n:Nat) (t:Value) (l:List Nat):Prop where
 ext:Ext w0 w
 wat:WAt w W0 0 u V n
 row:w.ownsRow 0 3 1 t l.length (symV l)
 wn:w0.heap.size<=W0
 un:∀k,u.ownBlock=some k->w0.heap.size<=k
 tn:∀k,t.ownBlock=some k->w0.heap.size<=k/\k≠W0
theorem WR.apart {w0 w:World} {W0:Nat} {u:Value} {V n:Nat} {t:Value} {l:List Nat} (h:WR w0 w W0 u V n t l):∀k,u.ownBlock=some k->t.ownBlock≠some k:=by
 obtain⟨b,_,_,hb⟩:=h.wat.row;exact zla hb h.row (by decide)
theorem WR.drew {w0 w:World} {W0:Nat} {u:Value} {V n:Nat} {t:Value} {l:List Nat} (h:WR w0 w W0 u V n t l):WR w0 w.drew W0 u V n t l:=
 ⟨h.ext.drew,⟨h.wat.c0,h.wat.c1,h.wat.f0,h.wat.f1,h.wat.row,h.wat.apart,h.wat.lt⟩,h.row,h.wn,h.un,h.tn⟩
namespace Inf
def get (L:List UInt8) (k a:Nat):Except Nat (Nat × Nat):=if a+k<=8*L.length then .ok (Crc.num L/2^a%2^k,a+k) else .error 0
def Hit (L:List UInt8) (f:Nat->Int) (len a n k:Nat):Prop:=1<=n/\n<=15/\a+n<=8*L.length/\k<len/\f k=(n:Int)/\word f len k=codeAt (Crc.num L) a n
theorem Hit.nohit {L:List UInt8} {f:Nat->Int} {len a n k:Nat} (h:Hit L f len a n k):NoHit f len (Crc.num L) a (n-1):=zfB h.2.2.2.2.1 h.1 h.2.2.2.2.2.symm
theorem Hit.lt {L:List UInt8} {f:Nat->Int} {len a n k:Nat} (h:Hit L f len a n k) (hc:zan f len):codeAt (Crc.num L) a n<first f len n+many f n len:=by
 rw[<- h.2.2.2.2.2];exact (zcb f len k n hc h.2.2.2.1 h.2.2.2.2.1 h.1 h.2.1).1
theorem Hit.uniq {L:List UInt8} {f:Nat->Int} {len a n k n' k':Nat} (hc:zan f len) (h:Hit L f len a n k) (h':Hit L f len a n' k'):n=n'/\k=k':=by
 have hn:n=n':=by
  rcases Nat.lt_trichotomy n n' with q | q | q
  ·have:=h'.nohit n h.1 (by omega);have:=h.lt hc;omega
  ·exact q
  have:=h.nohit n' h'.1 (by omega);have:=h'.lt hc;omega
 subst hn;refine⟨rfl,?_⟩;rcases Nat.decEq k k' with q | q
 ·have h1:=h.2.2.2.2.1;have h2:=h'.2.2.2.2.1;have:=apart f len k k' h.2.2.2.1 q (by have:=h.1;omega) (by omega);rw[h1,h2,Int.sub_self,Int.toNat_zero,Nat.pow_zero,Nat.div_one] at this;exact absurd (h'.2.2.2.2.2.trans h.2.2.2.2.2.symm) this
 exact q
noncomputable def nxt (L:List UInt8) (f:Nat->Int) (len a:Nat):Except Nat (Nat × Nat):=
 open Classical in if h:∃p:Nat × Nat,Hit L f len a p.1 p.2 then .ok (h.choose.2,a+h.choose.1) else .error 0
theorem zew {L:List UInt8} {f:Nat->Int} {len a n k:Nat} (hc:zan f len) (h:Hit L f len a n k):nxt L f len a=.ok (k,a+n):=by
 have hx:∃p:Nat × Nat,Hit L f len a p.1 p.2:=⟨(n,k),h⟩;unfold nxt;rw[dif_pos hx];obtain⟨e1,e2⟩:=Hit.uniq hc h hx.choose_spec;rw[<- e1,<- e2]
theorem zfc {L:List UInt8} {f:Nat->Int} {len a:Nat} (h:∀n k,¬ Hit L f len a n k):nxt L f len a=.error 0:=by
 unfold nxt;rw[dif_neg];rintro⟨p,hp⟩;exact h _ _ hp
theorem zlY {L:List UInt8} {f:Nat->Int} {len a a' k:Nat} (h:nxt L f len a=.ok (k,a')):∃n,a'=a+n/\Hit L f len a n k:=by
 unfold nxt at h;split at h
 ·rename_i hx;injection h with h;injection h with h1 h2;subst h1 h2;exact⟨_,rfl,hx.choose_spec⟩
 cases h
theorem zb0 {L:List UInt8} {f:Nat->Int} {len a c:Nat} (h:nxt L f len a=.error c):c=0:=by
 unfold nxt at h;split at h
 ·cases h
 injection h with h;exact h.symm
theorem zax {L:List UInt8} {k a n a':Nat} (h:get L k a=.ok (n,a')):a'=a+k/\a+k<=8*L.length/\n<2^k/\n=Crc.num L/2^a%2^k:=by
 unfold get at h;split at h
 ·injection h with h;injection h with h1 h2;subst h1 h2;exact⟨rfl,by assumption,qbV _ (qbN _),rfl⟩
 cases h
theorem zaL {L:List UInt8} {k a c:Nat} (h:get L k a=.error c):c=0/\8*L.length<a+k:=by
 unfold get at h;split at h
 ·cases h
 injection h with h;exact⟨h.symm,by omega⟩
def lensL:List Nat:=[3,4,5,6,7,8,9,10,11,13,15,17,19,23,27,31,35,43,51,59,67,83,99,115,131,163,195,227,258]
def zak:List Nat:=[1,2,3,4,5,7,9,13,17,25,33,49,65,97,129,193,257,385,513,769,1025,1537,2049,3073,4097,6145,8193,12289,16385,24577]
def lensB:List Nat:=[0,0,0,0,0,0,0,0,1,1,1,1,2,2,2,2,3,3,3,3,4,4,4,4,5,5,5,5,0]
def zaQ:List Nat:=[0,0,0,0,1,1,2,2,3,3,4,4,5,5,6,6,7,7,8,8,9,9,10,10,11,11,12,12,13,13]
def zaK:List Nat:=[16,17,18,0,8,7,9,6,10,5,11,4,12,3,13,2,14,1,15]
structure Ev where
 k:Nat
 d:Nat
 n:Nat
 back:Nat
abbrev TRes:=Except Nat (Nat × List UInt8 × List Ev)
def far (L:List UInt8) (most k d a:Nat) (out:List UInt8) (x:Nat):Except Nat (Nat × List UInt8 × Ev):=
 if 30<=d then .error 0 else
 match get L (zaQ.getD d 0) a with
 | .error c=>.error c
 | .ok (y,a')=>
  if out.length<zak.getD d 0+y then .error 0
  else if most<out.length+(lensL.getD (k-257) 0+x) then .error 1
  else .ok (a',copyL out (zak.getD d 0+y) (lensL.getD (k-257) 0+x),⟨k,d,lensL.getD (k-257) 0+x,zak.getD d 0+y⟩)
noncomputable def tok (L:List UInt8) (most:Nat) (g:Nat->Int) (gen k a:Nat) (out:List UInt8):Except Nat (Nat × List UInt8 × Ev):=
 if k<256 then if out.length<most then .ok (a,out ++ [UInt8.ofNat k],⟨k,0,0,0⟩) else .error 1
 else if 286<=k then .error 0 else
 match get L (lensB.getD (k-257) 0) a with
 | .error c=>.error c
 | .ok (x,a2)=>
  match nxt L g gen a2 with
  | .error c=>.error c
  | .ok (d,a3)=>far L most k d a3 out x
noncomputable def toks (L:List UInt8) (most:Nat) (f:Nat->Int) (len:Nat) (g:Nat->Int) (gen:Nat):Nat->Nat->List UInt8->List Ev->TRes
 | 0,_,_,_=>.error 0
 | F+1,a,out,tr=>
  match nxt L f len a with
  | .error c=>.error c
  | .ok (k,a1)=>
   if k=256 then .ok (a1,out,tr ++ [⟨256,0,0,0⟩]) else
   match tok L most g gen k a1 out with
   | .error c=>.error c
   | .ok (a2,out2,e)=>toks L most f len g gen F a2 out2 (tr ++ [e])
def stored (L:List UInt8) (most a:Nat) (out:List UInt8):Except Nat (Nat × List UInt8):=
 match get L 16 ((a+7)/8*8) with
 | .error c=>.error c
 | .ok (n,a2)=>
  match get L 16 a2 with
  | .error c=>.error c
  | .ok (m,a3)=>
   if n+m≠65535 then .error 0
   else if 8*L.length<a3+8*n then .error 0
   else if most<out.length+n then .error 1
   else .ok (a3+8*n,out++(L.drop (a3/8)).take n)
def upd (f:Nat->Int) (i:Nat) (x:Int):Nat->Int:=λ j=>if j=i then x else f j
def zaW (L:List UInt8):Nat->Nat->Nat->(Nat->Int)->Except Nat ((Nat->Int) × Nat)
 | 0,_,a,f=>.ok (f,a)
 | r+1,i,a,f=>
  match get L 3 a with
  | .error c=>.error c
  | .ok (x,a')=>zaW L r (i+1) a' (upd f (zaK.getD i 0) x)
def rep (L:List UInt8) (k a:Nat) (l:List Nat):Except Nat (Nat × Nat × Nat):=
 if k=16 then if l=[] then .error 0 else
  match get L 2 a with
  | .error c=>.error c
  | .ok (x,a')=>.ok (3+x,l.getD (l.length-1) 0,a')
 else if k=17 then
  match get L 3 a with
  | .error c=>.error c
  | .ok (x,a')=>.ok (3+x,0,a')
 else if k=18 then
  match get L 7 a with
  | .error c=>.error c
  | .ok (x,a')=>.ok (11+x,0,a')
 else .ok (1,k,a)
noncomputable def lens (L:List UInt8) (f:Nat->Int) (want:Nat):Nat->Nat->List Nat->Except Nat (List Nat × Nat)
 | 0,_,_=>.error 0
 | F+1,a,l=>
  if want<=l.length then .ok (l,a) else
  match nxt L f 19 a with
  | .error c=>.error c
  | .ok (k,a1)=>
   match rep L k a1 l with
   | .error c=>.error c
   | .ok (t,what,a2)=>if want<l.length+t then .error 0 else lens L f want F a2 (l++List.replicate t what)
def fn (l:List Nat):Nat->Int:=λ i=>((l.getD i 0:Nat):Int)
def good (f:Nat->Int) (len:Nat):Prop:=zaT f len/\zan f len
noncomputable def dyn (L:List UInt8) (a:Nat):Except Nat (List Nat × List Nat × Nat):=
 match get L 5 a with
 | .error c=>.error c
 | .ok (m,a1)=>
  match get L 5 a1 with
  | .error c=>.error c
  | .ok (r,a2)=>
   match get L 4 a2 with
   | .error c=>.error c
   | .ok (w,a3)=>
    if 286<m+257\/30<r+1 then .error 0 else
    match zaW L (w+4) 0 a3 (λ _=>0) with
    | .error c=>.error c
    | .ok (f,a4)=>
     open Classical in if ¬ good f 19 then .error 0 else
     match lens L f (m+257+(r+1)) (m+257+(r+1)+1) a4 [] with
     | .error c=>.error c
     | .ok (l,a5)=>
      if ¬ good (fn (l.take (m+257))) (m+257) then .error 0
      else if ¬ good (fn (l.drop (m+257))) (r+1) then .error 0
      else if l.getD 256 0=0 then .error 0
      else .ok (l.take (m+257),l.drop (m+257),a5)
def fixF:Nat->Int:=λ i=>if i<144 then 8 else if i<256 then 9 else if i<280 then 7 else 8
def fiveF:Nat->Int:=λ _=>5
structure Blk where
 kind:Nat
 f:List Nat
 g:List Nat
 tr:List Ev
noncomputable def block (L:List UInt8) (most a:Nat) (out:List UInt8):Except Nat (Nat × Nat × List UInt8 × Blk):=
 match get L 1 a with
 | .error c=>.error c
 | .ok (last,a1)=>
  match get L 2 a1 with
  | .error c=>.error c
  | .ok (kind,a2)=>
   if kind=0 then
    match stored L most a2 out with
    | .error c=>.error c
    | .ok (a3,out3)=>.ok (last,a3,out3,⟨0,[],[],[]⟩)
   else if kind=1 then
    match toks L most fixF 288 fiveF 32 (8*L.length+1) a2 out [] with
    | .error c=>.error c
    | .ok (a3,out3,tr)=>.ok (last,a3,out3,⟨1,[],[],tr⟩)
   else if kind=2 then
    match dyn L a2 with
    | .error c=>.error c
    | .ok (l,r,a3)=>
     match toks L most (fn l) l.length (fn r) r.length (8*L.length+1) a3 out [] with
     | .error c=>.error c
     | .ok (a4,out4,tr)=>.ok (last,a4,out4,⟨2,l,r,tr⟩)
   else .error 0
noncomputable def zaE (L:List UInt8) (most:Nat):Nat->Nat->List UInt8->List Blk->Except Nat (Nat × List UInt8 × List Blk)
 | 0,_,_,_=>.error 0
 | F+1,a,out,bs=>
  match block L most a out with
  | .error c=>.error c
  | .ok (last,a1,out1,b)=>if last=1 then .ok (a1,out1,bs ++ [b]) else zaE L most F a1 out1 (bs ++ [b])
noncomputable def inf (L:List UInt8) (most:Nat):Except Nat (List UInt8 × Nat × List Blk):=
 match zaE L most (8*L.length+1) 0 [] [] with
 | .error c=>.error c
 | .ok (a,out,bs)=>.ok (out,(a+7)/8,bs)
end Inf
theorem znD (x:Option Addr) (len cap:Nat) (f:Nat->Int) (w:World) (E:Nat->Addr) (hE:Errs w E) (hx:Ints w x len f) (hl:len<=maxLen) (h:¬ (zaT f len/\zan f len)):
    Calls Tryz.prog 147 #[.slice x len cap] w λ e w'=>(∃k,k<9/\e=.returned (.iface 275 (.pointer (some (E k))))/\vcode f len=(k:Int)+1)/\Ext w w':=by
  refine (zdj x len cap f w hx hl _ _ (hE.var 1 (by decide)) (hE.var 2 (by decide))).mono ?_;rintro e w2 ⟨h2,q | q | q⟩
  · exact absurd q.2 h
  · exact⟨⟨1,by decide,q.1,by unfold vcode;rw[qac q.2];rfl⟩,h2⟩
  exact⟨⟨2,by decide,q.1,by unfold vcode;rw[qad q.2.1,qac q.2.2];rfl⟩,h2⟩
theorem zpg (x:Option Addr) (len cap:Nat) (f:Nat->Int) (w:World) (E:Nat->Addr) (hE:Errs w E) (hx:Ints w x len f) (hl:len<=maxLen) (h:¬ (zaT f len/\zan f len)):
    Calls Tryz.prog 175 #[.slice x len cap] w λ e w'=>(∃k,k<9/\e=.returned (.tuple #[.pointer none,.iface 275 (.pointer (some (E k)))])/\vcode f len=(k:Int)+1)/\Ext w w':=by
  have HE:=Hd hE;have HX:=Hd hx;have HH:=Hd h;clear hE hx h;go_enter Tryz.func175,Tryz.ntmps175
  go_wp2_with fail;refine (znD x len cap f w E HE.out HX.out hl HH.out).mono ?_;rintro e w2 ⟨⟨k,hk,rfl,hv⟩,h2⟩;have X2:=Hd (h2);have HV:=Hd (hv);clear h2 hv;go_wp2_with fail;first | go_ret2 | (go_region;all_goals go_wp2_with fail;all_goals go_ret2)
  all_goals exact⟨⟨k,hk,rfl,HV.out⟩,by first | exact X2.out | exact X2.out.drewN _ | exact X2.out.drew⟩
theorem Ycd0 {p:Prop} (h:p:=by
 go_wp2_with fail;refine qaD 4 (by kernel_rfl) (by kernel_rfl) ?_;simp only[qao,qaH,qaw,qaS];repeat still_step
 refine qbB ?_;change wpList _ _ _ _ _ w2.drew;go_wp2_with fail;refine (zaP _ _ _).mono ?_;rintro e _ ⟨rfl,rfl⟩;go_wp2_with fail;go_ret;exact⟨rfl,HR.out.drewN 1,HS.out.drewN 1⟩):p:=h
theorem Ycd1 {p:Prop} (h:p:=by
 simp only[sentV] at c1⊢;go_wp2_with fail;refine qaD 4 (by kernel_rfl) (by kernel_rfl) ?_;simp only[qao,qaH,qaw,qaS];repeat still_step
 refine qbB ?_;change wpList _ _ _ _ _ w2.drew;go_wp2_with fail;refine (zbf _ (E 0) _).mono ?_;rintro e _ ⟨rfl,rfl⟩;exact⟨rfl,rfl,HS.out.drewN 1⟩):p:=h
def failV (a:Addr):Value:=.iface 197 (.agg #[sentV a])
def zaR (a:Addr):Ending:=.panicked [{ v:=failV a,recovered:=false }]
structure IAt (w:World) (R B:Nat) (s:ByteArray) (a:Nat) (v:Value) (out:List UInt8) (most:Nat):Prop where
 bk:Bk w R #[.pointer (some ⟨B,0,none⟩),v,.int .i64 (most:Int)]
 rd:RAt w B 0 s a
 row:w.ownsRow 0 5 1 v out.length (zad out)
 rb:R≠B
 rv:v.ownBlock≠some R
 bv:v.ownBlock≠some B
structure IStep (w w':World) (R B:Nat) (v v':Value):Prop where
 keeps:Keeps (λ k=>k=R\/k=B\/v.ownBlock=some k) w w'
 new:∀k,v'.ownBlock=some k->v.ownBlock=some k\/w.heap.size<=k
theorem zaP (p e:Value) (w:World):Calls Tryz.prog 173 #[p,.bool true,e] w λ r w'=>r=.returned (.tuple #[])/\w=w':=by
 go_enter Tryz.func173,Tryz.ntmps173
 go_wp2_with fail;go_end0;exact⟨rfl,rfl⟩
theorem zbf (p:Value) (a:Addr) (w:World):Calls Tryz.prog 173 #[p,.bool false,sentV a] w λ r w'=>r=zaR a/\w=w':=by
 unfold sentV;go_enter Tryz.func173,Tryz.ntmps173
 go_wp2_with fail;exact⟨rfl,rfl,rfl⟩
theorem IStep.refl (w:World) (R B:Nat) (v:Value):IStep w w R B v v:=⟨Keeps.refl _ _,λ _ h=>.inl h⟩
theorem IStep.trans {a b c:World} {R B:Nat} {u v x:Value} (h:IStep a b R B u v) (k:IStep b c R B v x):IStep a c R B u x:=by
 refine⟨h.keeps.trans k.keeps ?_,?_⟩
 ·intro i hi q;rcases q with q | q | q
  ·exact .inl q
  ·exact .inr (.inl q)
  rcases h.new i q with r | r
  ·exact .inr (.inr r)
  omega
 intro i q;rcases k.new i q with r | r
 ·exact h.new i r
 have:=h.keeps.size;exact .inr (by omega)
theorem IStep.rd {w w':World} {R B:Nat} {v:Value} (h:RStep w w' B 0):IStep w w' R B v v:=⟨h.keeps.mono λ _ _ q=>.inr (.inl q),λ _ q=>.inl q⟩
theorem IStep.ext {w w':World} {R B:Nat} {v:Value} (h:Ext w w'):IStep w w' R B v v:=⟨h.keeps,λ _ q=>.inl q⟩
theorem IAt.size {w:World} {R B a most:Nat} {s:ByteArray} {v:Value} {out:List UInt8} (h:IAt w R B s a v out most):s.size<=1099511627776:=h.rd.size
theorem IAt.read {w w':World} {R B a a' most:Nat} {s:ByteArray} {v:Value} {out:List UInt8} (h:IAt w R B s a v out most) (hR:RAt w' B 0 s a') (hS:RStep w w' B 0):IAt w' R B s a' v out most:=
 ⟨h.bk.keeps hS.keeps h.rb,hR,zaa h.row hS.keeps (λ k hk e=>h.bv (by rw[hk,e])),h.rb,h.rv,h.bv⟩
theorem IAt.keep {w w':World} {R B a most:Nat} {s:ByteArray} {v:Value} {out:List UInt8} {S:Nat->Prop} (h:IAt w R B s a v out most) (hk:Keeps S w w') (hR:¬ S R) (hB:¬ S B) (hv:∀k,v.ownBlock=some k->¬ S k):IAt w' R B s a v out most:=
 ⟨h.bk.keeps hk hR,⟨(hk.cell (p:=⟨B,0,none⟩) h.rd.lt hB).trans h.rd.c0,(hk.cell (p:=⟨B,0+1,none⟩) h.rd.lt hB).trans h.rd.c1,(hk.frozen (p:=⟨B,0+1,none⟩) h.rd.lt hB).trans h.rd.f1,h.rd.size,h.rd.le⟩,zaa h.row hk hv,h.rb,h.rv,h.bv⟩
theorem IAt.ext {w w':World} {R B a most:Nat} {s:ByteArray} {v:Value} {out:List UInt8} (h:IAt w R B s a v out most) (hE:Ext w w'):IAt w' R B s a v out most:=
 h.keep (S:=λ _=>False) hE.keeps id id (λ _ _=>id)
theorem Errs.at {w0 w:World} {E:Nat->Addr} (hE:Errs w0 E) (hX:Ext w0 w):w.cell? ⟨1,0,none⟩=some (sentV (E 0))/\w.cell? ⟨2,0,none⟩=some (sentV (E 1)):=
 ⟨(hE.ext hX).var 0 (by decide),(hE.ext hX).var 1 (by decide)⟩
theorem zoD (R B a k n:Nat) (s:ByteArray) (v:Value) (out:List UInt8) (most:Nat) (w0 w:World) (E:Nat->Addr) (hE:Errs w0 E) (hX:Ext w0 w) (hB:w0.heap.size<=B) (hI:IAt w R B s a v out most) (hk:k<=16) (a':Nat) (hg:Inf.get s.data.toList k a=.ok (n,a')):
  Calls Tryz.prog 157 #[.pointer (some ⟨R,0,none⟩),.int .i64 (k:Int)] w λ e w'=>e=.returned (.int .i64 (n:Int))/\RAt w' B 0 s a'/\RStep w w' B 0:=by
 obtain⟨rfl,h2,h3,rfl⟩:=Inf.zax hg;rw[zag] at h2;have hr:=hI.rd;have c0:=hI.bk.cell 0;have hE2:=Hd hE;have hX2:=Hd hX;have HI:=Hd hI;obtain⟨n,hn⟩:=nmE (Crc.num s.data.toList/2^a%2^k);have h4:n<65536:=by have:2^k<=2^16:=qaq (by decide) hk;omega
 have hn2:=zmk B 0 a k s w hr (by omega) h2;rw[hn] at hn2⊢;have HG:=Hd hn2;clear hE hX hr hI hg h2 h3 hn hn2;go_enter Tryz.func157,Tryz.ntmps157
 go_wp2_with fail;refine HG.out.mono ?_;rintro e w2 ⟨rfl,hR,hS⟩;have HR:=Hd hR;have HS:=Hd hS;have hX3:Ext w0 w2:=hS.after hX2.out hB;have c1:=(hE2.out.at hX3).1;clear hR hS hX3;exact Ycd0
theorem zpb (R B a k c:Nat) (s:ByteArray) (v:Value) (out:List UInt8) (most:Nat) (w0 w:World) (E:Nat->Addr) (hE:Errs w0 E) (hX:Ext w0 w) (hI:IAt w R B s a v out most) (hk:k<=16) (ha:a<=8*s.size) (hg:Inf.get s.data.toList k a=.error c):
  Calls Tryz.prog 157 #[.pointer (some ⟨R,0,none⟩),.int .i64 (k:Int)] w λ e w'=>e=zaR (E c)/\Ext w w':=by
 obtain⟨rfl,h2⟩:=Inf.zaL hg;rw[zag] at h2;have hr:=hI.rd;have c0:=hI.bk.cell 0;have hE2:=Hd hE;have hX2:=Hd hX;have HG:=Hd (zhV B 0 a k s w E (hE.ext hX) hr (by omega) h2 ha);clear hE hX hr hI hg h2;go_enter Tryz.func157,Tryz.ntmps157
 go_wp2_with fail;refine HG.out.mono ?_;rintro e w2 ⟨rfl,hS⟩;have HS:=Hd hS;have c1:=(hE2.out.at (Ext.trans hX2.out hS)).1;clear hS;exact Ycd1
structure Tree (w:World) (T:Nat) (f:Nat->Int) (len:Nat) (B:Nat):Prop where
 at_:∃v,TAt w T v f len (symA f len 15)/\v.ownBlock≠some B
 good:Inf.good f len
 tb:T≠B
theorem Tree.keep {w w':World} {T len B:Nat} {f:Nat->Int} {S:Nat->Prop} (h:Tree w T f len B) (hk:Keeps S w w') (hT:∀k,k=T\/(∃v,TAt w T v f len (symA f len 15)/\v.ownBlock=some k)->¬ S k):Tree w' T f len B:=by
 obtain⟨⟨v,h1,h2⟩,h3,h4⟩:=h;exact⟨⟨v,h1.kept hk (hT T (.inl rfl)) (λ k q=>hT k (.inr ⟨v,h1,q⟩)),h2⟩,h3,h4⟩
theorem zmw (R len cap:Nat) (x:Option Addr) (f:Nat->Int) (w0 w:World) (E:Nat->Addr) (hE:Errs w0 E) (hX:Ext w0 w) (hI:Ints w x len f) (hg:Inf.good f len):
  Calls Tryz.prog 160 #[.pointer (some ⟨R,0,none⟩),.slice x len cap] w λ e w'=>(∃T v,w.heap.size<=T/\(∀k,v.ownBlock=some k->w.heap.size<=k)/\e=.returned (.pointer (some ⟨T,0,none⟩))/\TAt w' T v f len (symA f len 15))/\Ext w w':=by
 have hE2:=Hd hE;have hX2:=Hd hX;have HG:=Hd (zl4 x len cap f w E (hE.ext hX) hI hg.1 hg.2);clear hE hX hI hg;go_enter Tryz.func160,Tryz.ntmps160
 go_wp2_with fail;refine HG.out.mono ?_;rintro e w2 ⟨⟨T,v,h1,h2,rfl,h3⟩,hS⟩;have H1:=Hd h1;have H2:=Hd h2;have H3:=Hd h3;have HS:=Hd hS;have c1:=(hE2.out.at (Ext.trans hX2.out hS)).1;clear hS h1 h2 h3;go_wp2_with fail;refine qaD 4 (by kernel_rfl) (by kernel_rfl) ?_;simp only[qao,qaH,qaw,qaS];repeat still_step
 refine qbB ?_;change wpList _ _ _ _ _ w2.drew;go_wp2_with fail;refine (zaP _ _ _).mono ?_;rintro e _ ⟨rfl,rfl⟩;go_wp2_with fail;go_ret;exact⟨⟨T,v,H1.out,H2.out,rfl,H3.out.kept (S:=λ _=>False) ((Keeps.refl _ _).drewN 1) id (λ _ _=>id)⟩,HS.out.drewN 1⟩
theorem znk (R len cap:Nat) (x:Option Addr) (f:Nat->Int) (w0 w:World) (E:Nat->Addr) (hE:Errs w0 E) (hX:Ext w0 w) (hI:Ints w x len f) (hl:len<=maxLen) (hg:¬ Inf.good f len):
  Calls Tryz.prog 160 #[.pointer (some ⟨R,0,none⟩),.slice x len cap] w λ e w'=>e=zaR (E 0)/\Ext w w':=by
 have hE2:=Hd hE;have hX2:=Hd hX;have HG:=Hd (zpg x len cap f w E (hE.ext hX) hI hl hg);clear hE hX hI hg;go_enter Tryz.func160,Tryz.ntmps160
 go_wp2_with fail;refine HG.out.mono ?_;rintro e w2 ⟨⟨k,hk,rfl,hv⟩,hS⟩;have HS:=Hd hS;have c1:=(hE2.out.at (Ext.trans hX2.out hS)).1;clear hS hv;exact Ycd1
theorem znY {w':World} {e:Ending} {B a a' len k:Nat} {s:ByteArray} {f:Nat->Int} {E:Nat->Addr} (hN:zdu w' e B 0 s a f len E) (hc:zan f len) (hg:Inf.nxt s.data.toList f len a=.ok (k,a')):e=.returned (.tuple #[.int .i64 (k:Int),.nilIface])/\RAt w' B 0 s a':=by
 obtain⟨n,rfl,h1,h2,h3,h4,h5,h6⟩:=Inf.zlY hg;rw[zag] at h3;exact zlk hN hc h4 h5 h1 h2 h3 h6.symm
theorem zmj {w':World} {e:Ending} {B a len c:Nat} {s:ByteArray} {f:Nat->Int} {E:Nat->Addr} (hN:zdu w' e B 0 s a f len E) (hc:zan f len) (hg:Inf.nxt s.data.toList f len a=.error c):e=.returned (.tuple #[.int .i64 0,sentV (E c)]):=by
 obtain rfl:=Inf.zb0 hg;rcases hN with⟨n,k,h1,h2,h3,h4,h5,h6,h7,_⟩ | ⟨_,h,_⟩
 ·have:=Inf.zew (L:=s.data.toList) hc (n:=n) (k:=k) (a:=a) ⟨h1,h2,by rw[zag];exact h3,h5,h6,h7⟩;rw[hg] at this;cases this
 exact h
theorem zlG (R B T a k a' most len:Nat) (f:Nat->Int) (s:ByteArray) (v:Value) (out:List UInt8) (w0 w:World) (E:Nat->Addr) (hE:Errs w0 E) (hX:Ext w0 w) (hB:w0.heap.size<=B) (hI:IAt w R B s a v out most) (ha:a<=8*s.size) (hT:Tree w T f len B) (hg:Inf.nxt s.data.toList f len a=.ok (k,a')):
  Calls Tryz.prog 164 #[.pointer (some ⟨R,0,none⟩),.pointer (some ⟨T,0,none⟩)] w λ e w'=>e=.returned (.int .i64 (k:Int))/\RAt w' B 0 s a'/\RStep w w' B 0:=by
 obtain⟨⟨u,hT1,hT2⟩,hgo,hTB⟩:=hT;have c0:=hI.bk.cell 0;have hE2:=Hd hE;have hX2:=Hd hX;have HG:=Hd (zhB T B 0 a u f len s w0 w E hE hX hB hgo.1.1 hT1 hI.rd ha hTB hT2);have HN:=Hd hg;have HC:=Hd hgo.2;have HB:=Hd hB;clear hE hX hI hg hT1 hT2 hgo hB;go_enter Tryz.func164,Tryz.ntmps164
 go_wp2_with fail;refine HG.out.mono ?_;rintro e w2 ⟨hN,hS⟩;obtain⟨rfl,hR⟩:=znY hN HC.out HN.out;have HR:=Hd hR;have HS:=Hd hS;have c1:=(hE2.out.at (hS.after hX2.out HB.out)).1;clear hS hR hN;exact Ycd0
theorem zng (R B T a c most len:Nat) (f:Nat->Int) (s:ByteArray) (v:Value) (out:List UInt8) (w0 w:World) (E:Nat->Addr) (hE:Errs w0 E) (hX:Ext w0 w) (hB:w0.heap.size<=B) (hI:IAt w R B s a v out most) (ha:a<=8*s.size) (hT:Tree w T f len B) (hg:Inf.nxt s.data.toList f len a=.error c):
  Calls Tryz.prog 164 #[.pointer (some ⟨R,0,none⟩),.pointer (some ⟨T,0,none⟩)] w λ e w'=>e=zaR (E c)/\RStep w w' B 0:=by
 obtain⟨⟨u,hT1,hT2⟩,hgo,hTB⟩:=hT;have c0:=hI.bk.cell 0;obtain rfl:=Inf.zb0 hg;have hE2:=Hd hE;have hX2:=Hd hX;have HG:=Hd (zhB T B 0 a u f len s w0 w E hE hX hB hgo.1.1 hT1 hI.rd ha hTB hT2);have HN:=Hd hg;have HC:=Hd hgo.2;have HB:=Hd hB;clear hE hX hI hg hT1 hT2 hgo hB;go_enter Tryz.func164,Tryz.ntmps164
 go_wp2_with fail;refine HG.out.mono ?_;rintro e w2 ⟨hN,hS⟩;obtain rfl:=zmj hN HC.out HN.out;have HS:=Hd hS;have c1:=(hE2.out.at (hS.after hX2.out HB.out)).1;clear hS hN;exact Ycd1
end Go.Proofs.YthlibiocadimhaaGreatDoor
namespace Go.Proofs.YthlibiocadimhaaGreatDoor
open Go.RowKit
theorem zeY (n:Nat) (hn:n<65536):n ^^^ 65535=65535-n:=by
 have h:=congrArg BitVec.toNat (BitVec.xor_allOnes (x:=BitVec.ofNat 16 n));rw[BitVec.toNat_xor,BitVec.toNat_not,BitVec.toNat_allOnes,qb7,qaF (by omega)] at h;exact h
theorem zpJ (n m:Nat) (hn:n<65536) (hm:m<65536):(bits BinOp.xor IntKind.i64 (n:Int) (m:Int)=65535)↔n+m=65535:=by
 have e:bits BinOp.xor IntKind.i64 (n:Int) (m:Int)=((n ^^^ m:Nat):Int):=by
  show IntKind.i64.wrap ((BitVec.ofInt 64 (n:Int) ^^^ BitVec.ofInt 64 (m:Int)).toNat:Int)=_;have hx:n ^^^ m<2^16:=qci (by omega) (by omega);rw[qb9,qb9,BitVec.toNat_xor,qb7,qb7,qaF (by omega),qaF (by omega),qal];omega
 rw[e,show ((n ^^^ m:Nat):Int)=65535↔n ^^^ m=65535 by omega];constructor
 ·intro h;have:m=n ^^^ 65535:=by rw[<- h,<- Nat.xor_assoc,Nat.xor_self,Nat.zero_xor]
  rw[zeY n hn] at this;omega
 intro h;have:m=n ^^^ 65535:=by rw[zeY n hn];omega
 rw[this,<- Nat.xor_assoc,Nat.xor_self,Nat.zero_xor]
theorem IAt.grow {w0 W w':World} {R B a most:Nat} {s t:ByteArray} {v v':Value} {out:List UInt8} (h:IAt w0 R B s a v out most) (hE:Ext w0 W) (hg:W.grownBy w' v.ownBlock) (ho:w'.ownsRow 0 5 1 v' (out.length+t.size) (zad out++Lib.strCells t))
  (hat:v'.ownBlock=v.ownBlock\/v'.ownBlock=some W.heap.size):
  Bk w' R #[.pointer (some ⟨B,0,none⟩),v,.int .i64 (most:Int)]/\IAt (w'.setCell ⟨R,1,none⟩ v') R B s a v' (out++t.data.toList) most/\IStep w0 (w'.setCell ⟨R,1,none⟩ v') R B v v':=by
 have h1:=h.ext hE;have hk:=Keeps.grown hg;have hs:=hE.size;have hbk:Bk w' R #[.pointer (some ⟨B,0,none⟩),v,.int .i64 (most:Int)]:=h1.bk.keeps hk h.rv;have hRl:R<w0.heap.size:=h.bk.lt;have hBl:B<w0.heap.size:=h.rd.lt;have hv:∀k,v'.ownBlock=some k->v.ownBlock=some k\/w0.heap.size<=k:=by
  intro k hk;rcases hat with q | q
  ·rw[q] at hk;exact .inl hk
  rw[q] at hk;injection hk with hk;exact .inr (by omega)
 have hvR:v'.ownBlock≠some R:=by
  intro e;rcases hv R e with q | q
  ·exact h.rv q
  omega
 have hvB:v'.ownBlock≠some B:=by
  intro e;rcases hv B e with q | q
  ·exact h.bv q
  omega
 have hK0:Keeps (λ k=>v.ownBlock=some k) w0 w':=(hE.keeps (S:=λ k=>v.ownBlock=some k)).trans hk (λ _ _ q=>q);have h2:RAt w' B 0 s a:=by
  have hb:¬ v.ownBlock=some B:=h.bv;exact⟨(hK0.cell (p:=⟨B,0,none⟩) hBl hb).trans h.rd.c0,(hK0.cell (p:=⟨B,0+1,none⟩) hBl hb).trans h.rd.c1,(hK0.frozen (p:=⟨B,0+1,none⟩) hBl hb).trans h.rd.f1,h.rd.size,h.rd.le⟩
 have hKs:Keeps (λ k=>k=R) w' (w'.setCell ⟨R,1,none⟩ v'):=(Keeps.refl (λ k=>k=R) _).setCell (p:=⟨R,1,none⟩) (.inl rfl) _;have hBl':B<w'.heap.size:=h2.lt;have e:zad (out++t.data.toList)=zad out++Lib.strCells t:=by rw[zdo];simp[zad]
 refine⟨hbk,⟨hbk.set_ 1 _,⟨(hKs.cell (p:=⟨B,0,none⟩) hBl' (λ q=>h.rb q.symm)).trans h2.c0,(hKs.cell (p:=⟨B,0+1,none⟩) hBl' (λ q=>h.rb q.symm)).trans h2.c1,(hKs.frozen (p:=⟨B,0+1,none⟩) hBl' (λ q=>h.rb q.symm)).trans h2.f1,h.rd.size,h.rd.le⟩,?_,h.rb,hvR,hvB⟩,⟨?_,hv⟩⟩
 ·rw[e,qaa,zag];exact qaI ho hvR _
 exact (hK0.mono (λ _ _ q=>.inr (.inr q))).setCell (.inl (.inl rfl)) _
structure ISt (w0 w:World) (R B:Nat) (s:ByteArray) (a:Nat) (v:Value) (out:List UInt8) (most:Nat):Prop where
 at_:IAt w R B s a v out most
 old:Ext w0 w
 hR:w0.heap.size<=R
 hB:w0.heap.size<=B
 hv:∀k,v.ownBlock=some k->w0.heap.size<=k
 le:a<=8*s.size
theorem ISt.gone {w0 w w':World} {R B a most:Nat} {s:ByteArray} {v v':Value} {out:List UInt8} (h:ISt w0 w R B s a v out most) (k:IStep w w' R B v v'):Ext w0 w':=
 Below.trans h.old (k.keeps.below h.old.size (λ i hi q=>by
  have:=h.hR;have:=h.hB;rcases q with q | q | q
  ·omega
  ·omega
  have:=h.hv i q;omega))
theorem ISt.to {w0 w w':World} {R B a a' most:Nat} {s:ByteArray} {v v':Value} {out out':List UInt8} (h:ISt w0 w R B s a v out most) (hA:IAt w' R B s a' v' out' most) (k:IStep w w' R B v v') (hle:a'<=8*s.size):ISt w0 w' R B s a' v' out' most:=
 ⟨hA,h.gone k,h.hR,h.hB,λ i q=>by
  have:=h.old.size;rcases k.new i q with r | r
  ·exact h.hv i r
  omega,hle⟩
theorem ISt.read {w0 w w':World} {R B a a' most:Nat} {s:ByteArray} {v:Value} {out:List UInt8} (h:ISt w0 w R B s a v out most) (hR:RAt w' B 0 s a') (hS:RStep w w' B 0) (hle:a'<=8*s.size):ISt w0 w' R B s a' v out most:=
 h.to (h.at_.read hR hS) (IStep.rd hS) hle
theorem ISt.ext {w0 w w':World} {R B a most:Nat} {s:ByteArray} {v:Value} {out:List UInt8} (h:ISt w0 w R B s a v out most) (hE:Ext w w'):ISt w0 w' R B s a v out most:=
 h.to (h.at_.ext hE) (IStep.ext hE) h.le
structure IGo (w0 w wr:World) (R B:Nat) (s:ByteArray) (a:Nat) (v0 v:Value) (out:List UInt8) (most:Nat):Prop where
 st:ISt w0 wr R B s a v out most
 step:IStep w wr R B v0 v
section
variable {w0 w wr w':World} {R B a a' most:Nat} {s:ByteArray} {v0 v v':Value} {out out':List UInt8}
theorem IGo.old (h:IGo w0 w wr R B s a v0 v out most):Ext w0 wr:=h.st.old
theorem IGo.ext (h:IGo w0 w wr R B s a v0 v out most) (hE:Ext wr w'):IGo w0 w w' R B s a v0 v out most:=⟨h.st.ext hE,h.step.trans (IStep.ext hE)⟩
theorem IGo.read (h:IGo w0 w wr R B s a v0 v out most) (hR:RAt w' B 0 s a') (hS:RStep wr w' B 0) (hle:a'<=8*s.size):IGo w0 w w' R B s a' v0 v out most:=⟨h.st.read hR hS hle,h.step.trans (IStep.rd hS)⟩
theorem IGo.to (h:IGo w0 w wr R B s a v0 v out most) (hA:IAt w' R B s a' v' out' most) (k:IStep wr w' R B v v') (hle:a'<=8*s.size):IGo w0 w w' R B s a' v0 v' out' most:=⟨h.st.to hA k hle,h.step.trans k⟩
theorem IGo.start (h:ISt w0 w R B s a v out most):IGo w0 w w R B s a v v out most:=⟨h,IStep.refl _ _ _ _⟩
theorem IGo.bk (h:IGo w0 w wr R B s a v0 v out most):Bk wr R #[.pointer (some ⟨B,0,none⟩),v,.int .i64 (most:Int)]:=h.st.at_.bk
theorem IGo.row (h:IGo w0 w wr R B s a v0 v out most):wr.ownsRow 0 5 1 v out.length (zad out):=h.st.at_.row
end
theorem zqB {L:List UInt8} {k a n a':Nat} (h:Inf.get L k a=.ok (n,a')):a'<=8*L.length:=by
 obtain⟨rfl,h,_⟩:=Inf.zax h;exact h
def IPost (w0 w:World) (R B:Nat) (s:ByteArray) (most:Nat) (v:Value) (E:Nat->Addr) (r:Except Nat (Nat × List UInt8)) (e:Ending) (w':World):Prop:=
 match r with
 | .ok (a,out)=>e=.returned (.tuple #[])/\∃v',IGo w0 w w' R B s a v v' out most
 | .error c=>e=zaR (E c)/\Ext w0 w'
theorem zhQ {w0 w w':World} {R B a most:Nat} {s:ByteArray} {v v':Value} {E:Nat->Addr} {out:List UInt8} {r:Except Nat (Nat × List UInt8)} (hr:.ok (a,out)=r) (h:IGo w0 w w' R B s a v v' out most):IPost w0 w R B s most v E r (.returned (.tuple #[])) w':=by
 subst hr;exact⟨rfl,v',h⟩
theorem zaC {w0 w w':World} {R B c most:Nat} {s:ByteArray} {v:Value} {E:Nat->Addr} {r:Except Nat (Nat × List UInt8)} (hr:.error c=r) (h:Ext w0 w'):IPost w0 w R B s most v E r (zaR (E c)) w':=by
 subst hr;exact⟨rfl,h⟩
theorem zaj {w0 w:World} {E:Nat->Addr} (hE:Errs w0 E) (hX:Ext w0 w):w.cell? ⟨1,0,none⟩=some (.iface 275 (.pointer (some (E 0))))/\w.cell? ⟨2,0,none⟩=some (.iface 275 (.pointer (some (E 1)))):=hE.at hX
theorem zaS (R B a k n a' most:Nat) (s:ByteArray) (v0 v:Value) (out:List UInt8) (w0 w wr:World) (E:Nat->Addr) (hE:Errs w0 E) (hI:IGo w0 w wr R B s a v0 v out most) (hk:k<=16) (hg:Inf.get s.data.toList k a=.ok (n,a')):
  Calls Tryz.prog 157 #[.pointer (some ⟨R,0,none⟩),.int .i64 (k:Int)] wr λ e w'=>e=.returned (.int .i64 (n:Int))/\IGo w0 w w' R B s a' v0 v out most/\RStep wr w' B 0:=by
 refine (zoD R B a k n s v out most w0 wr E hE hI.old hI.st.hB hI.st.at_ hk a' hg).mono ?_;rintro e w' ⟨rfl,h1,h2⟩;have:=zqB hg;rw[zag] at this;exact⟨rfl,hI.read h1 h2 this,h2⟩
theorem za6 (R B a k c most:Nat) (s:ByteArray) (v0 v:Value) (out:List UInt8) (w0 w wr:World) (E:Nat->Addr) (hE:Errs w0 E) (hI:IGo w0 w wr R B s a v0 v out most) (hk:k<=16) (hg:Inf.get s.data.toList k a=.error c):
  Calls Tryz.prog 157 #[.pointer (some ⟨R,0,none⟩),.int .i64 (k:Int)] wr λ e w'=>e=zaR (E c)/\Ext w0 w':=by
 refine (zpb R B a k c s v out most w0 wr E hE hI.old hI.st.at_ hk hI.st.le hg).mono ?_;rintro e w' ⟨rfl,h1⟩;exact⟨rfl,hI.st.gone (IStep.ext h1)⟩
end Go.Proofs.YthlibiocadimhaaGreatDoor
namespace Go.Proofs.YthlibiocadimhaaGreatDoor
open Go.RowKit
namespace Inf
def pr (r:TRes):Except Nat (Nat × List UInt8):=
 match r with
 | .ok (a,out,_)=>.ok (a,out)
 | .error c=>.error c
section
variable {L:List UInt8} {most:Nat} {f:Nat->Int} {len:Nat} {g:Nat->Int} {gen F a:Nat} {out:List UInt8} {tr:List Ev} {r:TRes}
theorem zlU {c:Nat} (hF:0<F) (h:toks L most f len g gen F a out tr=r) (hn:nxt L f len a=.error c):.error c=pr r:=by
 cases F with
 | zero=>omega
 | succ F=>simp only[toks,hn] at h;subst h;rfl
theorem zmV {a1:Nat} (hF:0<F) (h:toks L most f len g gen F a out tr=r) (hn:nxt L f len a=.ok (256,a1)):.ok (a1,out)=pr r:=by
 cases F with
 | zero=>omega
 | succ F=>simp only[toks,hn,qad] at h;subst h;rfl
theorem zbq {k a1 c:Nat} (hF:0<F) (h:toks L most f len g gen F a out tr=r) (hn:nxt L f len a=.ok (k,a1)) (hk:k≠256) (ht:tok L most g gen k a1 out=.error c):.error c=pr r:=by
 cases F with
 | zero=>omega
 | succ F=>simp only[toks,hn,qac hk,ht] at h;subst h;rfl
theorem zex {k a1 a2:Nat} {out2:List UInt8} {e:Ev} (hF:0<F) (h:toks L most f len g gen F a out tr=r) (hn:nxt L f len a=.ok (k,a1)) (hk:k≠256) (ht:tok L most g gen k a1 out=.ok (a2,out2,e)):∃F',F=F'+1/\toks L most f len g gen F' a2 out2 (tr ++ [e])=r:=by
 cases F with
 | zero=>omega
 | succ F=>simp only[toks,hn,qac hk,ht] at h;exact⟨F,rfl,h⟩
variable {k a1 x:Nat}
theorem zhJ (hk:k<256) (h:most<=out.length):tok L most g gen k a out=.error 1:=by unfold tok;rw[qad hk,qac (by omega)]
theorem zjj (hk:k<256) (h:out.length<most):tok L most g gen k a out=.ok (a,out ++ [UInt8.ofNat k],⟨k,0,0,0⟩):=by unfold tok;rw[qad hk,qad h]
theorem zjk (hk:286<=k):tok L most g gen k a out=.error 0:=by unfold tok;rw[qac (by omega),qad hk]
theorem zoG {c:Nat} (h1:256<k) (h2:k<286) (hg:get L (lensB.getD (k-257) 0) a=.error c):tok L most g gen k a out=.error c:=by unfold tok;rw[qac (by omega),qac (by omega),hg]
theorem zoK {c:Nat} (h1:256<k) (h2:k<286) (hg:get L (lensB.getD (k-257) 0) a=.ok (x,a1)) (hd:nxt L g gen a1=.error c):tok L most g gen k a out=.error c:=by unfold tok;rw[qac (by omega),qac (by omega),hg];simp only[hd]
theorem zoH {d a2:Nat} (h1:256<k) (h2:k<286) (hg:get L (lensB.getD (k-257) 0) a=.ok (x,a1)) (hd:nxt L g gen a1=.ok (d,a2)):tok L most g gen k a out=far L most k d a2 out x:=by unfold tok;rw[qac (by omega),qac (by omega),hg];simp only[hd]
theorem zjJ {d:Nat} (h:30<=d):far L most k d a out x=.error 0:=by unfold far;rw[qad h]
theorem zoJ {d c:Nat} (h:d<30) (hg:get L (zaQ.getD d 0) a=.error c):far L most k d a out x=.error c:=by unfold far;rw[qac (by omega),hg]
theorem zhP {d y:Nat} (h:d<30) (hg:get L (zaQ.getD d 0) a=.ok (y,a1)) (hb:out.length<zak.getD d 0+y):far L most k d a out x=.error 0:=by unfold far;rw[qac (by omega),hg];simp only[qad hb]
theorem zh2 {d y:Nat} (h:d<30) (hg:get L (zaQ.getD d 0) a=.ok (y,a1)) (hb:¬ out.length<zak.getD d 0+y) (hm:most<out.length+(lensL.getD (k-257) 0+x)):far L most k d a out x=.error 1:=by unfold far;rw[qac (by omega),hg];simp only[qac hb,qad hm]
theorem zlJ {d y:Nat} (h:d<30) (hg:get L (zaQ.getD d 0) a=.ok (y,a1)) (hb:¬ out.length<zak.getD d 0+y) (hm:¬ most<out.length+(lensL.getD (k-257) 0+x)):
  far L most k d a out x=.ok (a1,copyL out (zak.getD d 0+y) (lensL.getD (k-257) 0+x),⟨k,d,lensL.getD (k-257) 0+x,zak.getD d 0+y⟩):=by unfold far;rw[qac (by omega),hg];simp only[qac hb,qac hm]
end
theorem zin:∀k,lensL.getD k 0<=258:=by
 intro k;by_cases h:k<29
 ·have:∀k,k<29->lensL.getD k 0<=258:=by decide
  exact this k h
 rw[List.getD,qba (by simp[lensL];omega)];exact qbi _
theorem zis:∀k,lensB.getD k 0<=5:=by
 intro k;by_cases h:k<29
 ·have:∀k,k<29->lensB.getD k 0<=5:=by decide
  exact this k h
 rw[List.getD,qba (by simp[lensB];omega)];exact qbi _
theorem zgx:∀k,zaQ.getD k 0<=13:=by
 intro k;by_cases h:k<30
 ·have:∀k,k<30->zaQ.getD k 0<=13:=by decide
  exact this k h
 rw[List.getD,qba (by simp[zaQ];omega)];exact qbi _
theorem zgT:∀k,zak.getD k 0<=24577:=by
 intro k;by_cases h:k<30
 ·have:∀k,k<30->zak.getD k 0<=24577:=by decide
  exact this k h
 rw[List.getD,qba (by simp[zak];omega)];exact qbi _
theorem zfp:∀k,k<30->1<=zak.getD k 0:=by decide
theorem zbn {L:List UInt8} {f:Nat->Int} {len a a' k:Nat} (h:nxt L f len a=.ok (k,a')):a<a'/\a'<=8*L.length/\k<len:=by
 obtain⟨n,rfl,h1,h2,h3,h4,h5,h6⟩:=zlY h;exact⟨by omega,h3,h4⟩
end Inf
structure Tr (w:World) (T:Nat) (f:Nat->Int) (len:Nat) (R B:Nat) (v:Value):Prop where
 at_:∃u,TAt w T u f len (symA f len 15)/\(∀k,u.ownBlock=some k->k≠R/\k≠B/\v.ownBlock≠some k)
 good:Inf.good f len
 tr:T≠R
 tb:T≠B
 tv:v.ownBlock≠some T
theorem Tr.step {w w':World} {T len R B:Nat} {f:Nat->Int} {v v':Value} (h:Tr w T f len R B v) (k:IStep w w' R B v v'):Tr w' T f len R B v':=by
 obtain⟨⟨u,h1,h2⟩,h3,h4,h5,h6⟩:=h;have hT:T<w.heap.size:=qab w _ h1.cell;refine⟨⟨u,h1.kept k.keeps ?_ ?_,?_⟩,h3,h4,h5,?_⟩
 ·rintro (q | q | q)
  ·exact h4 q
  ·exact h5 q
  exact h6 q
 ·intro i hi q;obtain⟨a1,a2,a3⟩:=h2 i hi;rcases q with q | q | q
  ·exact a1 q
  ·exact a2 q
  exact a3 q
 ·intro i hi;obtain⟨a1,a2,a3⟩:=h2 i hi;refine⟨a1,a2,λ q=>?_⟩;have hlt:=zaA h1.row hi;rcases k.new i q with r | r
  ·exact a3 r
  omega
 intro q;rcases k.new T q with r | r
 ·exact h6 r
 omega
theorem Tr.tree {w:World} {T len R B:Nat} {f:Nat->Int} {v:Value} (h:Tr w T f len R B v):Tree w T f len B:=by
 obtain⟨⟨u,h1,h2⟩,h3,h4,h5,h6⟩:=h;exact⟨⟨u,h1,λ e=>(h2 B e).2.1 rfl⟩,h3,h5⟩
theorem zd8 (R B T a k a' most len:Nat) (f:Nat->Int) (s:ByteArray) (v0 v:Value) (out:List UInt8) (w0 w wr:World) (E:Nat->Addr) (hE:Errs w0 E) (hI:IGo w0 w wr R B s a v0 v out most) (hT:Tr wr T f len R B v) (hg:Inf.nxt s.data.toList f len a=.ok (k,a')):
  Calls Tryz.prog 164 #[.pointer (some ⟨R,0,none⟩),.pointer (some ⟨T,0,none⟩)] wr λ e w'=>e=.returned (.int .i64 (k:Int))/\IGo w0 w w' R B s a' v0 v out most/\RStep wr w' B 0:=by
 refine (zlG R B T a k a' most len f s v out w0 wr E hE hI.old hI.st.hB hI.st.at_ hI.st.le hT.tree hg).mono ?_;rintro e w' ⟨rfl,h1,h2⟩;have:=(Inf.zbn hg).2.1;rw[zag] at this;exact⟨rfl,hI.read h1 h2 this,h2⟩
theorem ze7 (R B T a c most len:Nat) (f:Nat->Int) (s:ByteArray) (v0 v:Value) (out:List UInt8) (w0 w wr:World) (E:Nat->Addr) (hE:Errs w0 E) (hI:IGo w0 w wr R B s a v0 v out most) (hT:Tr wr T f len R B v) (hg:Inf.nxt s.data.toList f len a=.error c):
  Calls Tryz.prog 164 #[.pointer (some ⟨R,0,none⟩),.pointer (some ⟨T,0,none⟩)] wr λ e w'=>e=zaR (E c)/\Ext w0 w':=by
 refine (zng R B T a c most len f s v out w0 wr E hE hI.old hI.st.hB hI.st.at_ hI.st.le hT.tree hg).mono ?_;rintro e w' ⟨rfl,h1⟩;exact⟨rfl,hI.st.gone (IStep.rd h1)⟩
structure TGo (D:World->Value->Prop) (w0 w wr:World) (R B:Nat) (s:ByteArray) (a:Nat) (v0 v:Value) (out:List UInt8) (most T:Nat) (f:Nat->Int) (len:Nat):Prop where
 go:IGo w0 w wr R B s a v0 v out most
 tr:Tr wr T f len R B v
 d:D wr v
 stab:∀w w' v v',D w v->IStep w w' R B v v'->D w' v'
section
variable {D:World->Value->Prop} {w0 w wr w':World} {R B a a' most T len:Nat} {f:Nat->Int} {s:ByteArray} {v0 v v':Value} {out out':List UInt8}
theorem TGo.old (h:TGo D w0 w wr R B s a v0 v out most T f len):Ext w0 wr:=h.go.old
theorem TGo.bk (h:TGo D w0 w wr R B s a v0 v out most T f len):Bk wr R #[.pointer (some ⟨B,0,none⟩),v,.int .i64 (most:Int)]:=h.go.bk
theorem TGo.row (h:TGo D w0 w wr R B s a v0 v out most T f len):wr.ownsRow 0 5 1 v out.length (zad out):=h.go.row
theorem TGo.to (h:TGo D w0 w wr R B s a v0 v out most T f len) (hG:IGo w0 w w' R B s a' v0 v' out' most) (hS:IStep wr w' R B v v'):TGo D w0 w w' R B s a' v0 v' out' most T f len:=
 ⟨hG,h.tr.step hS,h.stab _ _ _ _ h.d hS,h.stab⟩
theorem TGo.ext (h:TGo D w0 w wr R B s a v0 v out most T f len) (hE:Ext wr w'):TGo D w0 w w' R B s a v0 v out most T f len:=h.to (h.go.ext hE) (IStep.ext hE)
theorem TGo.rd (h:TGo D w0 w wr R B s a v0 v out most T f len) (hG:IGo w0 w w' R B s a' v0 v out most) (hS:RStep wr w' B 0):TGo D w0 w w' R B s a' v0 v out most T f len:=h.to hG (IStep.rd hS)
end
structure Dist (dn:Nat) (cs:Array Value) (w0:World) (R B:Nat) (s:ByteArray) (most:Nat) (E:Nat->Addr) (g:Nat->Int) (gen:Nat) (D:World->Value->Prop):Prop where
 enters:∀(args:Array Value) (w:World),(callFunc dn args).run Tryz.prog w=.ok (.enter dn args) w
 stab:∀w w' v v',D w v->IStep w w' R B v v'->D w' v'
 yes:∀w wr a v0 v out k a',IGo w0 w wr R B s a v0 v out most->D wr v->Inf.nxt s.data.toList g gen a=.ok (k,a')->Calls Tryz.prog dn cs wr λ e w'=>e=.returned (.int .i64 (k:Int))/\IGo w0 w w' R B s a' v0 v out most/\IStep wr w' R B v v
 no:∀w wr a v0 v out c,IGo w0 w wr R B s a v0 v out most->D wr v->Inf.nxt s.data.toList g gen a=.error c->Calls Tryz.prog dn cs wr λ e w'=>e=zaR (E c)/\Ext w0 w'
structure Tabs (w:World):Prop where
 lens:∀k,k<29->w.cell? ⟨11,k,none⟩=some (.int .i64 ((Inf.lensL.getD k 0:Nat):Int))
 lenB:∀k,k<29->w.cell? ⟨12,k,none⟩=some (.int .i64 ((Inf.lensB.getD k 0:Nat):Int))
 dists:∀k,k<30->w.cell? ⟨13,k,none⟩=some (.int .i64 ((Inf.zak.getD k 0:Nat):Int))
 distB:∀k,k<30->w.cell? ⟨14,k,none⟩=some (.int .i64 ((Inf.zaQ.getD k 0:Nat):Int))
 order:∀k,k<19->w.cell? ⟨10,k,none⟩=some (.int .i64 ((Inf.zaK.getD k 0:Nat):Int))
theorem zai {w w':World} (h:Ext w w') {p:Addr} {u:Value} (hc:w.cell? p=some u):w'.cell? p=some u:=
 (Below.cell h (qab w _ hc)).trans hc
theorem Tabs.ext {w w':World} (h:Tabs w) (hE:Ext w w'):Tabs w':=
 ⟨λ k q=>zai hE (h.lens k q),λ k q=>zai hE (h.lenB k q),λ k q=>zai hE (h.dists k q),λ k q=>zai hE (h.distB k q),λ k q=>zai hE (h.order k q)⟩
theorem IGo.push {w0 w wr wb w':World} {R B a most L:Nat} {s:ByteArray} {v0 v v':Value} {out:List UInt8} {y:UInt8} (h:IGo w0 w wr R B s a v0 v out most) (hL:out.length=L) (hE:Ext wr wb) (hg:wb.grownBy w' v.ownBlock) (ho:w'.ownsRow 0 5 1 v' (L+1) (zad out ++ [.int .u8 (y.toNat:Int)]))
  (hat:v'.ownBlock=v.ownBlock\/v'.ownBlock=some wb.heap.size):
  Bk w' R #[.pointer (some ⟨B,0,none⟩),v,.int .i64 (most:Int)]/\IGo w0 w (w'.setCell ⟨R,1,none⟩ v') R B s a v0 v' (out ++ [y]) most/\IStep wr (w'.setCell ⟨R,1,none⟩ v') R B v v':=by
 have h1:=IAt.grow (t:=(⟨#[y]⟩:ByteArray)) h.st.at_ hE hg (by rw[hL];rw[zdo];exact ho) hat;exact⟨h1.1,h.to h1.2.1 h1.2.2 h.st.le,h1.2.2⟩
end Go.Proofs.YthlibiocadimhaaGreatDoor
namespace Go.Proofs.YthlibiocadimhaaGreatDoor
open Go.RowKit
theorem Ych0 {p:Prop} (h:p:=by
 split at h
 ·cases h
 rename_i x a2 hg;have:=za9 hg;injection h with h;injection h with _ h;injection h with _ h;omega):p:=h
theorem Ych1 {p:Prop} (h:p:=by
 injection h with h;injection h with _ h;injection h with e1 h;injection h with e2 _;subst e1 e2;exact⟨by omega,this.2⟩):p:=h
namespace Inf
theorem za9 {L:List UInt8} {k a n a':Nat} (h:get L k a=.ok (n,a')):a'=a+k:=(zax h).1
theorem zeR {L:List UInt8} {most:Nat} {g:Nat->Int} {gen k a a':Nat} {out out':List UInt8} {e:Ev} (h:tok L most g gen k a out=.ok (a',out',e)):a<=a'/\out.length<=out'.length/\out'.length<=most:=by
 unfold tok at h;split at h
 ·split at h
  ·injection h with h;injection h with h1 h;injection h with h2 h3;subst h1 h2;exact⟨qaj _,by simp,by simp;omega⟩
  cases h
 split at h
 ·cases h
 split at h
 ·cases h
 rename_i x a2 hx;split at h
 ·cases h
 rename_i d a3 hd;have h1:=za9 hx;have h2:=(zbn hd).1;unfold far at h;split at h
 ·cases h
 split at h
 ·cases h
 rename_i y a4 hy;have h3:=za9 hy;split at h
 ·cases h
 split at h
 ·cases h
 injection h with h;injection h with e1 h;injection h with e2 e3;subst e1 e2;rw[za1];exact⟨by omega,by omega,by omega⟩
theorem zc2 {L:List UInt8} {most:Nat} {f g:Nat->Int} {len gen:Nat}:∀(F a:Nat) (out:List UInt8) (tr:List Ev) (a':Nat) (out':List UInt8) (tr':List Ev),out.length<=most->toks L most f len g gen F a out tr=.ok (a',out',tr')->a<=a'/\out'.length<=most:=by
 intro F;induction F with
 | zero=>intro a out tr a' out' tr' _ h;cases h
 | succ F ih=>
  intro a out tr a' out' tr' ho h;simp only[toks] at h;split at h
  ·cases h
  rename_i k a1 hn;have h1:=(zbn hn).1;split at h
  ·injection h with h;injection h with e1 h;injection h with e2 e3;subst e1 e2;exact⟨by omega,ho⟩
  split at h
  ·cases h
  rename_i a2 out2 e ht;have h2:=zeR ht;have h3:=ih _ _ _ _ _ _ h2.2.2 h;exact⟨by omega,h3.2⟩
theorem zeB {L:List UInt8} {most a a':Nat} {out out':List UInt8} (h:stored L most a out=.ok (a',out')):a<=a'/\out'.length<=most:=by
 unfold stored at h;split at h
 ·cases h
 rename_i n a2 h1;split at h
 ·cases h
 rename_i m a3 h2;split at h
 ·cases h
 split at h
 ·cases h
 split at h
 ·cases h
 injection h with h;injection h with e1 e2;have q1:=za9 h1;have q2:=za9 h2;subst e1 e2;rw[qaa,qax];exact⟨by omega,by omega⟩
theorem zi1 {L:List UInt8}:∀(r i a:Nat) (f f':Nat->Int) (a':Nat),zaW L r i a f=.ok (f',a')->a<=a':=by
 intro r;induction r with
 | zero=>intro i a f f' a' h;injection h with h;injection h with h1 h2;omega
 | succ r ih=>
  intro i a f f' a' h;simp only[zaW] at h;split at h
  ·cases h
  rename_i x a2 hg;have:=za9 hg;have:=ih _ _ _ _ _ h;omega
theorem zot {L:List UInt8} {k a t w a':Nat} {l:List Nat} (h:rep L k a l=.ok (t,w,a')):a<=a':=by
 unfold rep at h;split at h
 ·split at h
  ·cases h
  split at h
  ·cases h
  rename_i x a2 hg;have:=za9 hg;injection h with h;injection h with _ h;injection h with _ h;omega
 split at h
 ·exact Ych0
 split at h
 ·exact Ych0
 injection h with h;injection h with _ h;injection h with _ h;omega
theorem zmB {L:List UInt8} {f:Nat->Int} {want:Nat}:∀(F a:Nat) (l l':List Nat) (a':Nat),l.length<=want->lens L f want F a l=.ok (l',a')->a<=a'/\l'.length=want:=by
 intro F;induction F with
 | zero=>intro a l l' a' _ h;cases h
 | succ F ih=>
  intro a l l' a' hl h;simp only[lens] at h;split at h
  ·injection h with h;injection h with h1 h2;subst h1;exact⟨by omega,by omega⟩
  split at h
  ·cases h
  rename_i k a1 hn;have h1:=(zbn hn).1;split at h
  ·cases h
  rename_i t w a2 hr;have h2:=zot hr;split at h
  ·cases h
  have:=ih _ _ _ _ (by rw[qaa,qaT];omega) h;exact⟨by omega,this.2⟩
theorem zhH {L:List UInt8} {a a':Nat} {l d:List Nat} (h:dyn L a=.ok (l,d,a')):a<=a':=by
 unfold dyn at h;split at h
 ·cases h
 rename_i m a1 h1;split at h
 ·cases h
 rename_i r a2 h2;split at h
 ·cases h
 rename_i w a3 h3;split at h
 ·cases h
 split at h
 ·cases h
 rename_i f a4 h4;split at h
 ·cases h
 split at h
 ·cases h
 rename_i l0 a5 h5;split at h
 ·cases h
 split at h
 ·cases h
 split at h
 ·cases h
 have q1:=za9 h1;have q2:=za9 h2;have q3:=za9 h3;have q4:=zi1 _ _ _ _ _ _ h4;have q5:=(zmB _ _ _ _ _ (qbi _) h5).1;injection h with h;injection h with _ h;injection h with _ h;omega
theorem zdQ {L:List UInt8} {most a last a':Nat} {out out':List UInt8} {b:Blk} (ho:out.length<=most) (h:block L most a out=.ok (last,a',out',b)):a<a'/\out'.length<=most:=by
 unfold block at h;split at h
 ·cases h
 rename_i la a1 h1;split at h
 ·cases h
 rename_i kind a2 h2;have q1:=za9 h1;have q2:=za9 h2;split at h
 ·split at h
  ·cases h
  rename_i a3 o3 h3;have:=zeB h3;exact Ych1
 split at h
 ·split at h
  ·cases h
  rename_i a3 o3 tr h3;have:=zc2 _ _ _ _ _ _ _ ho h3;exact Ych1
 split at h
 ·split at h
  ·cases h
  rename_i l r a3 h3;have p1:=zhH h3;split at h
  ·cases h
  rename_i a4 o4 tr h4;have:=zc2 _ _ _ _ _ _ _ ho h4;exact Ych1
 cases h
section
variable {L:List UInt8} {most F a:Nat} {out:List UInt8} {bs:List Blk} {r:Except Nat (Nat × List UInt8 × List Blk)}
theorem zb9 {c:Nat} (hF:0<F) (h:zaE L most F a out bs=r) (e:block L most a out=.error c):r=.error c:=by
 cases F with
 | zero=>omega
 | succ F=>simp only[zaE,e] at h;exact h.symm
theorem zeK {a1:Nat} {out1:List UInt8} {b:Blk} (hF:0<F) (h:zaE L most F a out bs=r) (e:block L most a out=.ok (1,a1,out1,b)):r=.ok (a1,out1,bs ++ [b]):=by
 cases F with
 | zero=>omega
 | succ F=>simp only[zaE,e,qad] at h;exact h.symm
theorem zgB {last a1:Nat} {out1:List UInt8} {b:Blk} (hF:0<F) (h:zaE L most F a out bs=r) (e:block L most a out=.ok (last,a1,out1,b)) (hl:last≠1):∃F',F=F'+1/\zaE L most F' a1 out1 (bs ++ [b])=r:=by
 cases F with
 | zero=>omega
 | succ F=>simp only[zaE,e,qac hl] at h;exact⟨F,rfl,h⟩
end
noncomputable def infl (s:ByteArray) (most:Int):Except Nat (List UInt8 × Nat × List Blk):=
 if most<0\/300000<most\/300000<s.size then .error 1 else inf s.data.toList most.toNat
end Inf
end Go.Proofs.YthlibiocadimhaaGreatDoor
namespace Go.Proofs.YthlibiocadimhaaGreatDoor
open Go.RowKit
theorem Yci0 {p:Prop} (h:p:=by
 split at h
 ·cases h
 rename_i x a2 hg;have:=zep hg;injection h with h;injection h with _ h;injection h with _ h;omega):p:=h
theorem Yci1 {p:Prop} (h:p:=by
 unfold block;simp only[h1,h2,qac (show ¬ (2:Nat)=0 by decide),qac (show ¬ (2:Nat)=1 by decide),qad,h3,h4]):p:=h
namespace Inf
theorem zep {L:List UInt8} {k a n a':Nat} (h:get L k a=.ok (n,a')):a'<=8*L.length:=by have:=zax h;omega
theorem zkd {L:List UInt8}:∀(r i a:Nat) (f f':Nat->Int) (a':Nat),a<=8*L.length->zaW L r i a f=.ok (f',a')->a'<=8*L.length:=by
 intro r;induction r with
 | zero=>intro i a f f' a' ha h;injection h with h;injection h with h1 h2;omega
 | succ r ih=>
  intro i a f f' a' ha h;simp only[zaW] at h;split at h
  ·cases h
  rename_i x a2 hg;exact ih _ _ _ _ _ (zep hg) h
theorem zo7 {L:List UInt8} {k a t w a':Nat} {l:List Nat} (ha:a<=8*L.length) (h:rep L k a l=.ok (t,w,a')):a'<=8*L.length:=by
 unfold rep at h;split at h
 ·split at h
  ·cases h
  split at h
  ·cases h
  rename_i x a2 hg;have:=zep hg;injection h with h;injection h with _ h;injection h with _ h;omega
 split at h
 ·exact Yci0
 split at h
 ·exact Yci0
 injection h with h;injection h with _ h;injection h with _ h;omega
theorem znu {L:List UInt8} {f:Nat->Int} {want:Nat}:∀(F a:Nat) (l l':List Nat) (a':Nat),a<=8*L.length->lens L f want F a l=.ok (l',a')->a'<=8*L.length:=by
 intro F;induction F with
 | zero=>intro a l l' a' _ h;cases h
 | succ F ih=>
  intro a l l' a' ha h;simp only[lens] at h;split at h
  ·injection h with h;injection h with h1 h2;omega
  split at h
  ·cases h
  rename_i k a1 hn;have h1:=(zbn hn).2.1;split at h
  ·cases h
  rename_i t w a2 hr;have h2:=zo7 h1 hr;split at h
  ·cases h
  exact ih _ _ _ _ h2 h
theorem zpz {L:List UInt8} {a a':Nat} {l d:List Nat} (h:dyn L a=.ok (l,d,a')):a'<=8*L.length:=by
 unfold dyn at h;split at h
 ·cases h
 rename_i m a1 h1;split at h
 ·cases h
 rename_i r a2 h2;split at h
 ·cases h
 rename_i w a3 h3;split at h
 ·cases h
 split at h
 ·cases h
 rename_i f a4 h4;split at h
 ·cases h
 split at h
 ·cases h
 rename_i l0 a5 h5;split at h
 ·cases h
 split at h
 ·cases h
 split at h
 ·cases h
 have q4:=zkd _ _ _ _ _ _ (zep h3) h4;have q5:=znu _ _ _ _ _ q4 h5;injection h with h;injection h with _ h;injection h with _ h;omega
theorem zh3 {L:List UInt8} {most:Nat} {f g:Nat->Int} {len gen:Nat}:∀(F a:Nat) (out:List UInt8) (tr:List Ev) (a':Nat) (out':List UInt8) (tr':List Ev),toks L most f len g gen F a out tr=.ok (a',out',tr')->a'<=8*L.length/\tr'.length+a<=a'+tr.length:=by
 intro F;induction F with
 | zero=>intro a out tr a' out' tr' h;cases h
 | succ F ih=>
  intro a out tr a' out' tr' h;simp only[toks] at h;split at h
  ·cases h
  rename_i k a1 hn;obtain⟨h1,h2,-⟩:=zbn hn;split at h
  ·injection h with h;injection h with e1 h;injection h with e2 e3;subst e1 e2 e3;rw[qaa];exact⟨h2,by simp;omega⟩
  split at h
  ·cases h
  rename_i a2 out2 e ht;have q1:=ih _ _ _ _ _ _ h;have q2:=(zeR ht).1;rw[qaa] at q1;simp at q1;omega
theorem zkN {L:List UInt8} {most a a':Nat} {out out':List UInt8} (h:stored L most a out=.ok (a',out')):a'<=8*L.length:=by
 unfold stored at h;split at h
 ·cases h
 split at h
 ·cases h
 split at h
 ·cases h
 split at h
 ·cases h
 split at h
 ·cases h
 injection h with h;injection h with e1 e2;omega
section
variable {L:List UInt8} {most a a1 a2 last:Nat} {out:List UInt8}
theorem znL {c:Nat} (h1:get L 1 a=.error c):block L most a out=.error c:=by unfold block;simp only[h1]
theorem zn5 {c:Nat} (h1:get L 1 a=.ok (last,a1)) (h2:get L 2 a1=.error c):block L most a out=.error c:=by unfold block;simp only[h1,h2]
theorem zms {c:Nat} (h1:get L 1 a=.ok (last,a1)) (h2:get L 2 a1=.ok (0,a2)) (h3:stored L most a2 out=.error c):block L most a out=.error c:=by unfold block;simp only[h1,h2,qad,h3]
theorem zmQ {a3:Nat} {out3:List UInt8} (h1:get L 1 a=.ok (last,a1)) (h2:get L 2 a1=.ok (0,a2)) (h3:stored L most a2 out=.ok (a3,out3)):block L most a out=.ok (last,a3,out3,⟨0,[],[],[]⟩):=by unfold block;simp only[h1,h2,qad,h3]
theorem zmO {c:Nat} (h1:get L 1 a=.ok (last,a1)) (h2:get L 2 a1=.ok (1,a2)) (h3:toks L most fixF 288 fiveF 32 (8*L.length+1) a2 out []=.error c):block L most a out=.error c:=by unfold block;simp only[h1,h2,qac (show ¬ (1:Nat)=0 by decide),qad,h3]
theorem zgK {a3:Nat} {out3:List UInt8} {tr:List Ev} (h1:get L 1 a=.ok (last,a1)) (h2:get L 2 a1=.ok (1,a2)) (h3:toks L most fixF 288 fiveF 32 (8*L.length+1) a2 out []=.ok (a3,out3,tr)):block L most a out=.ok (last,a3,out3,⟨1,[],[],tr⟩):=by unfold block;simp only[h1,h2,qac (show ¬ (1:Nat)=0 by decide),qad,h3]
theorem zod {c:Nat} (h1:get L 1 a=.ok (last,a1)) (h2:get L 2 a1=.ok (2,a2)) (h3:dyn L a2=.error c):block L most a out=.error c:=by
 unfold block;simp only[h1,h2,qac (show ¬ (2:Nat)=0 by decide),qac (show ¬ (2:Nat)=1 by decide),qad,h3]
theorem zlO {c:Nat} {l d:List Nat} {a3:Nat} (h1:get L 1 a=.ok (last,a1)) (h2:get L 2 a1=.ok (2,a2)) (h3:dyn L a2=.ok (l,d,a3)) (h4:toks L most (fn l) l.length (fn d) d.length (8*L.length+1) a3 out []=.error c):block L most a out=.error c:=by
 exact Yci1
theorem zlu {l d:List Nat} {a3 a4:Nat} {out4:List UInt8} {tr:List Ev} (h1:get L 1 a=.ok (last,a1)) (h2:get L 2 a1=.ok (2,a2)) (h3:dyn L a2=.ok (l,d,a3)) (h4:toks L most (fn l) l.length (fn d) d.length (8*L.length+1) a3 out []=.ok (a4,out4,tr)):block L most a out=.ok (last,a4,out4,⟨2,l,d,tr⟩):=by
 exact Yci1
theorem zoz {kind:Nat} (h1:get L 1 a=.ok (last,a1)) (h2:get L 2 a1=.ok (kind,a2)) (h3:3<=kind):block L most a out=.error 0:=by
 unfold block;simp only[h1,h2,qac (show ¬ kind=0 by omega),qac (show ¬ kind=1 by omega),qac (show ¬ kind=2 by omega)]
end
end Inf
end Go.Proofs.YthlibiocadimhaaGreatDoor
namespace Go.Proofs.YthlibiocadimhaaGreatDoor
open Go.RowKit
theorem zhp (l m:List UInt8):Crc.num (l++m)=Crc.num l+Crc.num m*2^(8*l.length):=by
  induction l with
  | nil=>simp[Crc.num]
  | cons b l ih=>
    show b.toNat+256*Crc.num (l++m)=b.toNat+256*Crc.num l+_;rw[ih,qaR,show 8*(l.length+1)=8*l.length+8 by omega,qbY,Nat.mul_add,<- qa6];congr 1
    rw[qaJ 256,qbr]
namespace Sto
def blk (last:Nat) (p:List UInt8):List UInt8:=[UInt8.ofNat last,UInt8.ofNat (p.length%256),UInt8.ofNat (p.length/256),UInt8.ofNat (255-p.length%256),UInt8.ofNat (255-p.length/256)]++p
theorem zcA (last:Nat) (p:List UInt8):(blk last p).length=5+p.length:=by simp[blk];omega
def all:Nat->List UInt8->List UInt8
  | 0,_=> []
  | k+1,t=>if t.length<=65535 then blk 1 t else blk 0 (t.take 65535)++all k (t.drop 65535)
theorem zhh {k:Nat} {t:List UInt8} (h:t.length<=65535):all (k+1) t=blk 1 t:=by simp only[all,qad h]
theorem zhn {k:Nat} {t:List UInt8} (h:¬ t.length<=65535):all (k+1) t=blk 0 (t.take 65535)++all k (t.drop 65535):=by simp only[all,qac h]
theorem ofNat_toNat (n:Nat) (h:n<256):(UInt8.ofNat n).toNat=n:=by rw[qbI,qaF h]
theorem zcH:∀(k:Nat) (t:List UInt8),(all k t).length<=t.length+5*(t.length/65535+1):=by
  intro k;induction k with
  | zero=>intro t;simp[all]
  | succ k ih=>
    intro t;by_cases h:t.length<=65535
    · rw[zhh h,zcA];omega
    rw[zhn h,qaa,zcA,qax];have:=ih (t.drop 65535);rw[qbh] at this;omega
end Sto
theorem Yck0 {p:Prop} (h:p:=by
 injection h with h;injection h with e0 h;injection h with e1 h;injection h with e2 e3;subst e0 e1 e2 e3;exact⟨i0,i1,λ q=>by rw[i2 q],λ q1 q2=>by rw[i3 q1 q2]⟩):p:=h
namespace Inf
theorem zeX {L:List UInt8} {m m':Nat} {g:Nat->Int} {gen k a a':Nat} {out out':List UInt8} {e:Ev} (h:tok L m g gen k a out=.ok (a',out',e)):
  (out'.length<=m'->tok L m' g gen k a out=.ok (a',out',e))/\(out.length<=m'->m'<out'.length->tok L m' g gen k a out=.error 1):=by
 unfold tok at h⊢;split at h
 ·rename_i hk;rw[qad hk];split at h
  ·injection h with h;injection h with h1 h;injection h with h2 h3;subst h1 h2 h3;simp only[qaa,qby];exact⟨λ q=>by rw[qad (by omega)],λ q1 q2=>by rw[qac (by omega)]⟩
  cases h
 rename_i hk;rw[qac hk];split at h
 ·cases h
 rename_i hk2;rw[qac hk2];split at h
 ·cases h
 rename_i x a2 hx;(try simp only[hx]);split at h
 ·cases h
 rename_i d a3 hd;(try simp only[hd]);unfold far at h⊢;split at h
 ·cases h
 rename_i hd3;rw[qac hd3];split at h
 ·cases h
 rename_i y a4 hy;(try simp only[hy]);split at h
 ·cases h
 rename_i hb;rw[qac hb];split at h
 ·cases h
 injection h with h;injection h with e1 h;injection h with e2 e3;subst e1 e2 e3;rw[za1];exact⟨λ q=>by rw[qac (by omega)],λ q1 q2=>by rw[qad (by omega)]⟩
theorem zgI {L:List UInt8} {m m':Nat} {f g:Nat->Int} {len gen:Nat}:∀(F a:Nat) (out:List UInt8) (tr:List Ev) (a':Nat) (out':List UInt8) (tr':List Ev),toks L m f len g gen F a out tr=.ok (a',out',tr')->
  out.length<=out'.length/\(out'.length<=m'->toks L m' f len g gen F a out tr=.ok (a',out',tr'))/\(out.length<=m'->m'<out'.length->toks L m' f len g gen F a out tr=.error 1):=by
 intro F;induction F with
 | zero=>intro a out tr a' out' tr' h;cases h
 | succ F ih=>
  intro a out tr a' out' tr' h;simp only[toks] at h⊢;split at h
  ·cases h
  rename_i k a1 hn;split at h
  ·rename_i hk;injection h with h;injection h with e1 h;injection h with e2 e3;subst e1 e2 e3;simp only[qad hk];exact⟨qaj _,λ _=>trivial,λ q1 q2=>by omega⟩
  rename_i hk;simp only[qac hk];split at h
  ·cases h
  rename_i a2 out2 e ht;have hg:=zeR ht;obtain⟨i1,i2,i3⟩:=ih _ _ _ _ _ _ h;refine⟨by omega,λ q=>?_,λ q1 q2=>?_⟩
  ·rw[(zeX ht).1 (by omega)];exact i2 q
  by_cases hm:out2.length<=m'
  ·rw[(zeX ht).1 hm];exact i3 hm q2
  rw[(zeX ht).2 q1 (by omega)]
theorem zj5 {L:List UInt8} {m:Nat} {f g:Nat->Int} {len gen:Nat}:∀(F a:Nat) (out:List UInt8) (tr:List Ev) (a':Nat) (out':List UInt8) (tr':List Ev),toks L m f len g gen F a out tr=.ok (a',out',tr')->a'<=8*L.length:=by
 intro F;induction F with
 | zero=>intro a out tr a' out' tr' h;cases h
 | succ F ih=>
  intro a out tr a' out' tr' h;simp only[toks] at h;split at h
  ·cases h
  rename_i k a1 hn;split at h
  ·injection h with h;injection h with e1 h;subst e1;exact (zbn hn).2.1
  split at h
  ·cases h
  exact ih _ _ _ _ _ _ h
theorem zjd {L:List UInt8} {m m' a a':Nat} {out out':List UInt8} (h:stored L m a out=.ok (a',out')):
  a'<=8*L.length/\out.length<=out'.length/\(out'.length<=m'->stored L m' a out=.ok (a',out'))/\(out.length<=m'->m'<out'.length->stored L m' a out=.error 1):=by
 unfold stored at h⊢;split at h
 ·cases h
 rename_i n a2 h1;(try simp only[h1]);split at h
 ·cases h
 rename_i k a3 h2;(try simp only[h2]);split at h
 ·cases h
 rename_i hx;rw[qac hx];split at h
 ·cases h
 rename_i hb;rw[qac hb];split at h
 ·cases h
 injection h with h;injection h with e1 e2;have q1:=zax h1;have q2:=zax h2;have hl:((L.drop (a3/8)).take n).length=n:=by rw[qax,qbh];omega
 subst e1 e2;rw[qaa,hl];exact⟨by omega,by omega,λ q=>by rw[qac (by omega)],λ q1 q2=>by rw[qad (by omega)]⟩
theorem zkM {L:List UInt8} {m m' a last a':Nat} {out out':List UInt8} {b:Blk} (h:block L m a out=.ok (last,a',out',b)):
  a'<=8*L.length/\out.length<=out'.length/\(out'.length<=m'->block L m' a out=.ok (last,a',out',b))/\(out.length<=m'->m'<out'.length->block L m' a out=.error 1):=by
 unfold block at h⊢;split at h
 ·cases h
 rename_i la a1 h1;(try simp only[h1]);split at h
 ·cases h
 rename_i kind a2 h2;(try simp only[h2]);split at h
 ·rename_i hk;simp only[qad hk];split at h
  ·cases h
  rename_i a3 o3 h3;obtain⟨i0,i1,i2,i3⟩:=zjd (m':=m') h3;exact Yck0
 rename_i hk;simp only[qac hk];split at h
 ·rename_i hk1;simp only[qad hk1];split at h
  ·cases h
  rename_i a3 o3 tr h3;obtain⟨i1,i2,i3⟩:=zgI (m':=m') _ _ _ _ _ _ _ h3;have i0:=zj5 _ _ _ _ _ _ _ h3;exact Yck0
 rename_i hk1;simp only[qac hk1];split at h
 ·rename_i hk2;simp only[qad hk2];split at h
  ·cases h
  rename_i l r a3 h3;(try simp only[h3]);split at h
  ·cases h
  rename_i a4 o4 tr h4;obtain⟨i1,i2,i3⟩:=zgI (m':=m') _ _ _ _ _ _ _ h4;have i0:=zj5 _ _ _ _ _ _ _ h4;exact Yck0
 cases h
theorem zdm {L:List UInt8} {m m':Nat}:∀(F a:Nat) (out:List UInt8) (bs:List Blk) (a':Nat) (out':List UInt8) (bs':List Blk),zaE L m F a out bs=.ok (a',out',bs')->
  a'<=8*L.length/\out.length<=out'.length/\(out'.length<=m'->zaE L m' F a out bs=.ok (a',out',bs'))/\(out.length<=m'->m'<out'.length->zaE L m' F a out bs=.error 1):=by
 intro F;induction F with
 | zero=>intro a out bs a' out' bs' h;cases h
 | succ F ih=>
  intro a out bs a' out' bs' h;simp only[zaE] at h⊢;split at h
  ·cases h
  rename_i last a1 out1 b hb;obtain⟨j0,j1,j2,j3⟩:=zkM (m':=m') hb;split at h
  ·rename_i hl;injection h with h;injection h with e1 h;injection h with e2 e3;subst e1 e2 e3;exact⟨j0,j1,λ q=>by rw[j2 q];simp only[qad hl],λ q1 q2=>by rw[j3 q1 q2]⟩
  rename_i hl;obtain⟨i0,i1,i2,i3⟩:=ih _ _ _ _ _ _ h;refine⟨i0,by omega,λ q=>?_,λ q1 q2=>?_⟩
  ·rw[j2 (by omega)];simp only[qac hl];exact i2 q
  by_cases hm:out1.length<=m'
  ·rw[j2 hm];simp only[qac hl];exact i3 hm q2
  rw[j3 q1 (by omega)]
theorem zi4 {L:List UInt8} {m:Nat}:∀(F a:Nat) (out:List UInt8) (bs:List Blk) (a':Nat) (out':List UInt8) (bs':List Blk),out.length<=m->zaE L m F a out bs=.ok (a',out',bs')->out'.length<=m:=by
 intro F;induction F with
 | zero=>intro a out bs a' out' bs' _ h;cases h
 | succ F ih=>
  intro a out bs a' out' bs' ho h;simp only[zaE] at h;split at h
  ·cases h
  rename_i last a1 out1 b hb;have:=zdQ ho hb;split at h
  ·injection h with h;injection h with e1 h;injection h with e2 e3;subst e2;exact this.2
  exact ih _ _ _ _ _ _ this.2 h
theorem zec {s:ByteArray} {most:Int} {out:List UInt8} {used:Nat} {bs:List Blk} (h:infl s most=.ok (out,used,bs)):
  (out.length:Int)<=most/\used<=s.size/\infl s (out.length:Int)=.ok (out,used,bs)/\(0<out.length->infl s ((out.length:Int)-1)=.error 1):=by
 unfold infl at h;split at h
 ·cases h
 rename_i hb;obtain⟨m,rfl⟩:∃m:Nat,most=m:=⟨most.toNat,by omega⟩;rw[qbm] at h;unfold inf at h;split at h
 ·cases h
 rename_i a o b hbl;injection h with h;injection h with e1 h;injection h with e2 e3;subst e1 e2 e3;have hg:=zi4 _ _ _ _ _ _ _ (qbi _) hbl;refine⟨by omega,?_,?_,λ hp=>?_⟩
 ·have:=(zdm (m':=m) _ _ _ _ _ _ _ hbl).1;rw[zag] at this;omega
 ·unfold infl;rw[qac (by omega),qbm];unfold inf;rw[(zdm _ _ _ _ _ _ _ hbl).2.2.1 (qaj _)]
 unfold infl;rw[qac (by omega),show ((o.length:Int)-1).toNat=o.length-1 by omega];unfold inf;rw[(zdm _ _ _ _ _ _ _ hbl).2.2.2 (qbi _) (by omega)]
theorem zjy {s:ByteArray} {most:Int} {q:List UInt8 × Nat × List Blk} (h:infl s most=.ok q):0<=most/\most<=300000/\s.size<=300000:=by
 unfold infl at h;split at h
 ·cases h
 omega
theorem zbH {L:List UInt8} {k a c:Nat} (h:get L k a=.error c):c<2:=by have:=(zaL h).1;omega
theorem zkF {L:List UInt8} {f:Nat->Int} {len a c:Nat} (h:nxt L f len a=.error c):c<2:=by have:=zb0 h;omega
theorem zas {α:Type} {c k:Nat} (h:(Except.error k:Except Nat α)=.error c) (hk:k<2):c<2:=by injection h with h;omega
theorem zrk {L:List UInt8} {m:Nat} {g:Nat->Int} {gen k a c:Nat} {out:List UInt8} (h:tok L m g gen k a out=.error c):c<2:=by
 unfold tok at h;split at h
 ·split at h
  ·cases h
  exact zas h (by omega)
 split at h
 ·exact zas h (by omega)
 split at h
 ·rename_i hx;exact zas h (zbH hx)
 split at h
 ·rename_i hx;exact zas h (zkF hx)
 unfold far at h;split at h
 ·exact zas h (by omega)
 split at h
 ·rename_i hx;exact zas h (zbH hx)
 split at h
 ·exact zas h (by omega)
 split at h
 ·exact zas h (by omega)
 cases h
theorem zle {L:List UInt8} {m:Nat} {f g:Nat->Int} {len gen c:Nat}:∀(F a:Nat) (out:List UInt8) (tr:List Ev),toks L m f len g gen F a out tr=.error c->c<2:=by
 intro F;induction F with
 | zero=>intro a out tr h;exact zas h (by omega)
 | succ F ih=>
  intro a out tr h;simp only[toks] at h;split at h
  ·rename_i hx;exact zas h (zkF hx)
  split at h
  ·cases h
  split at h
  ·rename_i hx;exact zas h (zrk hx)
  exact ih _ _ _ h
theorem zm6 {L:List UInt8} {m a c:Nat} {out:List UInt8} (h:stored L m a out=.error c):c<2:=by
 unfold stored at h;split at h
 ·rename_i hx;exact zas h (zbH hx)
 split at h
 ·rename_i hx;exact zas h (zbH hx)
 split at h
 ·exact zas h (by omega)
 split at h
 ·exact zas h (by omega)
 split at h
 ·exact zas h (by omega)
 cases h
theorem zoh {L:List UInt8} {c:Nat}:∀(r i a:Nat) (f:Nat->Int),zaW L r i a f=.error c->c<2:=by
 intro r;induction r with
 | zero=>intro i a f h;cases h
 | succ r ih=>
  intro i a f h;simp only[zaW] at h;split at h
  ·rename_i hx;exact zas h (zbH hx)
  exact ih _ _ _ h
theorem zq9 {L:List UInt8} {k a c:Nat} {l:List Nat} (h:rep L k a l=.error c):c<2:=by
 unfold rep at h;split at h
 ·split at h
  ·exact zas h (by omega)
  split at h
  ·rename_i hx;exact zas h (zbH hx)
  cases h
 split at h
 ·split at h
  ·rename_i hx;exact zas h (zbH hx)
  cases h
 split at h
 ·split at h
  ·rename_i hx;exact zas h (zbH hx)
  cases h
 cases h
theorem zqp {L:List UInt8} {f:Nat->Int} {want c:Nat}:∀(F a:Nat) (l:List Nat),lens L f want F a l=.error c->c<2:=by
 intro F;induction F with
 | zero=>intro a l h;exact zas h (by omega)
 | succ F ih=>
  intro a l h;simp only[lens] at h;split at h
  ·cases h
  split at h
  ·rename_i hx;exact zas h (zkF hx)
  split at h
  ·rename_i hx;exact zas h (zq9 hx)
  split at h
  ·exact zas h (by omega)
  exact ih _ _ h
theorem zrh {L:List UInt8} {a c:Nat} (h:dyn L a=.error c):c<2:=by
 unfold dyn at h;split at h
 ·rename_i hx;exact zas h (zbH hx)
 split at h
 ·rename_i hx;exact zas h (zbH hx)
 split at h
 ·rename_i hx;exact zas h (zbH hx)
 split at h
 ·exact zas h (by omega)
 split at h
 ·rename_i hx;exact zas h (zoh _ _ _ _ hx)
 split at h
 ·exact zas h (by omega)
 split at h
 ·rename_i hx;exact zas h (zqp _ _ _ hx)
 split at h
 ·exact zas h (by omega)
 split at h
 ·exact zas h (by omega)
 split at h
 ·exact zas h (by omega)
 cases h
theorem zpN {L:List UInt8} {m a c:Nat} {out:List UInt8} (h:block L m a out=.error c):c<2:=by
 unfold block at h;split at h
 ·rename_i hx;exact zas h (zbH hx)
 split at h
 ·rename_i hx;exact zas h (zbH hx)
 split at h
 ·split at h
  ·rename_i hx;exact zas h (zm6 hx)
  cases h
 split at h
 ·split at h
  ·rename_i hx;exact zas h (zle _ _ _ _ hx)
  cases h
 split at h
 ·split at h
  ·rename_i hx;exact zas h (zrh hx)
  split at h
  ·rename_i hx;exact zas h (zle _ _ _ _ hx)
  cases h
 exact zas h (by omega)
theorem zna {L:List UInt8} {m c:Nat}:∀(F a:Nat) (out:List UInt8) (bs:List Blk),zaE L m F a out bs=.error c->c<2:=by
 intro F;induction F with
 | zero=>intro a out bs h;exact zas h (by omega)
 | succ F ih=>
  intro a out bs h;simp only[zaE] at h;split at h
  ·rename_i hx;exact zas h (zpN hx)
  split at h
  ·cases h
  exact ih _ _ _ h
theorem zny {s:ByteArray} {most:Int} {c:Nat} (h:infl s most=.error c):c<2:=by
 unfold infl at h;split at h
 ·exact zas h (by omega)
 unfold inf at h;split at h
 ·rename_i hx;exact zas h (zna _ _ _ _ hx)
 cases h
end Inf
namespace Dfl
def plcF (l:List Nat) (v:Nat):Nat->Nat
 | 0=>0
 | k+1=>if l.getD (k+1) 0<=v then k+1 else plcF l v k
def plc (l:List Nat) (v:Nat):Nat:=plcF l v (l.length-1)
theorem zf3 {l:List Nat} {v:Nat} (h0:l.getD 0 0<=v):∀k,plcF l v k<=k/\l.getD (plcF l v k) 0<=v/\∀j,plcF l v k<j->j<=k->v<l.getD j 0
 | 0=>⟨qaj _,h0,λ j h1 h2=>by simp[plcF] at h1;omega⟩
 | k+1=>by
  obtain⟨h1,h2,h3⟩:=zf3 h0 k;unfold plcF;by_cases h:l.getD (k+1) 0<=v
  ·rw[qad h];exact⟨qaj _,h,λ j q1 q2=>by omega⟩
  rw[qac h];refine⟨by omega,h2,λ j q1 q2=>?_⟩;rcases qa8 j (k+1) with q | q
  ·exact h3 j q1 (by omega)
  have:j=k+1:=by omega
  subst this;omega
theorem zdS {v:Nat} (h1:3<=v) (h2:v<=258):plc Inf.lensL v<29/\Inf.lensL.getD (plc Inf.lensL v) 0<=v/\v-Inf.lensL.getD (plc Inf.lensL v) 0<2^Inf.lensB.getD (plc Inf.lensL v) 0:=by
 obtain⟨a1,a2,a3⟩:=zf3 (l:=Inf.lensL) (v:=v) h1 28;have e:plc Inf.lensL v=plcF Inf.lensL v 28:=rfl;rw[e];generalize plcF Inf.lensL v 28=k at a1 a2 a3;refine⟨by omega,a2,?_⟩;have gap:∀k,k<28->Inf.lensL.getD (k+1) 0<=Inf.lensL.getD k 0+2^Inf.lensB.getD k 0:=by decide
 rcases qa8 k 28 with q | q
 ·have:=gap k q;have:=a3 (k+1) (by omega) (by omega);omega
 have:k=28:=by omega
 subst this;show v-258<1;omega
theorem zcX {v:Nat} (h1:1<=v) (h2:v<=32768):plc Inf.zak v<30/\Inf.zak.getD (plc Inf.zak v) 0<=v/\v-Inf.zak.getD (plc Inf.zak v) 0<2^Inf.zaQ.getD (plc Inf.zak v) 0:=by
 obtain⟨a1,a2,a3⟩:=zf3 (l:=Inf.zak) (v:=v) h1 29;have e:plc Inf.zak v=plcF Inf.zak v 29:=rfl;rw[e];generalize plcF Inf.zak v 29=k at a1 a2 a3;refine⟨by omega,a2,?_⟩;have gap:∀k,k<29->Inf.zak.getD (k+1) 0<=Inf.zak.getD k 0+2^Inf.zaQ.getD k 0:=by decide
 rcases qa8 k 29 with q | q
 ·have:=gap k q;have:=a3 (k+1) (by omega) (by omega);omega
 have:k=29:=by omega
 subst this;show v-24577<8192;omega
def wordB (f:Nat->Int) (len k:Nat):List Bool:=Bts.high (word f len k) (f k).toNat
def tokB (f:Nat->Int) (len:Nat) (g:Nat->Int) (gen:Nat) (t:Tk):List Bool:=
 if t.l=0 then wordB f len t.b.toNat
 else wordB f len (257+plc Inf.lensL t.l.toNat)++(Bts.low (t.l.toNat-Inf.lensL.getD (plc Inf.lensL t.l.toNat) 0) (Inf.lensB.getD (plc Inf.lensL t.l.toNat) 0) ++
  (wordB g gen (plc Inf.zak t.d.toNat)++Bts.low (t.d.toNat-Inf.zak.getD (plc Inf.zak t.d.toNat) 0) (Inf.zaQ.getD (plc Inf.zak t.d.toNat) 0)))
def toksB (f:Nat->Int) (len:Nat) (g:Nat->Int) (gen:Nat) (ts:List Tk):List Bool:=(ts.map (tokB f len g gen)).flatten
inductive Means:List UInt8->List Tk->List UInt8->Prop
 | nil (o:List UInt8):Means o [] o
 | lit {o o':List UInt8} {t:Tk} {ts:List Tk} (h1:t.l=0) (h2:t.d=0) (h:Means (o ++ [t.b]) ts o'):Means o (t ::ts) o'
 | mat {o o':List UInt8} {t:Tk} {ts:List Tk} (h0:t.b=0) (h1:3<=t.l) (h2:t.l<=258) (h3:1<=t.d) (h4:t.d<=32768) (h5:t.d.toNat<=o.length) (h:Means (copyL o t.d.toNat t.l.toNat) ts o'):Means o (t ::ts) o'
theorem Means.grow {o o':List UInt8} {ts:List Tk} (h:Means o ts o'):o.length<=o'.length:=by
 induction h with
 | nil o=>exact qaj _
 | lit h1 h2 h ih=>simp at ih;omega
 | mat h0 h1 h2 h3 h4 h5 h ih=>rw[za1] at ih;omega
def Uses (f:Nat->Int) (len:Nat) (g:Nat->Int) (gen:Nat) (t:Tk):Prop:=
 (t.l=0->t.b.toNat<len/\1<=f t.b.toNat/\f t.b.toNat<=15)/\
 (t.l≠0->(257+plc Inf.lensL t.l.toNat<len/\1<=f (257+plc Inf.lensL t.l.toNat)/\f (257+plc Inf.lensL t.l.toNat)<=15)/\plc Inf.zak t.d.toNat<gen/\1<=g (plc Inf.zak t.d.toNat)/\g (plc Inf.zak t.d.toNat)<=15)
def At (L:List UInt8) (a:Nat) (B:List Bool):Prop:=a+B.length<=8*L.length/\Crc.num L/2^a%2^B.length=Bts.val B
theorem At.left {L:List UInt8} {a:Nat} {B C:List Bool} (h:At L a (B++C)):At L a B:=by
 obtain⟨h1,h2⟩:=h;rw[qaa] at h1;refine⟨by omega,?_⟩;rw[qaa,qbY,Nat.mod_mul,Bts.zbj,qaJ] at h2;have q1:=Bts.zcy B;have q2:Crc.num L/2^a%2^B.length<2^B.length:=qbV _ (qbN _);have e:=congrArg (· % 2^B.length) h2;simp only[Nat.add_mul_mod_self_right,qaF q1,Nat.mod_mod] at e;exact e
theorem At.right {L:List UInt8} {a:Nat} {B C:List Bool} (h:At L a (B++C)):At L (a+B.length) C:=by
 obtain⟨h1,h2⟩:=h;rw[qaa] at h1;refine⟨by omega,?_⟩;rw[qaa,qbY,Nat.mod_mul,Bts.zbj,qaJ] at h2;have q1:=Bts.zcy B;have q2:Crc.num L/2^a%2^B.length<2^B.length:=qbV _ (qbN _);have e:=congrArg (· / 2^B.length) h2;simp only[Nat.add_mul_div_right _ _ (qbN B.length),qcr q1,qcr q2,Nat.zero_add] at e;rw[qbY,<- qbF];exact e
theorem At.get {L:List UInt8} {a x k:Nat} (h:At L a (Bts.low x k)) (hx:x<2^k):Inf.get L k a=.ok (x,a+k):=by
 obtain⟨h1,h2⟩:=h;rw[Bts.zat] at h1 h2;rw[Bts.zgg,qaF hx] at h2;unfold Inf.get;rw[qad h1,h2]
theorem At.nxt {L:List UInt8} {a len k:Nat} {f:Nat->Int} (h:At L a (wordB f len k)) (hc:zan f len) (hk:k<len) (h1:1<=f k) (h2:f k<=15):Inf.nxt L f len a=.ok (k,a+(wordB f len k).length):=by
 obtain⟨m,hm⟩:∃m:Nat,f k=(m:Int):=⟨(f k).toNat,by omega⟩;obtain⟨h3,h4⟩:=h;unfold wordB at h3 h4⊢;rw[Bts.zaD] at h3 h4⊢;rw[hm,qbm] at h3 h4⊢;have hw:=(zcb f len k m hc hk hm (by omega) (by omega)).2;have hcode:=zeL (word f len k) m (Crc.num L) a h4;rw[qaF hw] at hcode;exact Inf.zew hc ⟨by omega,by omega,h3,hk,hm,hcode.symm⟩
def ev (t:Tk):Inf.Ev:=if t.l=0 then ⟨t.b.toNat,0,0,0⟩ else ⟨257+plc Inf.lensL t.l.toNat,plc Inf.zak t.d.toNat,t.l.toNat,t.d.toNat⟩
theorem zlv {L:List UInt8} {most len gen:Nat} {f g:Nat->Int} (hcf:zan f len) (hcg:zan g gen) (hE:256<len/\1<=f 256/\f 256<=15) {o o':List UInt8} {ts:List Tk} (hM:Means o ts o'):
  ∀(F a:Nat) (tr:List Inf.Ev),o'.length<=most->(∀t∈ts,Uses f len g gen t)->ts.length<F->At L a (toksB f len g gen ts++wordB f len 256)->
   Inf.toks L most f len g gen F a o tr=.ok (a+(toksB f len g gen ts++wordB f len 256).length,o',tr++(ts.map ev ++ [⟨256,0,0,0⟩])):=by
 induction hM with
 | nil o=>
  intro F a tr _ _ hF hA;obtain⟨F,rfl⟩:∃F',F=F'+1:=⟨F-1,by simp at hF;omega⟩;simp only[toksB,qa9,List.flatten_nil,qbx] at hA⊢;simp only[Inf.toks,hA.nxt hcf hE.1 hE.2.1 hE.2.2,if_true]
 | @lit o o' t ts h1 h2 h ih=>
  intro F a tr hm hu hF hA;obtain⟨F,rfl⟩:∃F',F=F'+1:=⟨F-1,by simp at hF;omega⟩;have e:toksB f len g gen (t ::ts)=wordB f len t.b.toNat++toksB f len g gen ts:=by simp[toksB,tokB,h1]
  rw[e,qat] at hA⊢;have hb:t.b.toNat<256:=t.b.toNat_lt;obtain⟨u1,u2,u3⟩:=(hu t (qbc ..)).1 h1;have hg:=h.grow;rw[qaa,qby] at hg;have hn:=hA.left.nxt hcf u1 u2 u3;have ht:Inf.tok L most g gen t.b.toNat (a+(wordB f len t.b.toNat).length) o=.ok (a+(wordB f len t.b.toNat).length,o ++ [t.b],⟨t.b.toNat,0,0,0⟩):=by
   unfold Inf.tok;rw[qad hb,qad (by omega),UInt8.ofNat_toNat]
  simp only[Inf.toks,hn,qac (show ¬ t.b.toNat=256 by omega),ht];rw[ih F (a+(wordB f len t.b.toNat).length) (tr ++ [(⟨t.b.toNat,0,0,0⟩:Inf.Ev)]) hm (λ x hx=>hu x (qaQ _ hx)) (by simp at hF;omega) hA.right];congr 2
  ·simp only[qaa];omega
  congr 1
  simp[ev,h1]
 | @mat o o' t ts h0 h1 h2 h3 h4 h5 h ih=>
  intro F a tr hm hu hF hA;obtain⟨F,rfl⟩:∃F',F=F'+1:=⟨F-1,by simp at hF;omega⟩;have hl0:t.l≠0:=by omega
  obtain⟨p1,p2,p3⟩:=zdS (v:=t.l.toNat) (by omega) (by omega);obtain⟨d1,d2,d3⟩:=zcX (v:=t.d.toNat) (by omega) (by omega);obtain⟨⟨u1,u2,u3⟩,v1,v2,v3⟩:=(hu t (qbc ..)).2 hl0;have e:toksB f len g gen (t ::ts)=tokB f len g gen t++toksB f len g gen ts:=by simp[toksB]
  have e2:ev t=⟨257+plc Inf.lensL t.l.toNat,plc Inf.zak t.d.toNat,t.l.toNat,t.d.toNat⟩:=by unfold ev;rw[qac hl0]
  unfold tokB at e;rw[qac hl0] at e;rw[e] at hA⊢;rw[qaG,e2];have hg:=h.grow;rw[za1] at hg;generalize hk:plc Inf.lensL t.l.toNat=k at *;generalize hd:plc Inf.zak t.d.toNat=d at *;simp only[qat] at hA⊢;have a1:=hA.left.nxt hcf u1 u2 u3;have A2:=hA.right;have a2:=A2.left.get p3;have A3:=A2.right;have a3:=A3.left.nxt hcg v1 v2 v3;have A4:=A3.right;have a4:=A4.left.get d3;have A5:=A4.right;rw[Bts.zat] at A3 a3 A4 a4 A5;rw[Bts.zat] at A5;have ht:Inf.tok L most g gen (257+k) (a+(wordB f len (257+k)).length) o=.ok (a+(wordB f len (257+k)).length+Inf.lensB.getD k 0+(wordB g gen d).length+Inf.zaQ.getD d 0,copyL o t.d.toNat t.l.toNat,⟨257+k,d,t.l.toNat,t.d.toNat⟩):=by
   unfold Inf.tok;rw[qac (by omega),qac (by omega),show 257+k-257=k by omega,a2];simp only[];rw[a3];simp only[];unfold Inf.far;rw[qac (by omega),a4];simp only[];rw[show 257+k-257=k by omega,show Inf.zak.getD d 0+(t.d.toNat-Inf.zak.getD d 0)=t.d.toNat by omega,show Inf.lensL.getD k 0+(t.l.toNat-Inf.lensL.getD k 0)=t.l.toNat by omega,qac (by omega),qac (by omega)]
  simp only[Inf.toks,a1,qac (show ¬ 257+k=256 by omega),ht];rw[ih F _ (tr ++ [(⟨257+k,d,t.l.toNat,t.d.toNat⟩:Inf.Ev)]) hm (λ x hx=>hu x (qaQ _ hx)) (by simp at hF;omega) A5];congr 2
  ·simp only[qaa,Bts.zat];omega
  congr 1
  simp
end Dfl
theorem WAt.drew {w:World} {B o V n:Nat} {v:Value} (h:WAt w B o v V n):WAt w.drew B o v V n:=⟨h.c0,h.c1,h.f0,h.f1,h.row,h.apart,h.lt⟩
theorem WStep.undrew {w w':World} {B o:Nat} {v v':Value} (h:WStep w.drew w' B o v v'):WStep w w' B o v v':=⟨⟨h.keeps.os,h.keeps.tape,h.keeps.output,h.keeps.size,h.keeps.block⟩,h.cells,h.marks,h.new⟩
theorem WAt.ext {w w':World} {B o V n:Nat} {v:Value} (h:WAt w B o v V n) (hE:Ext w w'):WAt w' B o v V n:=by
 have hb:=qab w _ h.c0;obtain⟨l,q1,q2,q3⟩:=h.row;exact⟨(hE.cell (p:=⟨B,o,none⟩) hb).trans h.c0,(hE.cell (p:=⟨B,o+1,none⟩) hb).trans h.c1,(hE.frozen (p:=⟨B,o,none⟩) hb).trans h.f0,(hE.frozen (p:=⟨B,o+1,none⟩) hb).trans h.f1,⟨l,q1,q2,zaa q3 hE.keeps (λ _ _=>id)⟩,h.apart,h.lt⟩
theorem WStep.ext {a b c:World} {B o:Nat} {u v:Value} (h:WStep a b B o u v) (hE:Ext b c) (hB:B<b.heap.size):WStep a c B o u v:=
 ⟨h.keeps.trans hE.keeps (S':=λ _=>False) (λ _ _ q=>q.elim),λ j h1 h2=>(hE.cell (p:=⟨B,j,none⟩) hB).trans (h.cells j h1 h2),λ j=>(hE.frozen (p:=⟨B,j,none⟩) hB).trans (h.marks j),h.new⟩
theorem zc6 (a:Addr) (n cap v:Nat) (l:List Nat) (w:World) (hl:l.length=n) (hn:1<=n) (hn2:n<=1000) (hc:∀k,k<n->w.cell? (a.add k)=some (.int .i64 ((l.getD k 0:Nat):Int))) (h0:l.getD 0 0<=v) (hv:v<1000000000):
  Calls Tryz.prog 150 #[.slice (some a) n cap,.int .i64 (v:Int)] w λ e w'=>e=.returned (.int .i64 ((Dfl.plc l v:Nat):Int))/\w=w':=by
 have HC:=Hd hc;have e1:(n:Int)-1=((n-1:Nat):Int):=by omega
 obtain⟨m,hm⟩:=nmE (n-1);rw[hm] at e1;have wm:∀z,z=(m:Int)->IntKind.i64.wrap z=z:=by intro z hz;rw[qal];omega
 have HP:Hid (Dfl.plc l v=Dfl.plcF l v m):=Hd (by unfold Dfl.plc;rw[hl,hm]);have H0:=Hd h0;have hmn:m<n:=by omega
 clear hc hm h0 hl;go_enter Tryz.func150,Tryz.ntmps150
 go_wp2_with fail;go_loopw [5] (λ c wr=>∃k:Nat,c=.int .i64 k/\k<=m/\Hid (Dfl.plc l v=Dfl.plcF l v k)/\wr=w) (λ c _=>(intOf c).toNat)
 case atStart=>exact⟨m,rfl,by omega,HP,by first | rfl | trivial⟩
 case round=>
  clear HP;obtain⟨k,rfl,hk,HP,hw⟩:=hrel;have hw2:=hw.symm;clear hw;subst hw2;have hkn:k<n:=by omega
  have hc:=HC.out k hkn;obtain⟨x,hx⟩:=nmE (l.getD k 0);have HX:=Hd hx;rw[hx] at hc;clear hx;by_cases hvx:v<x
  ·have t:=dT (p:=(v:Int)<(x:Int));have hk0:0<k:=by
    rcases Nat.eq_zero_or_pos k with q | q
    ·have h1:=HX.out;have h2:=H0.out;rw[q] at h1;omega
    exact q
   obtain⟨k',hk'⟩:∃k',k-1=k':=⟨_,rfl⟩;have e2:(k:Int)-1=(k':Int):=by omega
   have wk:∀z,z=(k':Int)->IntKind.i64.wrap z=z:=by intro z hz;rw[qal];omega
   have HN:Hid (Dfl.plc l v=Dfl.plcF l v k'):=Hd (by
    rw[HP.out];obtain⟨q,rfl⟩:∃q,k=q+1:=⟨k-1,by omega⟩;have:k'=q:=by omega
    subst this;simp only[Dfl.plcF];rw[qac (by rw[HX.out];omega)])
   have HK:=Hd hk';clear hk';go_wp2_with fail;refine⟨⟨k',rfl,by have:=HK.out;omega,HN,by first | rfl | trivial⟩,by have:=HK.out;simp[intOf];omega⟩
  have t:=dF (p:=(v:Int)<(x:Int));have HR:Hid (Dfl.plc l v=k):=Hd (by
   rw[HP.out];cases k with
   | zero=>rfl
   | succ q=>
    simp only[Dfl.plcF];rw[qad (by rw[HX.out];omega)])
  go_wp2_with fail;go_ret;exact⟨by rw[HR.out];rfl,by first | rfl | trivial⟩
structure DF (w:World) (D Wb:Nat) (la da ca ea:Addr) (ln lc dn dc cc ec:Nat) (f g:Nat->Int):Prop where
 c0:w.cell? ⟨D,0,none⟩=some (.pointer (some ⟨Wb,0,none⟩))
 c1:w.cell? ⟨D,1,none⟩=some (.slice (some la) ln lc)
 c2:w.cell? ⟨D,2,none⟩=some (.slice (some da) dn dc)
 c3:w.cell? ⟨D,3,none⟩=some (.slice (some ca) ln cc)
 c4:w.cell? ⟨D,4,none⟩=some (.slice (some ea) dn ec)
 li:Ints w (some la) ln f
 di:Ints w (some da) dn g
 lw:U32s w (some ca) ln (word f ln)
 dw:U32s w (some ea) dn (word g dn)
theorem DF.drew {w:World} {D Wb:Nat} {la da ca ea:Addr} {ln lc dn dc cc ec:Nat} {f g:Nat->Int} (h:DF w D Wb la da ca ea ln lc dn dc cc ec f g):DF w.drew D Wb la da ca ea ln lc dn dc cc ec f g:=⟨h.c0,h.c1,h.c2,h.c3,h.c4,h.li,h.di,h.lw,h.dw⟩
def WB (w:World) (Wb:Nat) (u:Value) (L:List Bool):Prop:=WAt w Wb 0 u (Bts.val L) L.length
theorem WB.ext {w w':World} {Wb:Nat} {u:Value} {L:List Bool} (h:WB w Wb u L) (hE:Ext w w'):WB w' Wb u L:=WAt.ext h hE
theorem WB.drew {w:World} {Wb:Nat} {u:Value} {L:List Bool} (h:WB w Wb u L):WB w.drew Wb u L:=WAt.drew h
theorem zbu (Wb x k:Nat) (u:Value) (L:List Bool) (w:World) (hW:WB w Wb u L) (hk:k<=32) (hx:x<2^k) (hn:L.length+32<1099511627776):
  Calls Tryz.prog 120 #[.pointer (some ⟨Wb,0,none⟩),.int .u32 (x:Int),.int .i64 (k:Int)] w λ e w'=>e=.returned .nilIface/\∃u',WB w' Wb u' (L++Bts.low x k)/\WStep w w' Wb 0 u u':=
 (zcM Wb 0 L.length (Bts.val L) x k u w hW hk hx hn).mono λ e w' ⟨h1,u',h2,h3⟩=>⟨h1,u',by unfold WB;rw[qaa,Bts.zat,Bts.zbj,Bts.zgg,qaF hx];exact h2,h3⟩
theorem zde (Wb x k:Nat) (u:Value) (L:List Bool) (w:World) (hW:WB w Wb u L) (hk:k<=32) (hx:x<2^k) (hn:L.length+32<1099511627776):
  Calls Tryz.prog 130 #[.pointer (some ⟨Wb,0,none⟩),.int .u32 (x:Int),.int .i64 (k:Int)] w λ e w'=>e=.returned .nilIface/\∃u',WB w' Wb u' (L++Bts.high x k)/\WStep w w' Wb 0 u u':=
 (zlV Wb 0 L.length (Bts.val L) x k u w hW hk hx hn).mono λ e w' ⟨h1,u',h2,h3⟩=>⟨h1,u',by unfold WB;rw[qaa,Bts.zaD,Bts.zbj];exact h2,h3⟩
theorem zee {f:Nat->Int} {len k m:Nat} (hc:zan f len) (hk:k<len) (hf:f k=(m:Int)) (hm:m<=15):word f len k<2^m:=by
 rcases Nat.eq_zero_or_pos m with q | q
 ·subst q;unfold word;rw[qac (by omega)];exact Nat.one_pos
 exact (zcb f len k m hc hk hf q hm).2
theorem zdU (D Wb:Nat) (la da ca ea:Addr) (ln lc dn dc cc ec:Nat) (f g:Nat->Int) (k:Nat) (u:Value) (L:List Bool) (w:World) (hD:DF w D Wb la da ca ea ln lc dn dc cc ec f g) (hW:WB w Wb u L) (hc:zan f ln) (hk:k<ln) (hf:0<=f k/\f k<=15) (hn:L.length+32<1099511627776):
  Calls Tryz.prog 149 #[.pointer (some ⟨D,0,none⟩),.int .i64 (k:Int)] w λ e w'=>e=.returned (.tuple #[])/\∃u',WB w' Wb u' (L++Dfl.wordB f ln k)/\WStep w w' Wb 0 u u':=by
 obtain⟨m,hm⟩:∃m:Nat,f k=(m:Int):=⟨(f k).toNat,by omega⟩;have hw:=zee hc hk hm (by omega);have k0:=hD.c0;have k1:=hD.c1;have k3:=hD.c3;have k5:=(hD.li.2 la rfl k hk).1;have k6:=hD.lw.2 ca rfl k hk;rw[hm] at k5;have HB:Hid (Dfl.wordB f ln k=Bts.high (word f ln k) m):=Hd (by unfold Dfl.wordB;rw[hm];rfl);obtain⟨z,hz⟩:=nmE (word f ln k);rw[hz] at k6 hw HB;have HT:=Hd (zde Wb z m u L w.drew hW.drew (by omega) hw hn);have kl:(k:Int)<(ln:Int):=by omega
 clear hD hW hc hm hw hz hf;go_enter Tryz.func149,Tryz.ntmps149
 go_wp2_with fail;refine qaD 18 (by kernel_rfl) (by kernel_rfl) ?_;simp only[qao,qaH,qaw,qaS];repeat still_step
 refine qbB ?_;change wpList _ _ _ _ _ w.drew;go_wp2_with fail;refine HT.out.mono ?_;rintro e w' ⟨rfl,u',h1,h2⟩;go_wp2_with fail;go_end0;exact⟨rfl,u',by rw[HB.out];exact h1,h2.undrew⟩
theorem Ycp0 {p:Prop} (h:p:=by
 unfold Dfl.bump;by_cases e:j=k
 ·subst e;rw[qad rfl,qad rfl,hc]
 rw[qac e,qac e]):p:=h
namespace Dfl
def symO (t:Tk):Nat:=if t.l=0 then t.b.toNat else 257+plc Inf.lensL t.l.toNat
def cntS (ts:List Tk) (k:Nat):Nat:=(if k=256 then 1 else 0)+ts.countP (λ t=>symO t=k)
def cntD (ts:List Tk) (d:Nat):Nat:=ts.countP (λ t=>t.l≠0/\plc Inf.zak t.d.toNat=d)
def bump (s:Nat->Nat) (k:Nat):Nat->Nat:=λ j=>if j=k then s j+1 else s j
theorem zgP (ts:List Tk) (t:Tk) (k:Nat) (hk:symO t=k):cntS (ts ++ [t])=bump (cntS ts) k:=by
 funext j
 simp only[cntS,bump,qcu,List.countP_singleton,hk];by_cases h:j=k
 ·have q:(if decide (k=j)=true then 1 else 0)=1:=qad (qae h.symm);rw[qad h,q];omega
 have q:(if decide (k=j)=true then 1 else 0)=0:=qac (by simpa using λ e=>h (Eq.symm e));rw[qac h,q];omega
theorem zn0 (ts:List Tk) (t:Tk) (h:t.l=0):cntD (ts ++ [t])=cntD ts:=by
 funext j
 simp only[cntD,qcu,List.countP_singleton];rw[qac (by simp[h])];omega
theorem zly (ts:List Tk) (t:Tk) (d:Nat) (h:t.l≠0) (hd:plc Inf.zak t.d.toNat=d):cntD (ts ++ [t])=bump (cntD ts) d:=by
 funext j
 simp only[cntD,bump,qcu,List.countP_singleton,hd];by_cases e:j=d
 ·rw[qad e,qad (by simp[h,e])]
 rw[qac e,qac (by simpa [h] using λ q=>e (Eq.symm q))];omega
theorem zjF (ts:List Tk) (k:Nat):cntS ts k<=1+ts.length:=by
 unfold cntS;have:=List.countP_le_length (p:=λ t=>decide (symO t=k)) (l:=ts);split <;> omega
theorem zjL (ts:List Tk) (d:Nat):cntD ts d<=ts.length:=List.countP_le_length
end Dfl
structure CG (w wr:World) (g1 g2:Nat) (s d:Nat->Nat):Prop where
 ext:Ext w wr
 o1:w.heap.size<=g1
 o2:w.heap.size<=g2
 ne:g1≠g2
 c1:Cs wr g1 286 .i64 (λ k=>((s k:Nat):Int))
 c2:Cs wr g2 30 .i64 (λ k=>((d k:Nat):Int))
theorem CG.l1 {w wr:World} {g1 g2:Nat} {s d:Nat->Nat} (h:CG w wr g1 g2 s d):g1<wr.heap.size:=qab wr _ (h.c1 0 (by decide)).1
theorem CG.l2 {w wr:World} {g1 g2:Nat} {s d:Nat->Nat} (h:CG w wr g1 g2 s d):g2<wr.heap.size:=qab wr _ (h.c2 0 (by decide)).1
theorem CG.grow {w wr w':World} {g1 g2:Nat} {s d:Nat->Nat} (h:CG w wr g1 g2 s d) (hE:Ext wr w'):CG w w' g1 g2 s d:=by
 refine⟨h.ext.trans hE,h.o1,h.o2,h.ne,λ i hi=>?_,λ i hi=>?_⟩
 ·exact⟨(hE.cell (p:=⟨g1,i,none⟩) h.l1).trans (h.c1 i hi).1,(hE.frozen (p:=⟨g1,i,none⟩) h.l1).trans (h.c1 i hi).2⟩
 exact⟨(hE.cell (p:=⟨g2,i,none⟩) h.l2).trans (h.c2 i hi).1,(hE.frozen (p:=⟨g2,i,none⟩) h.l2).trans (h.c2 i hi).2⟩
theorem CG.drew {w wr:World} {g1 g2:Nat} {s d:Nat->Nat} (h:CG w wr g1 g2 s d):CG w wr.drew g1 g2 s d:=⟨qag h.ext,h.o1,h.o2,h.ne,h.c1.drew,h.c2.drew⟩
theorem CG.put1 {w wr:World} {g1 g2:Nat} {s d:Nat->Nat} (h:CG w wr g1 g2 s d) (k:Nat) (hk:k<286) (c:Nat) (hc:s k=c):CG w (wr.setCell ⟨g1,k,none⟩ (.int .i64 ((c+1:Nat):Int))) g1 g2 (Dfl.bump s k) d:=by
 refine⟨qaL h.ext h.o1 _,h.o1,h.o2,h.ne,h.c1.put k _ _ hk (λ j _=>?_),h.c2.other _ _ h.ne⟩;exact Ycp0
theorem CG.put2 {w wr:World} {g1 g2:Nat} {s d:Nat->Nat} (h:CG w wr g1 g2 s d) (k:Nat) (hk:k<30) (c:Nat) (hc:d k=c):CG w (wr.setCell ⟨g2,k,none⟩ (.int .i64 ((c+1:Nat):Int))) g1 g2 s (Dfl.bump d k):=by
 refine⟨qaL h.ext h.o2 _,h.o1,h.o2,h.ne,h.c1.other _ _ (λ e=>h.ne e.symm),h.c2.put k _ _ hk (λ j _=>?_)⟩;exact Ycp0
theorem Ycq0 {p:Prop} (h:p:=by
 refine dnT ?_;go_wp2_with fail;go_meet
 exact⟨S1b,S2b,rfl,rfl,Hd ⟨X_2.out,LS1.out,LS2.out,NE.out,S1_2.out,S2_2.out⟩⟩):p:=h
def CsZ (w:World) (b n:Nat):Prop:=Cs w b n .i64 (λ _=>0)
theorem CsZ.ext {w w':World} {b n:Nat} (h:CsZ w b n) (hE:Ext w w'):CsZ w' b n:=λ i hi=>by
 have hb:=qab w _ (h i hi).1;exact⟨(hE.cell (p:=⟨b,i,none⟩) hb).trans (h i hi).1,(hE.frozen (p:=⟨b,i,none⟩) hb).trans (h i hi).2⟩
def zo3 (w:World) (ts:List Tk) (e:Ending) (w':World):Prop:=∃g1 g2,e=.returned (.tuple #[.slice (some ⟨g1,0,none⟩) 286 286,.slice (some ⟨g2,0,none⟩) 30 30])/\CG w w' g1 g2 (Dfl.cntS ts) (Dfl.cntD ts)
set_option maxHeartbeats 8000000 in
theorem zkj (x:Option Addr) (n cap:Nat) (tk:Nat->Tk) (w:World) (hT:Toks w x n tk) (hTb:Tabs w) (hn:n<=310000)
  (hok:∀i,i<n->(tk i).l=0\/(3<=(tk i).l/\(tk i).l<=258/\1<=(tk i).d/\(tk i).d<=32768)):
  Calls Tryz.prog 127 #[.slice x n cap] w λ e w'=>zo3 w ((List.range n).map tk) e w':=by
 have HT:=Hd hT;have HTb:=Hd hTb;have HOK:=Hd hok;clear hT hTb hok;have hmk1:=λ w=>qbR (P:=Tryz.prog) 88 3 (.int .i64 0) 8 Tryz.underlying88 zaX rfl .i64 .i64 286 (by omega) (by omega) w;have hmk2:=λ w=>qbR (P:=Tryz.prog) 88 3 (.int .i64 0) 8 Tryz.underlying88 zaX rfl .i64 .i64 30 (by omega) (by omega) w;simp only[show ((286:Nat):Int)=286 from rfl,show ((30:Nat):Int)=30 from rfl] at hmk1 hmk2;go_enter Tryz.func127,Tryz.ntmps127
 go_upto_region 1 with fail;go_cut [2,3] (λ a b wx=>∃g1 g2,a=.slice (some ⟨g1,0,none⟩) 286 286/\b=.slice (some ⟨g2,0,none⟩) 30 30/\Hid (CG w wx g1 g2 (λ _=>0) (λ _=>0)))
 case first=>
  have X_0:=Hd (Ext.refl w);refine rgT ?_;refine rdT2 0 1 (λ KK hK=>?_) λ KK hK=>?_
  ·go_simp;refine oT hK ?_;clear hK KK;refine zab (λ wz=>Ext w wz/\Cs wz w.heap.size 286 .i64 (λ _=>0)) (by first | exact⟨qag ((Ext.refl _).alloc _),by rw[zaY];exact (Cs.born _ _ _ _ _).drew⟩ | exact⟨(Ext.refl _).alloc _,by rw[zaY];exact Cs.born _ _ _ _ _⟩) ?_;rintro v1 ⟨hE,hB⟩;obtain⟨S1b,hb⟩:=nmE (w.heap.size);rw[hb] at hB;(try rw[hb]);have LS1:=Hd (show w.heap.size<=S1b from hb▸X_0.out.size);have HS1:=Hd hb;have X_1:=Hd (X_0.out.trans hE);clear hE hb X_0;have S1_1:=Hd ((show CsZ _ _ _ from hB));clear hB;refine tkH 2 ?_;refine rdT 1 λ KK hK=>?_;have LO:=Hd (qab v1 _ (S1_1.out 0 (by decide)).1);have LC:=Hd (show S1b<v1.heap.size from LO.out);go_simp;refine oT hK ?_;clear hK KK;refine zab (λ wz=>Ext v1 wz/\Cs wz v1.heap.size 30 .i64 (λ _=>0)) (by first | exact⟨qag ((Ext.refl _).alloc _),by rw[zaY];exact (Cs.born _ _ _ _ _).drew⟩ | exact⟨(Ext.refl _).alloc _,by rw[zaY];exact Cs.born _ _ _ _ _⟩) ?_;rintro v2 ⟨hE,hB⟩;obtain⟨S2b,hb⟩:=nmE (v1.heap.size);rw[hb] at hB;(try rw[hb]);have LS2:=Hd (show w.heap.size<=S2b from hb▸X_1.out.size);have HS2:=Hd hb;have X_2:=Hd (X_1.out.trans hE);have S1_2:=Hd (S1_1.out.ext hE);clear hE hb X_1 S1_1;have S2_2:=Hd ((show CsZ _ _ _ from hB));clear hB;have NE:=Hd (show S1b≠S2b from λ e=>by have h1:=LC.out;have h2:=HS2.out;omega);refine tkH 3 ?_;exact Ycq0
  go_simp;refine oT hK ?_;clear hK KK;refine zab (λ wz=>Ext w wz/\Cs wz w.heap.size 30 .i64 (λ _=>0)) (by first | exact⟨qag ((Ext.refl _).alloc _),by rw[zaY];exact (Cs.born _ _ _ _ _).drew⟩ | exact⟨(Ext.refl _).alloc _,by rw[zaY];exact Cs.born _ _ _ _ _⟩) ?_;rintro v1 ⟨hE,hB⟩;obtain⟨S2b,hb⟩:=nmE (w.heap.size);rw[hb] at hB;(try rw[hb]);have LS2:=Hd (show w.heap.size<=S2b from hb▸X_0.out.size);have HS2:=Hd hb;have X_1:=Hd (X_0.out.trans hE);clear hE hb X_0;have S2_1:=Hd ((show CsZ _ _ _ from hB));clear hB;refine rdT 0 λ KK hK=>?_;have LO:=Hd (qab v1 _ (S2_1.out 0 (by decide)).1);have LC:=Hd (show S2b<v1.heap.size from LO.out);go_simp;refine oT hK ?_;clear hK KK;refine zab (λ wz=>Ext v1 wz/\Cs wz v1.heap.size 286 .i64 (λ _=>0)) (by first | exact⟨qag ((Ext.refl _).alloc _),by rw[zaY];exact (Cs.born _ _ _ _ _).drew⟩ | exact⟨(Ext.refl _).alloc _,by rw[zaY];exact Cs.born _ _ _ _ _⟩) ?_;rintro v2 ⟨hE,hB⟩;obtain⟨S1b,hb⟩:=nmE (v1.heap.size);rw[hb] at hB;(try rw[hb]);have LS1:=Hd (show w.heap.size<=S1b from hb▸X_1.out.size);have HS1:=Hd hb;have X_2:=Hd (X_1.out.trans hE);have S2_2:=Hd (S2_1.out.ext hE);clear hE hb X_1 S2_1;have S1_2:=Hd ((show CsZ _ _ _ from hB));clear hB;have NE:=Hd (show S1b≠S2b from λ e=>by have h1:=LC.out;have h2:=HS1.out;omega);refine tk2 2 3 ?_;exact Ycq0
 clear hmk1 hmk2;obtain⟨g1,g2,rfl,rfl,HC⟩:=hcut;have k0:=(HC.out.c1 256 (by decide)).1;have k1:=(HC.out.c1 256 (by decide)).2;go_wp2_with fail;have HC2:Hid (CG w (wc.setCell ⟨g1,256,none⟩ (.int .i64 1)) g1 g2 (Dfl.cntS []) (Dfl.cntD [])):=Hd (by
  have h:=HC.out.put1 256 (by decide) 0 rfl;have e1:Dfl.cntS []=Dfl.bump (λ _=>0) 256:=by funext j;simp[Dfl.cntS,Dfl.bump]
  have e2:Dfl.cntD []=λ _=>0:=by funext j;simp[Dfl.cntD]
  rw[e1,e2];exact h)
 clear k0 k1 HC;go_loopw [12] (λ c wr=>∃i:Nat,c=.int .i64 (i:Int)/\i<=n/\Hid (CG w wr g1 g2 (Dfl.cntS ((List.range i).map tk)) (Dfl.cntD ((List.range i).map tk)))) (λ c _=>n-(intOf c).toNat)
 case atStart=>exact⟨0,rfl,by omega,HC2⟩
 case round=>
  clear HC2;obtain⟨i,rfl,hi,HC⟩:=hrel;by_cases hlt:i<n
  ·have hbase:=HT.out.ext HC.out.ext;obtain⟨a,rfl⟩:=hbase.isSome hlt;obtain⟨k0,k1,k2,hok2⟩:=hbase.2 a rfl i hlt;obtain⟨t,ht⟩:=nmE (tk i);rw[ht] at k0 k1 k2;have HTK:=Hd ht;have HOK2:=Hd (HOK.out i hlt);rw[ht] at HOK2;clear ht hok2 hbase;obtain⟨b,hb⟩:=nmE (t.b.toNat);have hb256:b<256:=by rw[<- hb];exact qcj _
   rw[hb] at k0;have HB:=Hd hb;clear hb;have wi:IntKind.i64.wrap ((i:Int)+1)=((i+1:Nat):Int):=by rw[qal];omega
   have t0:=dT (p:=(i:Int)<(n:Int));obtain⟨vl,hvl⟩:∃n:Nat,t.l=(n:Int):=⟨t.l.toNat,by have:=HOK2.out;omega⟩;obtain⟨dd,hdd⟩:∃d:Int,t.d=d:=⟨_,rfl⟩;rw[hvl] at k1;rw[hdd] at k2;have HVL:=Hd hvl;have HDD:=Hd hdd;clear hdd;have HCL:=Hd (show ∀k,Dfl.cntS ((List.range i).map tk) k<=1+i from λ k=>by have:=Dfl.zjF ((List.range i).map tk) k;simpa using this);have HDL:=Hd (show ∀k,Dfl.cntD ((List.range i).map tk) k<=i from λ k=>by have:=Dfl.zjL ((List.range i).map tk) k;simpa using this);have HRS:=Hd (show (List.range (i+1)).map tk=(List.range i).map tk ++ [t] by rw[qbC,qbs,<- HTK.out];rfl);obtain⟨ts,hts⟩:=nmE ((List.range i).map tk);rw[hts] at HC HCL HDL HRS;clear hts;by_cases hl0:vl=0
   ·subst hl0;go_upto_region 6 with fail;refine zac (λ wz=>CG w wz g1 g2 (Dfl.cntS ts) (Dfl.cntD ts)/\Bk wz wr.heap.size #[.int .u8 (b:Int),.int .i64 ((0:Nat):Int),.int .i64 dd]) ⟨HC.out.grow ((Ext.refl _).alloc _),Bk.at rfl⟩ ?_;rintro w3 ⟨h3,h4⟩;obtain⟨T,hT⟩:=nmE (wr.heap.size);rw[hT] at h4;rw[hT];have H3:=Hd h3;have H4:=Hd h4;clear HC k0 k1 k2 h3 h4 hT;obtain⟨c,hc⟩:=nmE (Dfl.cntS ts b);have hcl:c<=1+i:=by rw[<- hc];exact HCL.out b
    have kc:w3.cell? ⟨g1,b,none⟩=some (.int .i64 (c:Int)):=by rw[<- hc];exact (H3.out.c1 b (by omega)).1
    have kf:=(H3.out.c1 b (by omega)).2;have HCe:=Hd hc;clear hc;have wc1:IntKind.i64.wrap ((c:Int)+1)=((c+1:Nat):Int):=by rw[qal];omega
    have hbi:(b:Int)<286:=by omega
    have hbj:(0:Int)<=(b:Int):=by omega
    have b0:=H4.out.cell 0;have b1:=H4.out.cell 1;simp only[qaz,qaC,qay] at b0 b1;have HN:=Hd (H3.out.put1 b (by omega) c HCe.out);have HS:=Hd (show Dfl.symO t=b by unfold Dfl.symO;rw[qad (by rw[HVL.out];rfl)];exact HB.out);go_wp2_with fail;refine⟨⟨i+1,by simp,by omega,by rw[HRS.out,Dfl.zgP ts t b HS.out,Dfl.zn0 ts t (by rw[HVL.out];rfl)];exact HN⟩,by simp[intOf];omega⟩
   have hm2:3<=vl/\vl<=258/\1<=dd/\dd<=32768:=by have:=HOK2.out;have:=HVL.out;have:=HDD.out;omega
   obtain⟨vd,hvd⟩:∃n:Nat,dd=(n:Int):=⟨dd.toNat,by omega⟩;subst hvd;have HT0:Hid (t.l≠0):=Hd (by rw[HVL.out];omega);obtain⟨p1,_,_⟩:=Dfl.zdS (v:=vl) (by omega) (by omega);obtain⟨d1,_,_⟩:=Dfl.zcX (v:=vd) (by omega) (by omega);have hv0Lens:3<=vl:=by omega
   have hv0Dists:1<=vd:=by omega
   have hvlb:vl<=258:=by omega
   have hvdb:vd<=32768:=by omega
   clear hm2;obtain⟨k,hk⟩:=nmE (Dfl.plc Inf.lensL vl);obtain⟨d,hd⟩:=nmE (Dfl.plc Inf.zak vd);rw[hk] at p1;rw[hd] at d1;have HK:=Hd hk;have HD:=Hd hd;clear hk hd;have hd30i:(d:Int)<30:=by omega
   have hd0i:(0:Int)<=(d:Int):=by omega
   obtain⟨sk,hsk⟩:=nmE (257+k);have ek:(257:Int)+(k:Int)=(sk:Int):=by omega
   have HSK:=Hd hsk;have hsk2:sk<286:=by omega
   have hski:(sk:Int)<286:=by omega
   have hskj:(0:Int)<=(sk:Int):=by omega
   have wk:IntKind.i64.wrap (sk:Int)=(sk:Int):=by rw[qal];omega
   have t1:((vl:Int) ==0)=false:=qak.2 (by omega);clear hsk hl0;have HS:=Hd (show Dfl.symO t=sk by unfold Dfl.symO;rw[qac HT0.out,HVL.out,qbm,HK.out,HSK.out]);have HDs:=Hd (show Dfl.plc Inf.zak t.d.toNat=d by rw[HDD.out,qbm,HD.out]);go_upto_region 6 with fail;refine zac (λ wz=>CG w wz g1 g2 (Dfl.cntS ts) (Dfl.cntD ts)/\Bk wz wr.heap.size #[.int .u8 (b:Int),.int .i64 (vl:Int),.int .i64 (vd:Int)]) ⟨HC.out.grow ((Ext.refl _).alloc _),Bk.at rfl⟩ ?_;rintro w3 ⟨h3,h4⟩;obtain⟨T,hT⟩:=nmE (wr.heap.size);have HTT:=Hd hT;rw[hT] at h4;rw[hT];have H3:=Hd h3;have H4:=Hd h4;have HTg:=Hd (show g1<T from by have:=HC.out.l1;have:=HTT.out;omega);have HTb3:=Hd (HTb.out.ext H3.out.ext);clear HC k0 k1 k2 h3 h4 hT;obtain⟨c,hc⟩:=nmE (Dfl.cntS ts sk);have hcl:c<=1+i:=by rw[<- hc];exact HCL.out sk
   have kc:w3.cell? ⟨g1,sk,none⟩=some (.int .i64 (c:Int)):=by rw[<- hc];exact (H3.out.c1 sk (by omega)).1
   have kf:=(H3.out.c1 sk (by omega)).2;have HCe:=Hd hc;clear hc;have wc1:IntKind.i64.wrap ((c:Int)+1)=((c+1:Nat):Int):=by rw[qal];omega
   have b1:=H4.out.cell 1;simp only[qaz,qaC,qay] at b1;go_wp2_with fail;have hp:=zbR (zc6 ⟨11,0,none⟩ 29 29 vl Inf.lensL w3.drew rfl (by decide) (by decide) (λ k hk=>by rw[zae];exact HTb3.out.lens k hk) (qam (by decide:Inf.lensL.getD 0 0<=3) hv0Lens) (by omega));rw[HK.out] at hp;have HP:=Hd hp;clear hp;refine zbB 9 (by kernel_rfl) (by kernel_rfl) ?_;simp only[qao,qaH,qaw,qaS];refine qY ?_;refine qY ?_;refine qY ?_;refine qY ?_;refine zau (by kernel_rfl) λ K hK=>?_;go_simp;refine⟨_,HP.out,hK _ ?_⟩;clear hK K;refine qY ?_;refine qY ?_;refine qY ?_;refine qY ?_;refine zaf ?_;clear HP;have HN:=Hd (H3.out.drew.put1 sk (by omega) c HCe.out);change wpList _ _ _ _ _ w3.drew;go_wp2_with fail;refine zac (λ wz=>CG w wz g1 g2 (Dfl.bump (Dfl.cntS ts) sk) (Dfl.cntD ts)/\Bk wz T #[.int .u8 (b:Int),.int .i64 (vl:Int),.int .i64 (vd:Int)]) ⟨HN.out,H4.out.drew.far (p:=⟨g1,sk,none⟩) (by have:=HTg.out;show T≠g1;omega) _⟩ ?_;rintro w4 ⟨h3,h4⟩;clear H3 H4 HN kc kf b1 HTb3;have H3:=Hd h3;have H4:=Hd h4;have HTb4:=Hd (HTb.out.ext H3.out.ext);clear h3 h4;obtain⟨c2,hc⟩:=nmE (Dfl.cntD ts d);have hcl2:c2<=i:=by rw[<- hc];exact HDL.out d
   have kc:w4.cell? ⟨g2,d,none⟩=some (.int .i64 (c2:Int)):=by rw[<- hc];exact (H3.out.c2 d (by omega)).1
   have kf:=(H3.out.c2 d (by omega)).2;have HCe2:=Hd hc;clear hc;have wc2:IntKind.i64.wrap ((c2:Int)+1)=((c2+1:Nat):Int):=by rw[qal];omega
   have b2:=H4.out.cell 2;simp only[qaz,qaC,qay] at b2;have hp:=zbR (zc6 ⟨13,0,none⟩ 30 30 vd Inf.zak w4.drew rfl (by decide) (by decide) (λ k hk=>by rw[zae];exact HTb4.out.dists k hk) (qam (by decide:Inf.zak.getD 0 0<=1) hv0Dists) (by omega));rw[HD.out] at hp;have HP:=Hd hp;clear hp;refine zbB 8 (by kernel_rfl) (by kernel_rfl) ?_;simp only[qao,qaH,qaw,qaS];refine qY ?_;refine qY ?_;refine qY ?_;refine qY ?_;refine zau (by kernel_rfl) λ K hK=>?_;go_simp;refine⟨_,HP.out,hK _ ?_⟩;clear hK K;refine qY ?_;refine qY ?_;refine qY ?_;refine zaf ?_;clear HP;have HN:=Hd (H3.out.drew.put2 d (by omega) c2 HCe2.out);change wpList _ _ _ _ _ w4.drew;go_wp2_with fail;refine⟨⟨i+1,by simp,by omega,by rw[HRS.out,Dfl.zgP ts t sk HS.out,Dfl.zly ts t d HT0.out HDs.out];exact HN⟩,by simp[intOf];omega⟩
  obtain rfl:i=n:=by omega
  have t0:=dF (p:=(i:Int)<(i:Int));go_wp2_with fail;go_ret2;exact⟨g1,g2,rfl,HC.out⟩
namespace Dfl
structure Rn where
 s:Nat
 m:Nat
 b:Nat
def StepR (l:List Nat) (r:Rn) (l':List Nat):Prop:=
 (r.s<=15/\r.m=0/\r.b=0/\l'=l ++ [r.s])\/
 (r.s=16/\r.b=2/\r.m<4/\l≠[]/\l'=l++List.replicate (3+r.m) (l.getD (l.length-1) 0))\/
 (r.s=17/\r.b=3/\r.m<8/\l'=l++List.replicate (3+r.m) 0)\/
 (r.s=18/\r.b=7/\r.m<128/\l'=l++List.replicate (11+r.m) 0)
inductive Says:List Nat->List Rn->List Nat->Prop
 | nil (l:List Nat):Says l [] l
 | cons {l l1 l2:List Nat} {r:Rn} {rs:List Rn} (h:StepR l r l1) (k:Says l1 rs l2):Says l (r ::rs) l2
theorem Says.push {l l1 l2:List Nat} {r:Rn} {rs:List Rn} (h:Says l rs l1) (k:StepR l1 r l2):Says l (rs ++ [r]) l2:=by
 induction h with
 | nil l=>exact .cons k (.nil _)
 | cons h _ ih=>exact .cons h (ih k)
theorem StepR.grow {l l':List Nat} {r:Rn} (h:StepR l r l'):l.length<l'.length:=by
 rcases h with⟨_,_,_,rfl⟩ | ⟨_,_,_,_,rfl⟩ | ⟨_,_,_,rfl⟩ | ⟨_,_,_,rfl⟩ <;> simp <;> omega
theorem StepR.bd {l l':List Nat} {r:Rn} (h:StepR l r l'):r.s<19/\r.m<2^r.b/\r.b<=7:=by
 rcases h with⟨h1,h2,h3,_⟩ | ⟨h1,h2,h3,_,_⟩ | ⟨h1,h2,h3,_⟩ | ⟨h1,h2,h3,_⟩
 ·rw[h2,h3];exact⟨by omega,by decide,by decide⟩
 ·rw[h1,h2];exact⟨by decide,by omega,by decide⟩
 ·rw[h1,h2];exact⟨by decide,by omega,by decide⟩
 rw[h1,h2];exact⟨by decide,by omega,by decide⟩
theorem Says.grow {l l':List Nat} {rs:List Rn} (h:Says l rs l'):l.length+rs.length<=l'.length:=by
 induction h with
 | nil l=>simp
 | cons h _ ih=>have:=h.grow;simp only[qaR];omega
theorem Says.bd {l l':List Nat} {rs:List Rn} (h:Says l rs l'):∀r∈rs,r.s<19/\r.m<2^r.b/\r.b<=7:=by
 induction h with
 | nil l=>intro r hr;cases hr
 | cons h _ ih=>
  intro r hr;rcases qbd.1 hr with rfl | q
  ·exact h.bd
  exact ih r q
def runB (f:Nat->Int) (r:Rn):List Bool:=wordB f 19 r.s++Bts.low r.m r.b
def runsB (f:Nat->Int) (rs:List Rn):List Bool:=(rs.map (runB f)).flatten
theorem zkr (f:Nat->Int) (r:Rn) (rs:List Rn):runsB f (r ::rs)=runB f r++runsB f rs:=by simp[runsB]
theorem zcP {l:List Nat} {x:Nat}:∀(k a:Nat),(∀j,a<=j->j<a+k->l.getD j 0=x)->a+k<=l.length->l.take a++List.replicate k x=l.take (a+k)
 | 0,a,_,_=>by simp
 | k+1,a,h,hl=>by
  have ih:=zcP k a (λ j h1 h2=>h j h1 (by omega)) (by omega);rw[List.replicate_succ',<- qat,ih,<- qa6,qbS];congr 1
  have q:=h (a+k) (by omega) (by omega);rw[List.getD,qai (by omega)] at q;rw[qai (by omega)];simp at q⊢;exact q.symm
theorem zl9 {l:List Nat} {a:Nat} (h:0<a) (hl:a<=l.length):(l.take a).getD ((l.take a).length-1) 0=l.getD (a-1) 0:=by
 rw[qax,qcf hl,List.getD,List.getD,qcn (by omega)]
end Dfl
namespace Dfl
theorem Means.append {o o1 o2:List UInt8} {ts us:List Tk} (h:Means o ts o1) (k:Means o1 us o2):Means o (ts++us) o2:=by
  induction h with
  | nil o=>exact k
  | lit h1 h2 h ih=>exact .lit h1 h2 (ih k)
  | mat h0 h1 h2 h3 h4 h5 h ih=>exact .mat h0 h1 h2 h3 h4 h5 (ih k)
theorem Means.ok {o o1:List UInt8} {ts:List Tk} (h:Means o ts o1):∀t∈ts,t.l=0\/(3<=t.l/\t.l<=258/\1<=t.d/\t.d<=32768):=by
  induction h with
  | nil o=>intro t ht;cases ht
  | lit h1 h2 h ih=>
    intro t ht;rcases qbd.1 ht with rfl | q
    · exact .inl h1
    exact ih t q
  | mat h0 h1 h2 h3 h4 h5 h ih=>
    intro t ht;rcases qbd.1 ht with rfl | q
    · exact .inr ⟨h1,h2,h3,h4⟩
    exact ih t q
theorem Means.many {o o1:List UInt8} {ts:List Tk} (h:Means o ts o1):o.length+ts.length<=o1.length:=by
  induction h with
  | nil o=>simp
  | lit h1 h2 h ih=>simp at ih⊢;omega
  | mat h0 h1 h2 h3 h4 h5 h ih=>rw[za1] at ih;simp;omega
theorem zq8 {t:Tk} (h1:3<=t.l) (h2:t.l<=258):plc Inf.lensL t.l.toNat<29:=(zdS (by omega) (by omega)).1
theorem zrg {t:Tk} (h1:1<=t.d) (h2:t.d<=32768):plc Inf.zak t.d.toNat<30:=(zcX (by omega) (by omega)).1
theorem zmW {f g:Nat->Int} {len gen:Nat} {t:Tk} (h:Uses f len g gen t):1<=(tokB f len g gen t).length:=by
  have hw:∀k,1<=f k->1<=(wordB f len k).length:=by intro k hk;unfold wordB;rw[Bts.zaD];omega
  unfold tokB;split
  · rename_i h0;exact hw _ (h.1 h0).2.1
  rename_i h0;rw[qaa];have:=hw _ (h.2 h0).1.2.1;omega
theorem zgR {f g:Nat->Int} {len gen:Nat}:∀ {ts:List Tk},(∀t∈ts,Uses f len g gen t)->ts.length<=(toksB f len g gen ts).length
  | [],_=>qbi _
  | t ::ts,h=>by
    have h1:=zgR (λ x hx=>h x (qaQ _ hx));have h2:=zmW (h t (qbc ..));have e:toksB f len g gen (t ::ts)=tokB f len g gen t++toksB f len g gen ts:=by simp[toksB]
    rw[e,qaa,qaR];omega
theorem zpc {l post:List UInt8} {B:List Bool} (h1:l.length=(B.length+7)/8) (h2:Crc.num l=Bts.val B):At (l++post) 0 B:=by
  refine⟨by rw[qaa];omega,?_⟩;rw[Nat.pow_zero,Nat.div_one,zhp,h2];have q:=Bts.zcy B;obtain⟨d,hd⟩:∃d,8*l.length=B.length+d:=⟨8*l.length-B.length,by omega⟩;rw[hd,qbY,<- qbr,Nat.mul_right_comm,Nat.add_mul_mod_self_right,qaF q]
end Dfl
namespace Dfl
def rowN (f:Nat->Int) (m:Nat):List Nat:=(List.range m).map λ j=>(f j).toNat
theorem zeH (f:Nat->Int) (m:Nat):(rowN f m).length=m:=by simp[rowN]
def zbk (h:Nat->Int) (few:Nat):List Bool:=((List.range few).map λ i=>Bts.low (h (Inf.zaK.getD i 0)).toNat 3).flatten
theorem zdM (h:Nat->Int) (few:Nat):(zbk h few).length=3*few:=by
  induction few with
  | zero=>rfl
  | succ n ih=>
    have e:zbk h (n+1)=zbk h n++Bts.low (h (Inf.zaK.getD n 0)).toNat 3:=by simp[zbk,qbC]
    rw[e,qaa,ih,Bts.zat];omega
def headB (many far few:Nat) (h:Nat->Int) (rs:List Rn):List Bool:=
  Bts.low (many-257) 5++(Bts.low (far-1) 5++(Bts.low (few-4) 4++(zbk h few++runsB h rs)))
end Dfl
theorem zeN {P:Program} (w:World) (t u ty e:TypeId) (i:TypeInfo) (z:Value) (k:IntKind) (ht:P.underlying t=some (.slice e)) (hu:P.underlying u=some (.int k)) (hi:P.info? e=some i) (hz:i.zero=some z)
  (n:Nat) (h0:0<n) (h63:n<=1000000) (hby:i.bytes<=64) (hsz:0<i.size):
  (Builtin.append_ #[t,u] ty #[.slice none 0 0,.int .i64 (n:Int)]).run P w=
   .ok (.slice (some ⟨w.heap.size,0,none⟩) n (grownCap w n 0 e)) (w.drew.alloc (.cells (Builtin.zeroCells z.cells n++Builtin.zeroCells z.cells (grownCap w n 0 e-n)) e)):=by
 have hn:n≠0:=by omega
 have hw:IntKind.i64.wrap (n:Int)=(n:Int):=by rw[qal];omega
 have h0':¬ ((n:Int)<0):=by omega
 have h63':¬ (9223372036854775807<(n:Int)):=by omega
 have hmul:n*i.bytes<=64000000:=by
  have:=qaE h63 hby
  omega
 have hb:¬ (281474976710656<(n:Int)*(i.bytes:Int)):=by
  have:(n:Int)*(i.bytes:Int)=((n*i.bytes:Nat):Int):=by simp
  omega
 have h48':¬ (281474976710656<Builtin.nextslicecap n 0*i.bytes):=by rw[nextslicecap_zero h0];omega
 simp[Builtin.append_,qbO ht,qbO hu,sizeOf,typeInfo,zeroValue,hi,hz,asInt,asIntOf,hw,h0',hb,hn,h63',h48',Question.forced,run_firstCells_none,newRow,grownCap];intro h;exact absurd h (by have:=Nat.mul_pos h0 hsz;omega)
theorem zcS {P:Program} {w:World} {ops:Array Oper} {rest:List Oper} {o:Oper} {a:Act} {Q:Exit->Act->World->Prop} (hgd:o.guard=none) (sl x:Operand) (t u:TypeId)
  (ho:o.op=.call { callee:=.builtin .append,args:=#[sl,x],argTypes:=#[t,u] }) (e:TypeId) (i:TypeInfo) (z:Value) (k:IntKind) (ht:P.underlying t=some (.slice e)) (hu:P.underlying u=some (.int k)) (hi:P.info? e=some i) (hz:i.zero=some z)
  (hzs:z.cells.size=i.size) (n:Nat) (hs:a.eval sl=.slice none 0 0) (hx:a.eval x=.int .i64 (n:Int)) (h0:0<n) (h63:n<=1000000) (hby:i.bytes<=64) (hsz:0<i.size)
  (h:∀C cs,n<=C->C<=maxLen->cs.size=C*i.size->wpList P ops Q rest (a.put o.dst (.slice (some ⟨w.heap.size,0,none⟩) n C)) (w.drew.alloc (.cells cs e))):wpList P ops Q (o ::rest) a w:=by
 refine wpList_plain hgd λ K hK=>?_;have hr:=zeN (P:=P) w t u o.type e i z k ht hu hi hz n h0 h63 hby hsz;have hge:=grownCap_ge w n 0 e;unfold Oper.wp execOp;simp only[ho,resolve,invoke,builtin,qbu,qbM,qas,qbg,qaG,qa9,hs,hx,hr];refine hK _ _ (h _ _ hge (grownCap_le_maxLen w n 0 e (by unfold maxLen;omega)) ?_);rw[Array.size_append,size_zeroCells,size_zeroCells,<- qbZ,hzs];congr 1;omega
def concL (ls:Nat->List Int):Nat->List Int
 | 0=> []
 | m+1=>concL ls m++ls m
theorem zdG (ls:Nat->List Int) (m:Nat):∀d,(concL ls m).length<=(concL ls (m+d)).length
 | 0=>qaj _
 | d+1=>by
  have:=zdG ls m d;show _<=(concL ls (m+d)++ls (m+d)).length;rw[qaa];omega
def i64V (l:List Int):List Value:=l.map (λ x=>Value.int .i64 x)
def Ir (w:World) (v:Value) (l:List Int):Prop:=0<l.length/\∃g c,v=.slice (some ⟨g,0,none⟩) l.length c/\∀j,j<l.length->w.cell? ⟨g,j,none⟩=(i64V l)[j]?
theorem Ir.ext {w w':World} {v:Value} {l:List Int} (h:Ir w v l) (hE:Ext w w'):Ir w' v l:=by
 obtain⟨h0,g,c,rfl,h1⟩:=h;refine⟨h0,g,c,rfl,λ j hj=>?_⟩;have hl:g<w.heap.size:=by
  have:=h1 0 h0;rw[qai (by simpa [i64V] using h0)] at this;exact qab w _ this
 exact (Below.cell hE (p:=⟨g,j,none⟩) hl).trans (h1 j hj)
theorem znI (n:Nat) (w:World) (h0:0<n) (hn:n<=100000):
  Calls Tryz.prog 165 #[.slice none 0 0,.int .i64 (n:Int)] w λ e w'=>(∃c,e=.returned (.slice (some ⟨w.heap.size,0,none⟩) 0 c)/\w'.ownsRow w.heap.size 3 1 (.slice (some ⟨w.heap.size,0,none⟩) 0 c) 0 [])/\Ext w w':=by
 obtain⟨i0,hi0,hz0,hz1,hz2⟩:=qbb zaX;have n1:¬ (n:Int)<0:=by omega
 have n2:=dT (p:=(0:Int)<(n:Int));have wn:=wqz (x:=(n:Int));go_enter Tryz.func165,Tryz.ntmps165
 go_wp2_with (at_builtin;refine zcS rfl _ _ 88 3 rfl 3 i0 (.int .i64 0) .i64 Tryz.underlying88 Tryz.underlying3 hi0 hz0 (by rw[hz1];rfl) n rfl rfl h0 (by omega) (by omega) (by omega) ?_);intro C cs hC1 hC2 hcs;have hne:¬ C=0:=by omega
 go_wp2_with fail;go_ret;refine⟨⟨C,rfl,by simp,.inr ⟨w.heap.size,C,cs,rfl,qaj _,qbP w.drew _,qbi _,hC2,by omega,by simp⟩⟩,(show Ext w w.drew from qag (Ext.refl _)).alloc _⟩
set_option maxHeartbeats 2000000 in
theorem zfu (S m c:Nat) (vs:Nat->Value) (ls:Nat->List Int) (w:World) (hm:1<=m) (hmm:m<=1000) (hS:∀i,i<m->w.cell? ⟨S,i,none⟩=some (vs i)) (hr:∀i,i<m->Ir w (vs i) (ls i)) (htot:(concL ls m).length<=100000):
  Calls Tryz.prog 145 #[.slice (some ⟨S,0,none⟩) m c] w λ e w'=>(∃v,e=.returned v/\w'.ownsRow w.heap.size 3 1 v (concL ls m).length (i64V (concL ls m)))/\Ext w w':=by
 obtain⟨i0,hi0,hz0,hz1,hz2⟩:=qbb zaX;have HS:=Hd hS;have HR:=Hd hr;have hpos:0<(concL ls m).length:=by
  have h1:=zdG ls 1 (m-1);rw[show 1+(m-1)=m by omega] at h1;have h2:=(hr 0 (by omega)).1;have h3:(concL ls 1).length=(ls 0).length:=by simp[concL]
  omega
 have hle:∀i,i<=m->(concL ls i).length<=100000:=λ i hi=>by
  have:=zdG ls i (m-i);rw[show i+(m-i)=m by omega] at this;omega
 have HL:=Hd hle;clear hS hr hle;go_enter Tryz.func145,Tryz.ntmps145
 go_wp2_with fail;go_loopw [3,11] (λ z x wr=>∃i:Nat,i<=m/\x=.int .i64 i/\z=.int .i64 ((concL ls i).length:Int)/\wr=w) (λ _ x _=>m-(intOf x).toNat)
 case atStart=>exact⟨0,by omega,rfl,by first | rfl | trivial,by first | rfl | trivial⟩
 case round=>
  obtain⟨i,hi,rfl,rfl,hw⟩:=hrel;have hw2:=hw.symm;clear hw;subst hw2;by_cases hlt:i<m
  ·obtain⟨h0,g,cc,hv,hc⟩:=HR.out i hlt;have hs:=HS.out i hlt;rw[hv] at hs;have hb:=HL.out (i+1) (by omega);have e:(concL ls (i+1)).length=(concL ls i).length+(ls i).length:=by simp[concL]
   have wi:=wqz (x:=(i:Int)+1);obtain⟨P,hP⟩:=nmE ((concL ls i).length);obtain⟨Q,hQ⟩:=nmE ((concL ls (i+1)).length);have HQ:=Hd hQ;rw[hP] at e⊢;rw[hQ] at e hb;have hPQ:(P:Int)+((ls i).length:Int)=(Q:Int):=by omega
   have wq:=wqz (x:=(Q:Int));have hq0:¬ (Q:Int)<0:=by omega
   clear hP hQ hv hc e;go_wp2_with fail;go_roundw
   case rel=>exact⟨i+1,by omega,by go_num,by rw[HQ.out],by first | rfl | trivial⟩
   case measure=>simp[intOf];omega
  obtain rfl:i=m:=by omega
  obtain⟨T,hT⟩:=nmE ((concL ls i).length);have HT:=Hd hT;rw[hT] at hpos htot⊢;clear hT;go_wp2_with fail;refine (znI T w hpos htot).mono ?_;rintro e w1 ⟨⟨C,rfl,ho⟩,hX⟩;have HX:=Hd hX;have HO:Hid (w1.ownsRow w.heap.size 3 1 (.slice (some ⟨w.heap.size,0,none⟩) 0 C) (concL ls 0).length (i64V (concL ls 0))):=Hd ho;clear ho hX;go_wp2_with fail;go_loopw [6,27] (λ z x wz=>∃k:Nat,k<=i/\x=.int .i64 k/\Hid (wz.ownsRow w.heap.size 3 1 z (concL ls k).length (i64V (concL ls k)))/\Hid (Ext w wz)) (λ _ x _=>i-(intOf x).toNat)
  case atStart=>exact⟨0,by omega,rfl,HO,HX⟩
  case round=>
   clear HO HX;obtain⟨k,hk,rfl,HO,HX⟩:=hrel;by_cases hlt:k<i
   ·obtain⟨h0,g,cc,hv,hc⟩:=HR.out k hlt;have hs:=zai HX.out (HS.out k hlt);rw[hv] at hs;have hb:=HL.out (k+1) (by omega);have e:(concL ls (k+1)).length=(concL ls k).length+(ls k).length:=by simp[concL]
    have wi:=wqz (x:=(k:Int)+1);obtain⟨P,hP⟩:=nmE ((concL ls k).length);obtain⟨Q,hQ⟩:=nmE ((concL ls (k+1)).length);have HQ:=Hd hQ;obtain⟨N,hN⟩:=nmE ((ls k).length);have ho:=HO.out;rw[hP] at e ho;rw[hQ] at e hb;rw[hN] at e hs hc h0;obtain⟨xo,co,rfl⟩:=zam ho;have HO2:=Hd ho;have HC:=Hd hc;have HN:=Hd hN;have hzz:=HX.out.size;have HEq:=Hd e;clear hP hQ hv hc ho hN HO e;go_wp2_with (at_builtin;refine apA HO2.out (i64V (ls k)) ?_ (hl:=?c1) (hnews:=?c2) (h1:=?c6) (h63:=?c3) (hbytes:=?c4))
    case c1=>simp[i64V,HN.out]
    case c2=>
     intro j u hj;have hj1:=(qa7.1 hj).1;simp only[i64V,qcm,HN.out] at hj1;rw[zae,zai HX.out ((HC.out j hj1).trans hj)]
    case c6=>intro u hu;obtain⟨x,_,rfl⟩:=qcC.1 hu;rfl
    case c3=>have:=HEq.out;unfold maxLen;omega
    case c4=>have:=HEq.out;omega
    intro v' w2 hown hgrow _ _;have HO3:Hid (w2.ownsRow w.heap.size 3 1 v' (concL ls (k+1)).length (i64V (concL ls (k+1)))):=Hd (by
     rw[HQ.out,HEq.out,show i64V (concL ls (k+1))=i64V (concL ls k)++i64V (ls k) by simp[i64V,concL]];exact hown)
    have HX3:=Hd (Below.trans HX.out ((Keeps.grown hgrow).below hzz (λ q hq e=>by have:=(HO2.out.lt q e).1;omega)));clear hown hgrow;go_wp2_with fail;go_roundw
    case rel=>exact⟨k+1,by omega,by go_num,HO3,HX3⟩
    case measure=>simp[intOf];omega
   obtain rfl:k=i:=by omega
   go_wp2_with fail;go_ret;have h1:=HO.out;rw[HT.out] at h1;first | exact⟨⟨_,rfl,HO.out⟩,HX.out⟩ | exact⟨⟨_,rfl,by rw[HT.out];exact h1⟩,HX.out⟩
theorem zfx:(Tryz.prog.info? 237).map (λ i=>(i.zero,i.size,i.bytes))=some (some (.agg #[.int .i64 0,.slice none 0 0]),2,32):=by kernel_rfl
theorem zf5:∀(l:List Pk),∀u∈pkL l,u.oneCell'=true
 | [],u,hu=>by cases hu
 | p ::l,u,hu=>by
  simp only[pkL,qbd] at hu;rcases hu with rfl | rfl | hu
  ·rfl
  ·rfl
  exact zf5 l u hu
theorem PR.all {w:World} {B:Nat} {l:List Pk} (h:PR w B l) {j:Nat} {u:Value} (hj:(pkL l)[j]? =some u):w.cell? ⟨B,j,none⟩=some u:=by
 obtain⟨r,h⟩:=h.bk;rw[h.cell,qaz,qbj (qa7.1 hj).1];exact hj
theorem PR.of_own {w:World} {base:Nat} {v:Value} {l:List Pk} (h:w.ownsRow base 237 2 v l.length (pkL l)) (h0:0<l.length):∃g c,v=.slice (some ⟨g,0,none⟩) l.length c/\base<=g/\PR w g l/\l.length<=c:=by
 rcases h.2 with⟨_,q⟩ | ⟨g,cap,cur,hv,hg,hh,hc,hm,hs,ht⟩
 ·omega
 refine⟨g,cap,hv,hg,⟨cur.toList.drop (l.length*2),?_⟩,hc⟩;rw[hh,<- ht,List.take_append_drop,Array.toArray_toList]
theorem zlq (n:Nat) (w:World) (h0:0<n) (hn:n<=100000):
  Calls Tryz.prog 171 #[.slice none 0 0,.int .i64 (n:Int)] w λ e w'=>(∃c,e=.returned (.slice (some ⟨w.heap.size,0,none⟩) 0 c)/\w'.ownsRow w.heap.size 237 2 (.slice (some ⟨w.heap.size,0,none⟩) 0 c) 0 [])/\Ext w w':=by
 obtain⟨i0,hi0,hz0,hz1,hz2⟩:=qbb zfx;have n1:¬ (n:Int)<0:=by omega
 have n2:=dT (p:=(0:Int)<(n:Int));have wn:=wqz (x:=(n:Int));go_enter Tryz.func171,Tryz.ntmps171
 go_wp2_with (at_builtin;refine zcS rfl _ _ 235 3 rfl 237 i0 (.agg #[.int .i64 0,.slice none 0 0]) .i64 Tryz.underlying235 Tryz.underlying3 hi0 hz0 (by rw[hz1];rfl) n rfl rfl h0 (by omega) (by omega) (by omega) ?_);intro C cs hC1 hC2 hcs;have hne:¬ C=0:=by omega
 go_wp2_with fail;go_ret;refine⟨⟨C,rfl,by simp,.inr ⟨w.heap.size,C,cs,rfl,qaj _,qbP w.drew _,qbi _,hC2,by omega,by simp⟩⟩,(show Ext w w.drew from qag (Ext.refl _)).alloc _⟩
def concP (ls:Nat->List Pk):Nat->List Pk
 | 0=> []
 | m+1=>concP ls m++ls m
theorem zdF (ls:Nat->List Pk) (m:Nat):∀d,(concP ls m).length<=(concP ls (m+d)).length
 | 0=>qaj _
 | d+1=>by
  have:=zdF ls m d;show _<=(concP ls (m+d)++ls (m+d)).length;rw[qaa];omega
set_option maxHeartbeats 2000000 in
theorem ziP (S m c:Nat) (gs cs:Nat->Nat) (ls:Nat->List Pk) (w:World) (hm:1<=m) (hmm:m<=1000) (hS:∀i,i<m->w.cell? ⟨S,i,none⟩=some (.slice (some ⟨gs i,0,none⟩) (ls i).length (cs i))) (hr:∀i,i<m->0<(ls i).length/\PR w (gs i) (ls i)) (htot:(concP ls m).length<=100000):
  Calls Tryz.prog 156 #[.slice (some ⟨S,0,none⟩) m c] w λ e w'=>(∃v,e=.returned v/\w'.ownsRow w.heap.size 237 2 v (concP ls m).length (pkL (concP ls m)))/\Ext w w':=by
 obtain⟨i0,hi0,hz0,hz1,hz2⟩:=qbb zfx;have HS:=Hd hS;have HR:=Hd hr;have hpos:0<(concP ls m).length:=by
  have h1:=zdF ls 1 (m-1);rw[show 1+(m-1)=m by omega] at h1;have h2:=(hr 0 (by omega)).1;have h3:(concP ls 1).length=(ls 0).length:=by simp[concP]
  omega
 have hle:∀i,i<=m->(concP ls i).length<=100000:=λ i hi=>by
  have:=zdF ls i (m-i);rw[show i+(m-i)=m by omega] at this;omega
 have HL:=Hd hle;clear hS hr hle;go_enter Tryz.func156,Tryz.ntmps156
 go_wp2_with fail;go_loopw [3,11] (λ z x wr=>∃i:Nat,i<=m/\x=.int .i64 i/\z=.int .i64 ((concP ls i).length:Int)/\wr=w) (λ _ x _=>m-(intOf x).toNat)
 case atStart=>exact⟨0,by omega,rfl,by first | rfl | trivial,by first | rfl | trivial⟩
 case round=>
  obtain⟨i,hi,rfl,rfl,hw⟩:=hrel;have hw2:=hw.symm;clear hw;subst hw2;by_cases hlt:i<m
  ·have hs:=HS.out i hlt;have hb:=HL.out (i+1) (by omega);have e:(concP ls (i+1)).length=(concP ls i).length+(ls i).length:=by simp[concP]
   have wi:=wqz (x:=(i:Int)+1);obtain⟨P,hP⟩:=nmE ((concP ls i).length);obtain⟨Q,hQ⟩:=nmE ((concP ls (i+1)).length);have HQ:=Hd hQ;rw[hP] at e⊢;rw[hQ] at e hb;have hPQ:(P:Int)+((ls i).length:Int)=(Q:Int):=by omega
   have wq:=wqz (x:=(Q:Int));have hq0:¬ (Q:Int)<0:=by omega
   clear hP hQ e;go_wp2_with fail;go_roundw
   case rel=>exact⟨i+1,by omega,by go_num,by rw[HQ.out],by first | rfl | trivial⟩
   case measure=>simp[intOf];omega
  obtain rfl:i=m:=by omega
  obtain⟨T,hT⟩:=nmE ((concP ls i).length);have HT:=Hd hT;rw[hT] at hpos htot⊢;clear hT;go_wp2_with fail;refine (zlq T w hpos htot).mono ?_;rintro e w1 ⟨⟨C,rfl,ho⟩,hX⟩;have HX:=Hd hX;have HO:Hid (w1.ownsRow w.heap.size 237 2 (.slice (some ⟨w.heap.size,0,none⟩) 0 C) (concP ls 0).length (pkL (concP ls 0))):=Hd ho;clear ho hX;go_wp2_with fail;go_loopw [6,27] (λ z x wz=>∃k:Nat,k<=i/\x=.int .i64 k/\Hid (wz.ownsRow w.heap.size 237 2 z (concP ls k).length (pkL (concP ls k)))/\Hid (Ext w wz)) (λ _ x _=>i-(intOf x).toNat)
  case atStart=>exact⟨0,by omega,rfl,HO,HX⟩
  case round=>
   clear HO HX;obtain⟨k,hk,rfl,HO,HX⟩:=hrel;by_cases hlt:k<i
   ·have hs:=zai HX.out (HS.out k hlt);have HPR:=Hd ((HR.out k hlt).2.ext HX.out);have hb:=HL.out (k+1) (by omega);have e:(concP ls (k+1)).length=(concP ls k).length+(ls k).length:=by simp[concP]
    have wi:=wqz (x:=(k:Int)+1);obtain⟨P,hP⟩:=nmE ((concP ls k).length);obtain⟨Q,hQ⟩:=nmE ((concP ls (k+1)).length);have HQ:=Hd hQ;obtain⟨N,hN⟩:=nmE ((ls k).length);have ho:=HO.out;rw[hP] at e ho;rw[hQ] at e hb;rw[hN] at e hs;obtain⟨xo,co,rfl⟩:=zam ho;have HO2:=Hd ho;have HN:=Hd hN;have hzz:=HX.out.size;have HEq:=Hd e;clear hP hQ ho hN HO e;go_wp2_with (at_builtin;refine apA HO2.out (pkL (ls k)) ?_ (hl:=?c1) (hnews:=?c2) (h1:=?c6) (h63:=?c3) (hbytes:=?c4))
    case c1=>rw[zdO,HN.out]
    case c2=>
     intro j u hj;rw[zae];exact HPR.out.all hj
    case c6=>exact zf5 _
    case c3=>have:=HEq.out;unfold maxLen;omega
    case c4=>have:=HEq.out;omega
    intro v' w2 hown hgrow _ _;have HO3:Hid (w2.ownsRow w.heap.size 237 2 v' (concP ls (k+1)).length (pkL (concP ls (k+1)))):=Hd (by
     rw[HQ.out,HEq.out,show pkL (concP ls (k+1))=pkL (concP ls k)++pkL (ls k) from zcI _ _];exact hown)
    have HX3:=Hd (Below.trans HX.out ((Keeps.grown hgrow).below hzz (λ q hq e=>by have:=(HO2.out.lt q e).1;omega)));clear hown hgrow;go_wp2_with fail;go_roundw
    case rel=>exact⟨k+1,by omega,by go_num,HO3,HX3⟩
    case measure=>simp[intOf];omega
   obtain rfl:k=i:=by omega
   go_wp2_with fail;go_ret;have h1:=HO.out;rw[HT.out] at h1;first | exact⟨⟨_,rfl,HO.out⟩,HX.out⟩ | exact⟨⟨_,rfl,by rw[HT.out];exact h1⟩,HX.out⟩
theorem zkv (g c:Nat) (l:List Pk) (w:World) (hx:PR w g l) (h0:0<l.length) (hn:l.length<=10000):
  Calls Tryz.prog 155 #[.slice (some ⟨g,0,none⟩) l.length c] w λ e w'=>(∃g' c',e=.returned (.slice (some ⟨g',0,none⟩) l.length c')/\PR w' g' l/\w.heap.size<=g'/\l.length<=c')/\Ext w w':=by
 obtain⟨i0,hi,hz0,hz1,hz2⟩:=qbb zfx;have HX:=Hd hx;have HL:=Hd h0;have q22:=λ (w:World) (a:Option Addr) (n c n' c':Nat)=>Lib.run_eql_slice_nil (P:=Tryz.prog) w 235 _ a n c n' c' Tryz.underlying235;clear hx;go_enter Tryz.func155,Tryz.ntmps155
 go_wp2_with (at_builtin;refine apA (World.ownsRow_made w #[] 0 (qaj _) (qbi _) rfl) (pkL l) ?_ (base:=w.heap.size) (hl:=?qc1) (hnews:=?qc2) (h1:=?qc3))
 case qc1=>exact zdO l
 case qc2=>
  intro j u hj;rw[zae];exact (HX.out.ext ((Ext.refl w).alloc _)).all hj
 case qc3=>exact zf5 l
 intro v' w1 hown hgrow hnil hat;go_wp2_with fail;go_ret;have ho:w1.ownsRow w.heap.size 237 2 v' l.length (pkL l):=by simpa using hown
 obtain⟨g',c',rfl,hg,hp,hcc⟩:=PR.of_own ho HL.out;refine⟨⟨g',c',rfl,hp,hg,hcc⟩,?_⟩;exact ((qco _ w).alloc (qaj _) _).grown hgrow (by simp) (by intro k hk;simp[Value.ownBlock] at hk;omega)
end Go.Proofs.YthlibiocadimhaaGreatDoor
