/-
  Valid: what it says of lengths.
  Codes: the words of lengths.
  A row done and undone: the plain law, and the contracts of do, Do, Undo.
  Symbols of a code in the order of their words. No program's function is named.
  Rows of ints as values; no word of a code begins another one. No function of the program is named.
  The symbol that comes next: plain laws. No function of the program is named.
  The document's word on lengths.
  huff.Lengths: its test of the counts.
  huff.Lengths: what it does not take.
  slices.Repeat of one whole number.
  (For a seat without CRC.) Contracts of sum.MoreAdler, sum.Adler: what they compute; the world is as it was.
  Four bytes of a number; the document's BigOf.
  Contracts of sum.table, sum.MoreCRC, sum.CRC: what they compute, in any world; new blocks alone are made.
  Chunks' small functions: is a text a kind; four bytes of a number, and back.
  Four bytes of a number, the highest first, and back.
  Rows of chunks as they lie in memory; what a file of chunks is, as a list.
  What chunks a file holds, as a list.
  What is read is written as it was.
  What is written is read as it was.
  What is read is written as it was, what is written is read: files of any length.
  Contracts of the references CRC, Adler, MoreAdlerOf: the same functions of the bytes; the world is as it was.
  The document's words of lengths.
-/
import Derived.Test.YthlibiocadimhaaGreatDoorPngReadsG4
import Derived.Test.YthlibiocadimhaaGreatDoorPngReadsG3
set_option linter.all false
set_option maxRecDepth 100000
namespace Go.Proofs.YthlibiocadimhaaGreatDoor
open Go.RowKit
def kraft (f:Nat->Int) (len:Nat):Nat->Nat
 | 0=>0
 | n+1=>kraft f len n+many f (n+1) len*2^(14-n)
def zaT (f:Nat->Int) (len:Nat):Prop:=len<=300/\∀j,j<len->0<=f j/\f j<=15
def zan (f:Nat->Int) (len:Nat):Prop:=len=many f 0 len\/(len=many f 0 len+1/\many f 1 len=1)\/kraft f len 15=32768
theorem zn1 (f:Nat->Int) (len:Nat):∀n,n<=15->kraft f len n<=n*(len*16384):=by
 intro n;induction n with
 | zero=>intro _;exact qbi _
 | succ n ih=>
  intro h;have h1:=ih (by omega);have h2:many f (n+1) len*2^(14-n)<=len*16384:=qaE (zbi _ _ _) (qaq (n:=2) (by decide) (show 14-n<=14 by omega));unfold kraft;rw[qbZ,Nat.one_mul];omega
theorem zdk (f:Nat->Int) (len n:Nat) (h:len<=300) (hn:n<=15):kraft f len n<=73728000:=by
 have h1:=zn1 f len n hn;have h2:n*(len*16384)<=15*(300*16384):=qaE hn (qaW _ h);omega
theorem zk2 (f:Nat->Int) (len n:Nat) (h:len<=300):many f (n+1) len*2^(14-n)<=4915200:=by
 have h2:many f (n+1) len*2^(14-n)<=300*16384:=qaE (qam (zbi _ _ _) h) (qaq (n:=2) (by decide) (show 14-n<=14 by omega));omega
theorem zfv (x:Option Addr) (len cap:Nat) (f:Nat->Int) (w:World) (hx:Ints w x len f) (hl:len<=maxLen):
  Calls Tryz.prog 151 #[.slice x len cap,.func (.func 167) #[] #[]] w λ e w'=>(∃b:Bool,e=.returned (.bool b)/\(b=false↔∀j,j<len->0<=f j/\f j<=15))/\w=w':=by
 have HX:=Hd hx;clear hx;go_enter Tryz.func151,Tryz.ntmps151
 go_wp2_with fail;refine (zhs _ _ _ _ _ HX.out hl).mono ?_;rintro e w1 ⟨⟨i,rfl,hi⟩,rfl⟩;have HI:=Hd hi;clear hi;go_wp2_with fail;go_ret;refine⟨⟨_,rfl,?_⟩,rfl⟩;rcases HI.out with⟨rfl,h⟩ | ⟨h,j,hj,hb⟩
 ·simp;exact h
 constructor
 ·intro q;simp at q;omega
 intro q;have:=q j hj;omega
theorem zdj (x:Option Addr) (len cap:Nat) (f:Nat->Int) (w:World) (hx:Ints w x len f) (hl:len<=maxLen)
  (EB ES:Value) (hB:w.cell? ⟨2,0,none⟩=some EB) (hS:w.cell? ⟨0,0,none⟩=some ES):
  Calls Tryz.prog 147 #[.slice x len cap] w λ e w'=>Ext w w'/\
   ((e=.returned .nilIface/\zaT f len/\zan f len)\/(e=.returned EB/\¬ zaT f len)\/(e=.returned ES/\zaT f len/\¬ zan f len)):=by
 have HX:=Hd hx;have hl2:=hl;unfold maxLen at hl2;clear hx;by_cases h300:300<len
 ·go_enter Tryz.func147,Tryz.ntmps147
  go_wp2
  go_ret;exact⟨qco _ _,.inr (.inl ⟨rfl,λ h=>by have:=h.1;omega⟩)⟩
 go_enter Tryz.func147,Tryz.ntmps147
 go_wp2_with fail;refine (zfv _ _ _ _ _ HX.out hl).mono ?_;rintro e w1 ⟨⟨b,rfl,hb⟩,rfl⟩;cases b with
 | true=>
  have HB:=Hd hb;clear hb;go_wp2_with fail;go_ret;refine⟨qco _ _,.inr (.inl ⟨rfl,λ h=>?_⟩)⟩;have:=HB.out.2 h.2;cases this
 | false=>
  have hbd:zaT f len:=⟨by omega,hb.1 rfl⟩;have HB:=Hd hbd;clear hb hbd;go_wp2_with fail;refine (zdh _ _ _ _ _ HX.out hl HB.out.2).mono ?_;rintro e w1 ⟨rfl,rfl⟩;have hst:=run_storeCells_new (P:=Tryz.prog) (w.alloc (.cells (cellsI .i64 16 λ n=>(many f n len:Int)) 229)) 229 (Array.replicate 16 (.int .i64 0)) (cellsI .i64 16 λ n=>(many f n len:Int)) (by rw[cellsI_size];kernel_rfl) (by rw[cellsI_size];rfl) (by simp[cellsI,Value.oneCell']);rw[show (w.alloc (.cells (cellsI .i64 16 λ n=>(many f n len:Int)) 229)).heap.size=w.heap.size+1 by simp] at hst;have hz:=zh1;have hg0:=zaq .i64 16 (λ n=>(many f n len:Int)) 0 (by decide);have hm0:=zbi f 0 len;go_wp2_with fail;clear hst hz;go_loop [5,6] (λ s c=>∃n:Nat,n<=15/\c=.int .i64 (n+1)/\s=.int .i64 (kraft f len n:Int)) (λ _ c=>16-(intOf c).toNat)
  case atStart=>exact⟨0,by omega,rfl,rfl⟩
  case round=>
   obtain⟨n,hn,rfl,rfl⟩:=hrel;by_cases hlt:n<15
   ·have hg:=zaq .i64 16 (λ n=>(many f n len:Int)) (n+1) (by omega);have k1:=zdk f len n (by omega) (by omega);have k2:(0:Int)<=(many f (n+1) len:Int)*2^(14-n)/\(many f (n+1) len:Int)*2^(14-n)<=4915200:=by
     have:=zk2 f len n (by omega);rw[show (many f (n+1) len:Int)*2^(14-n)=((many f (n+1) len*2^(14-n):Nat):Int) by simp];omega
    obtain⟨k3,k4⟩:=k2;go_wp2_with fail;refine⟨⟨n+1,by omega,by go_num,zbg ?_⟩,by simp[intOf];omega⟩;show wrap64 ((kraft f len n:Int)+wrap64 ((many f (n+1) len:Int)*2^(14-n)))=((kraft f len n+many f (n+1) len*2^(14-n):Nat):Int);rw[show ((kraft f len n+many f (n+1) len*2^(14-n):Nat):Int)=(kraft f len n:Int)+(many f (n+1) len:Int)*2^(14-n) by simp];generalize (many f (n+1) len:Int)*2^(14-n)=t at *;unfold wrap64;omega
   obtain rfl:n=15:=by omega
   have hx1:Ext w ((w.alloc (.cells (cellsI .i64 16 λ n=>(many f n len:Int)) 229)).alloc (.cells (cellsI .i64 16 λ n=>(many f n len:Int)) 229)):=((Ext.refl w).alloc _).alloc _;have hS2:=(hx1.cell (p:=⟨0,0,none⟩) (qab w _ hS)).trans hS;have hg1:=zaq .i64 16 (λ n=>(many f n len:Int)) 1 (by omega);have hm1:=zbi f 1 len;have k1:=zdk f len 15 (by omega) (by omega);have HX1:=Hd hx1;clear hx1 hg0;go_wp2_with fail;all_goals (go_ret;refine⟨HX1.out,?_⟩)
   all_goals (first | exact .inl ⟨rfl,HB.out,by unfold zan;(try simp only[qbl,qak,ne_eq] at *);omega⟩ | exact .inr (.inr ⟨rfl,HB.out,by unfold zan;(try simp only[qak,ne_eq] at *);omega⟩))
def first (f:Nat->Int) (len:Nat):Nat->Nat
 | 0=>0
 | 1=>0
 | n+2=>(first f len (n+1)+many f (n+1) len)*2
def word (f:Nat->Int) (len i:Nat):Nat:=if 0<f i then first f len (f i).toNat+many f (f i).toNat i else 0
theorem zbv (f:Nat->Int) (len n:Nat) (h:1<=n):first f len (n+1)=(first f len n+many f n len)*2:=by
 match n,h with
 | n+1,_=>rfl
theorem ziF (f:Nat->Int) (len:Nat):∀n,n<=14->first f len (n+1)*2^(14-n)=kraft f len n:=by
 intro n;induction n with
 | zero=>intro _;rfl
 | succ n ih=>
  intro h;have h1:=ih (by omega);show (first f len (n+1)+many f (n+1) len)*2*2^(14-(n+1))=kraft f len n+many f (n+1) len*2^(14-n);rw[<- h1,<- qbZ,qbr,show 14-n=(14-(n+1))+1 by omega,qa1,qaJ 2]
theorem zc0 (f:Nat->Int) (n:Nat):∀j i,i<=j->many f n i<=many f n j:=by
 intro j;induction j with
 | zero=>
  intro i h;have:i=0:=by omega
  subst this;exact qaj _
 | succ j ih=>
  intro i h;rcases qa8 i (j+1) with q | q
  ·exact qam (ih i (by omega)) (by show _<=many f n j+_;omega)
  have:i=j+1:=by omega
  subst this;exact qaj _
theorem zbF (f:Nat->Int) (n i:Nat) (h:f i=n):many f n (i+1)=many f n i+1:=by simp[many,h]
theorem zbN (f:Nat->Int) (n i:Nat) (h:¬ f i=n):many f n (i+1)=many f n i:=by simp[many,h]
theorem zlt (f:Nat->Int) (n m:Nat) (hnm:n≠m):∀i,many f n i+many f m i<=i:=by
 intro i;induction i with
 | zero=>exact qaj _
 | succ i ih=>
  show (many f n i+if f i=n then 1 else 0)+(many f m i+if f i=m then 1 else 0)<=i+1;split <;> split <;> omega
theorem zkU (f:Nat->Int) (n m k:Nat) (h1:n≠m) (h2:n≠k) (h3:m≠k):∀i,many f n i+many f m i+many f k i<=i:=by
 intro i;induction i with
 | zero=>exact qaj _
 | succ i ih=>
  show (many f n i+if f i=n then 1 else 0)+(many f m i+if f i=m then 1 else 0)+(many f k i+if f i=k then 1 else 0)<=i+1;split <;> split <;> split <;> omega
theorem zkl (f:Nat->Int) (len:Nat):∀m n,n<=m->kraft f len n<=kraft f len m:=by
 intro m;induction m with
 | zero=>
  intro n h;have:n=0:=by omega
  subst this;exact qaj _
 | succ m ih=>
  intro n h;rcases qa8 n (m+1) with q | q
  ·exact qam (ih n (by omega)) (by show _<=kraft f len m+_;omega)
  have:n=m+1:=by omega
  subst this;exact qaj _
theorem zkZ (f:Nat->Int) (len:Nat) (h:len=many f 0 len):∀n,kraft f len n=0:=by
 intro n;induction n with
 | zero=>rfl
 | succ n ih=>
  have h1:=zlt f 0 (n+1) (by omega) len;have h2:many f (n+1) len=0:=by omega
  show kraft f len n+many f (n+1) len*_=0;rw[ih,h2];simp
theorem zmp (f:Nat->Int) (len:Nat) (h:len=many f 0 len+1) (h1:many f 1 len=1):∀n,kraft f len n<=16384:=by
 intro n;induction n with
 | zero=>exact qbi _
 | succ n ih=>
  show kraft f len n+many f (n+1) len*_<=16384;by_cases hn:n=0
  ·subst hn;show 0+many f 1 len*2^14<=_;rw[h1];decide
  have h3:=zkU f 0 1 (n+1) (by omega) (by omega) (by omega) len;have h2:many f (n+1) len=0:=by omega
  rw[h2];simpa using ih
theorem room (f:Nat->Int) (len:Nat) (h:zan f len) (n:Nat) (hn:n<=14):first f len (n+1)+many f (n+1) len<=2^(n+1):=by
 have hk:kraft f len (n+1)<=32768:=by
  rcases h with h | ⟨h,h1⟩ | h
  ·rw[zkZ f len h];decide
  ·have:=zmp f len h h1 (n+1);omega
  rw[<- h];exact zkl f len 15 (n+1) (by omega)
 have h1:=ziF f len n hn;have h2:kraft f len (n+1)=(first f len (n+1)+many f (n+1) len)*2^(14-n):=by
  show kraft f len n+_=_;rw[<- h1,qbZ]
 rw[h2] at hk;have h3:(32768:Nat)=2^(n+1)*2^(14-n):=by rw[<- qbY,show n+1+(14-n)=15 by omega]
 rw[h3] at hk;exact Nat.le_of_mul_le_mul_right hk (qbN _)
theorem room' (f:Nat->Int) (len:Nat) (h:zan f len) (k:Nat) (h1:1<=k) (h2:k<=15):first f len k+many f k len<=2^k:=by
 have:=room f len h (k-1) (by omega);rwa [show k-1+1=k by omega] at this
theorem zf8 (f:Nat->Int) (len:Nat) (hc:zan f len) (i k:Nat) (hi:i<len) (hk:f i=k) (h1:1<=k) (h2:k<=15):first f len k+many f k i+1<=first f len k+many f k len/\first f len k+many f k len<=2^k/\(2:Nat)^k<=2^15:=by
 have h:=zc0 f k len (i+1) hi;rw[zbF f k i hk] at h;have hr:=room' f len hc k h1 h2;exact⟨by omega,hr,qaq (by decide) h2⟩
theorem zpF (w:World):(zeroValue 231).run Tryz.prog w=.ok (.agg (Array.replicate 16 (.int .u32 0))) w:=by kernel_rfl
theorem zoW:(Tryz.prog.info? 85).map (λ i=>(i.zero,i.size,i.bytes))=some (some (.int .u32 0),1,4):=by kernel_rfl
def U32s (w:World) (x:Option Addr) (len:Nat) (g:Nat->Nat):Prop:=(x=none->len=0)/\∀a,x=some a->∀i,i<len->w.cell? (a.add i)=some (.int .u32 (g i:Int))
theorem zcE (x:Option Addr) (len cap:Nat) (f:Nat->Int) (w:World) (hx:Ints w x len f) (hl:len<=maxLen) (hb:zaT f len) (hc:zan f len)
  (EB ES:Value) (hB:w.cell? ⟨2,0,none⟩=some EB) (hS:w.cell? ⟨0,0,none⟩=some ES):
  Calls Tryz.prog 125 #[.slice x len cap] w λ e w'=>Ext w w'/\∃B,w.heap.size<=B/\e=.returned (.tuple #[.slice (some ⟨B,0,none⟩) len len,.nilIface])/\Cs w' B len .u32 (λ i=>(word f len i:Int)):=by
 have HX:=Hd hx;have HB:=Hd hb;have HC:=Hd hc;have h300:=hb.1;clear hb hc;go_enter Tryz.func125,Tryz.ntmps125
 go_wp2_with fail;refine (zdj x len cap f w hx hl _ _ hB hS).mono ?_;rintro e w1 ⟨hE,h1 | h1 | h1⟩
 ·obtain⟨rfl,_⟩:=h1;have HX1:=Hd (HX.out.ext hE);have HE:=Hd hE;clear hx hE;go_wp2_with fail;refine (zdh x len cap f w1 HX1.out hl HB.out.2).mono ?_;rintro e w2 ⟨rfl,rfl⟩;have hst:=run_storeCells_new (P:=Tryz.prog) (w1.alloc (.cells (cellsI .i64 16 λ n=>(many f n len:Int)) 229)) 229 (Array.replicate 16 (.int .i64 0)) (cellsI .i64 16 λ n=>(many f n len:Int)) (by rw[cellsI_size];kernel_rfl) (by rw[cellsI_size];rfl) (by simp[cellsI,Value.oneCell']);rw[show (w1.alloc (.cells (cellsI .i64 16 λ n=>(many f n len:Int)) 229)).heap.size=w1.heap.size+1 by simp] at hst;have hz:=zh1;have hzu:=zpF;go_wp2_with fail;clear hst hz hzu;rw[zeC];have f1:=Cs.born w1 .i64 16 (λ n=>(many f n len:Int)) 229;have f2:=Cs.born (w1.alloc (.cells (cellsI .i64 16 λ n=>(many f n len:Int)) 229)) .i64 16 (λ n=>(many f n len:Int)) 229;have f3:=Cs.born ((w1.alloc (.cells (cellsI .i64 16 λ n=>(many f n len:Int)) 229)).alloc (.cells (cellsI .i64 16 λ n=>(many f n len:Int)) 229)) .u32 16 (λ _=>0) 231;have g2:=f2.alloc (by simp) (.cells (cellsI .u32 16 λ _=>0) 231);have hE3:Ext w (((w1.alloc (.cells (cellsI .i64 16 λ n=>(many f n len:Int)) 229)).alloc (.cells (cellsI .i64 16 λ n=>(many f n len:Int)) 229)).alloc (.cells (cellsI .u32 16 λ _=>0) 231)):=((HE.out.alloc _).alloc _).alloc _
  have G2:Hid (Cs (((w1.alloc (.cells (cellsI .i64 16 λ n=>(many f n len:Int)) 229)).alloc (.cells (cellsI .i64 16 λ n=>(many f n len:Int)) 229)).alloc (.cells (cellsI .u32 16 λ _=>0) 231)) (w1.heap.size+1) 16 .i64 (λ n=>(many f n len:Int))):=Hd (by simpa using g2);have G3:Hid (Cs (((w1.alloc (.cells (cellsI .i64 16 λ n=>(many f n len:Int)) 229)).alloc (.cells (cellsI .i64 16 λ n=>(many f n len:Int)) 229)).alloc (.cells (cellsI .u32 16 λ _=>0) 231)) (w1.heap.size+1+1) 16 .u32 (λ _=>0)):=Hd (by simpa using f3);have H3:=Hd hE3;have hw1:w.heap.size<=w1.heap.size:=HE.out.size;clear f1 f2 f3 g2 hE3;generalize (((w1.alloc (.cells (cellsI .i64 16 λ n=>(many f n len:Int)) 229)).alloc (.cells (cellsI .i64 16 λ n=>(many f n len:Int)) 229)).alloc (.cells (cellsI .u32 16 λ _=>0) 231))=w3 at *;go_loopw [7] (λ v wr=>∃n:Nat,1<=n/\n<=15/\v=.int .i64 (n+1)/\Hid (Cs wr (w1.heap.size+1) 16 .i64 (λ n=>(many f n len:Int)))/\Hid (Cs wr (w1.heap.size+1+1) 16 .u32 (λ k=>if k<=n then (first f len k:Int) else 0))/\Hid (Below w.heap.size w wr)) (λ v _=>16-(intOf v).toNat)
  case atStart=>
   refine⟨1,by omega,by omega,rfl,G2,?_,H3⟩;have:(λ k:Nat=>if k<=1 then (first f len k:Int) else 0)=λ _=>0:=by
    funext k
    match k with
    | 0=>rfl
    | 1=>rfl
    | k+2=>simp
   rw[this];exact G3
  case round=>
   obtain⟨n,hn1,hn,rfl,HM,HN,HW⟩:=hrel;by_cases hlt:n<15
   ·obtain⟨c1,_⟩:=HM.out n (by omega);have c2:wr.cell? ⟨w1.heap.size+1+1,n,none⟩=some (.int .u32 (first f len n:Int)):=by have:=(HN.out n (by omega)).1;simpa using this
    have c3:wr.cell? ⟨w1.heap.size+1+1,n+1,none⟩=some (.int .u32 0):=by have:=(HN.out (n+1) (by omega)).1;simpa [show ¬ n+1<=n by omega] using this
    have c4:=(HN.out (n+1) (by omega)).2;have hroom:first f len n+many f n len<=2^n:=by
     have:=room f len HC.out (n-1) (by omega);rwa [show n-1+1=n by omega] at this
    have hp:2^n<=2^14:=qaq (by decide) (by omega);have b1:first f len n+many f n len<=16384:=by omega
    clear hroom hp;go_wp2_with fail;go_region;go_wp2_with fail;have e1:(((first f len n:Nat):Int)+(many f n len:Int))*2=(first f len (n+1):Int):=by rw[zbv f len n hn1];omega
    rw[e1];refine⟨⟨n+1,by omega,by omega,by go_num,Hd ?_,Hd ?_,Hd ?_⟩,by simp[intOf];omega⟩
    ·exact (HM.out.other _ _ (by show w1.heap.size+1+1≠w1.heap.size+1;omega)).drew
    ·refine (HN.out.put (n+1) _ _ (by omega) ?_).drew;intro k hk;by_cases e:k=n+1
     ·subst e;simp
     rw[qac e];by_cases e2:k<=n
     ·rw[qad e2,qad (by omega)]
     rw[qac e2,qac (by omega)]
    exact (HW.out.setCell (by show w.heap.size<=w1.heap.size+1+1;omega) _).drew
   obtain rfl:n=15:=by omega
   have hmk:=qbR (P:=Tryz.prog) 178 85 (.int .u32 0) 4 Tryz.underlying178 zoW rfl .i64 .i64 len (by omega) (by omega);have hlt2:w1.heap.size+1+1<wr.heap.size:=qab wr _ (HN.out 0 (by omega)).1;go_wp2_with fail;rw[zaY];clear hmk;have H1:=Hd (Cs.born wr .u32 len (λ _=>0) 85);have H2:=Hd (HN.out.alloc hlt2 (.cells (cellsI .u32 len λ _=>0) 85));have H4:=Hd (HW.out.alloc HW.out.size (.cells (cellsI .u32 len λ _=>0) 85));have hwr:w.heap.size<=wr.heap.size:=HW.out.size;generalize (wr.alloc (.cells (cellsI .u32 len λ _=>0) 85))=w4 at *;clear HM HN HW G2 G3 H3;generalize wr.heap.size=BO at *;clear wr;go_loopw [9,10,40] (λ _ _ v wr=>∃i:Nat,i<=len/\v=.int .i64 i/\Hid (Cs wr (w1.heap.size+1+1) 16 .u32 (λ k=>if k=0 then 0 else ((first f len k+many f k i:Nat):Int)))/\Hid (Cs wr BO len .u32 (λ j=>if j<i then (word f len j:Int) else 0))/\Hid (Below w.heap.size w wr)) (λ _ _ v _=>len-(intOf v).toNat)
   case atStart=>
    refine⟨0,by omega,rfl,Hd (H2.out.congr ?_),Hd (H1.out.congr ?_),H4⟩
    ·intro k hk;by_cases e:k=0
     ·subst e;rfl
     rw[qac e,qad (by omega)];rfl
    intro j hj;rw[qac (by omega)]
   case round=>
    obtain⟨i,hi,rfl,HN,HO,HW⟩:=hrel;by_cases hlt:i<len
    ·obtain⟨a,rfl⟩:∃a,x=some a:=by
      cases x with
      | none=>have:=HX.out.1 rfl;omega
      | some a=>exact⟨a,rfl⟩
     have hab:=HX.out.block (by omega);obtain⟨hc,h1,h2⟩:=(HX.out.on (S:=λ k=>w.heap.size<=k) (Keeps.of_below HW.out) (λ b hb=>by injection hb with hb;subst hb;show ¬ _<=_;omega)).2 a rfl i hlt;obtain⟨q1,q2⟩:=HB.out.2 i hlt;obtain⟨k,hk⟩:∃k:Nat,f i=k:=⟨(f i).toNat,by omega⟩;have HK:=Hd hk;rw[hk] at hc h1 h2 q1 q2;clear hk;by_cases hk0:k=0
     ·subst hk0;go_wp2_with fail;refine⟨⟨i+1,by omega,by go_num,Hd (HN.out.congr ?_),Hd (HO.out.congr ?_),HW⟩,by simp[intOf];omega⟩
      ·intro k hk;by_cases e:k=0
       ·rw[qad e,qad e]
       rw[qac e,qac e,zbN f k i (by have:=HK.out;omega)]
      intro j hj;by_cases e:j=i
      ·subst e;have:¬ 0<f j:=by have:=HK.out;omega
       simp[word,this]
      by_cases e2:j<i
      ·rw[qad e2,qad (by omega)]
      rw[qac e2,qac (by omega)]
     have c1:wr.cell? ⟨w1.heap.size+1+1,k,none⟩=some (.int .u32 ((first f len k+many f k i:Nat):Int)):=by have:=(HN.out k (by omega)).1;simpa [hk0] using this
     have c2:=(HN.out k (by omega)).2;have c3:=(HO.out i hlt).1;have c4:=(HO.out i hlt).2;obtain⟨w1',w2',w3'⟩:=zf8 f len HC.out i k hlt HK.out (by omega) (by omega);have wb:first f len k+many f k i+1<=32768:=by omega
     clear w1' w2' w3';go_wp2_with fail;have e1:((first f len k:Nat):Int)+(many f k i:Int)+1=((first f len k+many f k (i+1):Nat):Int):=by rw[zbF f k i HK.out];omega
     have e2:((first f len k:Nat):Int)+(many f k i:Int)=(word f len i:Int):=by
      have h0:0<f i:=by have:=HK.out;omega
      have h3:(f i).toNat=k:=by have:=HK.out;omega
      unfold word;rw[qad h0,h3];omega
     rw[e1,e2];refine⟨⟨i+1,by omega,by go_num,Hd ?_,Hd ?_,Hd ?_⟩,by simp[intOf];omega⟩
     ·refine (HN.out.other _ _ (by show BO≠_;omega)).put k _ _ (by omega) ?_;intro m hm;by_cases e:m=k
      ·subst e;simp[hk0]
      rw[qac e];by_cases e2:m=0
      ·rw[qad e2,qad e2]
      rw[qac e2,qac e2,zbN f m i (by have:=HK.out;omega)]
     ·refine (HO.out.put i _ _ hlt ?_).other _ _ (by show w1.heap.size+1+1≠_;omega);intro j hj;by_cases e:j=i
      ·subst e;simp
      rw[qac e];by_cases e2:j<i
      ·rw[qad e2,qad (by omega)]
      rw[qac e2,qac (by omega)]
     exact (HW.out.setCell (by show w.heap.size<=BO;omega) _).setCell (by show w.heap.size<=w1.heap.size+1+1;omega) _
    obtain rfl:i=len:=by omega
    go_wp2_with fail;exact qaZ (v:=.tuple #[.slice (some ⟨BO,0,none⟩) i i,.nilIface]) (by simp[results,Tryz.results125,go_sem, *]) rfl ⟨HW.out,BO,hwr,rfl,HO.out.congr λ j hj=>by rw[qad hj]⟩
 ·exact absurd HB.out h1.2
 exact absurd HC.out h1.2.2
def preF (l:List UInt8) (step i:Nat):Nat:=if step<=i then (l.getD (i-step) 0).toNat else 0
theorem zcc (l:List UInt8) (step i:Nat):preF l step i<256:=by unfold preF;split;exact qcj _;decide
def undoL (k:Int) (row ahead:List UInt8) (step:Nat):Nat->List UInt8
  | 0=> []
  | n+1=>undoL k row ahead step n ++ [row.getD n 0+UInt8.ofNat (fore k (preF (undoL k row ahead step n) step n) (ahead.getD n 0).toNat (preF ahead step n))]
theorem zb7 (k:Int) (row ahead:List UInt8) (step n:Nat):(undoL k row ahead step n).length=n:=by
  induction n with
  | zero=>rfl
  | succ n ih=>simp[undoL,ih]
theorem zej (x:UInt8) (f:Nat):((x.toNat:Int)+f)%256=((x+UInt8.ofNat f).toNat:Int):=by
  rw[UInt8.toNat_add,qbI];have:=x.toNat_lt;omega
theorem zqI (s:ByteArray) (step i:Nat) (w:World) (h1:step<=8) (h2:i<=1099511627776):
    Calls Tryz.prog 115 #[.string s,.int .i64 ((i:Int)-step)] w λ e w'=>e=.returned (.int .u8 (preF s.data.toList step i:Int))/\w=w':=by
  refine (zgp s _ w (by omega) (by omega)).mono ?_;rintro e w' ⟨rfl,rfl⟩;refine⟨zbA ?_,rfl⟩;unfold preF;by_cases h:step<=i
  · rw[qad (by omega),qad h,show ((i:Int)-step).toNat=i-step by omega]
  rw[qac (by omega),qac h];rfl
theorem zql (s:ByteArray) (i:Nat) (w:World) (h2:i<=1099511627776):
    Calls Tryz.prog 115 #[.string s,.int .i64 (i:Int)] w λ e w'=>e=.returned (.int .u8 ((s.data.toList.getD i 0).toNat:Int))/\w=w':=by
  refine (zgp s _ w (by omega) (by omega)).mono ?_;rintro e w' ⟨rfl,rfl⟩;exact⟨zbA (by rw[qad (by omega)];rfl),rfl⟩
theorem zar (s:ByteArray) (i:Nat) (h:i<s.size):s[i]=s.data.toList.getD i 0:=by
  have h':i<s.data.toList.length:=by simpa using h
  rw[List.getD,qai h'];simp;rfl
theorem zdI:(Tryz.prog.info? 5).map (λ i=>(i.zero,i.size,i.bytes))=some (some (.int .u8 0),1,1):=by kernel_rfl
def undoS (k:Int) (row ahead:ByteArray) (step:Nat):ByteArray:=⟨(undoL k row.data.toList ahead.data.toList step row.size).toArray⟩
theorem zdX (k:Int) (row ahead:ByteArray) (step:Nat):(undoS k row ahead step).size=row.size:=by
  show (undoL k row.data.toList ahead.data.toList step row.size).toArray.size=_;rw[qb5,zb7]
def symL (f:Nat->Int) (n:Nat):Nat->List Nat
  | 0=> []
  | i+1=>symL f n i++(if f i=n then [i] else [])
def symA (f:Nat->Int) (len:Nat):Nat->List Nat
  | 0=> []
  | n+1=>symA f len n++symL f (n+1) len
theorem zck (f:Nat->Int) (n:Nat):∀i,(symL f n i).length=many f n i:=by
  intro i;induction i with
  | zero=>rfl
  | succ i ih=>simp only[symL,qaa,ih,many];split <;> simp
theorem znx (f:Nat->Int) (n i:Nat) (h:f i=n):symL f n (i+1)=symL f n i ++ [i]:=by simp[symL,h]
theorem zpt (f:Nat->Int) (n i:Nat) (h:¬ f i=n):symL f n (i+1)=symL f n i:=by simp[symL,h]
def upTo (f:Nat->Int) (len:Nat):Nat->Nat
  | 0=>0
  | n+1=>upTo f len n+many f (n+1) len
theorem zbz (f:Nat->Int) (len:Nat):∀n,(symA f len n).length=upTo f len n:=by
  intro n;induction n with
  | zero=>rfl
  | succ n ih=>simp only[symA,qaa,ih,zck,upTo]
theorem znW (f:Nat->Int) (len:Nat):∀N n j x,n<N->(symL f (n+1) len)[j]? =some x->(symA f len N)[upTo f len n+j]? =some x:=by
  intro N;induction N with
  | zero=>intro n j x h;omega
  | succ N ih=>
    intro n j x h hx;simp only[symA];rcases qbw.1 h with q | q
    · have h1:=ih n j x q hx;have hlt:upTo f len n+j<(symA f len N).length:=by
        rcases qa8 (upTo f len n+j) (symA f len N).length with r | r
        · exact r
        rw[qba r] at h1;cases h1
      rw[qbj hlt,h1]
    subst q;rw[qbA (by rw[zbz];omega),zbz,Nat.add_sub_cancel_left,hx]
theorem zj6 (f:Nat->Int) (len:Nat):∀n m,n<=m->upTo f len n<=upTo f len m:=by
  intro n m h;induction m with
  | zero=>
    have:n=0:=by omega
    subst this;exact qaj _
  | succ m ih=>
    rcases qa8 n (m+1) with q | q
    · have:=ih (by omega);simp only[upTo];omega
    have:n=m+1:=by omega
    subst this;exact qaj _
end Go.Proofs.YthlibiocadimhaaGreatDoor
namespace Go.Proofs.YthlibiocadimhaaGreatDoor
open Go.RowKit Go.ChangeShapes Go.WideShapes
theorem zaX:(Tryz.prog.info? 3).map (λ i=>(i.zero,i.size,i.bytes))=some (some (.int .i64 0),1,8):=by kernel_rfl
def intsV (len:Nat) (f:Nat->Int):List Value:=(List.range len).map λ i=>Value.int .i64 (f i)
theorem zbc (len:Nat) (f:Nat->Int) (i:Nat) (h:i<len):(intsV len f)[i]? =some (.int .i64 (f i)):=by simp[intsV,h]
theorem Ints.of_own {w:World} {base:Nat} {v:Value} {len:Nat} {f:Nat->Int} (h:w.ownsRow base 3 1 v len (intsV len f)) (hb:∀i,i<len-> -9223372036854775808<=f i/\f i<=9223372036854775807):
  ∃x cap,v=.slice x len cap/\Ints w x len f:=by
 rcases zah h with⟨rfl,h0⟩ | ⟨g,cap,rfl⟩
 ·subst h0;exact⟨none,0,rfl,λ _=>rfl,λ a h=>by cases h⟩
 refine⟨some ⟨g,0,none⟩,cap,rfl,(λ h=>by cases h),λ a ha i hi=>?_⟩;injection ha with ha;subst ha;rw[zae,h.cellAt i (by omega),zbc len f i hi];exact⟨rfl,hb i hi⟩
theorem zh7 (f:Nat->Int) (len n:Nat) (h1:1<=n):∀d,2^(d+1)*(first f len n+many f n len)<=first f len (n+d+1):=by
 intro d;induction d with
 | zero=>rw[qcd,zbv f len n h1,qaJ];exact qaj _
 | succ d ih=>
  rw[show n+(d+1)+1=(n+d+1)+1 by omega,zbv f len (n+d+1) (by omega),qa1,qaJ (2^(d+1)) 2,qbr,qaJ 2];exact qaW _ (by omega)
theorem apart (f:Nat->Int) (len:Nat) (i k:Nat) (hi:i<len) (hik:i≠k) (h0:0<f i) (hle:f i<=f k):word f len k/2^(f k-f i).toNat≠word f len i:=by
 obtain⟨n,hn⟩:∃n:Nat,f i=n:=⟨(f i).toNat,by omega⟩;obtain⟨m,hm⟩:∃m:Nat,f k=m:=⟨(f k).toNat,by omega⟩;have hwi:word f len i=first f len n+many f n i:=by unfold word;rw[qad h0,hn];rfl
 have hwk:word f len k=first f len m+many f m k:=by unfold word;rw[qad (by omega),hm];rfl
 rw[hwi,hwk,show (f k-f i).toNat=m-n by omega];rcases qa8 n m with h | h
 ·obtain⟨d,rfl⟩:∃d,m=n+d+1:=⟨m-n-1,by omega⟩;have h1:=zh7 f len n (by omega) d;have h2:=zc0 f n len (i+1) hi;rw[zbF f n i hn] at h2;rw[show n+d+1-n=d+1 by omega];have h3:first f len n+many f n len<=(first f len (n+d+1)+many f (n+d+1) k)/2^(d+1):=by
   rw[Nat.le_div_iff_mul_le (qbN _),qaJ];omega
  omega
 obtain rfl:m=n:=by omega
 rw[qcp,Nat.pow_zero,Nat.div_one];rcases qa8 i k with q | q
 ·have h2:=zc0 f m k (i+1) q;rw[zbF f m i hn] at h2;omega
 have h2:=zc0 f m i (k+1) (by omega);rw[zbF f m k hm] at h2;omega
end Go.Proofs.YthlibiocadimhaaGreatDoor
namespace Go.Proofs.YthlibiocadimhaaGreatDoor
open Go.RowKit
def codeAt (N a:Nat):Nat->Nat
 | 0=>0
 | n+1=>2*codeAt N a n+N/2^(a+n)%2
def NoHit (f:Nat->Int) (len N a n:Nat):Prop:=∀j,1<=j->j<=n->first f len j+many f j len<=codeAt N a j
theorem zct (N a:Nat):∀n,codeAt N a n<2^n:=by
 intro n;induction n with
 | zero=>exact (by decide:0<1)
 | succ n ih=>simp only[codeAt,qa1];have:=qbV (N/2^(a+n)) (show 0<2 by decide);omega
theorem zk4 (N a n:Nat):∀d,codeAt N a (n+d)/2^d=codeAt N a n:=by
 intro d;induction d with
 | zero=>simp
 | succ d ih=>
  rw[show n+(d+1)=n+d+1 by omega,qa1,qaJ,<- qbF];simp only[codeAt];rw[show (2*codeAt N a (n+d)+N/2^(a+(n+d))%2)/2=codeAt N a (n+d) by have:=qbV (N/2^(a+(n+d))) (show 0<2 by decide);omega,ih]
theorem zem (N a:Nat):∀k,codeAt N a (k+1)=N/2^a%2*2^k+codeAt N (a+1) k:=by
 intro k;induction k with
 | zero=>simp[codeAt]
 | succ k ih=>
  have e:codeAt N a (k+1+1)=2*codeAt N a (k+1)+N/2^(a+(k+1))%2:=rfl;rw[e,ih];simp only[codeAt];rw[show a+1+k=a+(k+1) by omega,qa1,Nat.mul_add,<- qbr,qaJ 2 (N/2^a%2),qbr (N/2^a%2),qaJ 2 (2^k)];omega
theorem zeL (x:Nat):∀k N a,N/2^a%2^k=Bts.val (Bts.high x k)->codeAt N a k=x%2^k:=by
 intro k;induction k with
 | zero=>intro N a _;simp[codeAt,qcI]
 | succ k ih=>
  intro N a h;rw[Bts.zby,qa1,qaJ (2^k) 2] at h;have h1:N/2^a%2=x/2^k%2:=by
   have:=congrArg (· % 2) h;rw[Nat.mod_mul_right_mod] at this;omega
  have h2:N/2^(a+1)%2^k=Bts.val (Bts.high x k):=by
   have:=congrArg (· / 2) h;rw[Nat.mod_mul_right_div_self] at this;rw[qa1,<- qbF,this];have:=qbV (x/2^k) (show 0<2 by decide);omega
  rw[zem,ih N (a+1) h2,h1,qa1,Nat.mod_mul,qaJ (2^k)];omega
theorem NoHit.next {f:Nat->Int} {len N a n:Nat} (h:NoHit f len N a n):first f len (n+1)<=2*codeAt N a n:=by
 cases n with
 | zero=>exact qbi _
 | succ n=>
  have:=h (n+1) (by omega) (qaj _);rw[zbv f len (n+1) (by omega)];omega
theorem NoHit.zero (f:Nat->Int) (len N a:Nat):NoHit f len N a 0:=λ j h1 h2=>by omega
theorem NoHit.succ {f:Nat->Int} {len N a n:Nat} (h:NoHit f len N a n) (h1:first f len (n+1)+many f (n+1) len<=codeAt N a (n+1)):NoHit f len N a (n+1):=by
 intro j h2 h3;rcases qa8 j (n+1) with q | q
 ·exact h j h2 (by omega)
 have:j=n+1:=by omega
 subst this;exact h1
theorem NoHit.all {f:Nat->Int} {len N a n:Nat} (h:NoHit f len N a n) (hu:upTo f len 15<=upTo f len n) (hn:n<=15):NoHit f len N a 15:=by
 have key:∀d,n+d<=15->NoHit f len N a (n+d):=by
  intro d;induction d with
  | zero=>intro _;exact h
  | succ d ih=>
   intro hd;have h1:=ih (by omega);have u1:=zj6 f len n (n+d) (by omega);have u2:=zj6 f len (n+d+1) 15 (by omega);have u3:upTo f len (n+d+1)=upTo f len (n+d)+many f (n+d+1) len:=rfl;have u4:many f (n+d+1) len=0:=by omega
   refine h1.succ ?_;have:=h1.next;show first f len (n+d+1)+many f (n+d+1) len<=2*codeAt N a (n+d)+_
   omega
 have:=key (15-n) (by omega);rwa [show n+(15-n)=15 by omega] at this
theorem zfB {f:Nat->Int} {len N a k m:Nat} (hk:f k=m) (h1:1<=m) (hc:codeAt N a m=word f len k):NoHit f len N a (m-1):=by
 intro j hj1 hj2;obtain⟨d,rfl⟩:∃d,m=j+d+1:=⟨m-j-1,by omega⟩;have e:=zk4 N a j (d+1);rw[show j+(d+1)=j+d+1 by omega,hc] at e;have hw:word f len k=first f len (j+d+1)+many f (j+d+1) k:=by unfold word;rw[qad (by omega),hk];rfl
 have hg:=zh7 f len j hj1 d;rw[<- e,Nat.le_div_iff_mul_le (qbN _),qaJ,hw];omega
theorem zog (f:Nat->Int) (n:Nat):∀i j x,(symL f n i)[j]? =some x->x<i/\f x=n/\many f n x=j:=by
 intro i;induction i with
 | zero=>intro j x h;simp[symL] at h
 | succ i ih=>
  intro j x h;simp only[symL] at h;rcases qa8 j (symL f n i).length with q | q
  ·rw[qbj q] at h;have:=ih j x h;exact⟨by omega,this.2⟩
  rw[qbA q] at h;split at h
  ·have hj:j-(symL f n i).length=0:=by
    rcases Nat.eq_zero_or_pos (j-(symL f n i).length) with r | r
    ·exact r
    rw[qba (show [i].length<=_ from r)] at h;cases h
   rw[hj] at h;simp at h;subst h;refine⟨by omega,by assumption,?_⟩;rw[<- zck];omega
  simp at h
theorem zo0 (f:Nat->Int) (len c n:Nat) (hn1:1<=n) (hn:n<=15) (h1:first f len n<=c) (h2:c<first f len n+many f n len):
  ∃k,(symA f len 15)[upTo f len (n-1)+(c-first f len n)]? =some k/\k<len/\f k=n/\word f len k=c:=by
 have hlt:c-first f len n<(symL f n len).length:=by rw[zck];omega
 refine⟨(symL f n len)[c-first f len n],?_,?_⟩
 ·obtain⟨m,rfl⟩:∃m,n=m+1:=⟨n-1,by omega⟩;exact znW f len 15 m _ _ (by omega) (qai hlt)
 obtain⟨q1,q2,q3⟩:=zog f n len _ _ (qai hlt);refine⟨q1,q2,?_⟩;unfold word;rw[qad (by omega),q2];simp only[qbm];rw[q3];omega
theorem Ybo0 {p:Prop} (h:p:=by
 by_cases hs1:s=1
 ·have t1:((s:Int) ==1)=true:=qbl.2 (by omega);have t2:((o:Int) ==1)=false:=qak.2 (by omega);clear h0 h1 hK hs1;go_wp2_with fail;go_ret;exact⟨by rw[HV.out];rfl,rfl⟩
 have t1:((s:Int) ==1)=false:=qak.2 (by omega);clear h0 h1 hK hs1;go_wp2_with fail;go_ret;exact⟨by rw[HV.out];rfl,rfl⟩):p:=h
theorem zk6 (f:Nat->Int) (i:Nat) (k:Nat) (hk:f i=k):∀n,n<=15->kraft f (i+1) n=kraft f i n+(if 1<=k/\k<=n then 2^(15-k) else 0):=by
 intro n;induction n with
 | zero=>intro _;simp[kraft];omega
 | succ n ih=>
  intro h;have e:=ih (by omega);simp only[kraft];rw[e];by_cases hkn:k=n+1
  ·subst hkn;rw[zbF f (n+1) i hk,qac (by omega),qad (by omega),qbZ,Nat.one_mul,show 15-(n+1)=14-n by omega];omega
  rw[zbN f (n+1) i (by rw[hk];omega)];by_cases h1:1<=k/\k<=n
  ·rw[qad h1,qad (by omega)];omega
  rw[qac h1,qac (by omega)];omega
noncomputable def vcode (f:Nat->Int) (len:Nat):Int:=
 open Classical in if zaT f len then if zan f len then 0 else 3 else 2
theorem zgW (f:Nat->Int) (i:Nat) (h:i<=300):kraft f i 15<=73728000:=zdk f i 15 h (by decide)
set_option maxHeartbeats 4000000 in
theorem zdY (x:Option Addr) (len cap:Nat) (f:Nat->Int) (w:World) (hx:Ints w x len f) (hl:len<=maxLen):
  Calls Tryz.prog 141 #[.slice x len cap] w λ e w'=>e=.returned (.int .i64 (vcode f len))/\w=w':=by
 unfold maxLen at hl;have HX:=Hd hx;clear hx;by_cases h300:300<len
 ·have hv:vcode f len=2:=by unfold vcode;rw[qac (by intro h;have:=h.1;omega)]
  rw[hv];go_enter Tryz.func141,Tryz.ntmps141
  go_wp2_with fail;go_ret;exact⟨rfl,rfl⟩
 go_enter Tryz.func141,Tryz.ntmps141
 go_wp2_with fail;go_loop [3,4,5,6] (λ u v o c=>∃i:Nat,i<=len/\c=.int .i64 i/\u=.int .i64 (kraft f i 15:Int)/\v=.int .i64 ((i-many f 0 i:Nat):Int)/\o=.int .i64 (many f 1 i:Int)/\Hid (∀j,j<i->0<=f j/\f j<=15)) (λ _ _ _ c=>len-(intOf c).toNat)
 case atStart=>exact⟨0,by omega,rfl,rfl,rfl,rfl,Hd λ j hj=>by omega⟩
 case round=>
  obtain⟨i,hi,rfl,rfl,rfl,rfl,HF⟩:=hrel;by_cases hlt:i<len
  ·obtain⟨a,rfl⟩:∃a,x=some a:=by
    cases x with
    | none=>have:=HX.out.1 rfl;omega
    | some a=>exact⟨a,rfl⟩
   obtain⟨hc,h1,h2⟩:=HX.out.2 a rfl i hlt;by_cases hbad:f i<0\/15<f i
   ·have HV:Hid (vcode f len=2):=Hd (by unfold vcode;rw[qac (by intro h;have:=h.2 i hlt;omega)]);rcases hbad with q | q;all_goals
     go_wp2_with fail;go_ret;exact⟨by rw[HV.out];rfl,rfl⟩
   obtain⟨k,hk⟩:∃k:Nat,f i=k:=⟨(f i).toNat,by omega⟩;have hk15:k<=15:=by omega
   have HFN:Hid (∀j,j<i+1->0<=f j/\f j<=15):=Hd (λ j hj=>by
    rcases qbw.1 hj with q | rfl
    ·exact HF.out j q
    omega)
   have HKS:=Hd (zk6 f i k hk 15 (by omega));have hkl:=zgW f i (by omega);have hm0:=zbi f 0 i;have hm1:=zbi f 1 i;rw[hk] at hc h1 h2;have HK:=Hd hk;clear hk hbad;by_cases h0:k=0
   ·subst h0;have HM0:=Hd (zbF f 0 i HK.out);have HM1:=Hd (zbN f 1 i (by rw[HK.out];decide));go_wp2_with fail;go_round
    case rel=>exact⟨i+1,by omega,by go_num,by rw[HKS.out];rfl,by rw[HM0.out];exact zbg (by omega),by rw[HM1.out],HFN⟩
    case measure=>simp[intOf];omega
   have HM0:=Hd (zbN f 0 i (by rw[HK.out];omega));obtain⟨d,hd⟩:=nmE (15-k);have hd2:(15:Int)-(k:Int)=(d:Int):=by omega
   have hd15:d<=14:=by omega
   have hp2:2^d<=16384:=qaq (n:=2) (by decide) hd15;have HKS2:Hid (kraft f (i+1) 15=kraft f i 15+2^d):=Hd (by rw[HKS.out,qad (by omega),hd]);have HD:=Hd hd;have hq1:(2:Int)^d<=16384:=by rw[show (2:Int)^d=((2^d:Nat):Int) by simp];omega
   have hq2:(0:Int)<=(2:Int)^d:=by rw[show (2:Int)^d=((2^d:Nat):Int) by simp];exact Int.natCast_nonneg _
   have t0:((k:Int) ==0)=false:=qak.2 (by omega);clear hd;by_cases hk1:k=1
   ·have t1:((k:Int) ==1)=true:=qbl.2 (by omega);have HM1:=Hd (zbF f 1 i (by rw[HK.out,hk1]));clear hk1;go_wp2_with fail;go_round
    case rel=>exact⟨i+1,by omega,by go_num,by rw[HKS2.out];exact zbg (by simp),by rw[HM0.out];exact zbg (by omega),by rw[HM1.out];go_num,HFN⟩
    case measure=>simp[intOf];omega
   have t1:((k:Int) ==1)=false:=qak.2 (by omega);have HM1:=Hd (zbN f 1 i (by rw[HK.out];omega));go_wp2_with fail;go_round
   case rel=>exact⟨i+1,by omega,by go_num,by rw[HKS2.out];exact zbg (by simp),by rw[HM0.out];exact zbg (by omega),by rw[HM1.out],HFN⟩
   case measure=>simp[intOf];omega
  obtain rfl:i=len:=by omega
  have hin:zaT f i:=⟨by omega,HF.out⟩;have hm0:=zbi f 0 i;have hC:zan f i↔(i-many f 0 i=0\/(i-many f 0 i=1/\many f 1 i=1)\/kraft f i 15=32768):=by
   unfold zan;constructor
   ·rintro (h | ⟨h,h'⟩ | h)
    ·left;omega
    ·right;left;exact⟨by omega,h'⟩
    right;right;exact h
   rintro (h | ⟨h,h'⟩ | h)
   ·left;omega
   ·right;left;exact⟨by omega,h'⟩
   right;right;exact h
  have hkl:=zgW f i (by omega);have hv1:zan f i->vcode f i=0:=λ h=>by unfold vcode;rw[qad hin,qad h]
  have hv2:¬ zan f i->vcode f i=3:=λ h=>by unfold vcode;rw[qad hin,qac h]
  rw[hC] at hv1 hv2;have HV1:=Hd hv1;have HV2:=Hd hv2;clear hv1 hv2 hC hin
  have ho:=zbi f 1 i;generalize i-many f 0 i=s at *;generalize many f 1 i=o at *;generalize kraft f i 15=K at *;by_cases h0:s=0
  ·have HV:=Hd (HV1.out (.inl h0));have t0:((s:Int) ==0)=true:=qbl.2 (by omega);clear h0;go_wp2_with fail;go_ret;exact⟨by rw[HV.out];rfl,rfl⟩
  have t0:((s:Int) ==0)=false:=qak.2 (by omega);by_cases h1:s=1/\o=1
  ·have HV:=Hd (HV1.out (.inr (.inl h1)));have t1:((s:Int) ==1)=true:=qbl.2 (by omega);have t2:((o:Int) ==1)=true:=qbl.2 (by omega);clear h0 h1;go_wp2_with fail;go_ret;exact⟨by rw[HV.out];rfl,rfl⟩
  by_cases hK:K=32768
  ·have HV:=Hd (HV1.out (.inr (.inr hK)));have t3:((K:Int) ==32768)=true:=qbl.2 (by omega);exact Ybo0
  have HV:=Hd (HV2.out (λ q=>by rcases q with q | q | q;exact h0 q;exact h1 q;exact hK q));have t3:((K:Int) ==32768)=false:=qak.2 (by omega);exact Ybo0
theorem zkI (x:Int) (w:World) (_hx1: -9223372036854775808<=x) (_hx2:x<=9223372036854775807):
  Calls Tryz.prog 152 #[.int .i64 x] w λ e w'=>e=.returned (.bool (decide (x<0\/1048576<x)))/\w=w':=by
 go_enter Tryz.func152,Tryz.ntmps152
 go_wp2_with fail
 ·go_ret;exact⟨zaG (by simp),rfl⟩
 go_ret;exact⟨rfl,rfl⟩
theorem zhd (x:Option Addr) (len cap:Nat) (f:Nat->Int) (w:World) (hx:Ints w x len f) (hl:len<=maxLen):
  Calls Tryz.prog 168 #[.slice x len cap,.func (.func 152) #[] #[]] w λ e w'=>(∃i:Int,e=.returned (.int .i64 i)/\((i= -1/\∀j,j<len->0<=f j/\f j<=1048576)\/(0<=i/\∃j,j<len/\(f j<0\/1048576<f j))))/\w=w':=by
 unfold maxLen at hl;have HX:=Hd hx;clear hx;go_enter Tryz.func168,Tryz.ntmps168
 go_wp2
 go_loop [5,8] (λ _ c=>∃i:Nat,i<=len/\c=.int .i64 i/\Hid (∀j,j<i->0<=f j/\f j<=1048576)) (λ _ c=>len-(intOf c).toNat)
 case atStart=>exact⟨0,by omega,rfl,Hd λ j hj=>by omega⟩
 case round=>
  obtain⟨i,hi,rfl,HF⟩:=hrel;by_cases hlt:i<len
  ·obtain⟨a,rfl⟩:∃a,x=some a:=by
    cases x with
    | none=>have:=HX.out.1 rfl;omega
    | some a=>exact⟨a,rfl⟩
   obtain⟨hc,h1,h2⟩:=HX.out.2 a rfl i hlt;go_wp2_with fail;refine (zkI _ _ h1 h2).mono ?_;rintro e w1 ⟨rfl,rfl⟩;by_cases hbad:f i<0\/1048576<f i
   ·have hb:=qae hbad;have HBAD:=Hd hbad;clear hbad;go_wp2_with fail;go_ret;exact⟨⟨i,rfl,.inr ⟨by omega,i,hlt,HBAD.out⟩⟩,rfl⟩
   have hb:=qaf hbad;have HBAD:=Hd hbad;clear hbad;go_wp2_with fail;go_round
   case rel=>
    refine⟨i+1,by omega,by go_num,Hd λ j hj=>?_⟩;rcases qbw.1 hj with q | rfl
    ·exact HF.out j q
    have:=HBAD.out;omega
   case measure=>simp[intOf];omega
  obtain rfl:i=len:=by omega
  go_wp2
  go_ret;exact⟨⟨-1,rfl,.inl ⟨rfl,HF.out⟩⟩,rfl⟩
theorem zfi (x:Option Addr) (len cap:Nat) (f:Nat->Int) (w:World) (hx:Ints w x len f) (hl:len<=maxLen):
  Calls Tryz.prog 151 #[.slice x len cap,.func (.func 152) #[] #[]] w λ e w'=>(∃b:Bool,e=.returned (.bool b)/\((b=false/\∀j,j<len->0<=f j/\f j<=1048576)\/(b=true/\∃j,j<len/\(f j<0\/1048576<f j))))/\w=w':=by
 go_enter Tryz.func151,Tryz.ntmps151
 go_wp2_with fail;refine (zhd x len cap f w hx hl).mono ?_;rintro e w1 ⟨⟨i,rfl,h⟩,rfl⟩;rcases h with⟨rfl,h⟩ | ⟨hi,h⟩
 ·have H:=Hd h;clear h;go_wp2_with fail;go_ret;exact⟨⟨false,rfl,.inl ⟨rfl,H.out⟩⟩,rfl⟩
 have H:=Hd h;have t:decide ((0:Int)<=i)=true:=qae hi;clear h;go_wp2_with fail;go_ret;exact⟨⟨true,by simp,.inr ⟨rfl,H.out⟩⟩,rfl⟩
set_option maxRecDepth 100000
theorem i64Sz:(Tryz.prog.info? 3).map (·.size)=some 1:=by kernel_rfl
def repI (c q:Nat) (s:Int):List Value:=List.replicate q (.int .i64 s)++List.replicate (c-q) (.int .i64 0)
theorem zgU (c q k:Nat) (s:Int) (h:q+k<=c):((repI c q s).take q++List.replicate k (.int .i64 s)++(repI c q s).drop (q+k))=repI c (q+k) s:=by
 unfold repI;rw[List.take_left' (by simp),List.drop_append,List.drop_of_length_le (by simp),qbx,qaT,List.drop_replicate,List.replicate_append_replicate];congr 2
 omega
theorem zhw (c q:Nat) (s:Int) (h:q<=c):(repI c q s).length=c:=by unfold repI;simp;omega
theorem zlw (c:Nat) (s:Int):(madeCells #[Value.int .i64 0] c).toList=repI c 0 s:=by
 unfold repI;apply List.ext_getElem
 ·simp[madeCells]
 intro i h1 h2;simp[madeCells,qcI]
set_option maxHeartbeats 4000000 in
theorem zbS (x c:Nat) (s:Int) (w:World) (hx:w.cell? ⟨x,0,none⟩=some (.int .i64 s)) (hc1:1<=c) (hc:c<=10000):
  Calls Tryz.prog 146 #[.slice (some ⟨x,0,none⟩) 1 1,.int .i64 (c:Int)] w λ e w'=>(∃g' c',e=.returned (.slice (some ⟨g',0,none⟩) c c')/\Cv w' g' c (λ _=>.int .i64 s)/\w.heap.size<=g'/\g'<w'.heap.size)/\Ext w w':=by
 have hmk:=qbR (P:=Tryz.prog) 88 3 (.int .i64 0) 8 Tryz.underlying88 zaX rfl .i64 .i64 c (by omega) (by omega);have n2:¬ (c:Int)<0:=by omega
 have wu:IntKind.u64.wrap (c:Int)=(c:Int):=by rw[IntKind.wrap_u64];omega
 have wi:IntKind.i64.wrap (c:Int)=(c:Int):=by rw[qal];omega
 have n3:¬ (9223372036854775807:Int)<(c:Int):=by omega
 have HX:=Hd hx;clear hx;go_enter Tryz.func146,Tryz.ntmps146
 go_wp2_with fail;refine (mul_one c (by omega) w).mono ?_;rintro e w2 ⟨rfl,rfl⟩;go_upto_region 7 with fail;clear hmk n2 wu wi n3;have hg:(w2.alloc (.cells (madeCells #[.int .i64 0] c) 3)).heap[w2.heap.size]? =some (.cells (repI c 0 s).toArray 3 (0,0)):=by
  rw[<- zlw,Array.toArray_toList];exact qbP w2 _
 refine zac (λ wz=>Hid (wz.heap[w2.heap.size]? =some (.cells (repI c 0 s).toArray 3 (0,0)))/\Hid (Ext w2 wz)/\Hid (wz.cell? ⟨x,0,none⟩=some (.int .i64 s))) ⟨Hd hg,Hd (Ext.alloc (Ext.refl _) _),Hd ((((Ext.refl w2).alloc _).keeps (S:=λ _=>False) |>.cell (p:=⟨x,0,none⟩) (qab w2 _ HX.out) id).trans HX.out)⟩ ?_;clear hg HX;obtain⟨G,hG⟩:=nmE (w2.heap.size);rw[hG];have HG:=Hd hG;clear hG;rintro w3 ⟨HW,HE,HC⟩;have hcp:=run_copy_row (P:=Tryz.prog) w3 88 88 3 3 G 0 c c ⟨x,0,none⟩ 1 1 (repI c 0 s).toArray 3 (List.replicate 1 (.int .i64 s)) Tryz.underlying88 i64Sz HW.out (by simp[Nat.min_def];omega) (by
  intro j v hj;have:j=0:=by have:=(qa7.1 hj).1;simp at this;omega
  subst this;simp at hj;subst hj;rw[zae];exact HC.out) (by rw[qb5,zhw c 0 s (by omega)];simp;omega) (by simp[Value.oneCell'])
 have hst:=zgU c 0 1 s (by omega);rw[Nat.zero_add] at hst;rw[qaT,Nat.zero_add] at hcp;rw[show (repI c 0 s).toArray.toList=repI c 0 s from rfl,hst] at hcp;have HS3:=Hd (setRow_heap w3 G (repI c 0 s).toArray (repI c 1 s).toArray 3 (0,0) HW.out);have HE3:=Hd (below_setRow (B:=G) (w0:=w2) (by rw[<- HG.out];exact HE.out) (qaj G) (repI c 1 s).toArray);clear hst HW HE HC;go_wp2_with fail;clear hcp;refine zac (λ wz=>Hid (wz.heap[G]? =some (.cells (repI c 1 s).toArray 3 (0,0)))/\Hid (Below G w2 wz)) ⟨HS3,HE3⟩ ?_;clear HS3 HE3;rintro w4 ⟨HS,HE⟩;go_loopg [8] (c-1) (λ k cc wr=>∃q:Nat,1<=q/\q+k=c/\cc=.int .i64 (q:Int)/\Hid (wr.heap[G]? =some (.cells (repI c q s).toArray 3 (0,0)))/\Hid (Below G w2 wr))
 case atStart=>exact⟨1,qaj _,by omega,rfl,HS,HE⟩
 case round=>
  clear HS HE;obtain⟨q,hq1,hqk,rfl,HS,HE⟩:=hrel;by_cases hlt:q<c
  ·obtain⟨D,hD⟩:=nmE (c-q);obtain⟨k,hk⟩:=nmE (Nat.min q D);have hk1:1<=k/\q+k<=c/\k<=q/\k<=D:=by have e:Nat.min q D=min q D:=rfl;rw[e] at hk;omega
   have hcp:=run_copy_row (P:=Tryz.prog) wr.drew 88 88 3 3 G q D D ⟨G,0,none⟩ q c (repI c q s).toArray 3 (List.replicate k (.int .i64 s)) Tryz.underlying88 i64Sz HS.out (by rw[qaT];exact hk.symm) (by
    intro j v hj;have hj1:j<k:=by have:=(qa7.1 hj).1;simpa using this
    rw[List.getElem?_replicate,qad hj1] at hj;rw[zae];have h1:wr.drew.cell? ⟨G,j,none⟩=(repI c q s).toArray[j]?:=by
     have h2:wr.drew.heap[G]? =some (.cells (repI c q s).toArray 3 (0,0)):=HS.out;rw[qbQ h2]
    rw[h1,qaz];unfold repI;rw[qbj (by simp;omega),List.getElem?_replicate,qad (by omega)];exact hj) (by rw[qb5,zhw c q s (by omega),qaT];omega) (by intro v hv;rw[qb0 hv];rfl)
   rw[qaT,show (repI c q s).toArray.toList=repI c q s from rfl,zgU c q k s hk1.2.1] at hcp;obtain⟨Q2,hQ2⟩:=nmE (q+k);rw[hQ2] at hcp;have HS2:=Hd (setRow_heap wr G (repI c q s).toArray (repI c Q2 s).toArray 3 (0,0) HS.out);have HE2:=Hd (below_setRow (B:=G) (w0:=w2) (qag HE.out) (qaj G) (repI c Q2 s).toArray);have hDI:(c:Int)-(q:Int)=(D:Int):=by omega
   have hql:q<=c:=by omega
   have hqk2:(q:Int)+(k:Int)=(Q2:Int):=by omega
   have HK:=Hd (qaB hk1 (qaB hD hQ2));have wq_:=wqz (x:=(Q2:Int));clear hk HS HE hk1 hQ2;have mixed: Tryz.prog.follows .mixedOrders=true:=by kernel_rfl
   go_wp2_with fail;go_region_o
   all_goals (go_wp2_with fail)
   all_goals (go_roundg (c-Q2))
   all_goals first
    | (have:=HK.out;omega)
    | exact⟨Q2,by have:=HK.out;omega,by have:=HK.out;omega,rfl,HS2,HE2⟩
  obtain rfl:q=c:=by omega
  go_wp2_with fail;go_ret;refine⟨⟨G,q,rfl,λ i hi=>?_,by rw[HG.out];exact qaj _,qbK HS.out⟩,by have:=HE.out;rw[<- HG.out] at this;exact this⟩;have h2:=HS.out;refine⟨?_,by simp[World.frozen?,h2]⟩;rw[qbQ h2,qaz];unfold repI;rw[qbj (by simp;omega),List.getElem?_replicate,qad hi]
theorem zgN (s:ByteArray) (k:Nat) (h:k<s.size):s.data.toList.take (k+1)=s.data.toList.take k ++ [s[k]]:=by
 rw[qbJ (by simpa using h)];rfl
theorem zih (p:Nat × Nat) (s:ByteArray) (k:Nat) (h:k<s.size):Adl.run p (s.data.toList.take (k+1))=Adl.step (Adl.run p (s.data.toList.take k)) s[k].toNat:=by
 rw[zgN s k h];simp[Adl.run,List.foldl_append]
theorem zpp (x y:Nat) (hx:x<65521) (hy:y<65521):bits BinOp.or IntKind.u32 ((y:Int)*65536) (x:Int)=((Adl.tell (x,y):Nat):Int):=by
 rw[show ((y:Int)*65536)=((y*65536:Nat):Int) by omega,u32_or_nat _ _ (by omega) (by omega)];rw[nat_join 16 (y*65536) x (by omega) (by omega)];rfl
theorem zg3 (a:Nat) (s:ByteArray) (w:World) (ha:a<4294967296) (hs:s.size<=maxLen):
  Calls Tryz.prog 90 #[.int .u32 (a:Int),.string s] w λ e w'=>e=.returned (.int .u32 ((Adl.more a s.data.toList:Nat):Int))/\w=w':=by
 unfold maxLen at hs;have ea:bits BinOp.and IntKind.u32 (a:Int) 65535=((a%65536:Nat):Int):=by
  have:=u32_and_nat a 65535 ha (by decide);rw[nat_mask16] at this;exact this
 go_enter Tryz.func90,Tryz.ntmps90
 go_wp2
 clear ea;go_loop [5,6,7,16] (λ u v _ i=>∃k x y:Nat,k<=s.size/\x<65521/\y<65521/\Hid (Adl.run (Adl.start a) (s.data.toList.take k)=(x,y))/\i=.int .i64 k/\u=.int .u32 x/\v=.int .u32 y) (λ _ _ _ i=>s.size-(intOf i).toNat)
 case atStart=>exact⟨0,a%65536%65521,a/65536%65521,by omega,by omega,by omega,rfl,rfl,by go_num,by go_num⟩
 case round=>
  obtain⟨k,x,y,hk,hx,hy,HR,rfl,rfl,rfl⟩:=hrel;by_cases hlt:k<s.size
  ·have HS:Hid (Adl.run (Adl.start a) (s.data.toList.take (k+1))=((x+s[k].toNat)%65521,(y+(x+s[k].toNat)%65521)%65521)):=by
    have:=zih (Adl.start a) s k hlt;rw[HR.out] at this;exact this
   have hb:s[k].toNat<256:=s[k].toNat_lt;go_wp2
   go_round
   case rel=>exact⟨k+1,_,_,by omega,qbV _ (by decide),qbV _ (by decide),HS,by go_num,by go_num,by go_num⟩
   case measure=>simp[intOf];omega
  obtain rfl:k=s.size:=by omega
  have eo:=zpp x y hx hy;have HF:Hid (Adl.more a s.data.toList=Adl.tell (x,y)):=by
   have:=HR.out;rw[qan (by simp)] at this;unfold Adl.more;rw[this];rfl
  go_wp2
  go_ret;exact⟨by rw[HF.out];rfl,rfl⟩
theorem zgu (s:ByteArray) (w:World) (hs:s.size<=maxLen):
  Calls Tryz.prog 55 #[.string s] w λ e w'=>e=.returned (.int .u32 ((Adl.adler s.data.toList:Nat):Int))/\w=w':=by
 go_enter Tryz.func55,Tryz.ntmps55
 go_wp2_with (go_at_call 90;refine (zg3 1 _ _ (by omega) hs).mono ?_;rintro e w' ⟨rfl,rfl⟩);go_ret;exact⟨rfl,rfl⟩
theorem zaF (s:ByteArray):s.data.toList.length=s.size:=rfl
def vstep (x:Nat) (b:UInt8):Nat:=x%16777216*256+b.toNat
def valN (l:List UInt8):Nat:=l.foldl vstep 0
theorem znr (x:Nat) (b:UInt8):vstep x b<4294967296:=by unfold vstep;have:=b.toNat_lt;omega
theorem zen {l:List UInt8} {k:Nat} (hk:k<l.length):valN (l.take (k+1))=vstep (valN (l.take k)) l[k]:=by
 unfold valN;rw[qbS,qai hk,List.foldl_append];rfl
theorem zca (l:List UInt8):valN l<4294967296:=by
 rcases List.eq_nil_or_concat l with rfl | ⟨q,b,rfl⟩
 ·decide
 unfold valN;rw[List.concat_eq_append,List.foldl_append];exact znr _ _
theorem zgC (a b c d:UInt8):valN [a,b,c,d]=16777216*a.toNat+65536*b.toNat+256*c.toNat+d.toNat:=by
 have:=a.toNat_lt;have:=b.toNat_lt;have:=c.toNat_lt;simp only[valN,List.foldl_cons,List.foldl_nil,vstep];omega
def big4 (n:Nat):List UInt8:=[UInt8.ofNat (n/16777216),UInt8.ofNat (n/65536),UInt8.ofNat (n/256),UInt8.ofNat n]
theorem zcn (n:Nat) (h:n<4294967296):valN (big4 n)=n:=by
 unfold big4;rw[zgC];simp only[qbI];omega
theorem zmx (a b c d:UInt8):big4 (valN [a,b,c,d])=[a,b,c,d]:=by
 have:=a.toNat_lt;have:=b.toNat_lt;have:=c.toNat_lt;have:=d.toNat_lt;rw[zgC];have e:∀(x:Nat) (y:UInt8),x%256=y.toNat->UInt8.ofNat x=y:=λ x y h=>by
  apply UInt8.toNat_inj.1;rw[qbI];exact h
 unfold big4;rw[e _ a (by omega),e _ b (by omega),e _ c (by omega),e _ d (by omega)]
theorem zj7 (x:Nat) (y:UInt8):bits BinOp.or IntKind.u32 ((x:Int)*256%4294967296) ((y.toNat:Int)%4294967296)=((vstep x y:Nat):Int):=by
 have hy:=y.toNat_lt;rw[show (y.toNat:Int)%4294967296=(y.toNat:Int) by omega,show ((x:Int)*256%4294967296)=((x%16777216*256:Nat):Int) by omega,u32_or_nat _ _ (by omega) (by omega),nat_join 8 (x%16777216*256) y.toNat (by omega) (by omega)];rfl
theorem zcu (s:ByteArray) (w:World) (hs:s.size<=maxLen) (h4:4<=s.size):Calls Tryz.prog 37 #[.string s] w λ e w'=>e=.returned (.int .u32 ((valN (s.data.toList.take 4):Nat):Int))/\w=w':=by
 unfold maxLen at hs;go_enter Tryz.func37,Tryz.ntmps37
 go_wp2_with fail;go_loop [3,4] (λ x c=>∃k:Nat,k<=4/\c=.int .i64 k/\x=.int .u32 ((valN (s.data.toList.take k):Nat):Int)) (λ _ c=>4-(intOf c).toNat)
 case atStart=>exact⟨0,by omega,rfl,by rw[qaH];rfl⟩
 case round=>
  obtain⟨k,hk,rfl,rfl⟩:=hrel;by_cases hlt:k<4
  ·have t0:=dT (p:=(k:Int)<4);have hks:k<s.size:=by omega
   have hv:valN (s.data.toList.take (k+1))=vstep (valN (s.data.toList.take k)) s[k]:=zen (by rw[zaF];exact hks);obtain⟨x,hx⟩:=nmE (valN (s.data.toList.take k));have hxl:=zca (s.data.toList.take k);rw[hx] at hv hxl⊢;have ho:(((x:Int)*256%4294967296+(s[k].toNat:Int))%4294967296)=((vstep x s[k]:Nat):Int):=by unfold vstep;have:=s[k].toNat_lt;omega
   go_wp2_with fail;go_round
   case rel=>exact⟨k+1,by omega,by go_num,by rw[hv];go_num⟩
   case measure=>simp[intOf];omega
  obtain rfl:k=4:=by omega
  go_wp2_with fail;go_ret;exact⟨rfl,rfl⟩
theorem zho (s:ByteArray) (w:World) (hs:s.size<=maxLen):
  Calls Tryz.prog 48 #[.string s] w λ e w'=>e=.returned (.int .u32 ((Adl.adler s.data.toList:Nat):Int))/\w=w':=by
 unfold maxLen at hs;go_enter Tryz.func48,Tryz.ntmps48
 go_wp2
 go_loop [3,4,5] (λ u v i=>∃k x y:Nat,k<=s.size/\x<65521/\y<65521/\Hid (Adl.run (Adl.start 1) (s.data.toList.take k)=(x,y))/\i=.int .i64 k/\u=.int .i64 x/\v=.int .i64 y) (λ _ _ i=>s.size-(intOf i).toNat)
 case atStart=>exact⟨0,1,0,by omega,by omega,by omega,rfl,by go_num,by go_num,by go_num⟩
 case round=>
  obtain⟨k,x,y,hk,hx,hy,HR,rfl,rfl,rfl⟩:=hrel;by_cases hlt:k<s.size
  ·have HS:Hid (Adl.run (Adl.start 1) (s.data.toList.take (k+1))=((x+s[k].toNat)%65521,(y+(x+s[k].toNat)%65521)%65521)):=by
    have:=zih (Adl.start 1) s k hlt;rw[HR.out] at this;exact this
   have hb:s[k].toNat<256:=s[k].toNat_lt;go_wp2
   go_round
   case rel=>exact⟨k+1,_,_,by omega,qbV _ (by decide),qbV _ (by decide),HS,by go_num,by go_num,by go_num⟩
   case measure=>simp[intOf];omega
  obtain rfl:k=s.size:=by omega
  have HF:Hid (Adl.adler s.data.toList=Adl.tell (x,y)):=by
   have:=HR.out;rw[qan (by simp)] at this;unfold Adl.adler;unfold Adl.more;rw[this];rfl
  go_wp2
  go_ret;exact⟨by rw[HF.out];simp[Adl.tell],rfl⟩

theorem zqh (w:World):(zeroValue 242).run Tryz.prog w=.ok (.agg (Array.replicate 256 (.int .u32 0))) w:=by kernel_rfl
@[irreducible] def tabArr (k:Nat):Array Value:=(List.map (λ i:Nat=>Value.int .u32 ((if i<k then Crc.Tn 8 i else 0:Nat):Int)) (List.range 256)).toArray
theorem zi6:Array.replicate 256 (Value.int .u32 0)=tabArr 0:=by
 unfold tabArr;apply Array.ext
 ·simp
 intro i h1 h2;simp
theorem zcB (k i:Nat) (h:i<256):(tabArr k)[i]? =some (.int .u32 ((if i<k then Crc.Tn 8 i else 0:Nat):Int)):=by
 unfold tabArr;simp[h]
theorem zci (k:Nat):(tabArr k).size=256:=by unfold tabArr;simp
theorem zkR (k:Nat) (_h:k<256):(tabArr k).setIfInBounds k (.int .u32 (Crc.Tn 8 k:Nat))=tabArr (k+1):=by
 apply Array.ext
 ·simp[zci]
 intro i h1 h2;have h3:i<256:=by simpa [zci] using h2
 have e2:=zcB (k+1) i h3;have e1:=zcB k i h3;rw[qck h2] at e2;rw[qck (by rw[zci];exact h3)] at e1;rw[Option.some_inj] at e1 e2;rw[Array.getElem_setIfInBounds (by rw[zci];exact h3),e2,e1];by_cases hik:k=i
 ·subst hik;simp
 rw[qac hik];congr 3;have:(i<k+1)=(i<k):=by apply propext;omega
 rw[this]
  
theorem zkp (x:Nat) (hx:x<4294967296):
  bits BinOp.xor IntKind.u32 ((x:Int)/2) (bits BinOp.and IntKind.u32 3988292384 (-bits BinOp.and IntKind.u32 (x:Int) 1%4294967296))=((Crc.T x:Nat):Int):=by
 have e1:bits BinOp.and IntKind.u32 (x:Int) 1=((x%2:Nat):Int):=by
  have:=u32_and_nat x 1 hx (by decide);rw[nat_mask1] at this;exact this
 rw[e1];rcases qbT x with h | h
 ·rw[h];have e2:bits BinOp.and IntKind.u32 3988292384 (-((0:Nat):Int)%4294967296)=((0:Nat):Int):=by
   have:=u32_and_nat 3988292384 0 (by decide) (by decide);simpa using this
  rw[e2];have:=u32_xor_nat (x/2) 0 (by omega) (by decide);rw[show ((x:Int)/2)=((x/2:Nat):Int) by omega,this];unfold Crc.T;rw[h];simp
 rw[h];have e2:bits BinOp.and IntKind.u32 3988292384 (-((1:Nat):Int)%4294967296)=((3988292384:Nat):Int):=by
  have:=u32_and_nat 3988292384 4294967295 (by decide) (by decide);rw[show (-((1:Nat):Int)%4294967296)=((4294967295:Nat):Int) by decide];exact this.trans (by decide)
 rw[e2];have:=u32_xor_nat (x/2) 3988292384 (by omega) (by decide);rw[show ((x:Int)/2)=((x/2:Nat):Int) by omega,this];unfold Crc.T;rw[h];simp
theorem zqj {a b:Int} (h:a=b):Value.int IntKind.u32 a=Value.int IntKind.u32 b:=by rw[h]
set_option maxRecDepth 10000 in
theorem zlK (w:World):Calls Tryz.prog 132 #[] w λ e w'=>e=.returned (.pointer (some ⟨w.heap.size,0,none⟩))/\w'=w.alloc (.cells (tabArr 256) 242):=by
 go_enter Tryz.func132,Tryz.ntmps132
 have hz:=zqh;go_wp2
 rw[zi6];clear hz;go_loopw [2,3,4,9] (λ _ _ i _ wr=>∃k:Nat,k<=256/\i=.int .i64 k/\wr=w.alloc (.cells (tabArr k) 242)) (λ _ _ i _ _=>256-(intOf i).toNat)
 case atStart=>exact⟨0,by omega,rfl,rfl⟩
 case round=>
  obtain⟨k,hk,rfl,rfl⟩:=hrel;by_cases hlt:k<256
  ·go_wp2
   go_loop [3,9] (λ c j=>∃m:Nat,m<=8/\j=.int .i64 m/\c=.int .u32 ((Crc.Tn m k:Nat):Int)) (λ _ j=>8-(intOf j).toNat)
   case atStart=>exact⟨0,by omega,rfl,rfl⟩
   case round=>
    obtain⟨m,hm,rfl,rfl⟩:=hrel;have hT:Crc.Tn m k<4294967296:=Crc.zhc (by omega);by_cases hm8:m<8
    ·go_wp2
     go_round
     case rel=>exact⟨m+1,by omega,by go_num,by rw[Crc.zjq];exact zqj (zkp _ hT)⟩
     case measure=>simp[intOf];omega
    obtain rfl:m=8:=by omega
    have hg:=zcB k k hlt;go_wp2
    go_roundw
    case rel=>exact⟨k+1,by omega,by go_num,by rw[zkR k hlt]⟩
    case measure=>simp[intOf];omega
  obtain rfl:k=256:=by omega
  go_wp2
  go_ret;exact⟨rfl,rfl⟩

theorem ziq (c:Nat) (s:ByteArray) (k:Nat) (h:k<s.size):Crc.run c (s.data.toList.take (k+1))=Crc.byte (Crc.run c (s.data.toList.take k)) s[k].toNat:=by
 rw[zgN s k h];simp[Crc.run,List.foldl_append]
theorem zlP (x b:Nat) (hb:b<256):bits BinOp.xor IntKind.u8 ((x:Int)%256) (b:Int)=((x%256 ^^^ b:Nat):Int):=by
 rw[show ((x:Int)%256)=((x%256:Nat):Int) by omega];exact u8_xor_nat _ _ (by omega) hb
theorem zlf (x b n:Nat) (hx:x<4294967296) (hb:b<256) (hn:x%256 ^^^ b=n):bits BinOp.xor IntKind.u32 ((Crc.Tn 8 n:Nat):Int) ((x:Int)/256)=((Crc.byte x b:Nat):Int):=by
 have h256:n<2^8:=by rw[<- hn];exact qci (by omega) (by omega)
 rw[show ((x:Int)/256)=((x/256:Nat):Int) by omega,u32_xor_nat _ _ (Crc.zhc (by omega)) (by omega),Crc.znA x b hb,hn]
theorem zfz (c:Nat) (hc:c<4294967296):bits BinOp.xor IntKind.u32 IntKind.u32.max (c:Int)=((Crc.flip c:Nat):Int):=by
 rw[show (IntKind.u32.max:Int)=((4294967295:Nat):Int) by decide,u32_xor_nat _ _ (by decide) hc];unfold Crc.flip;rw[Nat.xor_comm]
set_option maxRecDepth 10000 in
theorem ziJ (c:Nat) (s:ByteArray) (w:World) (hc:c<4294967296) (hs:s.size<=maxLen):
  Calls Tryz.prog 92 #[.int .u32 (c:Int),.string s] w λ e w'=>e=.returned (.int .u32 ((Crc.more c s.data.toList:Nat):Int))/\Ext w w':=by
 unfold maxLen at hs;have hflip:=zfz c hc;go_enter Tryz.func92,Tryz.ntmps92
 go_wp2_with (go_at_call 132;refine (zlK _).mono ?_;rintro e w' ⟨rfl,rfl⟩);clear hflip;have hlt0:Crc.flip c<4294967296:=Crc.zge hc;go_loopw [0,6,12] (λ v _ i wr=>∃k n:Nat,k<=s.size/\i=.int .i64 k/\v=.int .u32 ((Crc.run (Crc.flip c) (s.data.toList.take k):Nat):Int)/\wr=(w.alloc (.cells (tabArr 256) 242)).drewN n) (λ _ _ i _=>s.size-(intOf i).toNat)
 case atStart=>exact⟨0,0,by omega,rfl,rfl,rfl⟩
 case round=>
  obtain⟨k,n,hk,rfl,rfl,rfl⟩:=hrel;have hx:Crc.run (Crc.flip c) (s.data.toList.take k)<4294967296:=Crc.zid hlt0 _;by_cases hlt:k<s.size
  ·have HS:=Hd (ziq (Crc.flip c) s k hlt);obtain⟨x,hxe⟩:∃x,x=Crc.run (Crc.flip c) (s.data.toList.take k):=⟨_,rfl⟩;rw[<- hxe] at hx HS;rw[<- hxe];have HX:=Hd hxe;clear hxe;have hb:s[k].toNat<256:=s[k].toNat_lt;have h256:x%256 ^^^ s[k].toNat<2^8:=qci (by omega) (by omega);obtain⟨j,hj⟩:=nmE (x%256 ^^^ s[k].toNat);have e1:=zlP x s[k].toNat hb;have e2:=zlf x s[k].toNat j hx hb hj;rw[hj] at e1 h256;have h257:(j:Int)<256:=by omega
   have e3:=zcB 256 j (by omega);rw[qad (by omega)] at e3;clear hj h256;go_wp2
   go_quiet (fail)
   go_wp2
   go_roundw
   case rel=>exact⟨k+1,_,by omega,by go_num,by rw[HS.out],rfl⟩
   case measure=>simp[intOf];omega
  obtain rfl:k=s.size:=by omega
  have ht:List.take s.size s.data.toList=s.data.toList:=qan (by simp);rw[ht] at hx⊢;clear ht;have e1:=zfz _ hx;go_wp2
  go_ret;exact⟨rfl,((Ext.refl w).alloc _).drewN _⟩
theorem zjY (s:ByteArray) (w:World) (hs:s.size<=maxLen):
  Calls Tryz.prog 59 #[.string s] w λ e w'=>e=.returned (.int .u32 ((Crc.crc s.data.toList:Nat):Int))/\Ext w w':=by
 go_enter Tryz.func59,Tryz.ntmps59
 go_wp2_with (go_at_call 92;refine (ziJ 0 _ _ (by omega) hs).mono ?_;rintro e w' ⟨rfl,h⟩);go_ret;exact⟨rfl,h⟩
theorem Yex0 {p : Prop} (h : p := by
  go_wp2_with fail
  go_ret
  exact ⟨zaG (by unfold kindB; rw [zaF, qaf h4]; rfl), rfl⟩) : p := h
def za5 (b : UInt8) : Bool := decide (97 <= (b ||| 32).toNat) && decide ((b ||| 32).toNat <= 122)
def kindB (l : List UInt8) : Bool := decide (l.length = 4) && l.all za5
theorem zhf {l : List UInt8} {p : UInt8 -> Bool} {k : Nat} (h : (l.take k).all p = false) : l.all p = false := by
  rw [<- List.take_append_drop k l, List.all_append, h]; rfl
theorem zd1 {l : List UInt8} {p : UInt8 -> Bool} {k : Nat} (hk : k < l.length) : (l.take (k + 1)).all p = ((l.take k).all p && p l[k]) := by
  rw [qbS, qai hk, List.all_append]; simp
theorem zoo : ∀ n : Fin 256, bits BinOp.or IntKind.u8 (n.val : Int) 32 = ((n.val ||| 32 : Nat) : Int) := by decide +kernel
theorem or32 (b : UInt8) : bits BinOp.or IntKind.u8 (b.toNat : Int) 32 = ((b ||| 32).toNat : Int) := by
  have h := zoo ⟨b.toNat, b.toNat_lt⟩
  rw [UInt8.toNat_or]
  exact h
theorem zkx : ∀ n : Fin 256, (decide (97 <= (n.val ||| 32)) && decide ((n.val ||| 32) <= 122)) = ((decide (97 <= n.val) && decide (n.val <= 122)) || (decide (65 <= n.val) && decide (n.val <= 90))) := by decide +kernel
theorem ziE (b : UInt8) : za5 b = ((decide (97 <= b.toNat) && decide (b.toNat <= 122)) || (decide (65 <= b.toNat) && decide (b.toNat <= 90))) := by
  have h := zkx ⟨b.toNat, b.toNat_lt⟩
  unfold za5
  rw [UInt8.toNat_or]
  exact h
theorem zdD (s : ByteArray) (w : World) (hs : s.size <= maxLen) :
    Calls Tryz.prog 57 #[.string s] w λ e w' => e = .returned (.bool (kindB s.data.toList)) /\ w = w' := by
  unfold maxLen at hs
  by_cases h4 : s.size = 4
  · have t4 : ((s.size : Int) == 4) = true := qbl.2 (by omega)
    go_enter Tryz.func57, Tryz.ntmps57
    go_wp2_with fail
    go_loop [3, 4] (λ o c => ∃ k : Nat, k <= s.size /\ c = .int .i64 k /\ o = .bool ((s.data.toList.take k).all za5)) (λ _ c => s.size - (intOf c).toNat)
    case atStart => exact ⟨0, by omega, rfl, by rw [qaH]; rfl⟩
    case round =>
      obtain ⟨k, hk, rfl, rfl⟩ := hrel
      obtain ⟨o, ho⟩ := nmE ((s.data.toList.take k).all za5)
      rw [ho]
      by_cases hlt : k < s.size
      · have t0 := dT (p := (k : Int) < (s.size : Int))
        cases o with
        | true =>
          have hb : (s.data.toList.take (k + 1)).all za5 = za5 s[k] := by
            rw [zd1 (by rw [zaF]; exact hlt), ho]; rfl
          have e1 := or32 s[k]
          obtain ⟨b, hbb⟩ := nmE (s[k])
          rw [hbb] at hb e1
          obtain ⟨m, hm⟩ := nmE ((b ||| 32).toNat)
          have hlet : za5 b = (decide (97 <= m) && decide (m <= 122)) := by unfold za5; rw [hm]
          rw [hm] at e1
          have e2 : bits BinOp.or IntKind.u8 (s[k].toNat : Int) 32 = (m : Int) := by rw [hbb]; exact e1
          by_cases q1 : 97 <= m
          · have t1 := dT (p := (97 : Int) <= (m : Int))
            go_wp2_with fail
            go_round
            case rel => exact ⟨k + 1, by omega, by go_num, by rw [hb, hlet, qae q1, Bool.true_and]; exact congrArg Value.bool (by rw [qbX, qaP, qaP]; omega)⟩
            case measure => simp [intOf]; omega
          have t1 := dF (p := (97 : Int) <= (m : Int))
          go_wp2_with fail
          go_round
          case rel => exact ⟨k + 1, by omega, by go_num, by rw [hb, hlet, qaf q1]; rfl⟩
          case measure => simp [intOf]; omega
        | false =>
          go_wp2_with fail
          go_ret
          exact ⟨zaG (by unfold kindB; rw [zhf ho, Bool.and_false]), rfl⟩
      obtain rfl : k = s.size := by omega
      have t0 := dF (p := (s.size : Int) < (s.size : Int))
      rw [qan (by rw [zaF]; omega)] at ho
      go_wp2_with fail
      go_ret
      exact ⟨zaG (by unfold kindB; rw [ho, zaF, qae h4, Bool.true_and]), rfl⟩
  have t4 : ((s.size : Int) == 4) = false := qak.2 (by omega)
  go_enter Tryz.func57, Tryz.ntmps57
  go_wp2_with fail
  go_loop [3, 4] (λ o c => c = .int .i64 0 /\ o = .bool false) (λ _ c => 0)
  case atStart => exact ⟨rfl, rfl⟩
  case round =>
    obtain ⟨rfl, rfl⟩ := hrel
    by_cases hlt : 0 < s.size
    · have t0 := dT (p := (0 : Int) < (s.size : Int))
      exact Yex0
    have t0 := dF (p := (0 : Int) < (s.size : Int))
    exact Yex0
theorem ziQ (s : ByteArray) (w : World) :
    Calls Tryz.prog 38 #[.string s] w λ e w' => e = .returned (.bool (kindB s.data.toList)) /\ w = w' := by
  by_cases h4 : s.size = 4
  · have t4 : ((s.size : Int) == 4) = true := qbl.2 (by omega)
    go_enter Tryz.func38, Tryz.ntmps38
    go_wp2_with fail
    go_loop [3] (λ c => ∃ k : Nat, k <= 4 /\ c = .int .i64 k /\ (s.data.toList.take k).all za5 = true) (λ c => 4 - (intOf c).toNat)
    case atStart => exact ⟨0, by omega, rfl, by rw [qaH]; rfl⟩
    case round =>
      obtain ⟨k, hk, rfl, ho⟩ := hrel
      by_cases hlt : k < 4
      · have hks : k < s.size := by omega
        have t0 := dT (p := (k : Int) < 4)
        have hb : (s.data.toList.take (k + 1)).all za5 = za5 s[k] := by
          rw [zd1 (by rw [zaF]; exact hks), ho]; rfl
        have hlet := ziE s[k]
        obtain ⟨m, hm⟩ := nmE (s[k].toNat)
        rw [hm] at hlet
        have hm2 : (s[k].toNat : Int) = (m : Int) := congrArg _ hm
        have no : za5 s[k] = false -> kindB s.data.toList = false := λ h => by
          unfold kindB; rw [zhf (hb.trans h), Bool.and_false]
        have NO := Hd no
        have HB := Hd hb
        have HL := Hd hlet
        clear no hb hlet
        by_cases q1 : 97 <= m <;> by_cases q2 : m <= 122 <;> by_cases q3 : 65 <= m <;> by_cases q4 : m <= 90 <;> first
          | (exfalso; omega)
          | (have t1 : decide ((97 : Int) <= (m : Int)) = decide (97 <= m) := by rw [qbX, qaP, qaP]; omega
             have t2 : decide ((m : Int) <= 122) = decide (m <= 122) := by rw [qbX, qaP, qaP]; omega
             have t3 : decide ((65 : Int) <= (m : Int)) = decide (65 <= m) := by rw [qbX, qaP, qaP]; omega
             have t5 : decide ((m : Int) <= 90) = decide (m <= 90) := by rw [qbX, qaP, qaP]; omega
             simp only [q1, q2, q3, q4, decide_true, decide_false] at t1 t2 t3 t5
             clear hm
             go_wp2_with fail
             first
               | (go_round
                  case rel => exact ⟨k + 1, by omega, by go_num, by rw [HB.out, HL.out]; simp [q1, q2, q3, q4]⟩
                  case measure => simp [intOf]; omega)
               | (go_ret
                  exact ⟨zaG (NO.out (by rw [HL.out]; simp [q1, q2, q3, q4])).symm, rfl⟩))
      obtain rfl : k = 4 := by omega
      rw [qan (by rw [zaF]; omega)] at ho
      go_wp2_with fail
      go_ret
      exact ⟨zaG (by unfold kindB; rw [ho, zaF, qae h4]; rfl), rfl⟩
  have t4 : ((s.size : Int) == 4) = false := qak.2 (by omega)
  go_enter Tryz.func38, Tryz.ntmps38
  exact Yex0
theorem zdK (n:Nat) (hn:n<4294967296) (w:World):Calls Tryz.prog 52 #[.int .u32 (n:Int)] w λ e w'=>e=.returned (.string ⟨(big4 n).toArray⟩)/\Ext w w':=by
 obtain⟨wa,hwa⟩:∃wa,wa=w.alloc (.cells #[.int .u8 ((n:Int)/16777216),.int .u8 ((n:Int)/65536%256),.int .u8 ((n:Int)/256%256),.int .u8 ((n:Int)%256)] 5):=⟨_,rfl⟩;have hcr:(convert 62 9 (.slice (some ⟨w.heap.size,0,none⟩) 4 4)).run Tryz.prog wa=.ok (.string ⟨(big4 n).toArray⟩) wa:=by
  refine qbt (P:=Tryz.prog) wa 62 9 5 ⟨w.heap.size,0,none⟩ 4 (big4 n) Tryz.underlying62 Tryz.underlying5 Tryz.underlying9 (λ j hj=>?_);have hj4:j<4:=hj;rw[zae,hwa];match j,hj4 with
  | 0,_=>simp[big4];omega
  | 1,_=>simp[big4]
  | 2,_=>simp[big4]
  | 3,_=>simp[big4]
 rw[hwa] at hcr;clear hwa wa;go_enter Tryz.func52,Tryz.ntmps52
 go_wp2_with fail;go_ret;exact⟨rfl,(Ext.refl _).alloc _⟩
theorem zc7 (s:ByteArray) (w:World) (hs:s.size<=maxLen):Calls Tryz.prog 62 #[.string s] w λ e w'=>e=.returned (.int .u32 ((valN s.data.toList:Nat):Int))/\w=w':=by
 unfold maxLen at hs;go_enter Tryz.func62,Tryz.ntmps62
 go_wp2_with fail;go_loop [2,6] (λ x c=>∃k:Nat,k<=s.size/\c=.int .i64 k/\x=.int .u32 ((valN (s.data.toList.take k):Nat):Int)) (λ _ c=>s.size-(intOf c).toNat)
 case atStart=>exact⟨0,by omega,rfl,by rw[qaH];rfl⟩
 case round=>
  obtain⟨k,hk,rfl,rfl⟩:=hrel;by_cases hlt:k<s.size
  ·have t0:=dT (p:=(k:Int)<(s.size:Int));have hv:valN (s.data.toList.take (k+1))=vstep (valN (s.data.toList.take k)) s[k]:=zen (by rw[zaF];exact hlt);obtain⟨x,hx⟩:=nmE (valN (s.data.toList.take k));have hxl:=zca (s.data.toList.take k);rw[hx] at hv hxl⊢;have ho:=zj7 x s[k];go_wp2_with fail;go_round
   case rel=>exact⟨k+1,by omega,by go_num,by rw[hv]⟩
   case measure=>simp[intOf];omega
  obtain rfl:k=s.size:=by omega
  have t0:=dF (p:=(s.size:Int)<(s.size:Int));have e1:s.data.toList.take s.size=s.data.toList:=qan (by rw[zaF];omega);rw[e1];go_wp2_with fail;go_ret;exact⟨rfl,rfl⟩
def sigB:List UInt8:=[137,80,78,71,13,10,26,10]
theorem zpV (w:World):Calls Tryz.prog 36 #[] w λ e w'=>e=.returned (.string ⟨sigB.toArray⟩)/\Ext w w':=by
 have B1:=Hd (λ w=>zcf 137 (by omega) w);have B2:=Hd (λ w=>zcf 13 (by omega) w);have B3:=Hd (λ w=>zcf 10 (by omega) w);have B4:=Hd (λ w=>zcf 26 (by omega) w);go_enter Tryz.func36,Tryz.ntmps36
 go_wp2_with fail;refine (B1.out _).mono ?_;rintro e w1 ⟨rfl,x1⟩;go_wp2_with fail;refine (B2.out _).mono ?_;rintro e w2 ⟨rfl,x2⟩;go_wp2_with fail;refine (B3.out _).mono ?_;rintro e w3 ⟨rfl,x3⟩;go_wp2_with fail;refine (B4.out _).mono ?_;rintro e w4 ⟨rfl,x4⟩;go_wp2_with fail;refine (B3.out _).mono ?_;rintro e w5 ⟨rfl,x5⟩;go_wp2_with fail;go_ret;exact⟨rfl,(((x1.trans x2).trans x3).trans x4).trans x5⟩
structure Ck where
 k:ByteArray
 d:ByteArray
def Ck.cells (c:Ck):List Value:=[.string c.k,.string c.d]
def ckL (L:List Ck):List Value:=L.flatMap Ck.cells
theorem zdW (L:List Ck) (c:Ck):ckL (L ++ [c])=ckL L ++ [.string c.k,.string c.d]:=by simp[ckL,Ck.cells]
theorem zpY:∀(L:List Ck) (i:Nat) (c:Ck),L[i]? =some c->(ckL L)[i*2]? =some (.string c.k)/\(ckL L)[i*2+1]? =some (.string c.d):=by
 intro L;induction L with
 | nil=>intro i c h;cases h
 | cons x L ih=>
  intro i c h;cases i with
  | zero=>injection h with h;subst h;exact⟨rfl,rfl⟩
  | succ i=>
   have:=ih i c (by simpa using h);rw[show (i+1)*2=(i*2+1)+1 by omega];exact this
structure Ck.Ok (c:Ck):Prop where
 k:c.k.size<=maxLen
 d:c.d.size<=300000
def Cks (w:World) (x:Option Addr) (L:List Ck):Prop:=
 (x=none->L=[])/\∀a,x=some a->∀(i:Nat) (c:Ck),L[i]? =some c->
  w.cell? (a.add (i*2))=some (.string c.k)/\w.cell? ⟨(a.add (i*2)).block,(a.add (i*2)).off+1,none⟩=some (.string c.d)
theorem Cks.ext {w w':World} {x:Option Addr} {L:List Ck} (h:Cks w x L) (hE:Ext w w'):Cks w' x L:=by
 refine⟨h.1,λ a ha i c hi=>?_⟩;obtain⟨c0,c1⟩:=h.2 a ha i c hi;have hl:(a.add (i*2)).block<w.heap.size:=qab w _ c0;exact⟨(hE.keeps.cell (S:=λ _=>False) hl id).trans c0,(hE.keeps.cell (S:=λ _=>False) (p:=⟨_,_,none⟩) hl id).trans c1⟩
theorem Cks.isSome {w:World} {x:Option Addr} {L:List Ck} (h:Cks w x L) {i:Nat} (hi:i<L.length):∃a,x=some a:=by
 cases x with
 | none=>rw[h.1 rfl] at hi;simp at hi
 | some a=>exact⟨a,rfl⟩
theorem Cks.of_own {w:World} {base:Nat} {e:TypeId} {v:Value} {L:List Ck} (h:w.ownsRow base e 2 v L.length (ckL L)):∃x c,v=.slice x L.length c/\Cks w x L:=by
 rcases zah h with⟨rfl,h0⟩ | ⟨g,cap,rfl⟩
 ·have hn:L=[]:=qav h0;subst hn;exact⟨none,0,rfl,λ _=>rfl,λ a h=>by cases h⟩
 refine⟨some ⟨g,0,none⟩,cap,rfl,(λ h=>by cases h),λ a ha i c hi=>?_⟩;injection ha with ha;subst ha;have hlt:i<L.length:=(qa7.1 hi).1;obtain⟨q0,q1⟩:=zpY L i c hi;rw[zae];refine⟨?_,?_⟩
 ·rw[h.cellAt _ (by omega),q0]
 show w.cell? ⟨g,i*2+1,none⟩=_;rw[h.cellAt _ (by omega),q1]
def Cb (w:World) (K:Nat) (T:TypeId) (k d:ByteArray):Prop:=w.heap[K]? =some (.cells #[.string k,.string d] T (0,0))
theorem Cb.lt {w:World} {K:Nat} {T:TypeId} {k d:ByteArray} (h:Cb w K T k d):K<w.heap.size:=qbK h
theorem Cb.ext {w w':World} {K:Nat} {T:TypeId} {k d:ByteArray} (h:Cb w K T k d) (hE:Ext w w'):Cb w' K T k d:=(hE.block K (qbK h)).trans h
theorem Cb.cell {w:World} {K:Nat} {T:TypeId} {k d:ByteArray} (h:Cb w K T k d) (i:Nat):w.cell? ⟨K,i,none⟩=(#[Value.string k,Value.string d]:Array Value)[i]?:=Bk.cell ⟨T,h⟩ i
def enc (c:Ck):List UInt8:=big4 c.d.size++c.k.data.toList++c.d.data.toList++big4 (Crc.crc (c.k.data.toList++c.d.data.toList))
inductive FRes where
 | ok (out:List UInt8)
 | bad (c i:Nat)
def fstep (c:Ck) (k:Nat) (out:List UInt8):FRes:=
 if kindB c.k.data.toList=true then (if 300000<out.length+12+c.d.size then .bad 1 k else .ok (out++enc c)) else .bad 2 k
def fileL (L:List Ck):Nat->FRes
 | 0=>.ok sigB
 | k+1=>match fileL L k with
  | .ok out=>(match L[k]? with | some c=>fstep c k out | none=>.ok out)
  | .bad c i=>.bad c i
theorem zdJ {L:List Ck} {k:Nat} {out:List UInt8} {c:Ck} (h:fileL L k=.ok out) (hc:L[k]? =some c):fileL L (k+1)=fstep c k out:=by
 simp only[fileL,h,hc]
theorem zkH {L:List Ck} {k c i:Nat} (h:fileL L k=.bad c i):∀d,fileL L (k+d)=.bad c i:=by
 intro d;induction d with
 | zero=>exact h
 | succ d ih=>show fileL L (k+d+1)=_;simp only[fileL,ih]
theorem zl6 {L:List Ck} {n k c:Nat} {out:List UInt8} {x:Ck} (h:fileL L k=.ok out) (hx:L[k]? =some x) (hs:fstep x k out=.bad c k) (hk:k<n):fileL L n=.bad c k:=by
 have h1:fileL L (k+1)=.bad c k:=(zdJ h hx).trans hs;have:=zkH h1 (n-(k+1));rwa [show k+1+(n-(k+1))=n by omega] at this
theorem zc9 (n:Nat):(big4 n).length=4:=rfl
theorem zb3 (c:Ck) (h:kindB c.k.data.toList=true):(enc c).length=12+c.d.size:=by
 have h4:c.k.data.toList.length=4:=by unfold kindB at h;simp at h;simpa using h.1
 have hd:c.d.data.toList.length=c.d.size:=rfl;unfold enc;simp only[qaa,zc9,h4,hd];omega
theorem zl5 {c:Ck} {k:Nat} {out o:List UInt8} (h:fstep c k out=.ok o):o.length<=300000:=by
 unfold fstep at h;split at h
 ·rename_i hk;split at h
  ·cases h
  injection h with h;subst h;rw[qaa,zb3 c hk];omega
 cases h
theorem zlm {L:List Ck}:∀ {n:Nat} {out:List UInt8},fileL L n=.ok out->out.length<=300000:=by
 intro n;induction n with
 | zero=>intro out h;injection h with h;subst h;decide
 | succ n ih=>
  intro out h;simp only[fileL] at h;split at h
  ·rename_i q hq;split at h
   ·exact zl5 h
   injection h with h;subst h;exact ih hq
  cases h
theorem zkO {L:List Ck}:∀ {n:Nat} {out:List UInt8},fileL L n=.ok out->out≠[]:=by
 intro n;induction n with
 | zero=>intro out h;injection h with h;subst h;decide
 | succ n ih=>
  intro out h;simp only[fileL] at h;split at h
  ·rename_i q hq;have:=ih hq;split at h
   ·unfold fstep at h;split at h
    ·split at h
     ·cases h
     injection h with h;subst h;simp[this]
    cases h
   injection h with h;subst h;exact this
  cases h
inductive PStep where
 | next (n:Nat) (c:Ck)
 | bad (c:Nat)
def pstep (T:ByteArray):PStep:=
 if T.size<12 then .bad 0
 else if T.size-12<valN (T.extract 0 4).data.toList then .bad 0
 else if kindB (T.extract 4 8).data.toList=false then .bad 0
 else if valN (T.extract (8+valN (T.extract 0 4).data.toList) (12+valN (T.extract 0 4).data.toList)).data.toList≠Crc.crc (T.extract 4 (8+valN (T.extract 0 4).data.toList)).data.toList then .bad 3
 else .next (valN (T.extract 0 4).data.toList) ⟨T.extract 4 8,T.extract 8 (8+valN (T.extract 0 4).data.toList)⟩
inductive PRes where
 | ok (L:List Ck)
 | bad (c i:Nat)
def parse (s:ByteArray):Nat->Nat->List Ck->PRes
 | 0,_,acc=>.ok acc
 | f+1,p,acc=>if s.size<=p then .ok acc else match pstep (s.extract p s.size) with
  | .bad c=>.bad c p
  | .next n c=>parse s f (p+12+n) (acc ++ [c])
def readL (s:ByteArray):PRes:=if s.data.toList.take 8=sigB then parse s (s.size+1) 8 [] else .bad 0 0
theorem zel {s:ByteArray} {f p:Nat} {acc:List Ck} (h:s.size<=p):parse s f p acc=.ok acc:=by
 cases f with
 | zero=>rfl
 | succ f=>unfold parse;rw[qad h]
theorem zgo {s T:ByteArray} {f p c:Nat} {acc:List Ck} (h:p<s.size) (hf:s.size-p<f) (hT:s.extract p s.size=T) (hb:pstep T=.bad c):parse s f p acc=.bad c p:=by
 cases f with
 | zero=>omega
 | succ f=>unfold parse;rw[qac (by omega),hT,hb]
theorem zdR {s T:ByteArray} {f p n:Nat} {c:Ck} {acc:List Ck} (h:p<s.size) (hf:s.size-p<f) (hT:s.extract p s.size=T) (hb:pstep T=.next n c):∃f',s.size-(p+12+n)<f'/\parse s f p acc=parse s f' (p+12+n) (acc ++ [c]):=by
 cases f with
 | zero=>omega
 | succ f=>
  refine⟨f,by omega,?_⟩;show (if s.size<=p then PRes.ok acc else match pstep (s.extract p s.size) with
   | .bad c=>.bad c p
   | .next n c=>parse s f (p+12+n) (acc ++ [c]))=_
  rw[qac (by omega),hT,hb]
theorem zeE {T:ByteArray} (h:T.size<12):pstep T=.bad 0:=by unfold pstep;rw[qad h]
theorem zfo {T T4:ByteArray} {n:Nat} (h:¬ T.size<12) (h4:T.extract 0 4=T4) (hn:valN T4.data.toList=n) (hb:T.size-12<n):pstep T=.bad 0:=by
 unfold pstep;rw[qac h,h4,hn,qad hb]
theorem zfy {T T4 K:ByteArray} {n:Nat} (h:¬ T.size<12) (h4:T.extract 0 4=T4) (hn:valN T4.data.toList=n) (hb:¬ T.size-12<n) (hK:T.extract 4 8=K) (hk:kindB K.data.toList=false):pstep T=.bad 0:=by
 unfold pstep;rw[qac h,h4,hn,qac hb,hK,qad hk]
theorem zgQ {T T4 K A B:ByteArray} {n u v:Nat} (h:¬ T.size<12) (h4:T.extract 0 4=T4) (hn:valN T4.data.toList=n) (hb:¬ T.size-12<n) (hK:T.extract 4 8=K) (hk:kindB K.data.toList=true)
  (hB:T.extract (8+n) (12+n)=B) (hA:T.extract 4 (8+n)=A) (hu:valN B.data.toList=u) (hv:Crc.crc A.data.toList=v) (hne:u≠v):pstep T=.bad 3:=by
 unfold pstep;rw[qac h,h4,hn,qac hb,hK,qac (by rw[hk];decide),hB,hA,hu,hv,qad hne]
theorem zdC {T T4 K A B D:ByteArray} {n u v:Nat} (h:¬ T.size<12) (h4:T.extract 0 4=T4) (hn:valN T4.data.toList=n) (hb:¬ T.size-12<n) (hK:T.extract 4 8=K) (hk:kindB K.data.toList=true)
  (hB:T.extract (8+n) (12+n)=B) (hA:T.extract 4 (8+n)=A) (hD:T.extract 8 (8+n)=D) (hu:valN B.data.toList=u) (hv:Crc.crc A.data.toList=v) (hne:¬ u≠v):pstep T=.next n ⟨K,D⟩:=by
 unfold pstep;rw[qac h,h4,hn,qac hb,hK,qac (by rw[hk];decide),hB,hA,hu,hv,qac hne,hD]
theorem exl (s:ByteArray) (a b:Nat):(s.extract a b).data.toList=(s.data.toList.drop a).take (b-a):=by
  rw[qb4,qca]
theorem zjC {l:List UInt8} (h:l.length=4):big4 (valN l)=l:=by
  match l,h with
  | [a,b,c,d],_=>exact zmx a b c d
theorem zmg {T:ByteArray} {n:Nat} {c:Ck} (h:pstep T=.next n c):12+n<=T.size/\kindB c.k.data.toList=true/\c.d.size=n/\c.k.size=4/\T.data.toList.take (12+n)=enc c:=by
  unfold pstep at h;split at h
  · cases h
  rename_i h12;split at h
  · cases h
  rename_i hn;split at h
  · cases h
  rename_i hk;split at h
  · cases h
  rename_i hs;injection h with h1 h2;rw[h1] at h2 hn hs;have hT:T.data.toList.length=T.size:=rfl;have hs':=Classical.not_not.1 hs;have hkk:kindB (T.extract 4 8).data.toList=true:=by simpa using hk
  subst h2;refine⟨by omega,hkk,by show (T.extract 8 (8+n)).size=n;rw[qau];omega,by show (T.extract 4 8).size=4;rw[qau];omega,?_⟩;have hd:(T.extract 8 (8+n)).size=n:=by rw[qau];omega
  unfold enc;simp only[hd];have e4:big4 n=T.data.toList.take 4:=by
    rw[<- h1,zjC]
    · rw[exl];rfl
    rw[exl,qax,qbh];omega
  have e5:(T.extract 4 8).data.toList++(T.extract 8 (8+n)).data.toList=(T.extract 4 (8+n)).data.toList:=by
    rw[exl,exl,exl,show 8+n-4=4+n by omega,List.take_add,List.drop_drop,show 8+n-8=n by omega]
  rw[e5,<- hs',zjC,qat (big4 n),e5,e4,exl,exl]
  · rw[show 8+n-4=4+n by omega,show 12+n-(8+n)=4 by omega,show 12+n=4+((4+n)+4) by omega,List.take_add,List.take_add (i:=4+n),List.drop_drop,show 4+(4+n)=8+n by omega,qat]
  rw[exl,qax,qbh];omega
theorem zmh {L M:List Ck}:∀ {k:Nat},k<=L.length->fileL (L++M) k=fileL L k:=by
  intro k;induction k with
  | zero=>intro _;rfl
  | succ k ih=>
    intro hk;simp only[fileL,ih (by omega),qbj (show k<L.length by omega)]
theorem zfC {L:List Ck} {c:Ck} {out:List UInt8} (h:fileL L L.length=.ok out):fileL (L ++ [c]) (L ++ [c]).length=fstep c L.length out:=by
  rw[qaa];exact zdJ ((zmh (qaj _)).trans h) (by simp)
theorem bext {a b:ByteArray} (h:a.data.toList=b.data.toList):a=b:=by
  cases a;cases b;exact congrArg _ (Array.ext' h)
theorem mid {x y z l:List UInt8} {a b:Nat} (hl:l=x++(y++z)) (ha:x.length=a) (hb:y.length=b):(l.drop a).take b=y:=by
  subst hl ha hb;rw[List.drop_left,List.take_left]
theorem zeg {T Y:ByteArray} {x z:List UInt8} {a b:Nat} (hl:T.data.toList=x++(Y.data.toList++z)) (ha:x.length=a) (hb:a+Y.size=b):T.extract a b=Y:=by
  apply bext;rw[exl];exact mid hl ha (show Y.data.toList.length=b-a from by have:Y.data.toList.length=Y.size:=rfl;omega)
theorem zgL {L:List Ck}:∀ {k:Nat} {out:List UInt8},k<=L.length->fileL L k=.ok out->out=sigB++(L.take k).flatMap enc/\∀c∈L.take k,kindB c.k.data.toList=true:=by
  intro k;induction k with
  | zero=>intro out _ h;injection h with h;subst h;exact⟨by simp,λ c h=>by simp at h⟩
  | succ k ih=>
    intro out hk h;simp only[fileL] at h;split at h
    · rename_i q hq;obtain⟨h1,h2⟩:=ih (by omega) hq;have hc:L[k]? =some L[k]:=qai (by omega);rw[hc] at h;simp only at h;have ht:L.take (k+1)=L.take k ++ [L[k]]:=by rw[qbS,hc];rfl
      unfold fstep at h;split at h
      · rename_i hkd;split at h
        · cases h
        injection h with h;subst h;rw[ht,List.flatMap_append,h1];refine⟨by simp,λ c hc=>?_⟩;rcases qa3.1 hc with hc | hc
        · exact h2 c hc
        rw[qaN.1 hc];exact hkd
      cases h
    cases h
theorem zi5 {s:ByteArray} {B:Nat} (hB:B<=300000) (hs:s.size<=B):∀(f p:Nat) (acc L:List Ck),p<=s.size->s.size-p<f->acc.length<=p->(∀c∈acc,c.Ok)->fileL acc acc.length=.ok (s.data.toList.take p)->parse s f p acc=.ok L->
  fileL L L.length=.ok s.data.toList/\(∀c∈L,c.Ok)/\L.length<=B:=by
 intro f;induction f with
 | zero=>intro p acc L _ h;omega
 | succ f ih=>
  intro p acc L hp hf hl hok hfile h;unfold parse at h;have hlen:s.data.toList.length=s.size:=rfl;split at h
  ·rename_i hge;injection h with h;subst h;rw[qan (by omega)] at hfile;exact⟨hfile,hok,by omega⟩
  rename_i hlt;split at h
  ·cases h
  rename_i n c hstep;obtain⟨i1,i2,i3,i4,i5⟩:=zmg hstep;rw[qau] at i1;have hw:fstep c acc.length (s.data.toList.take p)=.ok (s.data.toList.take (p+12+n)):=by
   unfold fstep;rw[qad i2,qac (by rw[qax];omega)];rw[exl,qan (l:=List.drop p s.data.toList) (by rw[qbh];omega)] at i5;rw[<- i5,show p+12+n=p+(12+n) by omega,List.take_add (i:=p)]
  refine ih (p+12+n) (acc ++ [c]) L (by omega) (by omega) (by rw[qaa];simp;omega) ?_ ((zfC hfile).trans hw) h;intro q hq;rcases qa3.1 hq with hq | hq
  ·exact hok q hq
  rw[qaN.1 hq];exact⟨by rw[i4];unfold maxLen;omega,by omega⟩
theorem ziO {s:ByteArray} {L:List Ck} {B:Nat} (hB:B<=300000) (hs:s.size<=B) (h:readL s=.ok L):fileL L L.length=.ok s.data.toList/\(∀c∈L,c.Ok)/\L.length<=B:=by
 unfold readL at h;split at h
 ·rename_i hq;have hl:8<=s.size:=by
   have:=congrArg List.length hq;rw[qax] at this;have e1:s.data.toList.length=s.size:=rfl;have e2:sigB.length=8:=rfl;omega
  exact zi5 hB hs (s.size+1) 8 [] L hl (by omega) (by simp) (λ c h=>by cases h) (by rw[hq];rfl) h
 cases h
theorem zke {T:ByteArray} {c:Ck} {rest:List UInt8} (hk:kindB c.k.data.toList=true) (hd:c.d.size<=300000) (hT:T.data.toList=enc c++rest):pstep T=.next c.d.size c:=by
 have h4:c.k.data.toList.length=4:=by unfold kindB at hk;simp at hk;simpa using hk.1
 have hks:c.k.size=4:=h4;have hdl:c.d.data.toList.length=c.d.size:=rfl;have hlen:T.size=12+c.d.size+rest.length:=by
  have:T.data.toList.length=T.size:=rfl;rw[<- this,hT,qaa,zb3 c hk]
 obtain⟨z,hz⟩:=nmE (Crc.crc (c.k.data.toList++c.d.data.toList));have hzl:z<4294967296:=by rw[<- hz];exact Crc.zge (Crc.zid (by decide) _)
 unfold enc at hT;rw[hz] at hT;have x1:T.extract 0 4=⟨(big4 c.d.size).toArray⟩:=zeg (x:=[]) (z:=c.k.data.toList++c.d.data.toList++big4 z++rest) (by rw[hT];simp) rfl rfl;have x2:T.extract 4 8=c.k:=zeg (x:=big4 c.d.size) (z:=c.d.data.toList++big4 z++rest) (by rw[hT];simp) rfl (by omega);have x3:T.extract (8+c.d.size) (12+c.d.size)=⟨(big4 z).toArray⟩:=zeg (x:=big4 c.d.size++c.k.data.toList++c.d.data.toList) (z:=rest) (by rw[hT];simp) (by rw[qaa,qaa,zc9,h4,hdl]) (by show _+4=_;omega);have x4:T.extract 4 (8+c.d.size)=c.k++c.d:=zeg (x:=big4 c.d.size) (z:=big4 z++rest) (by rw[hT,ByteArray.data_append,Array.toList_append];simp) rfl (by rw[qbz];omega);have x5:T.extract 8 (8+c.d.size)=c.d:=zeg (x:=big4 c.d.size++c.k.data.toList) (z:=big4 z++rest) (by rw[hT];simp) (by rw[qaa,zc9,h4]) rfl;exact zdC (n:=c.d.size) (u:=z) (v:=z) (by omega) x1 (zcn _ (by omega)) (by omega) x2 hk x3 x4 x5 (zcn _ hzl) (by rw[ByteArray.data_append,Array.toList_append];exact hz) (λ h=>h rfl)
theorem zk0 {s:ByteArray}:∀(M:List Ck) (f p:Nat) (acc:List Ck),(∀c∈M,kindB c.k.data.toList=true/\c.d.size<=300000)->p<=s.size->s.data.toList.drop p=M.flatMap enc->s.size-p<f->parse s f p acc=.ok (acc++M):=by
 intro M;induction M with
 | nil=>
  intro f p acc _ hp hd hf;have:s.size<=p:=by
   have:=congrArg List.length hd;rw[qbh] at this;have e:s.data.toList.length=s.size:=rfl;simp at this;omega
  rw[zel this,qbW]
 | cons c M ih=>
  intro f p acc hM hp hd hf;obtain⟨hk,hs⟩:=hM c (qbc ..);have hle:=zb3 c hk;have e:s.data.toList.length=s.size:=rfl;have hlen:=congrArg List.length hd;rw[qbh,qcJ,qaa,hle] at hlen;have hT:(s.extract p s.size).data.toList=enc c++M.flatMap enc:=by
   rw[exl,qan (by rw[qbh];omega),hd,qcJ]
  obtain⟨f',hf',hp'⟩:=zdR (acc:=acc) (show p<s.size by omega) hf rfl (zke hk hs hT);rw[hp',ih f' _ (acc ++ [c]) (λ q hq=>hM q (qaQ _ hq)) (by omega) ?_ hf',qat]
  ·rfl
  rw[show p+12+c.d.size=p+(12+c.d.size) by omega,<- List.drop_drop,hd,qcJ,<- hle,List.drop_left]
theorem ziC {L:List Ck} {out:List UInt8} (hO:∀c∈L,c.d.size<=300000) (h:fileL L L.length=.ok out):readL ⟨out.toArray⟩=.ok L:=by
 obtain⟨h1,h2⟩:=zgL (qaj _) h;rw[List.take_length] at h1 h2;unfold readL;have hd:(⟨out.toArray⟩:ByteArray).data.toList=out:=rfl;rw[hd];have e8:sigB.length=8:=rfl;rw[qad (by rw[h1,<- e8,List.take_left])];have hsz:(⟨out.toArray⟩:ByteArray).size=out.length:=rfl;have:=zk0 (s:=⟨out.toArray⟩) L ((⟨out.toArray⟩:ByteArray).size+1) 8 [] (λ c hc=>⟨h2 c hc,hO c hc⟩) (by rw[hsz,h1,qaa,e8];omega) (by rw[hd,h1,<- e8,List.drop_left]) (by omega);simpa using this
theorem zrd (x:Nat) (h:x%2=1) (hx:x<4294967296):bits BinOp.xor IntKind.u32 ((x:Int)/2) 3988292384=((Crc.T x:Nat):Int):=by
 have:=u32_xor_nat (x/2) 3988292384 (by omega) (by decide);rw[show ((x:Int)/2)=((x/2:Nat):Int) by omega];refine this.trans ?_;unfold Crc.T;rw[h];simp
theorem zp2 (x:Nat) (h:x%2=0):Crc.T x=x/2:=by unfold Crc.T;rw[h];simp
theorem zjb (c:Nat) (hc:c<4294967296):bits BinOp.xor IntKind.u32 (c:Int) 4294967295=((Crc.flip c:Nat):Int):=
 (u32_xor_nat c 4294967295 hc (by decide))
theorem zkX (s:ByteArray) (w:World) (hs:s.size<=maxLen):
  Calls Tryz.prog 39 #[.string s] w λ e w'=>e=.returned (.int .u32 ((Crc.crc s.data.toList:Nat):Int))/\w=w':=by
 unfold maxLen at hs;go_enter Tryz.func39,Tryz.ntmps39
 go_wp2
 go_loop [3,4,5,6] (λ c i _ _=>∃k x:Nat,k<=s.size/\x<4294967296/\Hid (Crc.run (Crc.flip 0) (s.data.toList.take k)=x)/\i=.int .i64 k/\c=.int .u32 x) (λ _ i _ _=>s.size-(intOf i).toNat)
 case atStart=>exact⟨0,4294967295,by omega,by omega,rfl,rfl,rfl⟩
 case round=>
  obtain⟨k,x,hk,hx,HR,rfl,rfl⟩:=hrel;by_cases hlt:k<s.size
  ·have hb:s[k].toNat<256:=s[k].toNat_lt;have HS:Hid (Crc.run (Crc.flip 0) (s.data.toList.take (k+1))=Crc.byte x s[k].toNat):=by
    have:=ziq (Crc.flip 0) s k hlt;rw[HR.out] at this;exact this
   have e1:bits BinOp.xor IntKind.u32 (x:Int) (s[k].toNat:Int)=((x ^^^ s[k].toNat:Nat):Int):=u32_xor_nat _ _ hx (by omega);have h0:x ^^^ s[k].toNat<2^32:=qci hx (by omega);obtain⟨z,hz⟩:=nmE (x ^^^ s[k].toNat);have HB:Hid (Crc.byte x s[k].toNat=Crc.Tn 8 z):=by unfold Crc.byte;rw[hz];rfl
   rw[hz] at e1 h0;clear hz;go_wp2
   go_loop [3,5,6] (λ c j _=>∃m:Nat,m<=8/\j=.int .i64 m/\c=.int .u32 ((Crc.Tn m z:Nat):Int)) (λ _ j _=>8-(intOf j).toNat)
   case atStart=>exact⟨0,by omega,rfl,rfl⟩
   case round=>
    obtain⟨m,hm,rfl,rfl⟩:=hrel;have hT:Crc.Tn m z<4294967296:=Crc.zhc h0;by_cases hm8:m<8
    ·have HT:=Hd (Crc.zjq m z);obtain⟨y,hy⟩:=nmE (Crc.Tn m z);rw[hy] at hT HT⊢;have HY:=Hd hy;clear hy;rcases qbT y with hp | hp
     ·have HP:=Hd (zp2 y hp);have hq:((y:Int)%2 ==1)=false:=by rw[qak];omega
      clear hp;go_wp2
      go_round
      case rel=>exact⟨m+1,by omega,by go_num,by rw[HT.out,HP.out];go_num⟩
      case measure=>simp[intOf];omega
     have hO:=zrd y hp hT;have hq:((y:Int)%2 ==1)=true:=by rw[qbl];omega
     clear hp;go_wp2
     go_round
     case rel=>exact⟨m+1,by omega,by go_num,by rw[HT.out]⟩
     case measure=>simp[intOf];omega
    obtain rfl:m=8:=by omega
    go_wp2
    go_round
    case rel=>exact⟨k+1,_,by omega,hT,by rw[HB.out] at HS;exact HS,by go_num,rfl⟩
    case measure=>simp[intOf];omega
  obtain rfl:k=s.size:=by omega
  have ht:List.take s.size s.data.toList=s.data.toList:=qan (by simp);rw[ht] at HR;have e1:=zjb x hx;have HF:Hid (Crc.crc s.data.toList=Crc.flip x):=by unfold Crc.crc Crc.more;rw[HR.out];rfl
  clear ht;go_wp2
  go_ret;exact⟨by rw[HF.out];rfl,rfl⟩
theorem Ygh0 {p:Prop} (h:p:=by
 go_wp2_with fail;refine (zhK W n (by omega) (by omega) _).mono ?_;rintro e w5 ⟨rfl,h5⟩;have HE5:=Hd (HE.out.trans h5);have HR5:=Hd (HR.out.ext h5);obtain⟨c5,z5⟩:=HR5.out i hil;clear h5 hcell;go_wp2_with fail;go_roundw
 case rel=>exact⟨i+1,n,W,by omega,by go_num,rfl,rfl,HCA2,Hd (HR2.out _ HR5.out),Hd (qaL HE5.out (by simp) _)⟩
 case measure=>first | (simp[intOf];done) | (simp[intOf];omega)):p:=h
theorem zjV:(Tryz.prog.info? 9).map (λ i=>(i.zero,i.size,i.bytes))=some (some (.string ⟨#[]⟩),1,16):=by kernel_rfl
def zba (f:Nat->Int) (len n i l c:Nat):Prop:=
 l<=n/\c<32768/\(l=0->c=0/\first f len n+many f n i=0)/\(0<l->first f len n+many f n i=(c+1)*2^(n-l))
theorem zba.skip {f:Nat->Int} {len n i l c:Nat} (h:zba f len n i l c) (hf:¬ f i=n):zba f len n (i+1) l c:=by
 unfold zba at *;rw[zbN f n i hf];exact h
theorem zba.next {f:Nat->Int} {len n l c:Nat} (h:zba f len n len l c) (hn:1<=n):zba f len (n+1) 0 l c:=by
 obtain⟨h1,h2,h3,h4⟩:=h;refine⟨by omega,h2,λ q=>?_,λ q=>?_⟩
 ·obtain⟨q1,q2⟩:=h3 q;refine⟨q1,?_⟩;rw[zbv f len n hn,q2];rfl
 have q2:=h4 q;rw[zbv f len n hn,q2,show many f (n+1) 0=0 from rfl,qcd,show n+1-l=(n-l)+1 by omega,qa1,qbr]
theorem zba.start (f:Nat->Int) (len:Nat):zba f len 1 0 0 0:=⟨by omega,by omega,λ _=>⟨rfl,rfl⟩,λ h=>by omega⟩
theorem zba.hit {f:Nat->Int} {len n i l c:Nat} (_h:zba f len n i l c) (hf:f i=n) (hn:1<=n) (hw:first f len n+many f n i<32768):
  zba f len n (i+1) n (first f len n+many f n i)/\word f len i=first f len n+many f n i:=by
 refine⟨⟨by omega,hw,λ q=>by omega,λ _=>?_⟩,?_⟩
 ·rw[zbF f n i hf,qcp,Nat.pow_zero];omega
 unfold word;rw[qad (by omega),hf];rfl
def outAt (f:Nat->Int) (len n i j:Nat):Value:=if 1<=f j/\(f j<n\/(f j=n/\j<i)) then .string (bs (Bts.high (word f len j) (f j).toNat)) else .string (bs [])
set_option maxHeartbeats 4000000 in
theorem zeI (x:Option Addr) (len cap:Nat) (f:Nat->Int) (w:World) (hx:Ints w x len f) (hb:zaT f len) (hc:zan f len):
  Calls Tryz.prog 77 #[.slice x len cap] w λ e w'=>(∃B,w.heap.size<=B/\e=.returned (.slice (some ⟨B,0,none⟩) len len)/\Cv w' B len (λ i=>.string (bs (Bts.high (word f len i) (f i).toNat))))/\Ext w w':=by
 have hl:=hb.1;have HX:=Hd hx;have HB:=Hd hb;have HC:=Hd hc;have hmk:=λ w=>qbR (P:=Tryz.prog) 127 9 (.string ⟨#[]⟩) 16 Tryz.underlying127 zjV rfl .i64 .i64 len (by omega) (by omega) w;clear hx hb hc;go_enter Tryz.func77,Tryz.ntmps77
 go_wp2_with fail;clear hmk;have HR0:Hid (Cv (w.alloc (.cells (madeCells #[.string ⟨#[]⟩] len) 9)) w.heap.size len (outAt f len 1 0)):=Hd ((Cv.made w len _ _).congr (λ j hj=>by
  unfold outAt;rw[qac (by omega)];exact congrArg Value.string zl3.symm))
 have HX0:Hid (Ext w (w.alloc (.cells (madeCells #[.string ⟨#[]⟩] len) 9))):=Hd ((Ext.refl w).alloc _);go_loopw [4,5,6] (λ u v q wr=>∃n l c:Nat,1<=n/\n<=16/\q=.int .i64 n/\v=.int .i64 l/\u=.int .u32 c/\Hid (zba f len n 0 l c)/\Hid (Cv wr w.heap.size len (outAt f len n 0))/\Hid (Ext w wr)) (λ _ _ q _=>16-(intOf q).toNat)
 case atStart=>exact⟨1,0,0,by omega,by omega,rfl,rfl,rfl,Hd (zba.start f len),HR0,HX0⟩
 case round=>
  obtain⟨n,l,c,hn1,hn2,rfl,rfl,rfl,HCA,HR,HE⟩:=hrel;by_cases hlt:n<16
  ·have tn:=dT (p:=(n:Int)<=15);go_wp2_with fail;go_loopw [4,5,7] (λ u v q wr=>∃i l c:Nat,i<=len/\q=.int .i64 i/\v=.int .i64 l/\u=.int .u32 c/\Hid (zba f len n i l c)/\Hid (Cv wr w.heap.size len (outAt f len n i))/\Hid (Ext w wr)) (λ _ _ q _=>len-(intOf q).toNat)
   case atStart=>exact⟨0,l,c,by omega,rfl,rfl,rfl,HCA,HR,HE⟩
   case round=>
    clear HCA HR HE;obtain⟨i,l,c,hi,rfl,rfl,rfl,HCA,HR,HE⟩:=hrel;by_cases hil:i<len
    ·obtain⟨a,rfl⟩:∃a,x=some a:=by
      cases x with
      | none=>have:=HX.out.1 rfl;omega
      | some a=>exact⟨a,rfl⟩
     obtain⟨hcell,f1,f2⟩:=(HX.out.ext HE.out).2 a rfl i hil;by_cases hfn:f i=n
     ·have hwl:=zf8 f len HC.out i n hil hfn hn1 (by omega);obtain⟨W,hW⟩:=nmE (first f len n+many f n i);have hW15:W<32768:=by omega
      have hhit:=zba.hit HCA.out hfn hn1 (by omega);rw[hW] at hhit;have HCA2:=Hd hhit.1;have HW:=Hd hhit.2;have hln:=HCA.out.1;have hc15:=HCA.out.2.1;have HR2:Hid (∀wz,Cv wz w.heap.size len (outAt f len n i)->Cv (wz.setCell ⟨w.heap.size,i,none⟩ (.string (bs (Bts.high W n)))) w.heap.size len (outAt f len n (i+1))):=Hd (λ wz hz=>hz.put i _ _ hil (λ j _=>by
       unfold outAt;by_cases hj:j=i
       ·subst hj;rw[qad (by omega),qad rfl,HW.out,hfn];rfl
       rw[qac hj];by_cases h2:1<=f j/\(f j<n\/(f j=n/\j<i))
       ·rw[qad h2,qad (by omega)]
       rw[qac h2,qac (by omega)]))
      have t1:((f i) !=(n:Int))=false:=by rw[hfn];simp
      rw[hfn] at hcell t1;by_cases hl0:l=0
      ·have hW0:W=0:=by rw[<- hW];exact (HCA.out.2.2.1 hl0).2
       have hc0:c=0:=(HCA.out.2.2.1 hl0).1;obtain rfl:W=c:=by omega
       have t2:=dF (p:=(0:Int)<(l:Int));have hlz:l<=0:=by omega
       clear hwl hW hfn hhit f1 f2 hl0 hc0 hW0;exact Ygh0
      have hWe:W=(c+1)*2^(n-l):=by rw[<- hW];exact HCA.out.2.2.2 (by omega)
      obtain⟨d,hd⟩:=nmE (n-l);have hd2:(n:Int)-(l:Int)=(d:Int):=by omega
      rw[hd] at hWe;have hm:((c:Int)+1)*2^d=(W:Int):=by rw[hWe];simp
      have hlp:0<l:=by omega
      clear hwl hW hfn hhit f1 f2 hd hWe hl0;exact Ygh0
     have t1:((f i) !=(n:Int))=true:=by rw[qce];exact hfn
     have HCA2:=Hd (HCA.out.skip hfn);have HR2:Hid (Cv wr w.heap.size len (outAt f len n (i+1))):=Hd (HR.out.congr (λ j _=>by
      unfold outAt;by_cases h2:1<=f j/\(f j<n\/(f j=n/\j<i))
      ·rw[qad h2,qad (by omega)]
      rw[qac h2,qac (by intro h3;apply h2;refine⟨h3.1,?_⟩;rcases h3.2 with q | ⟨q1,q2⟩;exact .inl q;right;refine⟨q1,?_⟩;rcases qbw.1 q2 with q3 | q3;exact q3;subst q3;exact absurd q1 hfn)]))
     clear hfn;go_wp2_with fail;go_roundw
     case rel=>exact⟨i+1,l,c,by omega,by go_num,rfl,rfl,HCA2,HR2,HE⟩
     case measure=>simp[intOf];omega
    obtain rfl:i=len:=by omega
    have HCA2:=Hd (HCA.out.next hn1);have HR2:Hid (Cv wr w.heap.size i (outAt f i (n+1) 0)):=Hd (HR.out.congr (λ j hj=>by
     unfold outAt;by_cases h2:1<=f j/\(f j<n\/(f j=n/\j<i))
     ·rw[qad h2,qad (by omega)]
     rw[qac h2,qac (by omega)]))
    go_wp2_with fail;go_roundw
    case rel=>exact⟨n+1,l,c,by omega,by omega,by go_num,rfl,rfl,HCA2,HR2,HE⟩
    case measure=>simp[intOf];omega
  obtain rfl:n=16:=by omega
  go_wp2_with fail;go_ret;refine⟨⟨w.heap.size,qaj _,rfl,HR.out.congr (λ j hj=>?_)⟩,HE.out⟩;have q:=HB.out.2 j hj;unfold outAt;by_cases h2:1<=f j
  ·rw[qad (by omega)]
  have h0:f j=0:=by omega
  rw[qac (by omega),h0];rfl
end Go.Proofs.YthlibiocadimhaaGreatDoor
