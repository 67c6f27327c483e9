/-
  Code lengths: words, Valid: what they compute.
-/
import Derived.Test.YthlibiocadimhaaGreatDoorPngReadsG1
set_option linter.all false
set_option maxRecDepth 100000
namespace Go.Proofs.YthlibiocadimhaaGreatDoor
open Go.RowKit
def Ints (w:World) (x:Option Addr) (len:Nat) (f:Nat->Int):Prop:=
 (x=none->len=0)/\∀a,x=some a->∀i,i<len->w.cell? (a.add i)=some (.int .i64 (f i))/\ -9223372036854775808<=f i/\f i<=9223372036854775807
theorem Ints.block {w:World} {a:Addr} {len:Nat} {f:Nat->Int} (h:Ints w (some a) len f) (hl:0<len):a.block<w.heap.size:=by
 have q:=qab w _ (h.2 a rfl 0 hl).1;simpa [Addr.add] using q
theorem Ints.on {w w':World} {x:Option Addr} {len:Nat} {f:Nat->Int} {S:Nat->Prop} (h:Ints w x len f) (hB:Keeps S w w') (ha:∀a,x=some a->¬ S a.block):Ints w' x len f:=by
 refine⟨h.1,λ a hx i hi=>?_⟩;subst hx;have hb:(a.add i).block<w.heap.size:=by
  have:=h.block (by omega);unfold Addr.add;split <;> simpa using this
 have hs:¬ S (a.add i).block:=by
  have:=ha a rfl;unfold Addr.add;split <;> simpa using this
 rw[hB.cell hb hs];exact h.2 a rfl i hi
theorem Ints.ext {w w':World} {x:Option Addr} {len:Nat} {f:Nat->Int} (h:Ints w x len f) (hB:Ext w w'):Ints w' x len f:=
 h.on (S:=λ _=>False) hB.keeps (λ _ _=>id)
theorem zhS (x:Int) (w:World) (hx1: -9223372036854775808<=x) (hx2:x<=9223372036854775807):
  Calls Tryz.prog 167 #[.int .i64 x] w λ e w'=>e=.returned (.bool (decide (x<0\/15<x)))/\w=w':=by
 go_enter Tryz.func167,Tryz.ntmps167
 go_wp2_with fail
 ·go_ret;exact⟨zaG (by simp),rfl⟩
 go_ret;exact⟨rfl,rfl⟩
theorem zhs (x:Option Addr) (len cap:Nat) (f:Nat->Int) (w:World) (hx:Ints w x len f) (hl:len<=maxLen):
  Calls Tryz.prog 168 #[.slice x len cap,.func (.func 167) #[] #[]] w λ e w'=>(∃i:Int,e=.returned (.int .i64 i)/\((i= -1/\∀j,j<len->0<=f j/\f j<=15)\/(0<=i/\∃j,j<len/\(f j<0\/15<f j))))/\w=w':=by
 unfold maxLen at hl;have HX:=Hd hx;clear hx;go_enter Tryz.func168,Tryz.ntmps168
 go_wp2
 go_loop [5,8] (λ _ c=>∃i:Nat,i<=len/\c=.int .i64 i/\Hid (∀j,j<i->0<=f j/\f j<=15)) (λ _ c=>len-(intOf c).toNat)
 case atStart=>exact⟨0,by omega,rfl,Hd λ j hj=>by omega⟩
 case round=>
  obtain⟨i,hi,rfl,HF⟩:=hrel;by_cases hlt:i<len
  ·obtain⟨a,rfl⟩:∃a,x=some a:=by
    cases x with
    | none=>have:=HX.out.1 rfl;omega
    | some a=>exact⟨a,rfl⟩
   obtain⟨hc,h1,h2⟩:=HX.out.2 a rfl i hlt;go_wp2_with fail;refine (zhS _ _ h1 h2).mono ?_;rintro e w1 ⟨rfl,rfl⟩;by_cases hbad:f i<0\/15<f i
   ·have hb:=qae hbad;have HBAD:=Hd hbad;clear hbad;go_wp2_with fail;go_ret;exact⟨⟨i,rfl,.inr ⟨by omega,i,hlt,HBAD.out⟩⟩,rfl⟩
   have hb:=qaf hbad;have HBAD:=Hd hbad;clear hbad;go_wp2_with fail;go_round
   case rel=>
    refine⟨i+1,by omega,by go_num,Hd λ j hj=>?_⟩;rcases qbw.1 hj with q | rfl
    ·exact HF.out j q
    have:=HBAD.out;omega
   case measure=>simp[intOf];omega
  obtain rfl:i=len:=by omega
  go_wp2
  go_ret;exact⟨⟨-1,rfl,.inl ⟨rfl,HF.out⟩⟩,rfl⟩
def many (f:Nat->Int) (n:Nat):Nat->Nat
 | 0=>0
 | i+1=>many f n i+if f i=n then 1 else 0
theorem zbi (f:Nat->Int) (n:Nat):∀i,many f n i<=i:=by
 intro i;induction i with
 | zero=>exact qaj _
 | succ i ih=>unfold many;split <;> omega
theorem zh1 (w:World):(zeroValue 229).run Tryz.prog w=.ok (.agg (Array.replicate 16 (.int .i64 0))) w:=by kernel_rfl
theorem zdh (x:Option Addr) (len cap:Nat) (f:Nat->Int) (w:World) (hx:Ints w x len f) (hl:len<=maxLen) (hf:∀j,j<len->0<=f j/\f j<=15):
  Calls Tryz.prog 148 #[.slice x len cap] w λ e w'=>e=.returned (.agg (cellsI .i64 16 λ n=>(many f n len:Int)))/\w'=w.alloc (.cells (cellsI .i64 16 λ n=>(many f n len:Int)) 229):=by
 unfold maxLen at hl;have HX:=Hd hx;have HF:=Hd hf;clear hx hf;go_enter Tryz.func148,Tryz.ntmps148
 have hz:=zh1;go_wp2
 rw[zeC];clear hz;go_loopw [4,7] (λ _ c wr=>∃i:Nat,i<=len/\c=.int .i64 i/\wr=w.alloc (.cells (cellsI .i64 16 λ n=>(many f n i:Int)) 229)) (λ _ c _=>len-(intOf c).toNat)
 case atStart=>exact⟨0,by omega,rfl,rfl⟩
 case round=>
  obtain⟨i,hi,rfl,rfl⟩:=hrel;by_cases hlt:i<len
  ·obtain⟨a,rfl⟩:∃a,x=some a:=by
    cases x with
    | none=>have:=HX.out.1 rfl;omega
    | some a=>exact⟨a,rfl⟩
   obtain⟨hc,h1,h2⟩:=(HX.out.ext ((qco _ _).alloc (qaj _) (.cells (cellsI .i64 16 λ n=>(many f n i:Int)) 229))).2 a rfl i hlt;obtain⟨q1,q2⟩:=HF.out i hlt;obtain⟨k,hk⟩:∃k:Nat,f i=k:=⟨(f i).toNat,by omega⟩;have HK:=Hd hk;rw[hk] at hc h1 h2 q1 q2;clear hk;have hg:=zaq .i64 16 (λ n=>(many f n i:Int)) k (by omega);have hml:=zbi f k i;go_wp2
   rw[zfS .i64 16 (λ n=>(many f n i:Int)) k ((many f k i:Int)+1) (λ n=>(many f n (i+1):Int))]
   ·exact⟨⟨i+1,by omega,by go_num,rfl⟩,by simp[intOf];omega⟩
   intro n _;have:=HK.out;by_cases hn:n=k
   ·subst hn;simp[many,this]
   have:¬ f i=n:=by omega
   simp[many,this,hn]
  obtain rfl:i=len:=by omega
  have hg0:=zaq .i64 16 (λ n=>(many f n i:Int)) 0 (by decide);have hg1:=zaq .i64 16 (λ n=>(many f n i:Int)) 1 (by decide);have hg2:=zaq .i64 16 (λ n=>(many f n i:Int)) 2 (by decide);have hg3:=zaq .i64 16 (λ n=>(many f n i:Int)) 3 (by decide);have hg4:=zaq .i64 16 (λ n=>(many f n i:Int)) 4 (by decide);have hg5:=zaq .i64 16 (λ n=>(many f n i:Int)) 5 (by decide);have hg6:=zaq .i64 16 (λ n=>(many f n i:Int)) 6 (by decide);have hg7:=zaq .i64 16 (λ n=>(many f n i:Int)) 7 (by decide);have hg8:=zaq .i64 16 (λ n=>(many f n i:Int)) 8 (by decide);have hg9:=zaq .i64 16 (λ n=>(many f n i:Int)) 9 (by decide);have hg10:=zaq .i64 16 (λ n=>(many f n i:Int)) 10 (by decide);have hg11:=zaq .i64 16 (λ n=>(many f n i:Int)) 11 (by decide);have hg12:=zaq .i64 16 (λ n=>(many f n i:Int)) 12 (by decide);have hg13:=zaq .i64 16 (λ n=>(many f n i:Int)) 13 (by decide);have hg14:=zaq .i64 16 (λ n=>(many f n i:Int)) 14 (by decide);have hg15:=zaq .i64 16 (λ n=>(many f n i:Int)) 15 (by decide);go_wp2
  clear hg0 hg1 hg2 hg3 hg4 hg5 hg6 hg7 hg8 hg9 hg10 hg11 hg12 hg13 hg14 hg15;rw[zay _ _ _ 0 _ rfl,zay _ _ _ 1 _ rfl,zay _ _ _ 2 _ rfl,zay _ _ _ 3 _ rfl,zay _ _ _ 4 _ rfl,zay _ _ _ 5 _ rfl,zay _ _ _ 6 _ rfl,zay _ _ _ 7 _ rfl,zay _ _ _ 8 _ rfl,zay _ _ _ 9 _ rfl,zay _ _ _ 10 _ rfl,zay _ _ _ 11 _ rfl,zay _ _ _ 12 _ rfl,zay _ _ _ 13 _ rfl,zay _ _ _ 14 _ rfl,zay _ _ _ 15 _ rfl];exact qaZ (v:=.agg (cellsI .i64 16 λ n=>(many f n i:Int))) (results_cell_row rfl _ _ w.heap.size 229 _ (0,0) _ rfl (heap_alloc_last w _) Tryz.underlying229 rfl (by rw[cellsI_size];kernel_rfl)) rfl ⟨rfl,rfl⟩
end Go.Proofs.YthlibiocadimhaaGreatDoor
