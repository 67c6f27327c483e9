/-
  png.samples, depthOf, right.
  png.reader in memory, with the builder that lies in it: WriteString, String.
  filter.Back.
  The document's RowsOf, BackOf.
-/
import Derived.Test.YthlibiocadimhaaGreatDoorPngReadsG9
set_option linter.all false
set_option maxRecDepth 100000
namespace Go.Proofs.YthlibiocadimhaaGreatDoor
open Go.RowKit
theorem Yak0 {p:Prop} (h:p:=by
 go_wp2_with fail;go_ret;exact⟨zaG (by unfold sideB;simp;omega),rfl⟩):p:=h
def smp (k:Int):Option Nat:=updI (updI (updI (updI (λ _=>none) 0 1) 2 3) 3 1) 6 4 k
theorem zcl (w:World):Calls Tryz.prog 29 #[] w λ e w'=>∃mb,e=.returned (.map (some mb))/\MI w' mb smp/\Ext w w':=by
 have hmm:=@run_makeMap Tryz.prog;obtain⟨w1,h1,m1,q1⟩:=(MI.new w (λ _=>none) (λ _=>rfl)).store (n:=1) (p:=0) (by unfold OkI;omega);obtain⟨w2,h2,m2,q2⟩:=m1.store (n:=3) (p:=2) (by unfold OkI;omega);obtain⟨w3,h3,m3,q3⟩:=m2.store (n:=1) (p:=3) (by unfold OkI;omega);obtain⟨w4,h4,m4,q4⟩:=m3.store (n:=4) (p:=6) (by unfold OkI;omega);have HM:=Hd m4;have HE:Hid (Ext w w4):=Hd (Below.trans ((Ext.refl w).alloc (.map #[] 0)) ((((q1.trans q2 (λ _ _ e=>e)).trans q3 (λ _ _ e=>e)).trans q4 (λ _ _ e=>e)).below (by simp) (λ k hk e=>by omega)));clear m1 m2 m3 m4 q1 q2 q3 q4;unfold kI at h1 h2 h3 h4;have c1:((1:Nat):Int)=1:=rfl;have c3:((3:Nat):Int)=3:=rfl;have c4:((4:Nat):Int)=4:=rfl;rw[c1] at h1 h3;rw[c3] at h2;rw[c4] at h4;clear c1 c3 c4;go_enter Tryz.func29,Tryz.ntmps29
 go_wp2_with fail;go_ret;exact⟨_,rfl,HM.out,HE.out⟩
def depN (n:Nat):Nat:=if n<=2 then 1 else if n<=4 then 2 else if n<=16 then 4 else 8
theorem ziX (n:Nat) (w:World):Calls Tryz.prog 23 #[.int .i64 (n:Int)] w λ e w'=>e=.returned (.int .i64 ((depN n:Nat):Int))/\Ext w w':=by
 go_enter Tryz.func23,Tryz.ntmps23
 go_wp2_with fail;refine zac (λ wz=>Ext w wz/\Bk wz w.heap.size #[.int .i64 1,.int .i64 2,.int .i64 4]) ⟨(Ext.refl _).alloc _,Bk.at rfl⟩ ?_;rintro wz ⟨hX,hB⟩;have HX:=Hd hX;have hB:=Hd hB;clear hX;go_loopw [2,7] (λ rv iv wr=>rv=.int .i64 0/\wr=wz/\(iv=.int .i64 0\/(iv=.int .i64 1/\2<n)\/(iv=.int .i64 2/\4<n)\/(iv=.int .i64 3/\16<n))) (λ _ iv _=>3-(intOf iv).toNat)
 case atStart=>exact⟨by first | trivial | rfl,by first | trivial | rfl,.inl rfl⟩
 case round=>
  obtain⟨rfl,rfl,rfl | ⟨rfl,hn⟩ | ⟨rfl,hn⟩ | ⟨rfl,hn⟩⟩:=hrel
  ·have c:=hB.out.cell 0;have tk:decide ((0:Int)<3)=true:=by decide
   by_cases hq:(n:Int)<=2
   ·go_wp2_with fail;go_ret;exact⟨by rw[show depN n=1 by unfold depN;rw[qad (by omega)]];rfl,HX.out⟩
   go_wp2_with fail;go_roundw
   case rel=>exact⟨by first | trivial | rfl,by first | trivial | rfl,.inr (.inl ⟨rfl,by omega⟩)⟩
   case measure=>simp[intOf]
  ·have c:=hB.out.cell 1;have tk:decide ((1:Int)<3)=true:=by decide
   by_cases hq:(n:Int)<=4
   ·go_wp2_with fail;go_ret;exact⟨by rw[show depN n=2 by unfold depN;rw[qac (by omega),qad (by omega)]];rfl,HX.out⟩
   go_wp2_with fail;go_roundw
   case rel=>exact⟨by first | trivial | rfl,by first | trivial | rfl,.inr (.inr (.inl ⟨rfl,by omega⟩))⟩
   case measure=>simp[intOf]
  ·have c:=hB.out.cell 2;have tk:decide ((2:Int)<3)=true:=by decide
   by_cases hq:(n:Int)<=16
   ·go_wp2_with fail;go_ret;exact⟨by rw[show depN n=4 by unfold depN;rw[qac (by omega),qac (by omega),qad (by omega)]];rfl,HX.out⟩
   go_wp2_with fail;go_roundw
   case rel=>exact⟨by first | trivial | rfl,by first | trivial | rfl,.inr (.inr (.inr (⟨rfl,by omega⟩)))⟩
   case measure=>simp[intOf]
  go_wp2_with fail;go_ret;exact⟨by rw[show depN n=8 by unfold depN;rw[qac (by omega),qac (by omega),qac (by omega)]];rfl,HX.out⟩
theorem zcv (n:Int) (w:World):Calls Tryz.prog 51 #[.int .i64 n] w λ e w'=>e=.returned (.bool (sideB n))/\w=w':=by
 by_cases h1:1<=n
 ·by_cases h2:n<=256
  ·go_enter Tryz.func51,Tryz.ntmps51
   exact Yak0
  go_enter Tryz.func51,Tryz.ntmps51
  exact Yak0
 go_enter Tryz.func51,Tryz.ntmps51
 exact Yak0
theorem zkB (W H:Int) (x:Option Addr) (n cap:Nat) (w:World):
  Calls Tryz.prog 19 #[.agg #[.int .i64 W,.int .i64 H,.slice x n cap]] w λ e w'=>e=.returned (.bool (zcV W H n))/\Ext w w':=by
 have hX:Ext w (w.alloc (.cells #[.int .i64 W,.int .i64 H,.slice x n cap] 24)):=(Ext.refl _).alloc _;have HX:=Hd hX;clear hX;by_cases h1:sideB W=true
 ·by_cases h2:sideB H=true
  ·obtain⟨p1,p2⟩:=zpH h1 h2;have H12:=Hd (show sideB W=true/\sideB H=true from⟨h1,h2⟩);go_enter Tryz.func19,Tryz.ntmps19
   go_wp2_with fail;refine (zcv W _).mono ?_;rintro e w2 ⟨rfl,rfl⟩;go_wp2_with fail;refine (zcv H _).mono ?_;rintro e w2 ⟨rfl,rfl⟩;go_wp2_with fail;go_ret;refine⟨zaG ?_,HX.out⟩;unfold zcV;rw[H12.out.1,H12.out.2];simp only[Bool.true_and];rw[qbX];simp
  have h2':sideB H=false:=by simpa using h2
  clear h2;have H12:=Hd (show sideB W=true/\sideB H=false from⟨h1,h2'⟩);go_enter Tryz.func19,Tryz.ntmps19
  go_wp2_with fail;refine (zcv W _).mono ?_;rintro e w2 ⟨rfl,rfl⟩;go_wp2_with fail;refine (zcv H _).mono ?_;rintro e w2 ⟨rfl,rfl⟩;go_wp2_with fail;go_ret;refine⟨zaG ?_,HX.out⟩;unfold zcV;rw[H12.out.1,H12.out.2];rfl
 have h1':sideB W=false:=by simpa using h1
 clear h1;have H12:=Hd h1';go_enter Tryz.func19,Tryz.ntmps19
 go_wp2_with fail;refine (zcv W _).mono ?_;rintro e w2 ⟨rfl,rfl⟩;go_wp2_with fail;go_ret;refine⟨zaG ?_,HX.out⟩;unfold zcV;rw[H12.out];rfl
structure Rd where
 wide:Nat
 high:Nat
 depth:Nat
 kind:Nat
 colors:ByteArray
 alphas:ByteArray
 hc:Bool
 ha:Bool
 data:List UInt8
 st:Nat
def rdV (r:Rd) (p v:Value):Array Value:=#[.int .i64 (r.wide:Int),.int .i64 (r.high:Int),.int .i64 (r.depth:Int),.int .i64 (r.kind:Int),.string r.colors,.string r.alphas,.bool r.hc,.bool r.ha,p,v,.int .i64 (r.st:Int)]
structure RdAt (B b:Nat) (r:Rd) (w:World):Prop where
 le:B<=b
 at_:∃p v,(p=.pointer none\/p=.pointer (some ⟨b,8,none⟩))/\w.heap[b]? =some (.cells (rdV r p v) 72 (0,0))/\w.ownsRow B 5 1 v r.data.length (Lib.byteCells r.data)/\(v=.slice none 0 0↔r.data=[])
theorem RdAt.lt {B b:Nat} {r:Rd} {w:World} (h:RdAt B b r w):b<w.heap.size:=by
 obtain⟨_,p,v,_,hb,_⟩:=h;exact qbK hb
theorem RdAt.ext {B b:Nat} {r:Rd} {w w':World} (h:RdAt B b r w) (hE:Ext w w'):RdAt B b r w':=by
 have hl:=h.lt;obtain⟨h1,p,v,hp,hb,ho⟩:=h;exact⟨h1,p,v,hp,(hE.block b hl).trans hb,zaa ho.1 (S:=λ _=>False) hE.keeps (λ _ _ q=>q),ho.2⟩
theorem RdAt.cells {B b:Nat} {r:Rd} {w:World} (h:RdAt B b r w):∃p v,(p=.pointer none\/p=.pointer (some ⟨b,8,none⟩))/\Bk w b (rdV r p v)/\w.ownsRow B 5 1 v r.data.length (Lib.byteCells r.data):=by
 obtain⟨_,p,v,hp,hb,ho⟩:=h;exact⟨p,v,hp,⟨_,hb⟩,ho.1⟩
theorem RdAt.flds {B b:Nat} {r:Rd} {w:World} (h:RdAt B b r w):w.cell? ⟨b,0,none⟩=some (.int .i64 (r.wide:Int))/\w.cell? ⟨b,1,none⟩=some (.int .i64 (r.high:Int))/\w.cell? ⟨b,2,none⟩=some (.int .i64 (r.depth:Int))/\w.cell? ⟨b,3,none⟩=some (.int .i64 (r.kind:Int))/\w.cell? ⟨b,4,none⟩=some (.string r.colors)/\w.cell? ⟨b,5,none⟩=some (.string r.alphas)/\w.cell? ⟨b,6,none⟩=some (.bool r.hc)/\w.cell? ⟨b,7,none⟩=some (.bool r.ha)/\w.cell? ⟨b,10,none⟩=some (.int .i64 (r.st:Int)):=by
 obtain⟨p,v,_,hB,_⟩:=h.cells;exact⟨hB.cell 0,hB.cell 1,hB.cell 2,hB.cell 3,hB.cell 4,hB.cell 5,hB.cell 6,hB.cell 7,hB.cell 10⟩
theorem RdAt.froz {B b:Nat} {r:Rd} {w:World} (h:RdAt B b r w) (i:Nat):w.frozen? ⟨b,i,none⟩=false:=by
 obtain⟨p,v,_,hB,_⟩:=h.cells;exact hB.frozen i
theorem zfQ {w:World} {B b:Nat} {v:Value} {n:Nat} {xs:List Value} {cs:Array Value} (ho:w.ownsRow B 5 1 v n xs) (hb:w.heap[b]? =some (.cells cs 72 (0,0))):v.ownBlock≠some b:=Lib.ownBlock_ne ho hb (by decide)
theorem zef {w:World} {b:Nat} {cs:Array Value} {T:TypeId} (hb:w.heap[b]? =some (.cells cs T (0,0))) (i:Nat) (u:Value):(w.setCell ⟨b,i,none⟩ u).heap[b]? =some (.cells (cs.setIfInBounds i u) T (0,0)):=by
 simp[World.setCell,qbk,hb]
theorem zeT (w:World) (b i:Nat) (u:Value):Keeps (λ k=>k=b) w (w.setCell ⟨b,i,none⟩ u):=(Keeps.refl (λ k=>k=b) w).setCell (.inl rfl) _
theorem RdAt.put {B b:Nat} {r r':Rd} {w:World} (h:RdAt B b r w) (i:Nat) (u:Value) (hi:∀p v,(rdV r p v).setIfInBounds i u=rdV r' p v) (hd:r'.data=r.data):RdAt B b r' (w.setCell ⟨b,i,none⟩ u)/\Below B w (w.setCell ⟨b,i,none⟩ u):=by
 obtain⟨h1,p,v,hp,hb,ho⟩:=h;refine⟨⟨h1,p,v,hp,?_,?_,by rw[hd];exact ho.2⟩,(qco B w).setCell (p:=⟨b,i,none⟩) h1 _⟩
 ·rw[zef hb i u,hi]
 rw[hd];refine zaa (S:=λ k=>k=b) ho.1 (zeT w b i u) (λ k hk e=>zfQ ho.1 hb (by rw[hk,e]))
theorem zqR:liesAt Tryz.prog Tryz.prog.depth 72 (11 / Tryz.prog.cellsOf 72) 8 70 1=true:=by kernel_rfl
theorem zkq (b:Nat) (w:World) (h0:w.cell? ⟨b,8,none⟩=some (.pointer (some ⟨b,8,none⟩))):
  Calls Tryz.prog 91 #[.pointer (some ⟨b,8,none⟩)] w λ e w'=>e=.returned (.tuple #[])/\w'=w:=by
 obtain⟨j,hj,_⟩:=qbq.1 zeq;go_enter Tryz.func91,Tryz.ntmps91
 go_wp2
 rw[Lib.run_neq_ptr_same w _ Tryz.underlying68 hj];go_wp2
 go_end0;exact⟨rfl,rfl⟩
theorem ziK (b:Nat) (w:World) (h0:w.cell? ⟨b,8,none⟩=some (.pointer none)) (hsh:w.shape? b=some (72,11)) (hfz:w.frozen? ⟨b,8,none⟩=false):
  Calls Tryz.prog 91 #[.pointer (some ⟨b,8,none⟩)] w λ e w'=>e=.returned (.tuple #[])/\w'=w.setCell ⟨b,8,none⟩ (.pointer (some ⟨b,8,none⟩)):=by
 obtain⟨j,hj,hjs⟩:=qbq.1 zeq;go_enter Tryz.func91,Tryz.ntmps91
 go_wp2
 rw[Lib.run_to_unsafe w ⟨b,8,none⟩ Tryz.underlying68 Tryz.underlying147 hj (by rw[hjs];decide) hsh (show 8<11 by omega)];simp only[Result.andThen];rw[Oper.upon_value];go_wp2
 rw[qbo Tryz.func131 (by kernel_rfl) (by kernel_rfl) (by kernel_rfl) (e:=Extern.AbiNoEscape.same) (by kernel_rfl)];rw[Lib.run_noEscape];simp only[Result.andThen];rw[Oper.upon_value];go_wp2
 rw[Lib.run_from_unsafe w ⟨b,8,none⟩ Tryz.underlying147 Tryz.underlying68 hj hsh zqR];simp only[Result.andThen];rw[Oper.upon_value];go_wp2
 go_end0;exact⟨rfl,rfl⟩
theorem zml (B b:Nat) (r:Rd) (w:World) (h:RdAt B b r w):
  Calls Tryz.prog 91 #[.pointer (some ⟨b,8,none⟩)] w λ e w'=>e=.returned (.tuple #[])/\(B<=b/\∃v,w'.heap[b]? =some (.cells (rdV r (.pointer (some ⟨b,8,none⟩)) v) 72 (0,0))/\w'.ownsRow B 5 1 v r.data.length (Lib.byteCells r.data)/\(v=.slice none 0 0↔r.data=[]))/\Below B w w':=by
 have h8:=h.froz 8;obtain⟨h1,p,v,hp,hb,ho⟩:=h;have c8:w.cell? ⟨b,8,none⟩=some p:=by rw[qbQ hb];rfl
 rcases hp with rfl | rfl
 ·refine (ziK b w c8 (by simp[World.shape?,hb,rdV]) h8).mono ?_;rintro e w' ⟨rfl,rfl⟩;refine⟨rfl,⟨h1,v,?_,?_,ho.2⟩,(qco B w).setCell (p:=⟨b,8,none⟩) h1 _⟩
  ·rw[zef hb];rfl
  exact zaa (S:=λ k=>k=b) ho.1 (zeT w b 8 _) (λ k hk e=>zfQ ho.1 hb (by rw[hk,e]))
 refine (zkq b w c8).mono ?_;rintro e w' ⟨rfl,rfl⟩;exact⟨rfl,⟨h1,v,hb,ho⟩,qco B _⟩
set_option maxHeartbeats 2000000 in
theorem zk5 (B b:Nat) (r:Rd) (s:ByteArray) (w:World) (h:RdAt B b r w) (hlen:r.data.length+s.size<=140737488355328) (hBw:B<=w.heap.size):
  Calls Tryz.prog 56 #[.pointer (some ⟨b,8,none⟩),.string s] w λ e w'=>e=.returned (.tuple #[.int .i64 s.size,.nilIface])/\RdAt B b { r with data:=r.data++s.data.toList } w'/\Below B w w':=by
 obtain⟨i0,hi,hz0,hz1,hz2⟩:=qbb zdI;go_enter Tryz.func56,Tryz.ntmps56
 go_wp2_with fail;refine (zml B b r w h).mono ?_;rintro e w1 ⟨rfl,⟨hB,v,hbk,hown,hnil⟩,hb1⟩;have HNil:=Hd hnil;clear hnil;have hne:=zfQ hown hbk;have c1:w1.cell? ⟨b,9,none⟩=some v:=by rw[qbQ hbk];rfl
 go_wp2_with (at_builtin;refine Lib.wpList_append_own_string _ rfl _ _ 62 9 rfl B 5 i0 Tryz.underlying62 Tryz.underlying9 hi hz0 hz1 hz2 _ _ _ rfl hown s rfl ?c3 ?c4 ?c5 ?_)
 case c3=>unfold maxLen;omega
 case c4=>omega
 case c5=>have:=hb1.size;omega
 intro v' w2 hown' hgrow hnil';have HNL:Hid (v'=.slice none 0 0↔r.data++s.data.toList=[]):=Hd (by
  refine hnil'.trans ?_;rw[List.append_eq_nil_iff,<- HNil.out];refine and_congr_right λ _=>⟨λ e=>?_,λ e=>?_⟩
  ·first | (rw[e];rfl) | (exact qav e)
  first | exact e | (cases s;simp at e;subst e;rfl))
 clear hnil';have hb2:w2.heap[b]? =some (.cells (rdV r (.pointer (some ⟨b,8,none⟩)) v) 72 (0,0)):=by
  rw[hgrow.block b (qbK hbk) (λ e=>hne e.symm)];exact hbk
 have d1:w2.cell? ⟨b,9,none⟩=some v:=by rw[qbQ hb2];rfl
 have f1:w2.frozen? ⟨b,9,none⟩=false:=Lib.frozen_of_heap hb2 9;obtain⟨ao,n',cap,rfl⟩:∃ao n' cap,v'=.slice ao n' cap:=by
  rcases hown'.2 with⟨hv,_⟩ | ⟨g,cap,cur,hv,_⟩
  ·exact⟨_,_,_,hv⟩
  exact⟨_,_,_,hv⟩
 go_wp2_with fail;go_ret2;refine⟨rfl,⟨hB,.pointer (some ⟨b,8,none⟩),.slice ao n' cap,.inr rfl,?_,?_,?_⟩,?_⟩
 ·rw[zef hb2];rfl
 ·have e1:Lib.byteCells r.data++Lib.strCells s=Lib.byteCells (r.data++s.data.toList):=by rw[zdx];simp[Lib.byteCells]
  have ho2:=zaa (S:=λ k=>k=b) hown' (zeT w2 b 9 (.slice ao n' cap)) (λ k hk e=>zfQ hown' hb2 (by rw[hk,e]));rw[e1] at ho2;show World.ownsRow _ _ _ _ _ (r.data++s.data.toList).length _;rw[qaa];exact ho2
 ·exact HNL.out
 exact (hb1.grown hgrow (by have:=hb1.size;omega) (λ k hk=>(hown.lt k hk).1)).setCell (p:=⟨b,9,none⟩) hB _
set_option maxHeartbeats 2000000 in
theorem zi7 (B b:Nat) (r:Rd) (w:World) (h:RdAt B b r w):
  Calls Tryz.prog 31 #[.pointer (some ⟨b,8,none⟩)] w λ e w'=>e=.returned (.string ⟨r.data.toArray⟩)/\(∀cs,Bk w b cs->Bk w' b cs)/\(∀(k:Nat) es c,w.heap[k]? =some (Obj.map es c)->w'.heap[k]? =some (Obj.map es c))/\Below B w w':=by
 obtain⟨hB,p,v,hp,hbk,hown,hnil⟩:=h;have mixed: Tryz.prog.follows .mixedOrders=true:=by kernel_rfl
 by_cases h0:r.data=[]
 ·obtain rfl:=hnil.2 h0;have c1:w.drew.cell? ⟨b,9,none⟩=some (.slice none 0 0):=by
   have this:w.drew.heap[b]? =some (.cells (rdV r p (.slice none 0 0)) 72 (0,0)):=hbk;rw[qbQ this];rfl
  have hSD:(Builtin.unsafeSliceData_ #[62] 116 #[.slice none 0 0]).run Tryz.prog w.drew=.ok (.pointer none) w.drew:=Lib.run_unsafeSliceData_nil _ _ _ _ _;have hUS:=Lib.run_unsafeString_none (P:=Tryz.prog) (w:=w.drew) 116 3 9 none;have HD:=Hd h0;clear hown hnil h0 hbk hp;go_enter Tryz.func31,Tryz.ntmps31
  go_wp2
  go_region_o
  all_goals (go_wp2;go_ret;exact⟨by rw[HD.out];rfl,λ _ h=>h,λ _ _ _ h=>h,qag (qco B w)⟩)
 have hl0:r.data.length≠0:=by simpa using h0
 obtain⟨g,cap,cur,rfl,hbg,hg,hnc,hcm,hcs,htake⟩:∃g cap cur,v=.slice (some ⟨g,0,none⟩) r.data.length cap/\B<=g/\w.heap[g]? =some (.cells cur 5 (0,0))/\r.data.length<=cap/\cap<=maxLen/\cur.size=cap*1/\cur.toList.take (r.data.length*1)=Lib.byteCells r.data:=by
  rcases hown.2 with⟨_,hz⟩ | ⟨g,cap,cur,hv,r⟩
  ·exact absurd hz hl0
  exact⟨g,cap,cur,hv,r⟩
 have hne:=zfQ hown hbk;have c1:w.drew.cell? ⟨b,9,none⟩=some (.slice (some ⟨g,0,none⟩) r.data.length cap):=by
  have this:w.drew.heap[b]? =some (.cells (rdV r p (.slice (some ⟨g,0,none⟩) r.data.length cap)) 72 (0,0)):=hbk;rw[qbQ this];rfl
 have hSD:(Builtin.unsafeSliceData_ #[62] 116 #[.slice (some ⟨g,0,none⟩) r.data.length cap]).run Tryz.prog w.drew=.ok (.pointer (some ⟨g,0,none⟩)) w.drew:=
  Lib.run_unsafeSliceData_row _ _ _ _ _ _ (by omega)
 have hUS:(Builtin.unsafeString_ #[116,3] 9 #[.pointer (some ⟨g,0,none⟩),.int .i64 r.data.length]).run Tryz.prog w.drew=.ok (.string ⟨r.data.toArray⟩) (w.drew.freeze ⟨g,0,none⟩ r.data.length):=by
  refine Lib.run_unsafeString_row w.drew 116 3 9 5 Tryz.underlying116 (by kernel_rfl) g cur.size (by have hg':w.drew.heap[g]? =some (.cells cur 5 (0,0)):=hg;simp[World.shape?,hg']) r.data h0 (by omega) (by unfold maxLen at hcm;omega) ?_;intro j x hx;have:=hown.cells (g:=g) rfl j (.int .u8 x.toNat) (by simp[Lib.byteCells,hx]);exact this
 have hfr:∀k,k≠g->(w.drew.freeze ⟨g,0,none⟩ r.data.length).heap[k]? =w.heap[k]?:=by
  intro k hk;unfold World.freeze;split
  ·rfl
  simp only[qbk];rw[qac (λ e=>hk e.symm)];rfl
 have HB:Hid (∀cs,Bk w b cs->Bk (w.drew.freeze ⟨g,0,none⟩ r.data.length) b cs):=Hd (λ cs ⟨t,h⟩=>⟨t,(hfr b (λ e=>hne (by simp only[Value.ownBlock];exact congrArg some e.symm))).trans h⟩);have HM:Hid (∀(k:Nat) es c,w.heap[k]? =some (Obj.map es c)->(w.drew.freeze ⟨g,0,none⟩ r.data.length).heap[k]? =some (Obj.map es c)):=Hd (λ k es c h=>(hfr k (λ e=>by rw[e,hg] at h;cases h)).trans h);clear hfr hne htake hcs hnc hcm hg hown hnil hbk hp h0;go_enter Tryz.func31,Tryz.ntmps31
 go_wp2
 go_region_o
 all_goals (go_wp2;go_ret;exact⟨rfl,HB.out,HM.out,Lib.below_freeze (qag (qco B w)) (p:=⟨g,0,none⟩) hbg _⟩)
def zhM (w w':World) (E:Nat->Addr) (t:ByteArray) (wide step m:Nat) (e:Ending):Prop:=
 Ext w w'/\(((∀j,j<m->kdT t wide j<=4)/\e=.returned (.tuple #[.string (unS t wide step m),.nilIface]))\/(∃i F:Nat,i<m/\(∀j,j<i->kdT t wide j<=4)/\4<kdT t wide i/\(i:Int)<=9223372036854775807/\e=.returned (.tuple #[.string ⟨#[]⟩,.iface 107 (.pointer (some ⟨F,0,none⟩))])/\w'.heap[F]? =some (.cells #[.int .i64 (i:Int),sentV (E 0)] 109 (0,0))))
theorem zoA {w wz:World} {E:Nat->Addr} {t:ByteArray} {wide step m i:Nat} (hX:Ext w wz) (hi:i<m) (ha:∀j,j<i->kdT t wide j<=4) (hk:4<kdT t wide i) (hb:(i:Int)<=9223372036854775807):
  zhM w (wz.drew.alloc (.cells #[.int .i64 (i:Int),.iface 275 (.pointer (some (E 0)))] 109)) E t wide step m (.returned (.tuple #[.string ⟨#[]⟩,.iface 107 (.pointer (some ⟨wz.heap.size,0,none⟩))])):=
 ⟨(show Ext w wz.drew from qag hX).alloc _,.inr ⟨i,wz.heap.size,hi,ha,hk,hb,rfl,qbP wz.drew _⟩⟩
theorem zmT {t:ByteArray} {wide i:Nat} (M M2:Nat) (hM:i*(wide+1)=M) (h:0<(t.extract M M2).size):(t.extract M M2)[0].toNat=kdT t wide i:=by
 unfold kdT;rw[zar _ 0 h,hM];congr 1
 have hs:M<t.size:=by
  rw[qau] at h;omega
 have e:(t.extract M M2).data.toList=(t.data.toList.drop M).take (M2-M):=by
  rw[qb4,qca,List.extract_eq_take_drop]
 rw[e];have hl:M<t.data.toList.length:=by rw[qcq];exact hs
 have h2:0<M2-M:=by rw[qau] at h;omega
 simp only[List.getD];rw[qcn h2,List.getElem?_drop,qcd]
theorem zhx {t:ByteArray} {wide i:Nat} (M M2:Nat) (hM:i*(wide+1)=M) (hM2:(i+1)*(wide+1)=M2) (hle:M2<=t.size):(t.extract M M2).extract 1 (t.extract M M2).size=restT t wide i:=by
 unfold restT;rw[qau,ByteArray.extract_extract,hM,hM2,qcf hle];have:M<=M2:=by rw[<- hM,<- hM2];exact qaW _ (by omega)
 congr 1
 omega
set_option maxHeartbeats 2000000 in
theorem zm1 (t:ByteArray) (wide step m:Nat) (w:World) (E:Nat->Addr) (hE:Errs w E) (hn:t.size=m*(wide+1)) (hw:1<=wide/\wide<=300000) (hst:1<=step/\step<=8) (hs:t.size<=300000):
  Calls Tryz.prog 66 #[.string t,.int .i64 (wide:Int),.int .i64 (step:Int)] w λ e w'=>zhM w w' E t wide step m e:=by
 have HE:=Hd hE;have HN:=Hd hn;have hwh:=Hd (λ w=>znZ t (wide+1) wide 1 step w rfl hw (by omega) hst hs (by rw[hn];exact Nat.mul_mod_left _ _));obtain⟨h1,h2⟩:=hw;have HST:=Hd hst;obtain⟨h3,h4⟩:=hst;obtain⟨P,hP⟩:=nmE (wide+1);have hPI:(wide:Int)+1=(P:Int):=by omega
 have HPP:=Hd hP;clear hE hn;go_enter Tryz.func66,Tryz.ntmps66
 go_wp2_with fail;refine (hwh.out _).mono ?_;rintro e w1 ⟨rfl,rfl⟩;go_wp2_with fail;go_loopw [9,10,11] (λ u v c wr=>∃i:Nat,i<=m/\c=.int .i64 i/\u=.string (unS t wide step i)/\v=.string (unA t wide step i)/\Hid (∀j,j<i->kdT t wide j<=4)/\Hid (Ext w wr)) (λ _ _ c _=>m-(intOf c).toNat)
 case atStart=>exact⟨0,by omega,rfl,rfl,rfl,Hd (λ j hj=>by omega),Hd (Ext.refl _)⟩
 case round=>
  obtain⟨i,hi,rfl,rfl,rfl,HA,HX⟩:=hrel;have hn:=HN.out;have hus:=zeM (step:=step) HN.out i hi;obtain⟨M,hM⟩:=nmE (i*(wide+1));have hMP:i*P=M:=by rw[<- hP];exact hM
  have hMI:(i:Int)*(P:Int)=(M:Int):=by rw[<- hMP];simp
  have him:i<=300000:=by
   have q1:m<=m*(wide+1):=Nat.le_mul_of_pos_right _ (by omega);omega
  obtain⟨O,hO⟩:=nmE (unS t wide step i);have HO:=Hd hO;rw[hO] at hus⊢;have hOs:O.size<=300000:=by
   rw[hus];have q1:i*wide<=i*(wide+1):=Nat.mul_le_mul_left _ (by omega);have q2:i*(wide+1)<=m*(wide+1):=qaW _ hi;omega
  by_cases hlt:i<m
  ·obtain⟨M2,hM2⟩:=nmE ((i+1)*(wide+1));have hM2l:M2<=t.size:=by rw[<- hM2,hn];exact qaW _ hlt
   have hMM:M+P=M2:=by rw[<- hM,<- hM2,qcc,hP]
   have hM2I:((i:Int)+1)*(P:Int)=(M2:Int):=by rw[<- hMM,Int.add_mul,hMI];omega
   have hML:M<t.size:=by omega
   obtain⟨Rw,hRw⟩:=nmE (t.extract M M2);have hRs:Rw.size=P:=by rw[<- hRw,qau];omega
   have hR0:0<Rw.size:=by omega
   have hk0:Rw[0].toNat=kdT t wide i:=by subst hRw;exact zmT M M2 hM hR0
   obtain⟨Q,hQ⟩:=nmE (Rw.extract 1 Rw.size);have hQr:Q=restT t wide i:=by rw[<- hQ,<- hRw];exact zhx M M2 hM hM2 hM2l
   have hQs:Q.size=wide:=by rw[hQr];exact zcD HN.out hlt
   have HQR:=Hd hQr;have hok:=zqA (step:=step) HN.out hlt;rw[<- hQr] at hok;obtain⟨A,hA⟩:=nmE (unA t wide step i);rw[hA] at hok⊢;have HAA:=Hd hA;obtain⟨k,hk⟩:=nmE (Rw[0].toNat);have hk256:k<256:=by rw[<- hk];exact qcj _
   have HK:Hid (kdT t wide i=k):=Hd (by rw[<- hk0,hk]);have hkI:((Rw[0].toNat:Nat):Int)=(k:Int):=by rw[hk]
   have hwk:IntKind.i64.wrap (k:Int)=(k:Int):=by unfold IntKind.wrap;simp[IntKind.bits,IntKind.signed];omega
   have hPR:P=Rw.size:=hRs.symm;have hPR1:(1:Int)<=(Rw.size:Int):=by omega
   have HOK:=Hd hok;have HH1:=Hd hRs;clear hRs hPR hok hQr hA hk0 hM hM2 hMP hn hus hO;by_cases hk4:k<=4
   ·have HU:Hid (∀w5,Errs w5 E->Calls Tryz.prog 97 #[.int .i64 (k:Int),.string Q,.string A,.int .i64 (step:Int)] w5 λ e w'=>e=.returned (.tuple #[.string (undoS (k:Int) Q A step),.nilIface])/\Ext w5 w'):=Hd (λ w5 h5=>zg8 (k:Int) Q A step w5 (by omega) (by omega) (by omega) ⟨by omega,by omega,by omega,by omega⟩ HOK.out _ _ (h5.var 1 (by decide)) (h5.var 2 (by decide)));have HUA:Hid (unA t wide step (i+1)=undoS (k:Int) Q A step):=Hd (by show undoS _ _ _ _=_;rw[HK.out,HQR.out,HAA.out]);have HUS:Hid (unS t wide step (i+1)=O++undoS (k:Int) Q A step):=Hd (by show unS _ _ _ _++unA t wide step (i+1)=_;rw[HO.out,HUA.out]);have hus:(undoS (k:Int) Q A step).size=wide:=by rw[zdX];exact hQs
    obtain⟨V,hV⟩:=nmE (undoS (k:Int) Q A step);rw[hV] at HU HUA HUS hus;have HAN:Hid (∀j,j<i+1->kdT t wide j<=4):=Hd (λ j hj=>by
     rcases qbw.1 hj with q | rfl
     ·exact HA.out j q
     rw[HK.out];exact hk4)
    clear hV hk;go_wp2_with fail;have HXD:Hid (Ext w wr.drew):=Hd (qag HX.out);refine rgT ?_;refine tk5 0 1 2 3 4 ?_;refine tk2 5 6 ?_;refine rdT 7 λ KK hK=>?_;go_simp;with_reducible refine (HU.out _ (HE.out.ext HXD.out)).mono ?_
    rintro e w3 ⟨rfl,h⟩;have HX2:=Hd (HXD.out.trans h);clear h;go_simp;refine oT hK ?_;clear hK KK;refine tk5 8 9 10 11 12 ?_;refine dnT ?_;go_wp2_with fail;go_roundw
    case rel=>exact⟨i+1,by omega,by go_num,by rw[HUS.out],by rw[HUA.out],HAN,HX2⟩
    case measure=>simp[intOf];omega
   have HU:Hid (∀w5,Errs w5 E->Calls Tryz.prog 97 #[.int .i64 (k:Int),.string Q,.string A,.int .i64 (step:Int)] w5 λ e w'=>(∃j,e=.returned (.tuple #[.string ⟨#[]⟩,.iface 275 (.pointer (some (E j)))]))/\Ext w5 w'):=Hd (λ w5 h5=>(zhb (k:Int) Q A step w5 (by omega) (by omega) (by omega) (by omega) (λ h=>by have:=h.1.2.1;omega) (E 1) (E 2) (by have:=h5.var 1 (by decide);simpa only[gk,sentV] using this) (by have:=h5.var 2 (by decide);simpa only[gk,sentV] using this)).mono (λ e w' ⟨F,q,he,hw⟩=>⟨by rcases q with⟨rfl,_⟩ | ⟨rfl,_⟩;exact⟨1,he⟩;exact⟨2,he⟩,hw▸Ext.refl _⟩));clear hk;go_wp2_with fail;have HXD:Hid (Ext w wr.drew):=Hd (qag HX.out);refine rgT ?_;refine tk5 0 1 2 3 4 ?_;refine tk2 5 6 ?_;refine rdT 7 λ KK hK=>?_;go_simp;with_reducible refine (HU.out _ (HE.out.ext HXD.out)).mono ?_
   rintro e w3 ⟨⟨j,rfl⟩,h⟩;have HX2:=Hd (HXD.out.trans h);clear h;go_simp;refine oT hK ?_;clear hK KK;refine tk5 8 9 10 11 12 ?_;refine dnT ?_;have hv:=(HE.out.ext HX2.out).var 0 (by decide);simp only[gk,sentV] at hv;go_wp2_with fail;go_region;all_goals
    (try go_wp2_with fail);go_ret2;exact zoA HX2.out hlt HA.out (by rw[HK.out];omega) (by omega)
  obtain rfl:i=m:=by omega
  have hML:¬ M<t.size:=by omega
  go_wp2_with fail;go_ret2;exact⟨HX.out,.inl ⟨HA.out,by rw[HO.out];rfl⟩⟩
def zkY (w w':World) (t:ByteArray) (wide step m:Nat) (e:Ending):Prop:=
 Ext w w'/\(((∀j,j<m->kdT t wide j<=4)/\e=.returned (.tuple #[.string (unS t wide step m),.int .i64 (-1)]))\/(∃i:Nat,i<m/\(∀j,j<i->kdT t wide j<=4)/\4<kdT t wide i/\e=.returned (.tuple #[.string ⟨#[]⟩,.int .i64 (i:Int)])))
set_option maxHeartbeats 2000000 in
theorem zkG (t:ByteArray) (wide step m:Nat) (w:World) (hn:t.size=m*(wide+1)) (hw:1<=wide/\wide<=300000) (hst:1<=step/\step<=8) (hs:t.size<=300000):
  Calls Tryz.prog 50 #[.string t,.int .i64 (wide:Int),.int .i64 (step:Int)] w λ e w'=>zkY w w' t wide step m e:=by
 have HN:=Hd hn;obtain⟨h1,h2⟩:=hw;have HST:=Hd hst;obtain⟨h3,h4⟩:=hst;obtain⟨P,hP⟩:=nmE (wide+1);have hPI:(wide:Int)+1=(P:Int):=by omega
 have HPP:=Hd hP;clear hn;go_enter Tryz.func50,Tryz.ntmps50
 go_wp2_with fail;go_loopw [8,9,10] (λ u v c wr=>∃i:Nat,i<=m/\c=.int .i64 i/\u=.string (unS t wide step i)/\v=.string (unA t wide step i)/\Hid (∀j,j<i->kdT t wide j<=4)/\Hid (Ext w wr)) (λ _ _ c _=>m-(intOf c).toNat)
 case atStart=>exact⟨0,by omega,rfl,rfl,rfl,Hd (λ j hj=>by omega),Hd (Ext.refl _)⟩
 case round=>
  obtain⟨i,hi,rfl,rfl,rfl,HA,HX⟩:=hrel;have hn:=HN.out;have hus:=zeM (step:=step) HN.out i hi;obtain⟨M,hM⟩:=nmE (i*(wide+1));have hMP:i*P=M:=by rw[<- hP];exact hM
  have hMI:(i:Int)*(P:Int)=(M:Int):=by rw[<- hMP];simp
  have him:i<=300000:=by
   have q1:m<=m*(wide+1):=Nat.le_mul_of_pos_right _ (by omega);omega
  have hM3:M<=300000:=by
   have q2:i*(wide+1)<=m*(wide+1):=qaW _ hi;omega
  obtain⟨O,hO⟩:=nmE (unS t wide step i);have HO:=Hd hO;rw[hO] at hus⊢;have hOs:O.size<=300000:=by
   rw[hus];have q1:i*wide<=i*(wide+1):=Nat.mul_le_mul_left _ (by omega);omega
  obtain⟨M2,hM2⟩:=nmE ((i+1)*(wide+1));have hMM:M+P=M2:=by rw[<- hM,<- hM2,qcc,hP]
  have hM2I:((i:Int)+1)*(P:Int)=(M2:Int):=by rw[<- hMM,Int.add_mul,hMI];omega
  by_cases hlt:i<m
  ·have hM2l:M2<=t.size:=by rw[<- hM2,hn];exact qaW _ hlt
   obtain⟨Rw,hRw⟩:=nmE (t.extract M M2);have hRs:Rw.size=P:=by rw[<- hRw,qau];omega
   have hR0:0<Rw.size:=by omega
   have hk0:Rw[0].toNat=kdT t wide i:=by subst hRw;exact zmT M M2 hM hR0
   obtain⟨Q,hQ⟩:=nmE (Rw.extract 1 Rw.size);have hQr:Q=restT t wide i:=by rw[<- hQ,<- hRw];exact zhx M M2 hM hM2 hM2l
   have hQs:Q.size=wide:=by rw[hQr];exact zcD HN.out hlt
   have HQR:=Hd hQr;obtain⟨A,hA⟩:=nmE (unA t wide step i);rw[hA];have HAA:=Hd hA;obtain⟨k,hk⟩:=nmE (Rw[0].toNat);have hk256:k<256:=by rw[<- hk];exact qcj _
   have HK:Hid (kdT t wide i=k):=Hd (by rw[<- hk0,hk]);have hkI:((Rw[0].toNat:Nat):Int)=(k:Int):=by rw[hk]
   have hwk:IntKind.i64.wrap (k:Int)=(k:Int):=by unfold IntKind.wrap;simp[IntKind.bits,IntKind.signed];omega
   have hPR1:(1:Int)<=(Rw.size:Int):=by omega
   clear hRs hQr hA hk0 hM hM2 hMP hn hus hO;by_cases hk4:k<=4
   ·have HU:=Hd (λ w5=>ziz (k:Int) Q A step w5 (by omega) (by omega) h4 (by omega));have tk:=dF (p:=(4:Int)<(k:Int));have HUA:Hid (unA t wide step (i+1)=undoS (k:Int) Q A step):=Hd (by show undoS _ _ _ _=_;rw[HK.out,HQR.out,HAA.out]);have HUS:Hid (unS t wide step (i+1)=O++undoS (k:Int) Q A step):=Hd (by show unS _ _ _ _++unA t wide step (i+1)=_;rw[HO.out,HUA.out]);have hus:(undoS (k:Int) Q A step).size=wide:=by rw[zdX];exact hQs
    obtain⟨V,hV⟩:=nmE (undoS (k:Int) Q A step);rw[hV] at HU HUA HUS hus;have HAN:Hid (∀j,j<i+1->kdT t wide j<=4):=Hd (λ j hj=>by
     rcases qbw.1 hj with q | rfl
     ·exact HA.out j q
     rw[HK.out];exact hk4)
    clear hV hk;go_wp2_with fail;have HXD:Hid (Ext w wr.drew):=Hd (qag HX.out);refine rgT ?_;refine tk5 0 1 2 3 4 ?_;refine tk2 5 6 ?_;refine rdT 7 λ KK hK=>?_;go_simp;with_reducible refine (HU.out _).mono ?_
    rintro e w3 ⟨rfl,h⟩;have HX2:=Hd (HXD.out.trans h);clear h;go_simp;refine oT hK ?_;clear hK KK;refine tkH 8 ?_;refine dnT ?_;go_wp2_with fail;go_roundw
    case rel=>exact⟨i+1,by omega,by go_num,by rw[HUS.out],by rw[HUA.out],HAN,HX2⟩
    case measure=>simp[intOf];omega
   have tk:=dT (p:=(4:Int)<(k:Int));clear hk;go_wp2_with fail;go_ret2;exact⟨HX.out,.inr ⟨i,hlt,HA.out,by rw[HK.out];omega,rfl⟩⟩
  obtain rfl:i=m:=by omega
  have hM2l:¬ M2<=t.size:=by omega
  go_wp2_with fail;go_ret2;exact⟨HX.out,.inl ⟨HA.out,by rw[HO.out];rfl⟩⟩
end Go.Proofs.YthlibiocadimhaaGreatDoor
