/-
  plain.Code: the number of an error, and its place.
  Get where it cannot: too wide, or no more bits.
  match.Tokens of a text of two bytes at most: no match.
  faulted: an error's number and place.
  The package's errors, out of what a row lists.
-/
import Derived.Test.YthlibiocadimhaaGreatDoorPngReadsG5
import Derived.Test.YthlibiocadimhaaGreatDoorPngReadsG3
set_option linter.all false
set_option maxRecDepth 100000
namespace Go.Proofs.YthlibiocadimhaaGreatDoor
open Go.RowKit
theorem Ybe0 {p:Prop} (h:p:=by
 rintro e w4 ⟨rfl,rfl⟩;go_wp2_with fail;go_round
 case rel=>exact⟨i+1,by omega,rfl,by go_num⟩
 case measure=>simp[intOf];omega):p:=h
def gk:Nat->Nat
 | 0=> 1
 | 1=> 2
 | 2=> 0
 | 3=> 3
 | 4=> 4
 | 5=> 5
 | 6=> 6
 | 7=> 7
 | _=> 8
def sentV (a:Addr):Value:=.iface 275 (.pointer (some a))
structure Errs (w:World) (E:Nat->Addr):Prop where
 et:zcd w
 var:∀k,k<9->w.cell? ⟨gk k,0,none⟩=some (sentV (E k))
 row:∀k,k<9->∃c t,w.heap[(E k).block]? =some (.cells c t (0,0))
 ne:∀j k,j<9->k<9->j≠k->E j≠E k
theorem Errs.ext {w w':World} {E:Nat->Addr} (h:Errs w E) (hE:Ext w w'):Errs w' E:=by
 refine⟨?_,λ k hk=>?_,λ k hk=>?_,h.ne⟩
 ·exact (hE.cell (p:=⟨9,0,none⟩) (qab w _ h.et)).trans h.et
 ·exact (hE.cell (p:=⟨gk k,0,none⟩) (qab w _ (h.var k hk))).trans (h.var k hk)
 obtain⟨c,t,hc⟩:=h.row k hk;exact⟨c,t,(hE.block (E k).block (qbK hc)).trans hc⟩
inductive ErrV (w:World) (E:Nat->Addr):Value->Int->Int->Prop
 | nil:ErrV w E .nilIface 0 (-1)
 | sent (k:Nat) (hk:k<9):ErrV w E (sentV (E k)) ((k:Int)+1) (-1)
 | fault (k F:Nat) (a:Int) (hk:k<9) (h:w.heap[F]? =some (.cells #[.int .i64 a,sentV (E k)] 109 (0,0))) (h1: -9223372036854775808<=a) (h2:a<=9223372036854775807):ErrV w E (.iface 107 (.pointer (some ⟨F,0,none⟩))) ((k:Int)+1) a
theorem ErrV.ext {w w':World} {E:Nat->Addr} {v:Value} {c a:Int} (h:ErrV w E v c a) (hE:Ext w w'):ErrV w' E v c a:=by
 cases h with
 | nil=>exact .nil
 | sent k hk=>exact .sent k hk
 | fault k F a hk h h1 h2=>exact .fault k F a hk ((hE.block F (qbK h)).trans h) h1 h2
theorem zoC (w:World):Calls Tryz.prog 34 #[.nilIface] w λ e w'=>e=.returned (.tuple #[.int .i64 0,.int .i64 (-1)])/\Ext w w':=by
 go_enter Tryz.func34,Tryz.ntmps34
 go_wp2
 go_ret2;exact⟨rfl,Ext.refl _⟩
set_option maxHeartbeats 4000000 in
theorem zmU (w:World) (E:Nat->Addr) (hE:Errs w E) (k:Nat) (hk:k<9):Calls Tryz.prog 34 #[sentV (E k)] w λ e w'=>e=.returned (.tuple #[.int .i64 ((k:Int)+1),.int .i64 (-1)])/\Ext w w':=by
 have HE:=Hd hE;clear hE;unfold sentV;go_enter Tryz.func34,Tryz.ntmps34
 go_wp2_with fail;refine (zpO _ _ _ (HE.out.ext ((Ext.refl w).alloc _)).et).mono ?_;rintro e w2 ⟨rfl,h2⟩;have HX:Hid (Ext w w2):=Hd (((Ext.refl w).alloc _).trans h2);clear h2;have HE2:=Hd (HE.out.ext HX.out);have c0:=HE2.out.var 0 (by decide);have c1:=HE2.out.var 1 (by decide);have c2:=HE2.out.var 2 (by decide);have c3:=HE2.out.var 3 (by decide);have c4:=HE2.out.var 4 (by decide);have c5:=HE2.out.var 5 (by decide);have c6:=HE2.out.var 6 (by decide);have c7:=HE2.out.var 7 (by decide);have c8:=HE2.out.var 8 (by decide);simp only[gk,sentV] at c0 c1 c2 c3 c4 c5 c6 c7 c8;go_wp2_with fail;have cells:∀j,j<9->(w2.alloc (.cells #[.iface 275 (.pointer (some (E 0))),.iface 275 (.pointer (some (E 1))),.iface 275 (.pointer (some (E 2))),.iface 275 (.pointer (some (E 3))),.iface 275 (.pointer (some (E 4))),.iface 275 (.pointer (some (E 5))),.iface 275 (.pointer (some (E 6))),.iface 275 (.pointer (some (E 7))),.iface 275 (.pointer (some (E 8)))] 28)).cell? ⟨w2.heap.size,j,none⟩=some (.iface 275 (.pointer (some (E j)))):=by
  intro j hj;rw[qaV _ _ _ _ rfl];match j,hj with
  | 0,_=>rfl
  | 1,_=>rfl
  | 2,_=>rfl
  | 3,_=>rfl
  | 4,_=>rfl
  | 5,_=>rfl
  | 6,_=>rfl
  | 7,_=>rfl
  | 8,_=>rfl
 have HC:=Hd cells;have HX3:Hid (Ext w (w2.alloc (.cells #[.iface 275 (.pointer (some (E 0))),.iface 275 (.pointer (some (E 1))),.iface 275 (.pointer (some (E 2))),.iface 275 (.pointer (some (E 3))),.iface 275 (.pointer (some (E 4))),.iface 275 (.pointer (some (E 5))),.iface 275 (.pointer (some (E 6))),.iface 275 (.pointer (some (E 7))),.iface 275 (.pointer (some (E 8)))] 28))):=Hd (HX.out.alloc _);have HE3:=Hd (HE.out.ext HX3.out);clear cells c0 c1 c2 c3 c4 c5 c6 c7 c8;generalize hw3:(w2.alloc (.cells #[.iface 275 (.pointer (some (E 0))),.iface 275 (.pointer (some (E 1))),.iface 275 (.pointer (some (E 2))),.iface 275 (.pointer (some (E 3))),.iface 275 (.pointer (some (E 4))),.iface 275 (.pointer (some (E 5))),.iface 275 (.pointer (some (E 6))),.iface 275 (.pointer (some (E 7))),.iface 275 (.pointer (some (E 8)))] 28))=w3 at *;clear hw3;go_loop [3,27] (λ p c=>∃i:Nat,i<=k/\p=.int .i64 (-1)/\c=.int .i64 i) (λ _ c=>k-(intOf c).toNat)
 case atStart=>exact⟨0,by omega,rfl,rfl⟩
 case round=>
  obtain⟨i,hi,rfl,rfl⟩:=hrel;have hc:=HC.out i (by omega);obtain⟨ca,ta,ha⟩:=HE3.out.row k hk;obtain⟨cb,tb,hb⟩:=HE3.out.row i (by omega);have HA:=Hd ha;have HB:=Hd hb;clear ha hb;by_cases hik:i=k
  ·subst hik;go_wp2_with fail;refine (zp9 _ _).mono ?_;rintro e w4 ⟨rfl,rfl⟩;go_wp2_with fail;go_ret2;exact⟨rfl,HX3.out⟩
  have hne:=HE3.out.ne k i hk (by omega) (λ e=>hik e.symm);have HN:=Hd hne;clear hne;go_wp2_with fail;refine (zn9 _ _ ca cb ta tb _ HN.out HA.out HB.out).mono ?_;exact Ybe0
set_option maxHeartbeats 4000000 in
theorem zkw (w:World) (E:Nat->Addr) (hE:Errs w E) (k F:Nat) (a:Int) (hk:k<9) (h:w.heap[F]? =some (.cells #[.int .i64 a,sentV (E k)] 109 (0,0))):Calls Tryz.prog 34 #[.iface 107 (.pointer (some ⟨F,0,none⟩))] w λ e w'=>e=.returned (.tuple #[.int .i64 ((k:Int)+1),.int .i64 a])/\Ext w w':=by
 have HF:=Hd h;clear h;have HE:=Hd hE;clear hE;go_enter Tryz.func34,Tryz.ntmps34
 go_wp2_with fail;refine (zqX ⟨F,0,none⟩ ⟨w.heap.size,0,none⟩ (.pointer none) _ (HE.out.ext ((Ext.refl w).alloc _)).et (by simp) (by simp)).mono ?_;rintro e w2 ⟨rfl,h2,ct,zt⟩;have HX:Hid (Ext w w2):=Hd (by
  have q:=((Ext.refl w).alloc (.cells #[.pointer none] 107)).keeps (S:=λ k=>k=w.heap.size) |>.trans h2 (λ _ _ q=>q)
  exact q.below (qaj _) (λ k hk e=>by omega))
 clear h2;have HF2:Hid (w2.heap[F]? =some (.cells #[.int .i64 a,sentV (E k)] 109 (0,0))):=Hd ((HX.out.block F (qbK HF.out)).trans HF.out);have hF0:w2.cell? ⟨F,0,none⟩=some (.int .i64 a):=by simp[World.cell?,HF2.out]
 have HE2:=Hd (HE.out.ext HX.out);have c0:=HE2.out.var 0 (by decide);have c1:=HE2.out.var 1 (by decide);have c2:=HE2.out.var 2 (by decide);have c3:=HE2.out.var 3 (by decide);have c4:=HE2.out.var 4 (by decide);have c5:=HE2.out.var 5 (by decide);have c6:=HE2.out.var 6 (by decide);have c7:=HE2.out.var 7 (by decide);have c8:=HE2.out.var 8 (by decide);simp only[gk,sentV] at c0 c1 c2 c3 c4 c5 c6 c7 c8;go_wp2_with fail;have cells:∀j,j<9->(w2.alloc (.cells #[.iface 275 (.pointer (some (E 0))),.iface 275 (.pointer (some (E 1))),.iface 275 (.pointer (some (E 2))),.iface 275 (.pointer (some (E 3))),.iface 275 (.pointer (some (E 4))),.iface 275 (.pointer (some (E 5))),.iface 275 (.pointer (some (E 6))),.iface 275 (.pointer (some (E 7))),.iface 275 (.pointer (some (E 8)))] 28)).cell? ⟨w2.heap.size,j,none⟩=some (.iface 275 (.pointer (some (E j)))):=by
  intro j hj;rw[qaV _ _ _ _ rfl];match j,hj with
  | 0,_=>rfl
  | 1,_=>rfl
  | 2,_=>rfl
  | 3,_=>rfl
  | 4,_=>rfl
  | 5,_=>rfl
  | 6,_=>rfl
  | 7,_=>rfl
  | 8,_=>rfl
 have HC:=Hd cells;have HF3:Hid ((w2.alloc (.cells #[.iface 275 (.pointer (some (E 0))),.iface 275 (.pointer (some (E 1))),.iface 275 (.pointer (some (E 2))),.iface 275 (.pointer (some (E 3))),.iface 275 (.pointer (some (E 4))),.iface 275 (.pointer (some (E 5))),.iface 275 (.pointer (some (E 6))),.iface 275 (.pointer (some (E 7))),.iface 275 (.pointer (some (E 8)))] 28)).cell? ⟨F,1,none⟩=some (sentV (E k))):=Hd (by rw[World.cell?_alloc_past _ _ _ (qbK HF2.out)];simp[World.cell?,HF2.out]);have HX3:Hid (Ext w (w2.alloc (.cells #[.iface 275 (.pointer (some (E 0))),.iface 275 (.pointer (some (E 1))),.iface 275 (.pointer (some (E 2))),.iface 275 (.pointer (some (E 3))),.iface 275 (.pointer (some (E 4))),.iface 275 (.pointer (some (E 5))),.iface 275 (.pointer (some (E 6))),.iface 275 (.pointer (some (E 7))),.iface 275 (.pointer (some (E 8)))] 28))):=Hd (HX.out.alloc _);have HE3:=Hd (HE.out.ext HX3.out);clear cells hF0 ct zt c0 c1 c2 c3 c4 c5 c6 c7 c8;generalize hw3:(w2.alloc (.cells #[.iface 275 (.pointer (some (E 0))),.iface 275 (.pointer (some (E 1))),.iface 275 (.pointer (some (E 2))),.iface 275 (.pointer (some (E 3))),.iface 275 (.pointer (some (E 4))),.iface 275 (.pointer (some (E 5))),.iface 275 (.pointer (some (E 6))),.iface 275 (.pointer (some (E 7))),.iface 275 (.pointer (some (E 8)))] 28))=w3 at *
 clear hw3;go_loop [3,27] (λ p c=>∃i:Nat,i<=k/\p=.int .i64 a/\c=.int .i64 i) (λ _ c=>k-(intOf c).toNat)
 case atStart=>exact⟨0,by omega,rfl,rfl⟩
 case round=>
  obtain⟨i,hi,rfl,rfl⟩:=hrel;have hc:=HC.out i (by omega);obtain⟨ca,ta,ha⟩:=HE3.out.row k hk;obtain⟨cb,tb,hb⟩:=HE3.out.row i (by omega);have HA:=Hd ha;have HB:=Hd hb;clear ha hb;by_cases hik:i=k
  ·subst hik;go_wp2_with fail;refine (zg5 F _ _ HF3.out).mono ?_;rintro e w4 ⟨rfl,rfl⟩;go_wp2_with fail;go_ret2;exact⟨rfl,HX3.out⟩
  have hne:=HE3.out.ne k i hk (by omega) (λ e=>hik e.symm);have HN:=Hd hne;clear hne;go_wp2_with fail;refine (zf7 F _ _ ca cb ta tb _ HF3.out HN.out HA.out HB.out).mono ?_;exact Ybe0
theorem zeQ (w:World) (E:Nat->Addr) (hE:Errs w E) (v:Value) (c a:Int) (h:ErrV w E v c a):Calls Tryz.prog 34 #[v] w λ e w'=>e=.returned (.tuple #[.int .i64 c,.int .i64 a])/\Ext w w':=by
 cases h with
 | nil=>exact zoC w
 | sent k hk=>exact zmU w E hE k hk
 | fault k F a hk h h1 h2=>exact zkw w E hE k F a hk h
structure Er2 (w:World) (E:Nat->Addr):Prop where
  c0:w.cell? ⟨1,0,none⟩=some (.iface 275 (.pointer (some (E 0))))
  c1:w.cell? ⟨2,0,none⟩=some (.iface 275 (.pointer (some (E 1))))
theorem Er2.ext {w w':World} {E:Nat->Addr} (h:Er2 w E) (hE:Ext w w'):Er2 w' E:=
  ⟨(hE.cell (p:=⟨1,0,none⟩) (qab w _ h.c0)).trans h.c0,(hE.cell (p:=⟨2,0,none⟩) (qab w _ h.c1)).trans h.c1⟩
theorem Errs.er2 {w:World} {E:Nat->Addr} (h:Errs w E):Er2 w E:=⟨h.var 0 (by decide),h.var 1 (by decide)⟩
theorem zlC (B o a k:Nat) (s:ByteArray) (w:World) (E:Nat->Addr) (hE:Er2 w E) (hR:RAt w B o s a) (hk:k<=32) (ha:8*s.size<a+k) (_ha2:a<=8*s.size):
    Calls Tryz.prog 172 #[.pointer (some ⟨B,o,none⟩),.int .i64 (k:Int)] w λ e w'=>e=.returned (.tuple #[.int .u32 0,sentV (E 0)])/\Ext w w':=by
  have c1:=hE.c0;clear hE;go_enter Tryz.func172,Tryz.ntmps172
  go_wp2_with fail;refine (zcF B o a s _ hR).mono ?_;rintro e w2 ⟨rfl,m,rfl⟩;go_wp2_with fail;go_quiet (fail)
  go_wp2
  unfold sentV;go_ret2;exact⟨rfl,by repeat (first | exact Ext.refl _ | refine Ext.drewN ?_ _)⟩
theorem zhV (B o a k:Nat) (s:ByteArray) (w:World) (E:Nat->Addr) (hE:Errs w E) (hR:RAt w B o s a) (hk:k<=32) (ha:8*s.size<a+k) (ha2:a<=8*s.size):
    Calls Tryz.prog 172 #[.pointer (some ⟨B,o,none⟩),.int .i64 (k:Int)] w λ e w'=>e=.returned (.tuple #[.int .u32 0,sentV (E 0)])/\Ext w w':=
  zlC B o a k s w E hE.er2 hR hk ha ha2
end Go.Proofs.YthlibiocadimhaaGreatDoor
namespace Go.Proofs.YthlibiocadimhaaGreatDoor
open Go.RowKit
def tkl (l:List Tk) (i:Nat):Tk:=l.getD i ⟨0,0,0⟩
theorem zju (l:List Tk) (t:Tk) {i:Nat} (h:i<l.length):tkl (l ++ [t]) i=tkl l i:=by
 unfold tkl;rw[List.getD,List.getD,qbj h]
theorem zji (l:List Tk) (t:Tk):tkl (l ++ [t]) l.length=t:=by
 unfold tkl;rw[List.getD,qbA (qaj _),qcp];rfl
theorem zkm {tk tk':Nat->Tk}:∀ {n:Nat},(∀i,i<n->tk i=tk' i)->expL tk n=expL tk' n:=by
 intro n;induction n with
 | zero=>intro _;rfl
 | succ n ih=>intro h;simp only[expL];rw[ih (λ i hi=>h i (by omega)),h n (by omega)]
theorem zlp {l:List Tk} {t:Tk} {out o:List UInt8} (h:expL (tkl l) l.length=.ok out) (hs:stepX t l.length out=.ok o):expL (tkl (l ++ [t])) (l ++ [t]).length=.ok o:=by
 have h1:expL (tkl (l ++ [t])) l.length=.ok out:=by rw[<- h];exact zkm (λ i hi=>zju l t hi)
 rw[qaa,qby,zlT h1,zji];exact hs
def pre (s:ByteArray) (a:Nat):List UInt8:=s.data.toList.take a
theorem zeV (s:ByteArray):s.data.toList.length=s.size:=by simp
theorem zoV (s:ByteArray) {a:Nat} (h:a<=s.size):(pre s a).length=a:=by unfold pre;rw[qax,zeV];omega
theorem zo4 (s:ByteArray):pre s s.size=s.data.toList:=by unfold pre;rw[<- zeV];exact List.take_length
theorem zhy (s:ByteArray) {a:Nat} (h:a<s.size):pre s (a+1)=pre s a ++ [s.data.toList.getD a 0]:=by
 have h':a<s.data.toList.length:=by rw[zeV];exact h
 unfold pre;rw[qbS,qai h',List.getD,qai h'];rfl
def litK (b:UInt8):Tk:=⟨b,0,0⟩
structure TL (s:ByteArray) (W T a:Nat) (l:List Tk):Prop where
 means:expL (tkl l) l.length=.ok (pre s a)
 le:a<=s.size
 few:l.length<=a
 ok:∀t∈l,t.Ok
 lits:l=(pre s a).map litK
def zjx (_:ByteArray):Nat:=0
theorem TL.lit {s:ByteArray} {W T a:Nat} {l:List Tk} (h:TL s W T a l) (ha:a<s.size) (hs:s.size<=300000):TL s W T (a+1) (l ++ [litK (s.data.toList.getD a 0)]):=by
 refine⟨?_,by omega,by rw[qaa,qby];have:=h.few;omega,?_,by rw[zhy s ha,qbs,<- h.lits];rfl⟩
 ·refine zlp h.means ?_;rw[zhy s ha];exact zmt ⟨rfl,rfl⟩ (by rw[zoV s h.le];omega)
 intro t ht;rcases qa3.1 ht with ht | ht
 ·exact h.ok t ht
 rw[qaN.1 ht];exact⟨⟨by show (-9223372036854775808:Int)<=0;decide,by show (0:Int)<=9223372036854775807;decide⟩,⟨by show (-9223372036854775808:Int)<=0;decide,by show (0:Int)<=9223372036854775807;decide⟩⟩
theorem znf (l:List Tk) (t:Tk):tkV (l ++ [t]).length (tkl (l ++ [t]))=tkV l.length (tkl l) ++ [.int .u8 (t.b.toNat:Int),.int .i64 t.l,.int .i64 t.d]:=by
 have e:(l ++ [t]).length*3=l.length*3+1+1+1:=by rw[qaa,qby];omega
 have h0:(List.range (l.length*3)).map (cellT (tkl (l ++ [t])))=(List.range (l.length*3)).map (cellT (tkl l)):=by
  apply List.map_congr_left;intro j hj;have hj:=List.mem_range.1 hj;unfold cellT;rw[zju l t (by omega)]
 unfold tkV;rw[e,qbC,qbC,qbC,qbs,qbs,qbs,h0];simp only[qaG,qa9,qat,qa2,qbx];rw[cellT_0,cellT_1,cellT_2,zji]
theorem zqY {w:World} {base:Nat} {e:TypeId} {size n:Nat} {v:Value} {xs:List Value} (h:w.ownsRow base e size v n xs):∃x c,v=.slice x n c:=by
 rcases zah h with⟨rfl,rfl⟩ | ⟨g,c,rfl⟩
 ·exact⟨none,0,rfl⟩
 exact⟨some ⟨g,0,none⟩,c,rfl⟩
theorem zq2 {w:World} {b b':Nat} {e:TypeId} {size:Nat} {v:Value} {n:Nat} {xs:List Value} (h:w.ownsRow b e size v n xs) (hb:b'<=b):w.ownsRow b' e size v n xs:=by
 obtain⟨h1,h2⟩:=h;refine⟨h1,?_⟩;rcases h2 with h2 | ⟨g,cap,cur,hv,hg,r⟩
 ·exact .inl h2
 exact .inr ⟨g,cap,cur,hv,by omega,r⟩
theorem zpB (s:ByteArray) (i:Nat) (h:i<s.size):s[i]=s.data.toList.getD i 0:=by
 have h':i<s.data.toList.length:=by simpa using h
 rw[List.getD,qai h'];simp;rfl
theorem zn2:(Tryz.prog.info? 3).map (λ i=>(i.zero,i.size,i.bytes))=some (some (.int .i64 0),1,8):=by kernel_rfl
theorem znd (s:ByteArray) (w:World) (hs:s.size<=2):Calls Tryz.prog 116 #[.string s,.int .i64 32768] w λ e w'=>e=.returned (.bool false)/\w'=w:=by
 have t1:=dF (p:=(300000:Int)<(s.size:Int));have n1:¬ 300000<s.size:=by omega
 go_enter Tryz.func116,Tryz.ntmps116
 go_wp2_with fail;go_ret;exact⟨rfl,rfl⟩
theorem zkK (s:ByteArray) (tries:Int) (w:World) (hs:s.size<=2):
  Calls Tryz.prog 117 #[.string s,.int .i64 32768,.int .i64 tries] w λ e w'=>∃B mp ab c,e=.returned (.pointer (some ⟨B,0,none⟩))/\Bk w' B #[.string s,.int .i64 32768,.map mp,.slice ab s.size c,.int .i64 tries]/\Ext w w':=by
 have hmm:=@run_makeMap Tryz.prog;have hmk:=qbR (P:=Tryz.prog) 88 3 (.int .i64 0) 8 Tryz.underlying88 zn2 rfl .i64 .i64 s.size (by omega) (by omega);go_enter Tryz.func117,Tryz.ntmps117
 go_wp2_with fail;go_ret;exact⟨w.heap.size+1+1,_,_,_,rfl,Bk.at (by simp),((Ext.refl _).alloc _).alloc _ |>.alloc _⟩
section
variable (B a:Nat) (s:ByteArray) (w:World) (c0:w.cell? ⟨B,0,none⟩=some (.string s)) (ha:s.size<a+3) (hl:a<=2)
include c0 ha hl
theorem ziS:Calls Tryz.prog 118 #[.pointer (some ⟨B,0,none⟩),.int .i64 (a:Int)] w λ e w'=>e=.returned (.tuple #[.int .i64 0,.int .i64 0])/\w'=w:=by
 have t:(s.size:Int)<(a:Int)+3:=by omega
 have wq:=wqz (x:=(a:Int)+3);go_enter Tryz.func118,Tryz.ntmps118
 go_wp2_with fail;go_ret2;exact⟨rfl,rfl⟩
theorem zph:Calls Tryz.prog 119 #[.pointer (some ⟨B,0,none⟩),.int .i64 (a:Int)] w λ e w'=>e=.returned (.tuple #[])/\w'=w:=by
 have t:(s.size:Int)<(a:Int)+3:=by omega
 have wq:=wqz (x:=(a:Int)+3);go_enter Tryz.func119,Tryz.ntmps119
 go_wp2_with fail;exact qaZ (v:=.tuple #[]) (by simp[results,Tryz.results119,go_sem]) rfl ⟨rfl,rfl⟩
end
set_option maxHeartbeats 4000000 in
theorem zi0 (s:ByteArray) (w:World) (hs:s.size<=2):
  Calls Tryz.prog 86 #[.string s,.int .i64 32768] w λ e w'=>∃(l:List Tk) (v:Value),e=.returned (.tuple #[v,.nilIface])/\w'.ownsRow w.heap.size 165 3 v l.length (tkV l.length (tkl l))/\TL s 32768 (zjx s) s.size l/\Ext w w':=by
 obtain⟨i0,hi0,hz0,hz1,hz2⟩:=qbb zqw;have HB:=Hd (znd s w hs);have t1:=dF (p:=(3000:Int)<(s.size:Int));have n1:¬ 3000<s.size:=by omega
 go_enter Tryz.func86,Tryz.ntmps86
 go_wp2_with fail;refine HB.out.mono ?_;rintro e w9 ⟨rfl,rfl⟩;go_wp2_with fail;refine (zkK s (s.size:Int) w9 hs).mono ?_;rintro e w1 ⟨B,mp,ab,c,rfl,hB,hX⟩;have HF:=Hd hB;have X1:=Hd hX;obtain⟨base,hbs⟩:=nmE (w1.heap.size);have HBS:=Hd hbs;have hlt0:Hid (B<base):=Hd (by rw[<- hbs];exact hB.lt);clear hB hX t1 n1 HB hbs;go_wp2_with fail;go_loopw [8,9] (λ v k wr=>∃(v':Value) (a:Nat) (l:List Tk),v'=v/\k=.int .i64 (a:Int)/\l.length=a/\Hid (TL s 32768 (zjx s) a l)/\Hid (Ext w1 wr)/\Hid (wr.ownsRow base 165 3 v' l.length (tkV l.length (tkl l)))) (λ _ k _=>s.size-(intOf k).toNat)
 case atStart=>exact⟨_,0,[],rfl,rfl,rfl,Hd ⟨rfl,qbi _,qaj _,by simp,rfl⟩,Hd (Ext.refl _),Hd (qaK _ _ _ _)⟩
 case round=>
  obtain⟨v,a,l,rfl,rfl,hla,HL,HX,HR⟩:=hrel;have hal:=HL.out.le;obtain⟨xo,co,rfl⟩:=zqY HR.out;have HLA:=Hd hla;rw[hla] at HR⊢;clear hla;by_cases hlt:a<s.size
  ·as_aux_lemma=>
    have t2:=dT (p:=(a:Int)<(s.size:Int));obtain⟨y,hy⟩:=nmE (s[a]'hlt);have HY:Hid (s.data.toList.getD a 0=y):=Hd (by rw[<- zpB s a hlt,hy]);obtain⟨yn,hyn⟩:=nmE (y.toNat);have hyI:(((s[a]'hlt).toNat:Nat):Int)=(yn:Int):=by rw[hy,hyn]
    have HYN:=Hd hyn;have HLG:=Hd (λ (wz:World) (hz:Ext w1 wz)=>ziS B a s wz ((HF.out.ext hz).cell 0) (by omega) (by omega));have HPU:=Hd (λ (wz:World) (hz:Keeps (λ k=>base<=k) w1 wz)=>zph B a s wz ((HF.out.keeps hz (by have:=hlt0.out;omega)).cell 0) (by omega) (by omega));have ha0:(0:Int)<=(a:Int):=by omega
    clear hy hyn;go_wp2_with fail;refine (HLG.out wr HX.out).mono ?_;rintro e w3 ⟨rfl,hw3⟩;obtain rfl:=hw3.symm;have n3:¬ (3:Int)<=0:=by decide
    clear HLG;go_upto_region 14 with fail;refine zac (λ wz=>Ext wr wz/\Bk wz wr.heap.size #[.int .u8 (yn:Int),.int .i64 0,.int .i64 0]) ⟨(Ext.refl _).alloc _,Bk.at rfl⟩ ?_;rintro w4 ⟨hE,hB⟩;obtain⟨T,hT⟩:=nmE (wr.heap.size);rw[hT] at hB⊢;have HB4:=Hd hB;have HX4:=Hd (HX.out.trans hE);have HR4:=Hd (zaa HR.out (hE.keeps (S:=λ _=>False)) (λ _ _ q=>q));have HTB:Hid (∀k,(Value.slice xo a co).ownBlock=some k->k<T):=Hd (λ k e=>by rw[<- hT];exact (HR.out.lt k e).2);have k0:=hB.cell 0;have k1:=hB.cell 1;have k2:=hB.cell 2;have hzb:=HX4.out.size;have hbase:=HBS.out;clear hE hB hT HX HR t2 hyI n3;go_wp2_with (at_builtin;refine apA (HR4.out.alloc _) [.int .u8 (yn:Int),.int .i64 0,.int .i64 0] ?_);intro v7 w7 hown hgrow _ hat;have K7:=(Keeps.alloc (Ext.keeps (S:=λ i=>(Value.slice xo a co).ownBlock=some i) (Ext.refl w4)) (.cells #[.int .u8 (yn:Int),.int .i64 0,.int .i64 0] 165)).trans (Keeps.grown hgrow) (λ _ _ q=>q);have HO7:Hid (w7.ownsRow base 165 3 v7 (l ++ [litK (s.data.toList.getD a 0)]).length (tkV (l ++ [litK (s.data.toList.getD a 0)]).length (tkl (l ++ [litK (s.data.toList.getD a 0)])))):=Hd (by
     rw[znf,qaa,qby,HLA.out];show w7.ownsRow base 165 3 v7 (a+1) (tkV a (tkl l) ++ [.int .u8 ((s.data.toList.getD a 0).toNat:Int),.int .i64 0,.int .i64 0]);rw[HY.out,HYN.out];exact hown)
    have HB7:=Hd (HB4.out.keeps K7 (λ e=>by have:=HTB.out _ e;omega));have HX7:Hid (Ext w1 w7):=Hd (Below.trans HX4.out (K7.below HX4.out.size (λ k hk e=>by have:=(HR4.out.lt k e).1;rw[HBS.out] at hk;omega)));have HL7:=Hd (HL.out.lit hlt (by omega));clear hown hgrow hat K7 HB4 HR4 k0 k1 k2 HX4 HTB;have k1:=HB7.out.cell 1;have hmx:(if (1:Int)<0 then (0:Int) else 1)=1:=by decide
    have t3:decide ((0:Int)<1)=true:=by decide
    have t4:decide ((1:Int)<1)=false:=by decide
    go_wp2_with fail;clear hmx k1;go_loopw [9,52] (λ k i wr=>∃j A:Nat,Hid (A=a+j)/\k=.int .i64 (A:Int)/\i=.int .i64 (j:Int)/\j<=1/\wr=w7) (λ _ i _=>1-(intOf i).toNat)
    case atStart=>exact⟨0,a,Hd rfl,rfl,rfl,by omega,rfl⟩
    case round=>
     obtain⟨j,A,HA,rfl,rfl,hj,rfl⟩:=hrel;obtain⟨A1,hA1⟩:=nmE (A+1);have hAi:(A:Int)+1=(A1:Int):=by omega
     have wa:∀z,z=(A1:Int)->IntKind.i64.wrap z=z:=by rintro _ rfl;rw[qal];have:=HA.out;omega
     have HA1:=Hd hA1;clear hA1;by_cases hj0:j<1
     ·have t5:=dT (p:=(j:Int)<1);have HPA:Hid (Calls Tryz.prog 119 #[.pointer (some ⟨B,0,none⟩),.int .i64 (A:Int)] wr λ e w'=>e=.returned (.tuple #[])/\w'=wr):=Hd (by
       have:A=a:=by have:=HA.out;omega
       rw[this];exact HPU.out _ (HX7.out.keeps))
      have HJ:=Hd hj0;obtain⟨j1,hj1⟩:=nmE (j+1);have hji:(j:Int)+1=(j1:Int):=by omega
      have wj:=wqz (x:=(j1:Int));have HJ1:=Hd hj1;have hj2:j1<=1:=by omega
      clear hj0 hj1;go_wp2_with fail;refine HPA.out.mono ?_;rintro e w8 ⟨rfl,hw8⟩;obtain rfl:=hw8.symm;go_wp2_with fail;go_roundw
      case rel=>exact⟨j1,A1,Hd (by have:=HA.out;have:=HA1.out;have:=HJ1.out;omega),by first | rfl | go_num,by first | rfl | go_num,hj2,by first | rfl | trivial⟩
      case measure=>have:=HJ1.out;simp[intOf];omega
     have t5:=dF (p:=(j:Int)<1);have HJ:Hid (A=a+1):=Hd (by have:=HA.out;omega);have n5:¬ j<1:=hj0;clear wa hAi;go_wp2_with fail;go_roundw
     case rel=>exact⟨v7,A,_,rfl,rfl,by rw[qaa,qby,HLA.out,HJ.out],by rw[HJ.out];exact HL7,HX7,HO7⟩
     case measure=>have:=HJ.out;simp[intOf];omega
  ·as_aux_lemma=>
    obtain rfl:a=s.size:=by omega
    have t2:=dF (p:=(s.size:Int)<(s.size:Int));go_wp2_with fail;go_ret2;exact⟨l,_,rfl,by rw[HLA.out];exact zq2 HR.out (by rw[<- HBS.out];exact X1.out.size),HL.out,X1.out.trans HX.out⟩
end Go.Proofs.YthlibiocadimhaaGreatDoor
namespace Go.Proofs.YthlibiocadimhaaGreatDoor
open Go.RowKit
theorem ziL (w:World) (E:Nat->Addr) (hE:Errs w E) (v:Value) (c a n b:Int) (h:ErrV w E v c a):Calls Tryz.prog 18 #[v,.agg #[.int .i64 n,.int .i64 b]] w λ e w'=>e=.returned (.bool (decide (c=n/\(c=0\/a=b))))/\Ext w w':=by
  have h':=h.ext ((Ext.refl w).alloc (.cells #[.int .i64 n,.int .i64 b] 39));have hE':=hE.ext ((Ext.refl w).alloc (.cells #[.int .i64 n,.int .i64 b] 39));have HH:=Hd h';have HE:=Hd hE';clear h h' hE hE';have fin:∀w2,Ext (w.alloc (.cells #[.int .i64 n,.int .i64 b] 39)) w2->Ext w w2/\w2.cell? ⟨w.heap.size,0,none⟩=some (.int .i64 n)/\w2.cell? ⟨w.heap.size,1,none⟩=some (.int .i64 b):=by
    intro w2 h2;refine⟨((Ext.refl w).alloc _).trans h2,(h2.cell (p:=⟨w.heap.size,0,none⟩) (by simp)).trans (by simp),(h2.cell (p:=⟨w.heap.size,1,none⟩) (by simp)).trans (by simp)⟩
  have FIN:=Hd fin
  clear fin
  by_cases hc:c=n
  · subst hc;by_cases h0:c=0
    · have t0:(c ==0)=true:=qbl.2 h0;have H0:=Hd h0;clear h0;go_enter Tryz.func18,Tryz.ntmps18
      go_wp2_with fail;refine (zeQ _ E HE.out _ _ _ HH.out).mono ?_;rintro e w2 ⟨rfl,h2⟩;obtain⟨f1,f2,f3⟩:=FIN.out _ h2;have F1:=Hd f1;clear f1 h2;go_wp2_with fail;go_ret;exact⟨zaG (by rw[qbX];simp[H0.out]),F1.out⟩
    have t0:(c ==0)=false:=qak.2 h0;go_enter Tryz.func18,Tryz.ntmps18
    go_wp2_with fail;refine (zeQ _ E HE.out _ _ _ HH.out).mono ?_;rintro e w2 ⟨rfl,h2⟩;obtain⟨f1,f2,f3⟩:=FIN.out _ h2;have F1:=Hd f1;clear f1 h2;go_wp2_with fail;go_ret;exact⟨zaG (by rw[qbX];simp[h0]),F1.out⟩
  have t1:(c ==n)=false:=qak.2 hc;go_enter Tryz.func18,Tryz.ntmps18
  go_wp2_with fail;refine (zeQ _ E HE.out _ _ _ HH.out).mono ?_;rintro e w2 ⟨rfl,h2⟩;obtain⟨f1,f2,f3⟩:=FIN.out _ h2;have F1:=Hd f1;clear f1 h2;go_wp2_with fail;go_ret;exact⟨zaG (by rw[qbX];simp[hc]),F1.out⟩
end Go.Proofs.YthlibiocadimhaaGreatDoor
namespace Go.Proofs.YthlibiocadimhaaGreatDoor
open Go.RowKit Go.ChangeShapes
theorem zpP : (Tryz.prog.cutTypes.find? (·.1 == "internal/reflectlite.rtype")).map (·.2) = some 204 := by kernel_rfl
theorem zqG:((List.range Tryz.prog.types.size).filter λ t=> Tryz.prog.rowNamed t [101,114,114,111,114])=[28]:=by kernel_rfl
theorem zqr : Tryz.prog.globalNamed "errors.errorType" = some 9 := by kernel_rfl
theorem zfk {l:List (String × DataW Unit)} {W:World} (h:laidMetH Tryz.prog l W)
  (hl : l.filter (λ x => x.1 == "errors.errorType") = [("errors.errorType", .iface "internal/reflectlite.rtype" (.agg [.ptr (.lit (.string [101, 114, 114, 111, 114]))]))]) : zcd W := by
 have h1 := laidMetH.filter (λ x => x.1 == "errors.errorType") h
 rw [hl] at h1;have h' : laidMet Tryz.prog [] W /\ handlesMet Tryz.prog [("errors.errorType", .iface "internal/reflectlite.rtype" (.agg [.ptr (.lit (.string [101, 114, 114, 111, 114]))]))] W := h1
 obtain⟨name,u,ty,e1,e2,e3,e4,e5⟩:=h'.2 _ (qaN.2 rfl);have en:name=[101,114,114,111,114]:=(qb6 e1).symm;subst en;obtain rfl:=qb6 (zpP.symm.trans e2);have hm:ty∈(List.range Tryz.prog.types.size).filter λ t=> Tryz.prog.rowNamed t [101,114,114,111,114]:=List.mem_filter.2 ⟨List.mem_range.2 e3,e4⟩;rw[zqG] at hm;obtain rfl:=qaN.1 hm;have hh:typeHandle Tryz.prog 28 =hdl 28 :=by kernel_rfl
 rw[hh] at e5;unfold zcd;simpa using World.var?_cell zqr e5 0
theorem za2 {l:List (String × DataW Unit)} {W:World} {n:String} {g:Nat} {text:List UInt8} {ti:TypeId} {ms:Array (String × TypeId)} (h:laidMetH Tryz.prog l W)
  (hl : l.filter (λ x => x.1 == n) = [(n, .iface "*errors.errorString" (.ptr (.agg [.lit (.string text)])))]) (hg : Tryz.prog.globalNamed n = some g)
  (ht:(Tryz.prog.globals[g]?).map (·.type)=some ti) (hi: Tryz.prog.underlying ti=some (.interface ms)):
  ∃(E:Addr),W.cell? ⟨g,0,none⟩=some (sentV E)/\(∃s:ByteArray,W.cell? E=some (.string s)/\s.data.toList=text)/\∃c t,W.heap[E.block]? =some (.cells c t (0,0)):=by
 have h1 := laidMetH.filter (λ x => x.1 == n) h;rw [hl] at h1;have h2 : laidMet Tryz.prog [(n, .iface "*errors.errorString" (.ptr (.agg [.lit (.string text)])))] W := h1
 obtain⟨ps,⟨g0,t0,cs0,f0,p0,q0,hg0,ht0,hv0,hd0,_,e0⟩,_,hrows⟩:=h2;obtain rfl:=qb6 (hg.symm.trans hg0);obtain rfl:=qb6 (ht.symm.trans ht0);subst e0;obtain⟨l0⟩:=cs0;have ok0:∀u v,l0=[.iface u v]->Value.okWide Tryz.prog W .any 0 u v:=λ u v e=>by
  subst e;exact (hrows g 0 (by simp[MemPlace.row])).2 u v (by simpa using World.var?_cell hg0 hv0 0)
 obtain⟨a0,s0,rfl,hc0,hs0,hz0,rfl⟩:=errorString_of_trod hi znz Tryz.underlying275 Tryz.underlying293 rfl rfl Tryz.underlying9 (by kernel_rfl) (by kernel_rfl) hd0 ok0;obtain⟨c,t,hb⟩:=(hrows a0.block a0.off (by simp[MemPlace.row])).1;exact⟨a0,by unfold sentV;simpa using World.var?_cell hg0 hv0 0,⟨s0,hc0,hs0⟩,c,t,hb⟩
def nameE:Nat->String
 | 0 => "layercake/api.ErrText"
 | 1 => "layercake/api.ErrBound"
 | 2 => "layercake/api.ErrShape"
 | 3 => "layercake/api.ErrSum"
 | 4 => "layercake/api.ErrName"
 | 5 => "layercake/api.ErrNone"
 | 6 => "layercake/api.ErrColors"
 | 7 => "layercake/api.ErrFull"
 | _ => "layercake/api.ErrPower"
def textE:Nat->List UInt8
 | 0=> [108,97,121,101,114,99,97,107,101,58,32,116,101,120,116]
 | 1=> [108,97,121,101,114,99,97,107,101,58,32,98,111,117,110,100]
 | 2=> [108,97,121,101,114,99,97,107,101,58,32,115,104,97,112,101]
 | 3=> [108,97,121,101,114,99,97,107,101,58,32,115,117,109]
 | 4=> [108,97,121,101,114,99,97,107,101,58,32,110,97,109,101]
 | 5=> [108,97,121,101,114,99,97,107,101,58,32,110,111,110,101]
 | 6=> [108,97,121,101,114,99,97,107,101,58,32,99,111,108,111,114,115]
 | 7=> [108,97,121,101,114,99,97,107,101,58,32,102,117,108,108]
 | _=> [108,97,121,101,114,99,97,107,101,58,32,112,111,119,101,114]
def errD (k : Nat) : List (String × DataW Unit) := [(nameE k, .iface "*errors.errorString" (.ptr (.agg [.lit (.string (textE k))])))]
theorem znc:∀j,j<9->∀k,k<9->j≠k->textE j≠textE k:=by decide
theorem zic {l:List (String × DataW Unit)} {W:World} (h:laidMetH Tryz.prog l W)
  (het : l.filter (λ x => x.1 == "errors.errorType") = [("errors.errorType", .iface "internal/reflectlite.rtype" (.agg [.ptr (.lit (.string [101, 114, 114, 111, 114]))]))])
  (hl0:l.filter (λ x=>x.1 ==nameE 0)=errD 0) (hl1:l.filter (λ x=>x.1 ==nameE 1)=errD 1) (hl2:l.filter (λ x=>x.1 ==nameE 2)=errD 2)
  (hl3:l.filter (λ x=>x.1 ==nameE 3)=errD 3) (hl4:l.filter (λ x=>x.1 ==nameE 4)=errD 4) (hl5:l.filter (λ x=>x.1 ==nameE 5)=errD 5)
  (hl6:l.filter (λ x=>x.1 ==nameE 6)=errD 6) (hl7:l.filter (λ x=>x.1 ==nameE 7)=errD 7) (hl8:l.filter (λ x=>x.1 ==nameE 8)=errD 8):
  ∃E,Errs W E/\∀k,k<9->∃s:ByteArray,W.cell? (E k)=some (.string s)/\s.data.toList=textE k:=by
 have key:∀k,k<9->∃(E:Addr),W.cell? ⟨gk k,0,none⟩=some (sentV E)/\(∃s:ByteArray,W.cell? E=some (.string s)/\s.data.toList=textE k)/\∃c t,W.heap[E.block]? =some (.cells c t (0,0)):=by
  intro k hk;match k,hk with
  | 0,_=>exact za2 h hl0 (by kernel_rfl) (by kernel_rfl) Tryz.underlying28
  | 1,_=>exact za2 h hl1 (by kernel_rfl) (by kernel_rfl) Tryz.underlying28
  | 2,_=>exact za2 h hl2 (by kernel_rfl) (by kernel_rfl) Tryz.underlying28
  | 3,_=>exact za2 h hl3 (by kernel_rfl) (by kernel_rfl) Tryz.underlying28
  | 4,_=>exact za2 h hl4 (by kernel_rfl) (by kernel_rfl) Tryz.underlying28
  | 5,_=>exact za2 h hl5 (by kernel_rfl) (by kernel_rfl) Tryz.underlying28
  | 6,_=>exact za2 h hl6 (by kernel_rfl) (by kernel_rfl) Tryz.underlying28
  | 7,_=>exact za2 h hl7 (by kernel_rfl) (by kernel_rfl) Tryz.underlying28
  | 8,_=>exact za2 h hl8 (by kernel_rfl) (by kernel_rfl) Tryz.underlying28
 let E:Nat->Addr:=λ k=>if hk:k<9 then (key k hk).choose else ⟨0,0,none⟩
 have hE:∀k (hk:k<9),E k=(key k hk).choose:=λ k hk=>by simp[E,hk]
 refine⟨E,⟨zfk h het,λ k hk=>?_,λ k hk=>?_,λ j k hj hk hjk=>?_⟩,λ k hk=>?_⟩
 ·rw[hE k hk];exact (key k hk).choose_spec.1
 ·rw[hE k hk];exact (key k hk).choose_spec.2.2
 ·rw[hE j hj,hE k hk];intro e;obtain⟨s,h1,h2⟩:=(key j hj).choose_spec.2.1;obtain⟨s',h3,h4⟩:=(key k hk).choose_spec.2.1;rw[e,h3] at h1;injection h1 with h1;injection h1 with h1;subst h1;exact znc j hj k hk hjk (h2.symm.trans h4)
 rw[hE k hk];exact (key k hk).choose_spec.2.1
end Go.Proofs.YthlibiocadimhaaGreatDoor
