/-
  Undo of a row, and rows that neither is done nor undone.
  The document's rows by their kinds.
  The document's rows, done and undone.
  The best kind of a row.
  Rows of a text, done by their best kinds, and back: the plain law. No function of the program is named.
  filter.Rows, filter.Back.
  png.Rows.
  Pictures as files, plain: rows of numbers, packed. No function of the program is named.
  Two rows of bytes that grow beside each other. No function of the program is named.
-/
import Derived.Test.YthlibiocadimhaaGreatDoorPngReadsG6
import Derived.Test.YthlibiocadimhaaGreatDoorPngReadsG7
set_option linter.all false
set_option maxRecDepth 100000
namespace Go.Proofs.YthlibiocadimhaaGreatDoor
open Go.RowKit
theorem zhb (k:Int) (row ahead:ByteArray) (step:Int) (w:World) (h1: -9223372036854775808<=k) (h2:k<=9223372036854775807) (h3: -9223372036854775808<=step) (h4:step<=9223372036854775807) (hc:¬ (check k step/\zdt row ahead))
  (EB ES:Addr) (hB:w.cell? ⟨2,0,none⟩=some (.iface 275 (.pointer (some EB)))) (hS:w.cell? ⟨0,0,none⟩=some (.iface 275 (.pointer (some ES)))):
  Calls Tryz.prog 97 #[.int .i64 k,.string row,.string ahead,.int .i64 step] w λ e w'=>∃E,(E=EB/\¬ check k step\/E=ES/\check k step)/\e=.returned (.tuple #[.string ⟨#[]⟩,.iface 275 (.pointer (some E))])/\w=w':=by
 have HC:=Hd hc;clear hc;go_enter Tryz.func97,Tryz.ntmps97
 go_wp2_with fail;refine (zez k row ahead step w h1 h2 h3 h4 _ _ hB hS).mono ?_;rintro e w1 ⟨h | h | h,rfl⟩
 ·exact absurd h.2 HC.out
 ·obtain⟨rfl,hb⟩:=h;have HB:=Hd hb;clear hb;go_wp2_with fail;exact qaZ (v:=.tuple #[.string ⟨#[]⟩,.iface 275 (.pointer (some EB))]) (by simp[results,Tryz.results97,go_sem, *]) rfl ⟨EB,.inl ⟨rfl,HB.out⟩,rfl,rfl⟩
 obtain⟨rfl,hb,_⟩:=h;have HB:=Hd hb;clear hb;go_wp2_with fail;exact qaZ (v:=.tuple #[.string ⟨#[]⟩,.iface 275 (.pointer (some ES))]) (by simp[results,Tryz.results97,go_sem, *]) rfl ⟨ES,.inr ⟨rfl,HB.out⟩,rfl,rfl⟩
theorem zmb (k:Int) (row ahead:List UInt8) (step i:Nat):undoL k row ahead step (i+1)=undoL k row ahead step i ++ [row.getD i 0+UInt8.ofNat (fore k (preF (undoL k row ahead step i) step i) (ahead.getD i 0).toNat (preF ahead step i))]:=rfl
theorem zh8 (w wr w':World) (u v:Value) (i:Nat) (U:List UInt8) (x:Value) (y:UInt8) (hx:x=.int .u8 (y.toNat:Int)) (t:TypeId) (o:Obj) (HE:Ext w wr) (HR:wr.ownsRow w.heap.size t 1 u i (zad U))
  (hg:(wr.drew.alloc o).grownBy w' u.ownBlock) (hown:w'.ownsRow w.heap.size t 1 v (i+1) (zad U ++ [x])):w'.ownsRow w.heap.size t 1 v (i+1) (zad (U ++ [y]))/\Ext w w':=by
 refine⟨?_,?_⟩
 ·rw[hx] at hown;simpa [zad] using hown
 have K:Keeps (λ k=>u.ownBlock=some k) wr w':=((Keeps.refl _ wr).drew.alloc o).trans (Keeps.grown hg) (λ _ _ q=>q);exact Below.trans HE (K.below HE.size λ k hk q=>by have:=(HR.lt k q).1;omega)
set_option maxHeartbeats 4000000 in
theorem zg8 (k:Int) (row ahead:ByteArray) (step:Nat) (w:World) (h1: -9223372036854775808<=k) (h2:k<=9223372036854775807) (hr:row.size<=1099511627776) (hc:check k (step:Int)) (hc2:zdt row ahead)
  (EB ES:Value) (hB:w.cell? ⟨2,0,none⟩=some EB) (hS:w.cell? ⟨0,0,none⟩=some ES):
  Calls Tryz.prog 97 #[.int .i64 k,.string row,.string ahead,.int .i64 (step:Int)] w λ e w'=>e=.returned (.tuple #[.string (undoS k row ahead step),.nilIface])/\Ext w w':=by
 have HC:=Hd hc;have HC2:=Hd hc2;have hst:=hc.2.2.2;have hst1:=hc.2.2.1;obtain⟨i0,hi0,hz0,hz1,hz2⟩:=qbb zdI;obtain⟨w2,hmk,hown,hgrow⟩:=run_make_own (P:=Tryz.prog) w w.heap.size 62 5 i0 (.int .u8 0) 1 Tryz.underlying62 hi0 hz0 hz1 .i64 .i64 row.size (by rw[hz2];omega) (by unfold maxLen;omega) (qaj _);have HO:=Hd hown;have HG:Hid (Ext w w2):=(Keeps.grown hgrow).below (qaj _) (λ k _ q=>by cases q);clear hc hc2 hown hgrow;go_enter Tryz.func97,Tryz.ntmps97
 go_wp2_with fail;refine (zez k row ahead step w h1 h2 (by omega) (by omega) _ _ hB hS).mono ?_;rintro e w1 ⟨h | h | h,rfl⟩
 ·obtain⟨rfl,_⟩:=h;go_wp2_with fail;clear hmk;go_loopw [11,12,13,27] (λ u _ _ v wr=>∃i:Nat,i<=row.size/\v=.int .i64 i/\Hid (wr.ownsRow w.heap.size 5 1 u i (zad (undoL k row.data.toList ahead.data.toList step i)))/\Hid (Ext w wr)) (λ _ _ _ v _=>row.size-(intOf v).toNat)
  case atStart=>exact⟨0,by omega,rfl,HO,HG⟩
  case round=>
   obtain⟨i,hi,rfl,HR,HE⟩:=hrel;by_cases hlt:i<row.size
   ·have A2:=λ w=>zql ahead i w (by omega);have A3:=λ w=>zqI ahead step i w (by omega) (by omega);have A4:=λ w=>zf4 k (preF (undoL k row.data.toList ahead.data.toList step i) step i) (ahead.data.toList.getD i 0).toNat (preF ahead.data.toList step i) w h1 h2 (zcc _ _ _) (qcj _) (zcc _ _ _);have hv:=zmb k row.data.toList ahead.data.toList step i;rw[<- zar row i hlt] at hv;obtain⟨U,hU⟩:=nmE (undoL k row.data.toList ahead.data.toList step i);rw[hU] at hv A4 HR;have hUl:U.length=i:=by rw[<- hU];exact zb7 _ _ _ _ _
    have ha:∃a,preF U step i=a/\a<256:=⟨_,rfl,zcc _ _ _⟩;obtain⟨a,ha,la⟩:=ha;rw[ha] at hv A4;generalize fore k a (ahead.data.toList.getD i 0).toNat (preF ahead.data.toList step i)=r at *;generalize (ahead.data.toList.getD i 0).toNat=b at *;generalize preF ahead.data.toList step i=c at *;obtain⟨d,hd⟩:∃d:Int,(i:Int)-(step:Int)=d:=⟨_,rfl⟩;rw[hd] at A3;have hwd:IntKind.i64.wrap d=d:=by rw[qal];omega
    have d1: -10<=d/\d<=1099511627776:=by omega
    obtain⟨d1,d2⟩:=d1;have HA2:=Hd A2;have HA3:=Hd A3;have HA4:=Hd A4;have HV:=Hd hv;have HUU:=Hd hU;have HUL:=Hd hUl;clear A2 A3 A4 hv hU hUl;have tail:∀(u:Value),Hid (wr.ownsRow w.heap.size 5 1 u i (zad U))->True:=λ _ _=>trivial;by_cases hs:step<=i
    ·have haU:(U.getD (i-step) 0).toNat=a:=by rw[<- ha];unfold preF;rw[qad hs]
     have HAU:=Hd haU;have HA:=Hd ha;clear haU ha tail;obtain⟨g0,cap0,hu,_,_⟩:=zaw HR.out (by omega);obtain⟨j,hj⟩:∃j:Nat,d=(j:Int):=⟨i-step,by omega⟩;subst hj;rw[hu] at HR⊢;clear hu u11;have hji:j<i:=by omega
     have hc:wr.cell? ⟨g0,j,none⟩=some (.int .u8 (a:Int)):=by
      have hjl:j<U.length:=by rw[HUL.out];exact hji
      rw[HR.out.cellAt j (by omega),zaN U j hjl,<- HAU.out,show i-step=j by omega];simp[List.getD,hjl]
     have t1:=dT (p:=(step:Int)<=(i:Int));go_wp2_with fail;have HRd:Hid (wr.drew.ownsRow w.heap.size 5 1 (.slice (some ⟨g0,0,none⟩) i cap0) i (zad U)):=HR.out;have hsz:w.heap.size<=wr.heap.size+1:=by have:=HE.out.size;omega
     go_region_held3 (λ _=>True) (trivial)
      (first
       | (go_at_call_of 115 j;refine (HA3.out _).mono ?_;rintro e w' ⟨rfl,rfl⟩)
       | (go_at_call 115;refine (HA2.out _).mono ?_;rintro e w' ⟨rfl,rfl⟩)
       | (go_at_call 114;refine (HA4.out _).mono ?_;rintro e w' ⟨rfl,rfl⟩)
       | (refine step_append_lies _ rfl (.tmp 39) (.tmp 55) 62 rfl w.heap.size 5 i0 (.int .u8 0) 1 1 Tryz.underlying62 hi0 hz0 hz1 hz2 rfl (by decide) (.slice (some ⟨g0,0,none⟩) i cap0) i (zad U) (by simp[Act.eval]) (HRd.out.alloc _) ⟨wr.heap.size,0,none⟩ 1 1 [_] (by simp[Act.eval]) rfl (cell_one_new _ _ _) (by intro u hu;simp at hu;subst hu;rfl) (by omega) (by unfold maxLen;omega) (by omega) (by simp;exact hsz) _ rfl ?_;intro g cap w' hown' hgrow hat hlt'))
     all_goals
      obtain⟨q1,q2⟩:=zh8 w wr w' _ _ i U _ (row[i]+UInt8.ofNat r) (zbg (zej _ _)) _ _ HE.out HR.out hgrow hown';have Q1:=Hd q1;have Q2:=Hd q2;clear hown' hgrow hat hlt' q1 q2;go_wp2_with fail;exact⟨⟨i+1,by omega,by go_num,by rw[HV.out];exact Q1,Q2⟩,by simp[intOf];omega⟩
    have ha0:a=0:=by rw[<- ha];unfold preF;rw[qac hs]
    subst ha0;have HA:=Hd ha;clear ha tail;have t1:=dF (p:=(step:Int)<=(i:Int));go_wp2_with fail;have HRd:Hid (wr.drew.ownsRow w.heap.size 5 1 u11 i (zad U)):=HR.out;have hsz:w.heap.size<=wr.heap.size+1:=by have:=HE.out.size;omega
    go_region_held3 (λ _=>True) (trivial)
     (first
      | (go_at_call_of 115 d;refine (HA3.out _).mono ?_;rintro e w' ⟨rfl,rfl⟩)
      | (go_at_call 115;refine (HA2.out _).mono ?_;rintro e w' ⟨rfl,rfl⟩)
      | (go_at_call 114;refine (HA4.out _).mono ?_;rintro e w' ⟨rfl,rfl⟩)
      | (refine step_append_lies _ rfl (.tmp 39) (.tmp 55) 62 rfl w.heap.size 5 i0 (.int .u8 0) 1 1 Tryz.underlying62 hi0 hz0 hz1 hz2 rfl (by decide) u11 i (zad U) (by simp[Act.eval]) (HRd.out.alloc _) ⟨wr.heap.size,0,none⟩ 1 1 [_] (by simp[Act.eval]) rfl (cell_one_new _ _ _) (by intro u hu;simp at hu;subst hu;rfl) (by omega) (by unfold maxLen;omega) (by omega) (by simp;exact hsz) _ rfl ?_;intro g cap w' hown' hgrow hat hlt'))
    all_goals
     obtain⟨q1,q2⟩:=zh8 w wr w' _ _ i U _ (row[i]+UInt8.ofNat r) (zbg (zej _ _)) _ _ HE.out HR.out hgrow hown';have Q1:=Hd q1;have Q2:=Hd q2;clear hown' hgrow hat hlt' q1 q2;go_wp2_with fail;exact⟨⟨i+1,by omega,by go_num,by rw[HV.out];exact Q1,Q2⟩,by simp[intOf];omega⟩
   obtain rfl:i=row.size:=by omega
   have hcr:(convert 62 9 u11).run Tryz.prog wr=.ok (.string (undoS k row ahead step)) wr:=by
    have hl:(undoL k row.data.toList ahead.data.toList step row.size).length=row.size:=zb7 _ _ _ _ _;rcases zah HR.out with⟨hv,h0⟩ | ⟨g,cap,hv⟩
    ·rw[hv,qcB wr 62 9 5 none 0 0 Tryz.underlying62 Tryz.underlying5 Tryz.underlying9];unfold undoS;rw[h0];rfl
    rw[hv];have hR:=HR.out;rw[hv] at hR;have q:=qbt (P:=Tryz.prog) wr 62 9 5 ⟨g,0,none⟩ cap (undoL k row.data.toList ahead.data.toList step row.size) Tryz.underlying62 Tryz.underlying5 Tryz.underlying9 (λ j hj=>by
     rw[zae,hR.cellAt j (by omega),zaN _ j hj])
    rwa [hl] at q
   go_wp2_with fail;exact qaZ (v:=.tuple #[.string (undoS k row ahead step),.nilIface]) (by simp[results,Tryz.results97,go_sem, *]) rfl ⟨rfl,HE.out⟩
 ·exact absurd HC.out h.2
 exact absurd HC2.out h.2.2
theorem Yba0 {p:Prop} (h:p:=by
 go_enter Tryz.func105,Tryz.ntmps105
 go_wp2
 go_ret;exact⟨rfl,rfl⟩):p:=h
theorem zc8 (a b:Int) (w:World) (ha: -2000<=a/\a<=2000) (hb: -2000<=b/\b<=2000):
  Calls Tryz.prog 140 #[.int .i64 a,.int .i64 b] w λ e w'=>e=.returned (.int .i64 (((a-b).natAbs:Nat):Int))/\w=w':=by
 obtain⟨a1,a2⟩:=ha;obtain⟨b1,b2⟩:=hb;by_cases h:a<b
 ·go_enter Tryz.func140,Tryz.ntmps140
  go_wp2
  go_ret;exact⟨zbA (by omega),rfl⟩
 go_enter Tryz.func140,Tryz.ntmps140
 go_wp2
 go_ret;exact⟨zbA (by omega),rfl⟩
theorem zd5 (s:ByteArray) (i:Int) (w:World) (h1: -9223372036854775808<=i) (h2:i<=9223372036854775807):
  Calls Tryz.prog 105 #[.string s,.int .i64 i] w λ e w'=>e=.returned (.int .i64 (if 0<=i then ((s.data.toList.getD i.toNat 0).toNat:Int) else 0))/\w=w':=by
 by_cases h:0<=i
 ·obtain⟨n,rfl⟩:∃n:Nat,i=n:=⟨i.toNat,by omega⟩;rw[qad h,qbm];by_cases hlt:n<s.size
  ·have HR:=Hd (zar s n hlt);have hb:s[n].toNat<256:=s[n].toNat_lt;go_enter Tryz.func105,Tryz.ntmps105
   go_wp2
   go_ret;exact⟨zbA (by rw[<- HR.out]),rfl⟩
  have hz:s.data.toList.getD n 0=0:=by
   have e:s.data.toList.length=s.size:=by rw[qcq];rfl
   simp[List.getD,qba (show s.data.toList.length<=n by omega)]
  rw[hz];exact Yba0
 rw[qac h];have h':i<0:=by omega
 exact Yba0
theorem zmN (s:ByteArray) (step i:Nat) (w:World) (h1:step<=8) (h2:i<=1099511627776):
  Calls Tryz.prog 105 #[.string s,.int .i64 ((i:Int)-step)] w λ e w'=>e=.returned (.int .i64 (preF s.data.toList step i:Int))/\w=w':=by
 have h:=zd5 s ((i:Int)-step) w (by omega) (by omega);have e:(if 0<=(i:Int)-step then ((s.data.toList.getD ((i:Int)-step).toNat 0).toNat:Int) else 0)=(preF s.data.toList step i:Int):=by
  unfold preF;by_cases hs:step<=i
  ·rw[qad (by omega),qad hs,show ((i:Int)-step).toNat=i-step by omega]
  rw[qac (by omega),qac hs];rfl
 rw[e] at h;exact h
theorem zpA (s:ByteArray) (i:Nat) (w:World) (h2:i<=1099511627776):
  Calls Tryz.prog 105 #[.string s,.int .i64 (i:Int)] w λ e w'=>e=.returned (.int .i64 ((s.data.toList.getD i 0).toNat:Int))/\w=w':=by
 have h:=zd5 s (i:Int) w (by omega) (by omega);rw[qad (by omega),qbm] at h;exact h
theorem zma (a b c:Nat):paeth a b c=
  if ((a:Int)+b-c-a).natAbs<=((a:Int)+b-c-b).natAbs/\((a:Int)+b-c-a).natAbs<=((a:Int)+b-c-c).natAbs then a
  else if ((a:Int)+b-c-b).natAbs<=((a:Int)+b-c-c).natAbs then b else c:=by
 unfold paeth;simp only;generalize ((a:Int)+b-c-a).natAbs=x;generalize ((a:Int)+b-c-b).natAbs=y;generalize ((a:Int)+b-c-c).natAbs=z;by_cases h1:y<x
 ·rw[qad h1,qac (show ¬ (x<=y/\x<=z) by omega)];by_cases h2:z<y
  ·rw[qad h2,qac (by omega)]
  rw[qac h2,qad h1,qad (by omega)]
 rw[qac h1];by_cases h2:z<x
 ·rw[qad h2,qac (by omega),qac (by omega)]
 rw[qac h2,qac h1,qad (by omega)]
theorem ziU (k:Int) (a b c:Nat) (w:World) (h1:0<=k) (h2:k<=4) (ha:a<256) (hb:b<256) (hc:c<256):
  Calls Tryz.prog 104 #[.int .i64 k,.int .i64 (a:Int),.int .i64 (b:Int),.int .i64 (c:Int)] w λ e w'=>e=.returned (.int .i64 (fore k a b c:Int))/\w=w':=by
 by_cases h4:k=4
 ·subst h4;have HP:=Hd (zma a b c);have hf:fore 4 a b c=paeth a b c:=rfl;rw[hf];clear hf;go_enter Tryz.func104,Tryz.ntmps104
  go_wp2_with fail;refine (zc8 _ _ _ (by omega) (by omega)).mono ?_;rintro e w1 ⟨rfl,rfl⟩;go_wp2_with fail;refine (zc8 _ _ _ (by omega) (by omega)).mono ?_;rintro e w1 ⟨rfl,rfl⟩;go_wp2_with fail;refine (zc8 _ _ _ (by omega) (by omega)).mono ?_;rintro e w1 ⟨rfl,rfl⟩;have hp:=HP.out;obtain⟨x,hx⟩:=nmE (((a:Int)+b-c-a).natAbs);obtain⟨y,hy⟩:=nmE (((a:Int)+b-c-b).natAbs);obtain⟨z,hz⟩:=nmE (((a:Int)+b-c-c).natAbs);rw[hx,hy,hz] at hp⊢;clear hx hy hz HP;by_cases q1:x<=y/\x<=z
  ·rw[qad q1] at hp;have HP:=Hd hp;obtain⟨q1,q2⟩:=q1;clear hp;go_wp2_with fail;go_ret;exact⟨by rw[HP.out];rfl,rfl⟩
  rw[qac q1] at hp;by_cases q2:y<=z
  ·rw[qad q2] at hp;have HP:=Hd hp;have q3:¬ x<=y:=by omega
   clear hp q1;go_wp2_with fail;go_ret;exact⟨by rw[HP.out];rfl,rfl⟩
  rw[qac q2] at hp;have HP:=Hd hp;clear hp;by_cases q3:x<=y
  ·have q4:¬ x<=z:=by omega
   clear q1;go_wp2_with fail;go_ret;exact⟨by rw[HP.out];rfl,rfl⟩
  clear q1;go_wp2_with fail;go_ret;exact⟨by rw[HP.out];rfl,rfl⟩
 rcases (show k=0\/k=1\/k=2\/k=3 by omega) with q | q | q | q <;> subst q;all_goals
  go_enter Tryz.func104,Tryz.ntmps104
  go_wp2
  go_ret;exact⟨zbA (by simp[fore]),rfl⟩
theorem Ybb0 {p:Prop} (h:p:=by
 go_wp2_with fail;rw[HL.out];go_roundw
 case rel=>exact⟨i+1,by omega,by go_num,rfl,HX3⟩
 case measure=>simp[intOf];omega):p:=h
theorem zne (x:UInt8) (g:Nat):(x.toNat+g)%256=(x+UInt8.ofNat g).toNat:=by
 have h:=zej x g;omega
@[irreducible] def tx (l:List UInt8):ByteArray:=⟨l.toArray⟩
theorem zeo (l:List UInt8):tx l=⟨l.toArray⟩:=by unfold tx;rfl
theorem zce (l:List UInt8):(tx l).data.toList=l:=by unfold tx;rfl
theorem zeu (l:List UInt8):(tx l).size=l.length:=by rw[zeo];rfl
theorem zls (l m:List UInt8):tx l++tx m=tx (l++m):=zbe (by rw[zc3,zce,zce,zce])
theorem zqC (b:UInt8):(⟨#[b]⟩:ByteArray)=tx [b]:=zbe (by rw[zce])
theorem zqx:(⟨#[]⟩:ByteArray)=tx []:=zbe (by rw[zce])
def s256 (b:UInt8):Prop:=b.toNat<256
theorem ziz (k:Int) (row ahead:ByteArray) (step:Nat) (w:World) (h1:0<=k) (h2:k<=4) (h3:step<=8) (hr:row.size<=1000000):
  Calls Tryz.prog 82 #[.int .i64 k,.string row,.string ahead,.int .i64 (step:Int)] w λ e w'=>e=.returned (.string (undoS k row ahead step))/\Ext w w':=by
 go_enter Tryz.func82,Tryz.ntmps82
 go_wp2_with fail;rw[zqx];have HL0:Hid (∀i,tx (undoL k row.data.toList ahead.data.toList step i)++tx [row.data.toList.getD i 0+UInt8.ofNat (fore k (preF (undoL k row.data.toList ahead.data.toList step i) step i) (ahead.data.toList.getD i 0).toNat (preF ahead.data.toList step i))]=tx (undoL k row.data.toList ahead.data.toList step (i+1))):=Hd (λ i=>by rw[zls];rfl);have HSZ:Hid (∀i,(tx (undoL k row.data.toList ahead.data.toList step i)).size=i):=Hd (λ i=>by rw[zeu,zb7]);have HTL:Hid (∀i,(tx (undoL k row.data.toList ahead.data.toList step i)).data.toList=undoL k row.data.toList ahead.data.toList step i):=Hd (λ i=>zce _);go_loopw [9,10] (λ o c wr=>∃i:Nat,i<=row.size/\c=.int .i64 i/\o=.string (tx (undoL k row.data.toList ahead.data.toList step i))/\Hid (Ext w wr)) (λ _ c _=>row.size-(intOf c).toNat)
 case atStart=>exact⟨0,by omega,rfl,rfl,Hd (Ext.refl _)⟩
 case round=>
  obtain⟨i,hi,rfl,rfl,HX⟩:=hrel;by_cases hlt:i<row.size
  ·have hs1:=HSZ.out i;have hsz:(tx (undoL k row.data.toList ahead.data.toList step i)).size<=1000000:=by omega
   have HL:=Hd (HL0.out i);have hb:s256 row[i]:=row[i].toNat_lt;unfold s256 at hb;have hra:row.data.toList.getD i 0=row[i]:=(zar row i hlt).symm;have htl:=HTL.out i;have A1:=λ w=>zmN (tx (undoL k row.data.toList ahead.data.toList step i)) step i w h3 (by omega);rw[htl] at A1;have A2:=λ w=>zpA ahead i w (by omega);have A3:=λ w=>zmN ahead step i w h3 (by omega);have A4:=λ w=>ziU k (preF (undoL k row.data.toList ahead.data.toList step i) step i) (ahead.data.toList.getD i 0).toNat (preF ahead.data.toList step i) w h1 h2 (zcc _ _ _) (qcj _) (zcc _ _ _);obtain⟨g,hg⟩:=nmE (fore k (preF (undoL k row.data.toList ahead.data.toList step i) step i) (ahead.data.toList.getD i 0).toNat (preF ahead.data.toList step i));have hg256:g<256:=by rw[<- hg];exact zpj _ _ _ _ (zcc _ _ _) (qcj _) (zcc _ _ _)
   rw[hg] at A4;have HB:Hid (row.data.toList.getD i 0+UInt8.ofNat (fore k (preF (undoL k row.data.toList ahead.data.toList step i) step i) (ahead.data.toList.getD i 0).toNat (preF ahead.data.toList step i))=row[i]+UInt8.ofNat g):=Hd (by rw[hra,hg]);rw[HB.out] at HL;generalize preF (undoL k row.data.toList ahead.data.toList step i) step i=pa at *;generalize (ahead.data.toList.getD i 0).toNat=pb at *;generalize preF ahead.data.toList step i=pc at *;have HA1:=Hd A1;have HA2:=Hd A2;have HA3:=Hd A3;have HA4:=Hd A4;clear A1 A2 A3 A4;have HV:=Hd (zne row[i] g);clear HB htl;generalize tx (undoL k row.data.toList ahead.data.toList step i)=O at *;clear hs1 hra hg;go_wp2_with fail;refine (HA1.out _).mono ?_;rintro e w2 ⟨rfl,rfl⟩;go_wp2_with fail;refine (HA2.out _).mono ?_;rintro e w2 ⟨rfl,rfl⟩;go_wp2_with fail;refine (HA3.out _).mono ?_;rintro e w2 ⟨rfl,rfl⟩;go_wp2_with fail;refine (HA4.out _).mono ?_;rintro e w2 ⟨rfl,rfl⟩;go_wp2_with fail;rw[show ((row[i].toNat:Int)+(g:Int))%256=(((row[i].toNat+g)%256:Nat):Int) by omega,HV.out];refine (zcf _ (qcj _) _).mono ?_;rintro e w3 ⟨rfl,h3'⟩;have HX3:=Hd (HX.out.trans h3');clear h3';rw[UInt8.ofNat_toNat,zqC];have hz1:(tx [row[i]+UInt8.ofNat g]).size=1:=by rw[zeu];rfl
   exact Ybb0
  obtain rfl:i=row.size:=by omega
  go_wp2_with fail;go_ret;refine⟨?_,HX.out⟩;have e:undoS k row ahead step=tx (undoL k row.data.toList ahead.data.toList step row.size):=by
   rw[zeo];rfl
  rw[e];rfl
set_option maxRecDepth 100000
def kdT (t:ByteArray) (w i:Nat):Nat:=(t.data.toList.getD (i*(w+1)) 0).toNat
def restT (t:ByteArray) (w i:Nat):ByteArray:=t.extract (i*(w+1)+1) ((i+1)*(w+1))
def unA (t:ByteArray) (w step:Nat):Nat->ByteArray
  | 0=>⟨#[]⟩
  | i+1=>undoS (kdT t w i:Int) (restT t w i) (unA t w step i) step
def unS (t:ByteArray) (w step:Nat):Nat->ByteArray
  | 0=>⟨#[]⟩
  | i+1=>unS t w step i++unA t w step (i+1)
theorem zcD {t:ByteArray} {w i n:Nat} (hn:t.size=n*(w+1)) (hi:i<n):(restT t w i).size=w:=by
  unfold restT;rw[qau];have h1:(i+1)*(w+1)<=n*(w+1):=qaW _ (by omega);rw[hn,qcf h1,qcc];omega
theorem zil {t:ByteArray} {w step i n:Nat} (hn:t.size=n*(w+1)) (hi:i<n):(unA t w step (i+1)).size=w:=by
  show (undoS _ _ _ _).size=_;rw[zdX,zcD hn hi]
theorem zqA {t:ByteArray} {w step i n:Nat} (hn:t.size=n*(w+1)) (hi:i<n):zdt (restT t w i) (unA t w step i):=by
  cases i with
  | zero=>exact .inl rfl
  | succ i=>exact .inr (by rw[zcD hn hi];exact zil hn (by omega))
theorem zeM {t:ByteArray} {w step n:Nat} (hn:t.size=n*(w+1)):∀i,i<=n->(unS t w step i).size=i*w:=by
  intro i;induction i with
  | zero=>intro _;rw[Nat.zero_mul];rfl
  | succ i ih=>
    intro h;simp only[unS,qbz];rw[ih (by omega),zil hn (by omega),qcc]
theorem Ybh0 {p:Prop} (h:p:=by
  go_enter Tryz.func83,Tryz.ntmps83
  go_wp2_with fail;go_ret;exact⟨rfl,rfl⟩):p:=h
theorem znZ (s:ByteArray) (D wide more step:Nat) (w:World) (hD:wide+more=D) (hw:1<=wide/\wide<=300000) (hm:more<=1) (hst:1<=step/\step<=8) (hs:s.size<=300000) (hd:s.size%D=0):
    Calls Tryz.prog 83 #[.string s,.int .i64 (wide:Int),.int .i64 (more:Int),.int .i64 (step:Int)] w λ e w'=>e=.returned .nilIface/\w=w':=by
  obtain⟨h1,h2⟩:=hw;obtain⟨h3,h4⟩:=hst;have hDI:(wide:Int)+(more:Int)=(D:Int):=by omega
  have hD1:1<=D:=by omega
  have t:(((s.size:Int)%(D:Int)) !=0)=false:=by
    have:(s.size:Int)%(D:Int)=((s.size%D:Nat):Int):=by simp
    rw[this,hd];rfl
  clear hd hD;exact Ybh0
theorem zfn (l:List UInt8):∀u∈zad l,u.oneCell'=true:=by
  intro u hu;obtain⟨b,_,rfl⟩:=qcC.1 hu;rfl
theorem zfq {w:World} {base L:Nat} {v:Value} {l:List UInt8} (hl:l.length=L) (h:w.ownsRow base 5 1 v L (zad l)):(convert 62 9 v).run Tryz.prog w=.ok (.string (tx l)) w:=by
  rw[zeo];subst hl;rcases zah h with⟨rfl,h0⟩ | ⟨g,cap,rfl⟩
  · rw[qcB w 62 9 5 none 0 0 Tryz.underlying62 Tryz.underlying5 Tryz.underlying9,qav h0];rfl
  refine qbt (P:=Tryz.prog) w 62 9 5 ⟨g,0,none⟩ cap l Tryz.underlying62 Tryz.underlying5 Tryz.underlying9 (λ j hj=>?_);rw[zae,h.cellAt j (by omega),zaN _ j hj]
theorem zcg (s:ByteArray) (h:s.size≠0):s.toList.isEmpty=false:=by rw[zdn];exact qaf h
theorem zbW (s:ByteArray) (h:s.size=0):s.toList.isEmpty=true:=by rw[zdn];exact qae h
namespace Png
def u8i (c:Int):UInt8:=UInt8.ofNat c.toNat
theorem zbX {c:Int} (h:Pix.Byte c):((u8i c).toNat:Int)=c:=by
 have h1:=h.1;have h2:=h.2;unfold u8i;rw[qbI];omega
def p4B (p:P4):List UInt8:=[u8i p.r,u8i p.g,u8i p.b,u8i p.a]
theorem zpq {p:P4} (h:p.Ok):zad (p4B p)=[.int .u8 p.r,.int .u8 p.g,.int .u8 p.b,.int .u8 p.a]:=by
 unfold zad p4B;simp only[qaG,qa9,zbX h.r,zbX h.g,zbX h.b,zbX h.a]
def rawL (px:Nat->P4):Nat->List UInt8
 | 0=> []
 | k+1=>rawL px k++p4B (px k)
theorem zmz {px:Nat->P4} {k:Nat} {p:P4} (h:p.Ok) (e:px k=p):zad (rawL px (k+1))=zad (rawL px k) ++ [.int .u8 p.r,.int .u8 p.g,.int .u8 p.b,.int .u8 p.a]:=by
 subst e;show zad (rawL px k++p4B (px k))=_;unfold zad;rw[qbs];exact congrArg _ (zpq h)
end Png
structure RwS (w:World) (W H:Int) (x:Value) (px:Nat->P4) (wr:World) (v:Value) (k:Nat):Prop where
 ext:Ext w wr
 pic:PicAt wr w.heap.size W H x
 own:wr.ownsRow (w.heap.size+1) 5 1 v (4*k) (zad (Png.rawL px k))
 hs:w.heap.size+1<=wr.heap.size
theorem RwS.start (w:World) (W H:Int) (x:Value) (px:Nat->P4) (t:TypeId):RwS w W H x px (w.alloc (.cells #[.int .i64 W,.int .i64 H,x] t)) (.slice none 0 0) 0:=
 ⟨(Ext.refl _).alloc _,PicAt.new w W H x t,qaK _ _ _ _,by simp⟩
theorem RwS.step {w:World} {W H:Int} {x:Value} {px:Nat->P4} {wr wz:World} {v:Value} {k:Nat} (h:RwS w W H x px wr v k) (hE:Ext wr wz):RwS w W H x px wz v k:=
 ⟨h.ext.trans hE,h.pic.ext hE,zaa (S:=λ _=>False) h.own hE.keeps (λ _ _=>id),qam h.hs hE.size⟩
theorem RwS.grown {w:World} {W H:Int} {x:Value} {px:Nat->P4} {wr wz:World} {v v':Value} {k:Nat} {p:P4} {o:Obj} (h:RwS w W H x px wr v k) (hp:p.Ok) (hpx:px k=p) (hown:wz.ownsRow (w.heap.size+1) 5 1 v' (4*k+4) (zad (Png.rawL px k) ++ [.int .u8 p.r,.int .u8 p.g,.int .u8 p.b,.int .u8 p.a])) (hg:(wr.alloc o).grownBy wz v.ownBlock):RwS w W H x px wz v' (k+1):=by
 have hs:=h.hs;have hK:Keeps (λ k=>v.ownBlock=some k) wr wz:=(Keeps.alloc (Ext.keeps (S:=λ i=>v.ownBlock=some i) (Ext.refl wr)) o).trans (Keeps.grown hg) (λ _ _ q=>q);have nb:∀k,k<w.heap.size+1->¬ v.ownBlock=some k:=λ k hk e=>by have:=(h.own.lt k e).1;omega
 refine⟨Below.trans h.ext (hK.below h.ext.size (λ k hk q=>by have:=(h.own.lt k q).1;omega)),?_,?_,qam h.hs hK.size⟩
 ·exact⟨(hK.cell (p:=⟨w.heap.size,0,none⟩) (by show w.heap.size<_;omega) (nb _ (by show w.heap.size<_;omega))).trans h.pic.c0,(hK.cell (p:=⟨w.heap.size,1,none⟩) (by show w.heap.size<_;omega) (nb _ (by show w.heap.size<_;omega))).trans h.pic.c1,(hK.cell (p:=⟨w.heap.size,2,none⟩) (by show w.heap.size<_;omega) (nb _ (by show w.heap.size<_;omega))).trans h.pic.c2⟩
 rw[Png.zmz hp hpx];exact hown
theorem zdA {w:World} {base:Nat} {e:TypeId} {size:Nat} {v:Value} {n:Nat} {xs:List Value} (h:w.ownsRow base e size v n xs):∃x c,v=.slice x n c:=by
 rcases zah h with⟨h1,h2⟩ | ⟨g,cap,h1⟩
 ·exact⟨none,0,by rw[h1,h2]⟩
 exact⟨_,cap,h1⟩
namespace Png
def plte:ByteArray:=⟨#[80,76,84,69]⟩
def trns:ByteArray:=⟨#[116,82,78,83]⟩
def idat:ByteArray:=⟨#[73,68,65,84]⟩
def iend:ByteArray:=⟨#[73,69,78,68]⟩
def colL (l:List P4):List UInt8:=l.flatMap λ p=> [u8i p.r,u8i p.g,u8i p.b]
def alpL (l:List P4):List UInt8:=l.map λ p=>u8i p.a
def covs (l:List P4):Nat->Nat
  | 0=>0
  | k+1=>if (atL l k).a<255 then k+1 else covs l k
theorem zj3 (l:List P4):∀k,covs l k<=k
  | 0=>qaj 0
  | k+1=>by
    unfold covs;have:=zj3 l k;split <;> omega
def sft (dep x:Nat):Nat:=8-dep-x*dep%8
def packR (dep nb:Nat) (v:Nat->Nat):Nat->List UInt8
  | 0=>List.replicate nb 0
  | x+1=>(packR dep nb v x).set (x*dep/8) ((packR dep nb v x).getD (x*dep/8) 0 ||| UInt8.ofNat (v x <<< sft dep x))
theorem zd4 (dep nb:Nat) (v:Nat->Nat):∀x,(packR dep nb v x).length=nb
  | 0=>qaT
  | x+1=>by unfold packR;rw[qcF];exact zd4 dep nb v x
def IsDep (dep:Nat):Prop:=dep=1\/dep=2\/dep=4\/dep=8
theorem zeZ {dep x:Nat} (hd:IsDep dep):sft dep x+dep<=8:=by
  unfold sft;rcases hd with rfl | rfl | rfl | rfl <;> omega
theorem ze3 {dep x W:Nat} (hd:IsDep dep) (hx:x<W):x*dep/8<(W*dep+7)/8:=by
  rcases hd with rfl | rfl | rfl | rfl <;> omega
theorem zom {dep x v:Nat} (hd:IsDep dep) (hv:v<2^dep):v <<< sft dep x<256:=by
  rw[Nat.shiftLeft_eq];have h:=zeZ (x:=x) hd;have:v*2^sft dep x<2^dep*2^sft dep x:=Nat.mul_lt_mul_of_pos_right hv (Nat.pow_pos (by decide));rw[<- qbY] at this;exact qaA this (qam (qaq (by decide) (by omega:dep+sft dep x<=8)) (by decide))
def rowsP (dep W:Nat) (v:Nat->Nat):Nat->List UInt8
  | 0=> []
  | y+1=>rowsP dep W v y++0 ::packR dep ((W*dep+7)/8) (λ x=>v (y*W+x)) W
theorem zgF (dep W:Nat) (v:Nat->Nat):∀y,(rowsP dep W v y).length=y*((W*dep+7)/8+1)
  | 0=>by simp[rowsP]
  | y+1=>by
    unfold rowsP;rw[qaa,qaR,zd4,zgF dep W v y,qcc]
end Png
structure CoS (w5 wr:World) (v9 v10:Value) (a b:List UInt8):Prop where
 fr:Ext w5 wr
 o9:wr.ownsRow w5.heap.size 5 1 v9 a.length (zad a)
 o10:wr.ownsRow w5.heap.size 5 1 v10 b.length (zad b)
 ne:∀k,v9.ownBlock=some k->v10.ownBlock≠some k
theorem CoS.start (w:World):CoS w w (.slice none 0 0) (.slice none 0 0) [] []:=⟨Ext.refl w,qaK _ _ _ _,qaK _ _ _ _,λ k h=>by cases h⟩
theorem CoS.ext {w5 wr wz:World} {v9 v10:Value} {a b:List UInt8} (h:CoS w5 wr v9 v10 a b) (hE:Ext wr wz):CoS w5 wz v9 v10 a b:=
 ⟨h.fr.trans hE,zaa (S:=λ _=>False) h.o9 hE.keeps (λ _ _=>id),zaa (S:=λ _=>False) h.o10 hE.keeps (λ _ _=>id),h.ne⟩
theorem CoS.swap {w5 wr:World} {v9 v10:Value} {a b:List UInt8} (h:CoS w5 wr v9 v10 a b):CoS w5 wr v10 v9 b a:=⟨h.fr,h.o10,h.o9,λ k h1 h2=>h.ne k h2 h1⟩
theorem zfr (a c:List UInt8):zad (a++c)=zad a++zad c:=by unfold zad;rw[qbs]
theorem CoS.push {w5 wr:World} {v9 v10:Value} {a b:List UInt8} (h:CoS w5 wr v9 v10 a b) {kb m:Nat} (c:List UInt8) (hm:c.length=m) {cs:Array Value} (hcs:cs.toList=zad c) (hB:Bk wr kb cs) (hs:a.length+m<=1000000):
  ∃y d w',(Builtin.append_ #[62,62] 62 #[v9,.slice (some ⟨kb,0,none⟩) m m]).run Tryz.prog wr=.ok (.slice y (a.length+m) d) w'/\CoS w5 w' (.slice y (a.length+m) d) v10 (a++c) b/\wr.grownBy w' v9.ownBlock:=by
 obtain⟨i0,hi0,hz0,hz1,hz2⟩:=qbb zdI;have hl:(zad c).length=m*1:=by rw[zbx,hm,Nat.mul_one]
 obtain⟨v',w',hr,ho,hg,_,hat⟩:=qcH (P:=Tryz.prog) wr w5.heap.size 62 62 5 i0 _ 1 1 Tryz.underlying62 hi0 hz0 hz1 hz2 rfl (by decide) v9 a.length (zad a) h.o9 ⟨kb,0,none⟩ m m (zad c) hl
  (λ j u hu=>by rw[zae,hB.cell j,<- Array.getElem?_toList,hcs];exact hu) (zfn c) (by unfold maxLen;omega) (by omega) h.fr.size
 obtain⟨y,d,rfl⟩:=zdA ho;have hK:=Keeps.grown hg;refine⟨y,d,w',hr,⟨Below.trans h.fr (hK.below h.fr.size (λ k hk q=>by have:=(h.o9.lt k q).1;omega)),?_,?_,?_⟩,hg⟩
 ·rw[qaa,hm,zfr];exact ho
 ·exact zaa h.o10 hK (λ k hk q=>h.ne k q hk)
 intro k hk hk2;rcases hat with e | e
 ·exact h.ne k (e.symm.trans hk) hk2
 have h1:=(h.o10.lt k hk2).2;rw[e] at hk;injection hk with hk;omega
theorem CoS.push2 {w5 wr:World} {v9 v10:Value} {a b:List UInt8} (h:CoS w5 wr v9 v10 a b) {kb m:Nat} (c:List UInt8) (hm:c.length=m) {cs:Array Value} (hcs:cs.toList=zad c) (hB:Bk wr kb cs) (hs:b.length+m<=1000000):
  ∃y d w',(Builtin.append_ #[62,62] 62 #[v10,.slice (some ⟨kb,0,none⟩) m m]).run Tryz.prog wr=.ok (.slice y (b.length+m) d) w'/\CoS w5 w' v9 (.slice y (b.length+m) d) a (b++c)/\wr.grownBy w' v10.ownBlock:=by
 obtain⟨y,d,w',h1,h2,h3⟩:=h.swap.push c hm hcs hB hs;exact⟨y,d,w',h1,h2.swap,h3⟩
theorem zb1 {wr w':World} {v:Value} {kb:Nat} {cs:Array Value} (hg:wr.grownBy w' v.ownBlock) (hB:Bk wr kb cs) (hne:v.ownBlock≠some kb):Bk w' kb cs:=
 hB.keeps (Keeps.grown hg) hne
theorem zoT {w:World} {b n c size:Nat} {e:TypeId} {x:Option Addr} {xs:List Value} (h:w.ownsRow b e size (.slice x n c) n xs):n<=c:=by
 rcases h.2 with⟨hn,_⟩ | ⟨g,cap,cur,he,_,_,hc,_⟩
 ·injection hn with _ q _;omega
 injection he with _ q1 q2;omega
theorem zlS {w:World} {base n m c:Nat} {x:Option Addr} {l:List UInt8} (h:w.ownsRow base 5 1 (.slice x n c) n (zad l)) (hm:m<=n) (h0:0<m):(convert 62 9 (.slice x m c)).run Tryz.prog w=.ok (.string ⟨(l.take m).toArray⟩) w:=by
 have hl:l.length=n:=by have:=h.1;rw[zbx,Nat.mul_one] at this;exact this
 rcases zah h with⟨e,e0⟩ | ⟨g,cap,e⟩
 ·omega
 injection e with e1 e2 e3;subst e1 e3;have q:=qbt (P:=Tryz.prog) w 62 9 5 ⟨g,0,none⟩ c (l.take m) Tryz.underlying62 Tryz.underlying5 Tryz.underlying9 (λ j hj=>by
  have hj1:j<m:=by rw[qax] at hj;omega
  rw[zae,h.cellAt j (by omega),zaN l j (by omega),List.getElem_take])
 have e4:(l.take m).length=m:=by rw[qax];omega
 rw[e4] at q;exact q
theorem CoS.kept10 {w5 wr w8:World} {v9 v10 v:Value} {a b:List UInt8} {o:Obj} (h:CoS w5 wr v9 v10 a b) (hv:∀k,v.ownBlock=some k->k<w5.heap.size) (hg:(wr.alloc o).grownBy w8 v.ownBlock):w8.ownsRow w5.heap.size 5 1 v10 b.length (zad b):=
 zaa h.o10 ((Keeps.alloc (Ext.keeps (S:=λ i=>v.ownBlock=some i) (Ext.refl wr)) o).trans (Keeps.grown hg) (λ _ _ q=>q)) (λ k hk q=>by have:=(h.o10.lt k hk).1;have:=hv k q;omega)
namespace Png
theorem zlF (l:List P4) (p:P4):colL (l ++ [p])=colL l ++ [u8i p.r,u8i p.g,u8i p.b]:=by unfold colL;rw[List.flatMap_append];rfl
theorem zlb (l:List P4) (p:P4):alpL (l ++ [p])=alpL l ++ [u8i p.a]:=by unfold alpL;rw[qbs];rfl
theorem zno (l:List P4):(colL l).length=3*l.length:=by
 induction l with
 | nil=>rfl
 | cons p l ih=>unfold colL at ih⊢;rw[qcJ,qaa,ih,qaR];show 3+3*l.length=3*(l.length+1);omega
theorem zht (l:List P4):(alpL l).length=l.length:=by unfold alpL;rw[qcm]
theorem zmG (l:List P4) {k:Nat} (hk:k<l.length):l.take (k+1)=l.take k ++ [atL l k]:=by
 unfold atL;rw[qaY,qai hk];exact (List.take_append_getElem hk).symm
end Png
end Go.Proofs.YthlibiocadimhaaGreatDoor
