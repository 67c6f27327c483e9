/-
  png.Unpack.
  Reading a file of a picture: the plain parts put together.
-/
import Derived.Test.YthlibiocadimhaaGreatDoorPngReadsG34
set_option linter.all false
set_option maxRecDepth 100000
namespace Go.Proofs.YthlibiocadimhaaGreatDoor
open Go.RowKit
namespace Png
noncomputable def unp (data:ByteArray) (high wide step:Nat):Except Nat ByteArray:=
 match Inf.unz data ((high*(wide+1):Nat):Int) with
 | .error c=>.error c
 | .ok t=>if t.length=high*(wide+1)/\(∀j,j<high->kdT (tx t) wide j<=4) then .ok (unS (tx t) wide step high) else .error 0
theorem zp7 {s:ByteArray} {most:Nat} {t:List UInt8} (h:Inf.unz s (most:Int)=.ok t):t.length<=most:=by
 unfold Inf.unz at h;split at h
 ·cases h
 split at h
 ·cases h
 split at h
 ·cases h
 rename_i out used bs hi;split at h
 ·cases h
 split at h
 ·cases h
 injection h with h;subst h;have:=(Inf.zec hi).1;omega
theorem zjM {s:ByteArray} {most:Int} {c:Nat} (h:Inf.unz s most=.error c):c<4:=by
 unfold Inf.unz at h;split at h
 ·injection h with h;omega
 split at h
 ·injection h with h;omega
 split at h
 ·rename_i c' hi;injection h with h;have:=Inf.zny hi;omega
 split at h
 ·injection h with h;omega
 split at h
 ·injection h with h;omega
 cases h
end Png
def zlM (w w':World) (E:Nat->Addr) (r:Except Nat ByteArray) (e:Ending):Prop:=
 Ext w w'/\match r with
 | .ok t=>e=.returned (.tuple #[.string t,.nilIface])
 | .error c=>e=.returned (.tuple #[.string ⟨#[]⟩,sentV (E c)])
theorem zoN (l:List UInt8):tb l=tx l:=bext (by rw[zp4,zce])
set_option maxHeartbeats 4000000 in
theorem zko (data:ByteArray) (high wide step:Nat) (w:World) (E:Nat->Addr) (hE:Errs w E) (hT:Tabs w) (hd:data.size<=maxLen) (hb:high*(wide+1)<=300000) (hw:1<=wide/\wide<=2000) (hh:high<=300) (hst:1<=step/\step<=8):
  Calls Tryz.prog 30 #[.string data,.int .i64 (high:Int),.int .i64 (wide:Int),.int .i64 (step:Int)] w λ e w'=>zlM w w' E (Png.unp data high wide step) e:=by
 obtain⟨M,hM⟩:∃M:Nat,high*(wide+1)=M:=⟨_,rfl⟩;have HMM:=Hd hM;obtain⟨res,hres⟩:=nmE (Png.unp data high wide step);rw[hres];unfold Png.unp at hres;rw[hM] at hb hres;have m2:(wide:Int)+1=((wide+1:Nat):Int):=by omega
 have m1:(high:Int)*((wide+1:Nat):Int)=(M:Int):=by rw[<- hM];push_cast;rfl
 obtain⟨wp,hwp⟩:∃q:Nat,wide+1=q:=⟨_,rfl⟩;rw[hwp] at m1 m2;have HWP:=Hd hwp;clear hM hwp;obtain⟨wa,wb⟩:=pwq (x:=(M:Int)) ⟨by omega,by omega⟩;obtain⟨wc,wd⟩:=pwq (x:=(wp:Int)) ⟨by omega,by omega⟩;have HER:=Hd hE;have HTB:=Hd hT;have HU:=Hd (zld data (M:Int) w E hE hT hd);clear hE hT;go_enter Tryz.func30,Tryz.ntmps30
 go_wp2_with fail;refine HU.out.mono ?_;rintro e w1 ⟨hX,he⟩;have X1:=Hd hX;clear hX HU;cases hz:Inf.unz data (M:Int) with
 | error c=>
  rw[hz] at he hres;simp only at he hres;subst he;subst hres;clear hz;unfold sentV;go_wp2_with fail;go_ret2;exact⟨X1.out,rfl⟩
 | ok t=>
  have hlen:=Png.zp7 hz;rw[hz] at he hres;simp only at he hres;subst he;clear hz;have hsz:(tb t).size=t.length:=by rw[zoN,zeu]
  have HTB2:=Hd (zoN t);obtain⟨S,hS⟩:=nmE (tb t);rw[hS] at hsz HTB2⊢;clear hS;by_cases hl:t.length<M
  ·have t0:=dT (p:=(S.size:Int)<(M:Int));have t1:S.size<M:=by omega
   rw[qac (λ q=>by have:=q.1;omega)] at hres;have e0:=(zaj HER.out X1.out).1;have e0:w1.drew.cell? ⟨1,0,none⟩=some (.iface 275 (.pointer (some (E 0)))):=e0;have e0b:w1.cell? ⟨1,0,none⟩=some (.iface 275 (.pointer (some (E 0)))):=e0;have HSZ:=Hd hsz;subst hres;clear hsz hl hlen;go_wp2_with fail;refine rgQ ?_;refine qY ?_;refine qY ?_;refine qY ?_;refine zaf ?_;go_wp2_with fail;go_ret2;exact⟨qag X1.out,rfl⟩
  have hl2:t.length=M:=by omega
  have t0:=dF (p:=(S.size:Int)<(M:Int));have t1:¬ S.size<M:=by omega
  have hSM:S.size=high*(wide+1):=by rw[hsz,hl2,HMM.out]
  have HB:=Hd (zm1 S wide step high w1 E (HER.out.ext X1.out) hSM (by omega) hst (by omega));clear hSM hsz hl hlen;go_wp2_with fail;refine HB.out.mono ?_;rintro e w2 ⟨hX2,h2⟩;have X2:=Hd (X1.out.trans hX2);clear hX2 HB;rcases h2 with⟨hk,rfl⟩ | ⟨i,F,hi,ha,hk,hib,rfl,hF⟩
  ·rw[HTB2.out] at hk⊢;rw[qad ⟨hl2,hk⟩] at hres;subst hres;clear hk hl2 t0 t1;go_wp2_with fail;go_ret2;exact⟨X2.out,rfl⟩
  rw[qac (λ q=>by have:=q.2 i hi;rw[<- HTB2.out] at this;omega)] at hres;subst hres;have e0:=(zaj HER.out X2.out).1;have e0:w2.drew.cell? ⟨1,0,none⟩=some (.iface 275 (.pointer (some (E 0)))):=e0;have e0b:w2.cell? ⟨1,0,none⟩=some (.iface 275 (.pointer (some (E 0)))):=e0;clear ha hk hib hF hi hl2;go_wp2_with fail;refine rgQ ?_;refine qY ?_;refine qY ?_;refine qY ?_;refine zaf ?_;go_wp2_with fail;go_ret2;exact⟨qag X2.out,rfl⟩
namespace Png
def zcq (L:List Ck):Prop:=L≠[]/\(L.getLast?.map λ c=>(c.k,c.d))=some (iend,⟨#[]⟩)
theorem zga {r:Rd} {L:List Ck} (h:¬ (zcq L/\runB r L.dropLast=true)):bodyR r L=.bad 0:=by
 unfold bodyR;rw[qac (λ q=>h ⟨⟨q.1,q.2.1⟩,q.2.2⟩)]
theorem zjh {r r':Rd} {L:List Ck} (hr:runR r L.dropLast=r') (h:r'.st=0\/(r'.kind=3/\r'.hc=false)):bodyR r L=.bad 0:=by
 unfold bodyR;split
 ·simp only[hr];rw[qad h]
 rfl
theorem zkb {r r':Rd} {L:List Ck} (h:zcq L/\runB r L.dropLast=true) (hr:runR r L.dropLast=r') (h0:¬ (r'.st=0\/(r'.kind=3/\r'.hc=false))):
  bodyR r L=match unp ⟨r'.data.toArray⟩ r'.high (rowN r') (byN r'.kind) with
   | .error c=>.bad c
   | .ok u=>if ∀i,i<r'.high*r'.wide->zaO r' u.data.toList (rowN r') i then .ok r'.wide r'.high (pxAt r' u.data.toList (rowN r')) else .bad 0:=by
 unfold bodyR;rw[qad ⟨h.1.1,h.1.2,h.2⟩];simp only[hr];rw[qac h0];unfold unp;cases hz:Inf.unz ⟨r'.data.toArray⟩ ((r'.high*(rowN r'+1):Nat):Int) with
 | error c=>rfl
 | ok t=>
  simp only;unfold pixR;by_cases hc:t.length=r'.high*(rowN r'+1)/\(∀j,j<r'.high->kdT (tx t) (rowN r') j<=4)
  ·rw[qad hc,qad hc]
  rw[qac hc,qac hc]
theorem zie {data u:ByteArray} {high wide step:Nat} (h:unp data high wide step=.ok u):u.size=high*wide:=by
 unfold unp at h;split at h
 ·cases h
 rename_i t _;split at h
 ·rename_i hc;injection h with h;subst h;exact zeM (by rw[zeu];exact hc.1) high (qaj _)
 cases h
theorem zo9 {data:ByteArray} {high wide step c:Nat} (h:unp data high wide step=.error c):c<4:=by
 unfold unp at h;split at h
 ·rename_i c' hz;injection h with h;have:=zjM hz;omega
 split at h
 ·cases h
 injection h with h;omega
theorem zev (r:Rd) (M:List Ck):(runR r M).data.length<=r.data.length+sumC M:=by
 induction M generalizing r with
 | nil=>exact Nat.le_add_right _ _
 | cons c M ih=>
  have h1:=ih (onR r c);have h2:=zpm r c;show (runR (onR r c) M).data.length<=r.data.length+(12+c.d.size+sumC M);omega
theorem zes (r:Rd) (M:List Ck) (hr:r.colors.size<=300000/\r.alphas.size<=300000) (hM:∀c∈M,c.Ok):(runR r M).colors.size<=300000/\(runR r M).alphas.size<=300000:=by
 induction M generalizing r with
 | nil=>exact hr
 | cons c M ih=>exact ih (onR r c) (zo8 r c hr (hM c (qbc ..))) (λ q hq=>hM q (qaQ _ hq))
theorem zgw (r:Rd) (M:List Ck) (hr:r.colors.size%3=0) (h:runB r M=true):(runR r M).colors.size%3=0:=by
 induction M generalizing r with
 | nil=>exact hr
 | cons c M ih=>
  unfold runB at h;rw[Bool.and_eq_true] at h;refine ih (onR r c) ?_ h.2;have h1:=h.1;unfold onB at h1;unfold onR;split
  ·exact hr
  rename_i n1;rw[qac n1] at h1;split
  ·exact hr
  rename_i n2;rw[qac n2] at h1;split
  ·rename_i n3;rw[qad n3] at h1;exact (qaU h1).2.2.2.2.2.1
  split <;> exact hr
theorem zfd (M:List Ck) (k:Nat):sumC (M.take k)<=sumC M:=by
 induction M generalizing k with
 | nil=>rw[List.take_nil];exact qaj _
 | cons c M ih=>
  cases k with
  | zero=>exact qbi _
  | succ k=>
   have:=ih k;show 12+c.d.size+sumC (M.take k)<=12+c.d.size+sumC M;omega
theorem zhW (M:List Ck):sumC M.dropLast<=sumC M:=by
 rw[List.dropLast_eq_take];exact zfd M _
theorem zfL {s:ByteArray} {L:List Ck} (hs:s.size<=300000) (h:readL s=.ok L):(∀c∈L,c.Ok/\kindB c.k.data.toList=true)/\8+sumC L=s.size/\L.length<=300000:=by
 obtain⟨h1,h2,h3⟩:=ziO (qaj _) hs h;obtain⟨h4,h5⟩:=zgL (qaj _) h1;rw[List.take_length] at h4 h5;refine⟨λ c hc=>⟨h2 c hc,h5 c hc⟩,?_,h3⟩;have e:s.data.toList.length=s.size:=rfl;have e8:sigB.length=8:=rfl;rw[<- e,h4,qaa,e8,zjB L h5]
theorem zjZ {c:Ck} {W H d k:Nat} (h:headR c=.ok W H d k):1<=W/\W<=256/\1<=H/\H<=256/\byN k≠0/\depOk k d:=by
 unfold headR at h;split at h
 ·dsimp only at h;split at h
  ·rename_i h1;split at h
   ·rename_i h2;injection h with e1 e2 e3 e4;subst e1 e2 e3 e4;exact⟨h1.1,h1.2.1,h1.2.2.1,h1.2.2.2,h2.1,h2.2.1⟩
   cases h
  cases h
 cases h
theorem znV {c:Ck} {e:Nat} (h:headR c=.bad e):e<2:=by
 unfold headR at h;split at h
 ·dsimp only at h;split at h
  ·split at h
   ·cases h
   injection h with h;omega
  injection h with h;omega
 injection h with h;omega
theorem zmm {s:ByteArray} {W H:Nat} {px:Nat->P4} (h:picR s=.ok W H px):(1<=W/\W<=256)/\(1<=H/\H<=256)/\∀i,(px i).Ok:=by
 unfold picR at h;split at h
 ·cases h
 ·cases h
 rename_i hd L _;split at h
 ·cases h
 rename_i W0 H0 d k hh;obtain⟨a1,a2,a3,a4,_,_⟩:=zjZ hh;unfold bodyR at h;split at h
 ·dsimp only at h;split at h
  ·cases h
  split at h
  ·cases h
  rename_i t _;unfold pixR at h;obtain⟨q1,q2,q3,q4⟩:=zcx (rd0 W0 H0 d k) L.dropLast;split at h
  ·split at h
   ·injection h with e1 e2 e3;subst e1 e2 e3;rw[q1,q2];exact⟨⟨a1,a2⟩,⟨a3,a4⟩,λ i=>zgh _ _ _ i⟩
   cases h
  cases h
 cases h
end Png
theorem RdAt.start (w:World):RdAt w.heap.size w.heap.size (Png.rd0 0 0 0 0) (w.alloc (.cells (rdV (Png.rd0 0 0 0 0) (.pointer none) (.slice none 0 0)) 72)):=
 ⟨qaj _,.pointer none,.slice none 0 0,.inl rfl,qbP w _,qaK _ _ _ _,⟨λ _=>rfl,λ _=>rfl⟩⟩
def zaH:Value:=.agg #[.int .i64 0,.int .i64 0,.slice none 0 0]
def zl0 (w w':World) (E:Nat->Addr) (r:Png.PcR) (e:Ending):Prop:=
 Ext w w'/\match r with
 | .fault c i=>∃F:Nat,c<9/\(i:Int)<=9223372036854775807/\e=.returned (.tuple #[zaH,.iface 107 (.pointer (some ⟨F,0,none⟩))])/\w'.heap[F]? =some (.cells #[.int .i64 (i:Int),sentV (E c)] 109 (0,0))
 | .bad c=>c<9/\e=.returned (.tuple #[zaH,sentV (E c)])
 | .ok W H px=>∃x c,e=.returned (.tuple #[.agg #[.int .i64 (W:Int),.int .i64 (H:Int),.slice x (H*W) c],.nilIface])/\Pxs w' x (H*W) px
end Go.Proofs.YthlibiocadimhaaGreatDoor
