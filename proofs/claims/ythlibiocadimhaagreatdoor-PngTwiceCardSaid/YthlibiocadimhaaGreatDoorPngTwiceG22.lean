/-
  Rows of chunks as they lie in memory; what a file of chunks is, as a list.
  chunk.Write.
  What chunks a file holds, as a list.
  chunk.Read.
  What is read is written as it was.
  raster.each: a new picture, pixel by pixel.
  Pictures: own memory for one; the same ones.
  All that png's functions call.
-/
import Derived.Test.YthlibiocadimhaaGreatDoorPngTwiceG1
import Derived.Test.YthlibiocadimhaaGreatDoorPngTwiceG21
import Derived.Test.YthlibiocadimhaaGreatDoorPngTwiceG3
import Derived.Deep.AppendLies
import Derived.Deep.RegionHeld3
import Derived.RegionTactic
import Derived.Deep.RegionLaw
import Derived.Laws.AppendOwnNone
import Derived.Test.YthlibiocadimhaaGreatDoorPngTwiceG17
import Derived.Test.YthlibiocadimhaaGreatDoorPngTwiceG2
set_option linter.unusedSimpArgs false
set_option linter.unusedVariables false
set_option maxRecDepth 100000
namespace Go.Proofs.YthlibiocadimhaaGreatDoor
open Go.RowKit
structure Ck where
 k:ByteArray
 d:ByteArray
def Ck.cells (c:Ck):List Value:=[.string c.k,.string c.d]
def ckL (L:List Ck):List Value:=L.flatMap Ck.cells
theorem ckL_snoc (L:List Ck) (c:Ck):ckL (L ++ [c])=ckL L ++ [.string c.k,.string c.d]:=by simp[ckL,Ck.cells]
theorem ckL_get:∀(L:List Ck) (i:Nat) (c:Ck),L[i]? =some c→(ckL L)[i*2]? =some (.string c.k)∧(ckL L)[i*2+1]? =some (.string c.d):=by
 intro L;induction L with
 | nil=>intro i c h;cases h
 | cons x L ih=>
  intro i c h;cases i with
  | zero=>injection h with h;subst h;exact⟨rfl,rfl⟩
  | succ i=>
   have:=ih i c (by simpa using h);rw[show (i+1)*2=(i*2+1)+1 by omega];exact this
structure Ck.Ok (c:Ck):Prop where
 k:c.k.size≤maxLen
 d:c.d.size≤300000
/-- a row of chunks, wherever it lies -/
def Cks (w:World) (x:Option Addr) (L:List Ck):Prop:=
 (x=none→L=[])∧∀a,x=some a→∀(i:Nat) (c:Ck),L[i]? =some c→
  w.cell? (a.add (i*2))=some (.string c.k)∧w.cell? ⟨(a.add (i*2)).block,(a.add (i*2)).off+1,none⟩=some (.string c.d)
theorem Cks.ext {w w':World} {x:Option Addr} {L:List Ck} (h:Cks w x L) (hE:Ext w w'):Cks w' x L:=by
 refine⟨h.1,fun a ha i c hi=>?_⟩;obtain⟨c0,c1⟩:=h.2 a ha i c hi;have hl:(a.add (i*2)).block<w.heap.size:=World.block_lt_of_cell? w _ c0;exact⟨(hE.keeps.cell (S:=fun _=>False) hl id).trans c0,(hE.keeps.cell (S:=fun _=>False) (p:=⟨_,_,none⟩) hl id).trans c1⟩
theorem Cks.isSome {w:World} {x:Option Addr} {L:List Ck} (h:Cks w x L) {i:Nat} (hi:i<L.length):∃a,x=some a:=by
 cases x with
 | none=>rw[h.1 rfl] at hi;simp at hi
 | some a=>exact⟨a,rfl⟩
theorem Cks.of_own {w:World} {base:Nat} {e:TypeId} {v:Value} {L:List Ck} (h:w.ownsRow base e 2 v L.length (ckL L)):∃x c,v=.slice x L.length c∧Cks w x L:=by
 rcases ownsRow_slice h with⟨rfl,h0⟩ | ⟨g,cap,rfl⟩
 ·have hn:L=[]:=List.eq_nil_of_length_eq_zero h0;subst hn;exact⟨none,0,rfl,fun _=>rfl,fun a h=>by cases h⟩
 ·refine⟨some ⟨g,0,none⟩,cap,rfl,(fun h=>by cases h),fun a ha i c hi=>?_⟩;injection ha with ha;subst ha;have hlt:i<L.length:=(List.getElem?_eq_some_iff.1 hi).1;obtain⟨q0,q1⟩:=ckL_get L i c hi;rw[add_plain];refine⟨?_,?_⟩
  ·rw[h.cellAt _ (by omega),q0]
  ·show w.cell? ⟨g,i*2+1,none⟩=_;rw[h.cellAt _ (by omega),q1]
/-- a chunk in a box of its own -/
def Cb (w:World) (K:Nat) (T:TypeId) (k d:ByteArray):Prop:=w.heap[K]? =some (.cells #[.string k,.string d] T (0,0))
theorem Cb.lt {w:World} {K:Nat} {T:TypeId} {k d:ByteArray} (h:Cb w K T k d):K<w.heap.size:=lt_of_block h
theorem Cb.ext {w w':World} {K:Nat} {T:TypeId} {k d:ByteArray} (h:Cb w K T k d) (hE:Ext w w'):Cb w' K T k d:=(hE.block K (lt_of_block h)).trans h
theorem Cb.cell {w:World} {K:Nat} {T:TypeId} {k d:ByteArray} (h:Cb w K T k d) (i:Nat):w.cell? ⟨K,i,none⟩=(#[Value.string k,Value.string d]:Array Value)[i]?:=Bk.cell ⟨T,h⟩ i
/-- what a chunk is in a file -/
def enc (c:Ck):List UInt8:=big4 c.d.size++c.k.data.toList++c.d.data.toList++big4 (Crc.crc (c.k.data.toList++c.d.data.toList))
inductive FRes where
 | ok (out:List UInt8)
 | bad (c i:Nat)
def fstep (c:Ck) (k:Nat) (out:List UInt8):FRes:=
 if kindB c.k.data.toList=true then (if 300000<out.length+12+c.d.size then .bad 1 k else .ok (out++enc c)) else .bad 2 k
def fileL (L:List Ck):Nat→FRes
 | 0=>.ok sigB
 | k+1=>match fileL L k with
  | .ok out=>(match L[k]? with | some c=>fstep c k out | none=>.ok out)
  | .bad c i=>.bad c i
theorem fileL_succ {L:List Ck} {k:Nat} {out:List UInt8} {c:Ck} (h:fileL L k=.ok out) (hc:L[k]? =some c):fileL L (k+1)=fstep c k out:=by
 simp only[fileL,h,hc]
theorem fileL_more {L:List Ck} {k c i:Nat} (h:fileL L k=.bad c i):∀d,fileL L (k+d)=.bad c i:=by
 intro d;induction d with
 | zero=>exact h
 | succ d ih=>show fileL L (k+d+1)=_;simp only[fileL,ih]
theorem fileL_bad {L:List Ck} {n k c:Nat} {out:List UInt8} {x:Ck} (h:fileL L k=.ok out) (hx:L[k]? =some x) (hs:fstep x k out=.bad c k) (hk:k<n):fileL L n=.bad c k:=by
 have h1:fileL L (k+1)=.bad c k:=(fileL_succ h hx).trans hs;have:=fileL_more h1 (n-(k+1));rwa [show k+1+(n-(k+1))=n by omega] at this
theorem big4_length (n:Nat):(big4 n).length=4:=rfl
theorem enc_length (c:Ck) (h:kindB c.k.data.toList=true):(enc c).length=12+c.d.size:=by
 have h4:c.k.data.toList.length=4:=by unfold kindB at h;simp at h;simpa using h.1
 have hd:c.d.data.toList.length=c.d.size:=rfl;unfold enc;simp only[List.length_append,big4_length,h4,hd];omega
theorem fstep_len {c:Ck} {k:Nat} {out o:List UInt8} (h:fstep c k out=.ok o):o.length≤300000:=by
 unfold fstep at h;split at h
 ·rename_i hk;split at h
  ·cases h
  ·injection h with h;subst h;rw[List.length_append,enc_length c hk];omega
 ·cases h
theorem fileL_len {L:List Ck}:∀ {n:Nat} {out:List UInt8},fileL L n=.ok out→out.length≤300000:=by
 intro n;induction n with
 | zero=>intro out h;injection h with h;subst h;decide
 | succ n ih=>
  intro out h;simp only[fileL] at h;split at h
  ·rename_i q hq;split at h
   ·exact fstep_len h
   ·injection h with h;subst h;exact ih hq
  ·cases h
theorem fileL_cons {L:List Ck}:∀ {n:Nat} {out:List UInt8},fileL L n=.ok out→out≠[]:=by
 intro n;induction n with
 | zero=>intro out h;injection h with h;subst h;decide
 | succ n ih=>
  intro out h;simp only[fileL] at h;split at h
  ·rename_i q hq;have:=ih hq;split at h
   ·unfold fstep at h;split at h
    ·split at h
     ·cases h
     ·injection h with h;subst h;simp[this]
    ·cases h
   ·injection h with h;subst h;exact this
  ·cases h
structure ErrC (w:World) (E:Nat→Addr):Prop where
 var:∀k,k<4→w.cell? ⟨gk k,0,none⟩=some (sentV (E k))
theorem ErrC.ext {w w':World} {E:Nat→Addr} (h:ErrC w E) (hE:Ext w w'):ErrC w' E:=⟨fun k hk=>(hE.cell (p:=⟨gk k,0,none⟩) (World.block_lt_of_cell? w _ (h.var k hk))).trans (h.var k hk)⟩
theorem Errs.c {w:World} {E:Nat→Addr} (h:Errs w E):ErrC w E:=⟨fun k hk=>h.var k (by omega)⟩
theorem anyHw {P:Program} {md:Region.Mode} {ops:Array Oper} {Q:Exit→Act→World→Prop} {S:World→Prop} {fuel:Nat} {listed:Array Bool} {a:Act} {W:World} (F:World→Prop) (h1:F W) (h2:∀wz,F wz→wpAnyH P md ops Q S fuel listed a wz):wpAnyH P md ops Q S fuel listed a W:=h2 W h1
def FPost (w w':World) (E:Nat→Addr) (r:FRes) (e:Ending):Prop:=
 Ext w w'∧((∃out,r=.ok out∧e=.returned (.tuple #[.string ⟨out.toArray⟩,.nilIface]))∨(∃c i F:Nat,c<9∧(i:Int)≤9223372036854775807∧r=.bad c i∧e=.returned (.tuple #[.string ⟨#[]⟩,.iface 107 (.pointer (some ⟨F,0,none⟩))])∧w'.heap[F]? =some (.cells #[.int .i64 (i:Int),sentV (E c)] 109 (0,0))))
theorem file_err {w wz:World} {E:Nat→Addr} {k c:Nat} {r:FRes} (hX:Ext w wz) (hc:c<9) (hk:(k:Int)≤9223372036854775807) (h:r=.bad c k):
  FPost w (wz.drew.alloc (.cells #[.int .i64 (k:Int),.iface 275 (.pointer (some (E c)))] 109)) E r (.returned (.tuple #[.string ⟨#[]⟩,.iface 107 (.pointer (some ⟨wz.heap.size,0,none⟩))])):=
 ⟨(show Ext w wz.drew from Below.drew hX).alloc _,.inr ⟨c,k,wz.heap.size,hc,hk,h,rfl,heap_alloc_new wz.drew _⟩⟩
theorem file_fin {w wz:World} {E:Nat→Addr} {r:FRes} {out:List UInt8} (hX:Ext w wz) (h:r=.ok out):FPost w wz E r (.returned (.tuple #[.string ⟨out.toArray⟩,.nilIface])):=⟨hX,.inl ⟨out,h,rfl⟩⟩
theorem fstep_kind {c:Ck} {k:Nat} {out:List UInt8} (h:kindB c.k.data.toList=false):fstep c k out=.bad 2 k:=by unfold fstep;rw[if_neg (by rw[h];decide)]
theorem fstep_big {c:Ck} {k:Nat} {out:List UInt8} (h:kindB c.k.data.toList=true) (hb:300000<out.length+12+c.d.size):fstep c k out=.bad 1 k:=by unfold fstep;rw[if_pos h,if_pos hb]
theorem fstep_ok {c:Ck} {k:Nat} {out:List UInt8} (h:kindB c.k.data.toList=true) (hb:¬ 300000<out.length+12+c.d.size):fstep c k out=.ok (out++enc c):=by unfold fstep;rw[if_pos h,if_neg hb]
theorem kind_size {s:ByteArray} (h:kindB s.data.toList=true):s.size=4:=by unfold kindB at h;simp at h;exact h.1
theorem app_list (a b:ByteArray):(a++b).data.toList=a.data.toList++b.data.toList:=by rw[ByteArray.data_append,Array.toList_append]
theorem Cb.others {b:Nat} {w w':World} {K:Nat} {T:TypeId} {k d:ByteArray} (h:Cb w K T k d) (ho:Lib.OthersKept 5 (some b) w w') (hb:K≠b) (hT:T≠5):Cb w' K T k d:=by
 refine ho K _ h (fun e=>hb (by injection e)) (fun c fz e=>hT (by injection e))
set_option maxHeartbeats 4000000 in
theorem write_any (x:Option Addr) (cap:Nat) (L:List Ck) (w:World) (E:Nat→Addr) (hE:ErrC w E) (hx:Cks w x L) (hn:L.length≤100000) (hO:∀c∈L,c.Ok):
  Calls Tryz.prog 25 #[.slice x L.length cap] w fun e w'=>FPost w w' E (fileL L L.length) e:=by
 have HE:=Hd hE;have HX:=Hd hx;have HO:=Hd hO;clear hE hx hO;obtain⟨n,hn0⟩:∃n,L.length=n:=⟨_,rfl⟩;have HN:=Hd hn0;rw[hn0] at hn⊢;clear hn0;go_enter Tryz.func25,Tryz.ntmps25
 go_wp2_with fail;refine calls_world (fun wz=>Ext w wz∧Bld w.heap.size w.heap.size [] wz) ⟨(Ext.refl _).alloc _,Bld.fresh w⟩ ?_;rintro w1 ⟨hX,hB⟩;have HX1:=Hd hX;clear hX;refine (bld_write w.heap.size w.heap.size [] ⟨sigB.toArray⟩ w1 hB (by decide) HX1.out.size).mono ?_;rintro e w2 ⟨rfl,hB2,hX2,hO2⟩;have HB2:=Hd hB2;have HX2:=Hd (Below.trans HX1.out hX2);clear hB hB2 hX2 hO2 HX1;go_wp2_with fail;go_loopw [10] (fun c wr=>∃(k:Nat) (out:List UInt8),k≤n∧c=.int .i64 k∧Hid (fileL L k=.ok out)∧Hid (Bld w.heap.size w.heap.size out wr)∧Hid (Ext w wr)) (fun c _=>n-(intOf c).toNat)
 case atStart=>exact⟨0,sigB,by omega,rfl,Hd rfl,HB2,HX2⟩
 case round=>
  clear HB2 HX2;obtain⟨k,out,hk,rfl,HL,HB,HW⟩:=hrel;have hlen:=fileL_len HL.out;by_cases hlt:k<n
  ·obtain⟨a,rfl⟩:=HX.out.isSome (i:=k) (by rw[HN.out];exact hlt);obtain⟨c,hc⟩:∃c,L[k]? =some c:=⟨_,List.getElem?_eq_getElem (by rw[HN.out];exact hlt)⟩;obtain⟨c0,c1⟩:=(HX.out.ext HW.out).2 a rfl k c hc;obtain⟨okk,okd⟩:=HO.out c (List.mem_of_getElem? hc);have HSt:=Hd (fileL_succ HL.out hc);have HBad:=Hd (fun q (h:fstep c k out=.bad q k)=>fileL_bad (n:=n) HL.out hc h hlt);clear hc;obtain⟨ck,cd⟩:=c;simp only at c0 c1 okk okd;obtain⟨ol,hol⟩:∃ol,out.length=ol:=⟨_,rfl⟩;have HOL:=Hd hol;rw[hol] at hlen;clear hol;by_cases qk:kindB ck.data.toList=true
   ·have hck:=kind_size qk;have HK:=Hd qk;go_wp2_with fail;refine calls_world (fun wz=>Ext wr wz∧Cb wz wr.heap.size 58 ck cd) ⟨(Ext.refl _).alloc _,heap_alloc_new wr _⟩ ?_;rintro w3 ⟨hX,hC⟩;have X_3:=Hd (HW.out.trans hX);have B_3:=Hd (HB.out.ext hX);have HKB:=Hd (Nat.ne_of_gt HB.out.lt);obtain⟨K,hK0⟩:∃K,wr.heap.size=K:=⟨_,rfl⟩;rw[hK0] at hC HKB⊢;have C_3:=Hd hC;clear hX hC hK0 HW HB c0 c1 wr;refine (isKind_any ck w3 okk).mono ?_;rintro e w9 ⟨rfl,rfl⟩;rw[HK.out];clear qk;go_wp2_with fail;have hbl:=fun wz (h:Bld w.heap.size w.heap.size out wz)=>bld_len w.heap.size w.heap.size out wz h;rw[HOL.out] at hbl;have HBL:=Hd hbl;clear hbl;have hw1:IntKind.i64.wrap ((ol:Int)+12)=(ol:Int)+12:=by unfold IntKind.wrap;simp[IntKind.bits,IntKind.signed];omega
    have hw2:IntKind.i64.wrap ((ol:Int)+12+(cd.size:Int))=(ol:Int)+12+(cd.size:Int):=by unfold IntKind.wrap;simp[IntKind.bits,IntKind.signed];omega
    refine wp_region_held_drew (S:=fun w'=>w'.cell? ⟨K,0,none⟩=some (.string ck)∧w'.cell? ⟨K,1,none⟩=some (.string cd)) (by kernel_rfl) ⟨C_3.out.cell 0,C_3.out.cell 1⟩ (fun hHeld=>?_);clear hHeld;refine anyHw (fun wz=>Ext w3 wz) (show Ext w3 w3.drew from Below.drew (Ext.refl w3)) ?_;rintro w4 h;have X_4:=Hd (X_3.out.trans h);have B_4:=Hd (B_3.out.ext h);have C_4:=Hd (C_3.out.ext h);clear h X_3 B_3 C_3;have hHeld:w4.cell? ⟨K,0,none⟩=some (.string ck)∧w4.cell? ⟨K,1,none⟩=some (.string cd):=⟨C_4.out.cell 0,C_4.out.cell 1⟩;refine tkH 2 rfl hHeld ?_;(try simp only[Act.put,xz]);refine tkH 3 rfl hHeld ?_;(try simp only[Act.put,xz]);refine tkH 4 rfl hHeld ?_;(try simp only[Act.put,xz]);refine rdH 0 rfl fun KK hK=>?_;clear hHeld;go_simp;refine (HBL.out _ B_4.out).mono ?_;rintro e w9 ⟨rfl,rfl⟩;go_simp;refine hK.out _ _ ⟨C_4.out.cell 0,C_4.out.cell 1⟩ (fun hHeld=>?_);clear hK KK;(try simp only[Act.put,xz]);refine tkH 1 rfl hHeld ?_;(try simp only[Act.put,xz]);refine tkH 5 rfl hHeld ?_;(try simp only[Act.put,xz]);refine tkH 6 rfl hHeld ?_;(try simp only[Act.put,xz]);refine wpAnyH_done (by kernel_rfl) ?_ _;clear hHeld;clear hw1 hw2;by_cases qb:300000<ol+12+cd.size
    ·have tq:decide ((300000:Int)<(ol:Int)+12+(cd.size:Int))=true:=decide_eq_true (by omega);have HBB:=Hd (HBad.out 1 (fstep_big HK.out (by rw[HOL.out];exact qb)));clear HSt HBad HL HOL;have hv:=(HE.out.ext X_4.out).var 1 (by decide);simp only[gk,sentV] at hv;go_wp2_with fail;go_region;all_goals
      (try go_wp2_with fail);go_ret2;exact file_err X_4.out (by decide) (by omega) HBB.out
    ·have tq:decide ((300000:Int)<(ol:Int)+12+(cd.size:Int))=false:=decide_eq_false (by omega);have HS2:=Hd (HSt.out.trans (fstep_ok HK.out (by rw[HOL.out];exact qb)));clear HSt HBad HL;obtain⟨N1,hN1⟩:∃N:ByteArray,N=⟨(big4 cd.size).toArray⟩:=⟨_,rfl⟩;have hN1s:N1.size=4:=by rw[hN1];rfl
     obtain⟨z,hz⟩:∃z,Crc.crc (ck.data.toList++cd.data.toList)=z:=⟨_,rfl⟩;have hzl:z<4294967296:=by rw[← hz];exact Crc.flip_lt (Crc.run_lt (by decide) _)
     obtain⟨N2,hN2⟩:∃N:ByteArray,N=⟨(big4 z).toArray⟩:=⟨_,rfl⟩;have hN2s:N2.size=4:=by rw[hN2];rfl
     have hn1:=fun w=>number_any cd.size (by omega) w;rw[← hN1] at hn1;have HN1:=Hd hn1;have hcr:=fun w=>crc_any (ck++cd) w (by unfold maxLen;rw[ByteArray.size_append];omega);rw[app_list,hz] at hcr;have HCR:=Hd hcr;have hn2:=fun w=>number_any z hzl w;rw[← hN2] at hn2;have HN2:=Hd hn2;have henc:(N1++ck++cd++N2).data.toList=enc ⟨ck,cd⟩:=by rw[app_list,app_list,app_list,hN1,hN2,← hz];rfl
     have HENC:=Hd henc;clear henc hn1 hcr hn2 hz hN1 hN2;have hw32:IntKind.u32.wrap (cd.size:Int)=(cd.size:Int):=by unfold IntKind.wrap;simp[IntKind.bits,IntKind.signed];omega
     have s5:¬ 9223372036854775807<N1.size+ck.size+cd.size:=by (try simp only[ByteArray.size_append]);omega
     have s6:¬ 9223372036854775807<N1.size+ck.size+cd.size+N2.size:=by (try simp only[ByteArray.size_append]);omega
     have s1:¬ 9223372036854775807<N1.size+ck.size:=by (try simp only[ByteArray.size_append]);omega
     have s2:¬ 9223372036854775807<(N1++ck).size+cd.size:=by (try simp only[ByteArray.size_append]);omega
     have s3:¬ 9223372036854775807<ck.size+cd.size:=by (try simp only[ByteArray.size_append]);omega
     have s4:¬ 9223372036854775807<(N1++ck++cd).size+N2.size:=by (try simp only[ByteArray.size_append]);omega
     have hsum:N1.size+ck.size+cd.size+N2.size≤301000:=by omega
     have HSUM:=Hd hsum;clear hck hN1s hN2s hsum;go_wp2_with fail;refine wp_region_held_drew (S:=fun w'=>w'.cell? ⟨K,0,none⟩=some (.string ck)∧w'.cell? ⟨K,1,none⟩=some (.string cd)) (by kernel_rfl) ⟨C_4.out.cell 0,C_4.out.cell 1⟩ (fun hHeld=>?_);clear hHeld;refine anyHw (fun wz=>Ext w4 wz) (show Ext w4 w4.drew from Below.drew (Ext.refl w4)) ?_;rintro w5 h;have X_5:=Hd (X_4.out.trans h);have B_5:=Hd (B_4.out.ext h);have C_5:=Hd (C_4.out.ext h);clear h X_4 B_4 C_4;have hHeld:w5.cell? ⟨K,0,none⟩=some (.string ck)∧w5.cell? ⟨K,1,none⟩=some (.string cd):=⟨C_5.out.cell 0,C_5.out.cell 1⟩;refine tkH 0 rfl hHeld ?_;(try simp only[Act.put,xz]);refine tkH 1 rfl hHeld ?_;(try simp only[Act.put,xz]);refine tkH 2 rfl hHeld ?_;(try simp only[Act.put,xz]);refine tkH 3 rfl hHeld ?_;(try simp only[Act.put,xz]);refine tkH 5 rfl hHeld ?_;(try simp only[Act.put,xz]);refine tkH 6 rfl hHeld ?_;(try simp only[Act.put,xz]);refine tkH 8 rfl hHeld ?_;(try simp only[Act.put,xz]);refine tkH 9 rfl hHeld ?_;(try simp only[Act.put,xz]);refine tkH 11 rfl hHeld ?_;(try simp only[Act.put,xz]);refine tkH 12 rfl hHeld ?_;(try simp only[Act.put,xz]);refine tkH 13 rfl hHeld ?_;(try simp only[Act.put,xz]);refine tkH 14 rfl hHeld ?_;(try simp only[Act.put,xz]);refine tkH 15 rfl hHeld ?_;(try simp only[Act.put,xz]);refine rdH 4 rfl fun KK hK=>?_;clear hHeld;go_simp;refine (HN1.out _).mono ?_;rintro e w6 ⟨rfl,h⟩;have X_6:=Hd (X_5.out.trans h);have B_6:=Hd (B_5.out.ext h)
     have C_6:=Hd (C_5.out.ext h);clear h X_5 B_5 C_5;go_simp;refine hK.out _ _ ⟨C_6.out.cell 0,C_6.out.cell 1⟩ (fun hHeld=>?_);clear hK KK;(try simp only[Act.put,xz]);refine tkH 7 rfl hHeld ?_;(try simp only[Act.put,xz]);refine tkH 10 rfl hHeld ?_;(try simp only[Act.put,xz]);refine rdH 16 rfl fun KK hK=>?_;clear hHeld;go_simp;refine (HCR.out _).mono ?_;rintro e w7 ⟨rfl,h⟩;have X_7:=Hd (X_6.out.trans h);have B_7:=Hd (B_6.out.ext h);have C_7:=Hd (C_6.out.ext h);clear h X_6 B_6 C_6;go_simp;refine hK.out _ _ ⟨C_7.out.cell 0,C_7.out.cell 1⟩ (fun hHeld=>?_);clear hK KK;(try simp only[Act.put,xz]);refine rdH 17 rfl fun KK hK=>?_;clear hHeld;go_simp;refine (HN2.out _).mono ?_;rintro e w8 ⟨rfl,h⟩;have X_8:=Hd (X_7.out.trans h);have B_8:=Hd (B_7.out.ext h);have C_8:=Hd (C_7.out.ext h);clear h X_7 B_7 C_7;go_simp;refine hK.out _ _ ⟨C_8.out.cell 0,C_8.out.cell 1⟩ (fun hHeld=>?_);clear hK KK;(try simp only[Act.put,xz]);refine tkH 18 rfl hHeld ?_;(try simp only[Act.put,xz]);refine rdH 19 rfl fun KK hK=>?_;clear hHeld;go_simp;refine (bld_write w.heap.size w.heap.size out (N1++ck++cd++N2) _ B_8.out (by have:=HSUM.out;simp only[ByteArray.size_append,HOL.out];omega) X_8.out.size).mono ?_;rintro e w9 ⟨rfl,hB,hX,hOt⟩;rw[HENC.out] at hB;have HC2:=Hd (C_8.out.others hOt HKB.out (by decide));have HB3:=Hd hB;have HX3:=Hd (Below.trans X_8.out hX);clear hB hX hOt;go_simp;refine hK.out _ _ ⟨HC2.out.cell 0,HC2.out.cell 1⟩ (fun hHeld=>?_);clear hK KK
     (try simp only[Act.put,xz]);refine wpAnyH_done (by kernel_rfl) ?_ _;clear hHeld;go_wp2_with fail;go_roundw
     case rel=>exact⟨k+1,out++enc ⟨ck,cd⟩,by omega,by go_num,HS2,HB3,HX3⟩
     case measure=>simp[intOf];omega
   ·have qk':kindB ck.data.toList=false:=by simpa using qk
    have HBB:=Hd (HBad.out 2 (fstep_kind qk'));clear HSt HBad HL qk;go_wp2_with fail;refine calls_world (fun wz=>Ext wr wz∧Cb wz wr.heap.size 58 ck cd) ⟨(Ext.refl _).alloc _,heap_alloc_new wr _⟩ ?_;rintro w3 ⟨hX,hC⟩;have X_3:=Hd (HW.out.trans hX);have B_3:=Hd (HB.out.ext hX);have HKB:=Hd (Nat.ne_of_gt HB.out.lt);obtain⟨K,hK0⟩:∃K,wr.heap.size=K:=⟨_,rfl⟩;rw[hK0] at hC HKB⊢;have C_3:=Hd hC;clear hX hC hK0 HW HB c0 c1 wr;refine (isKind_any ck w3 okk).mono ?_;rintro e w9 ⟨rfl,rfl⟩;rw[qk'];clear qk';have hv:=(HE.out.ext X_3.out).var 2 (by decide);simp only[gk,sentV] at hv;go_wp2_with fail;go_region;all_goals
     (try go_wp2_with fail);go_ret2;exact file_err X_3.out (by decide) (by omega) HBB.out
  ·obtain rfl:k=n:=by omega
   go_wp2_with fail;refine (bld_string _ _ _ _ HB.out (fileL_cons HL.out)).mono ?_;rintro e w3 ⟨rfl,hX⟩;have HX3:=Hd (Below.trans HW.out hX);clear hX;go_wp2_with fail;go_ret2;exact file_fin HX3.out HL.out
inductive PStep where
 | next (n:Nat) (c:Ck)
 | bad (c:Nat)
/-- what stands at the head of the rest of a file -/
def pstep (T:ByteArray):PStep:=
 if T.size<12 then .bad 0
 else if T.size-12<valN (T.extract 0 4).data.toList then .bad 0
 else if kindB (T.extract 4 8).data.toList=false then .bad 0
 else if valN (T.extract (8+valN (T.extract 0 4).data.toList) (12+valN (T.extract 0 4).data.toList)).data.toList≠Crc.crc (T.extract 4 (8+valN (T.extract 0 4).data.toList)).data.toList then .bad 3
 else .next (valN (T.extract 0 4).data.toList) ⟨T.extract 4 8,T.extract 8 (8+valN (T.extract 0 4).data.toList)⟩
inductive PRes where
 | ok (L:List Ck)
 | bad (c i:Nat)
def parse (s:ByteArray):Nat→Nat→List Ck→PRes
 | 0,_,acc=>.ok acc
 | f+1,p,acc=>if s.size≤p then .ok acc else match pstep (s.extract p s.size) with
  | .bad c=>.bad c p
  | .next n c=>parse s f (p+12+n) (acc ++ [c])
def readL (s:ByteArray):PRes:=if s.data.toList.take 8=sigB then parse s (s.size+1) 8 [] else .bad 0 0
theorem parse_end {s:ByteArray} {f p:Nat} {acc:List Ck} (h:s.size≤p):parse s f p acc=.ok acc:=by
 cases f with
 | zero=>rfl
 | succ f=>unfold parse;rw[if_pos h]
theorem parse_bad {s T:ByteArray} {f p c:Nat} {acc:List Ck} (h:p<s.size) (hf:s.size-p<f) (hT:s.extract p s.size=T) (hb:pstep T=.bad c):parse s f p acc=.bad c p:=by
 cases f with
 | zero=>omega
 | succ f=>unfold parse;rw[if_neg (by omega),hT,hb]
theorem parse_next {s T:ByteArray} {f p n:Nat} {c:Ck} {acc:List Ck} (h:p<s.size) (hf:s.size-p<f) (hT:s.extract p s.size=T) (hb:pstep T=.next n c):∃f',s.size-(p+12+n)<f'∧parse s f p acc=parse s f' (p+12+n) (acc ++ [c]):=by
 cases f with
 | zero=>omega
 | succ f=>
  refine⟨f,by omega,?_⟩;show (if s.size≤p then PRes.ok acc else match pstep (s.extract p s.size) with
   | .bad c=>.bad c p
   | .next n c=>parse s f (p+12+n) (acc ++ [c]))=_
  rw[if_neg (by omega),hT,hb]
theorem pstep_short {T:ByteArray} (h:T.size<12):pstep T=.bad 0:=by unfold pstep;rw[if_pos h]
theorem pstep_over {T T4:ByteArray} {n:Nat} (h:¬ T.size<12) (h4:T.extract 0 4=T4) (hn:valN T4.data.toList=n) (hb:T.size-12<n):pstep T=.bad 0:=by
 unfold pstep;rw[if_neg h,h4,hn,if_pos hb]
theorem pstep_kind {T T4 K:ByteArray} {n:Nat} (h:¬ T.size<12) (h4:T.extract 0 4=T4) (hn:valN T4.data.toList=n) (hb:¬ T.size-12<n) (hK:T.extract 4 8=K) (hk:kindB K.data.toList=false):pstep T=.bad 0:=by
 unfold pstep;rw[if_neg h,h4,hn,if_neg hb,hK,if_pos hk]
theorem pstep_sum {T T4 K A B:ByteArray} {n u v:Nat} (h:¬ T.size<12) (h4:T.extract 0 4=T4) (hn:valN T4.data.toList=n) (hb:¬ T.size-12<n) (hK:T.extract 4 8=K) (hk:kindB K.data.toList=true)
  (hB:T.extract (8+n) (12+n)=B) (hA:T.extract 4 (8+n)=A) (hu:valN B.data.toList=u) (hv:Crc.crc A.data.toList=v) (hne:u≠v):pstep T=.bad 3:=by
 unfold pstep;rw[if_neg h,h4,hn,if_neg hb,hK,if_neg (by rw[hk];decide),hB,hA,hu,hv,if_pos hne]
theorem pstep_next {T T4 K A B D:ByteArray} {n u v:Nat} (h:¬ T.size<12) (h4:T.extract 0 4=T4) (hn:valN T4.data.toList=n) (hb:¬ T.size-12<n) (hK:T.extract 4 8=K) (hk:kindB K.data.toList=true)
  (hB:T.extract (8+n) (12+n)=B) (hA:T.extract 4 (8+n)=A) (hD:T.extract 8 (8+n)=D) (hu:valN B.data.toList=u) (hv:Crc.crc A.data.toList=v) (hne:¬ u≠v):pstep T=.next n ⟨K,D⟩:=by
 unfold pstep;rw[if_neg h,h4,hn,if_neg hb,hK,if_neg (by rw[hk];decide),hB,hA,hu,hv,if_neg hne,hD]
theorem hasPrefix_any (s p:ByteArray) (w:World) (hs:s.size≤9223372036854775807) (hp:p.size≤9223372036854775807):Calls Tryz.prog 61 #[.string s,.string p] w fun e w'=>e=.returned (.bool (decide (s.data.toList.take p.size=p.data.toList)))∧w=w':=by
 have key:Calls Tryz.prog 93 #[.string s,.string p] w fun e w'=>e=.returned (.bool (decide (s.data.toList.take p.size=p.data.toList)))∧w=w':=by
  by_cases h:p.size≤s.size
  ·have t0:decide ((p.size:Int)≤(s.size:Int))=true:=decide_eq_true (by omega);have h2:p.size≤s.size:=h;go_enter Tryz.func93,Tryz.ntmps93
   go_wp2_with fail;go_ret;refine⟨ret_bool ?_,rfl⟩;have e1:(s.extract 0 p.size).data.toList=s.data.toList.take p.size:=by rw[ByteArray.data_extract,Array.toList_extract];simp
   rw[Bool.eq_iff_iff,beq_iff_eq,decide_eq_true_iff,← e1,ByteArray.toList_eq,ByteArray.toList_eq]
  ·have t0:decide ((p.size:Int)≤(s.size:Int))=false:=decide_eq_false (by omega);go_enter Tryz.func93,Tryz.ntmps93
   go_wp2_with fail;go_ret;refine⟨ret_bool ?_,rfl⟩;rw[eq_comm,decide_eq_false_iff_not];intro q;have:=congrArg List.length q;rw[List.length_take] at this;have e1:s.data.toList.length=s.size:=rfl;have e2:p.data.toList.length=p.size:=rfl;omega
 go_enter Tryz.func61,Tryz.ntmps61
 go_wp2_with fail;refine key.mono ?_;rintro e w1 ⟨rfl,rfl⟩;go_wp2_with fail;go_ret;exact⟨rfl,rfl⟩
theorem fail_any (k:Int) (T:TypeId) (u:Value) (w:World):Calls Tryz.prog 60 #[.int .i64 k,.iface T u] w fun e w'=>e=.returned (.tuple #[.slice none 0 0,.iface 107 (.pointer (some ⟨w.heap.size,0,none⟩))])∧w'=w.alloc (.cells #[.int .i64 k,.iface T u] 109):=by
 go_enter Tryz.func60,Tryz.ntmps60
 go_wp2_with fail;go_ret2;exact⟨rfl,rfl⟩
def RPost (w w':World) (E:Nat→Addr) (r:PRes) (e:Ending):Prop:=
 Ext w w'∧((∃L x c,r=.ok L∧e=.returned (.tuple #[.slice x L.length c,.nilIface])∧Cks w' x L)∨(∃c i F:Nat,c<9∧(i:Int)≤9223372036854775807∧r=.bad c i∧e=.returned (.tuple #[.slice none 0 0,.iface 107 (.pointer (some ⟨F,0,none⟩))])∧w'.heap[F]? =some (.cells #[.int .i64 (i:Int),sentV (E c)] 109 (0,0))))
theorem read_err {w wz:World} {E:Nat→Addr} {k c:Nat} {r:PRes} (hX:Ext w wz) (hc:c<9) (hk:(k:Int)≤9223372036854775807) (h:r=.bad c k):
  RPost w (wz.alloc (.cells #[.int .i64 (k:Int),.iface 275 (.pointer (some (E c)))] 109)) E r (.returned (.tuple #[.slice none 0 0,.iface 107 (.pointer (some ⟨wz.heap.size,0,none⟩))])):=
 ⟨hX.alloc _,.inr ⟨c,k,wz.heap.size,hc,hk,h,rfl,heap_alloc_new wz _⟩⟩
theorem read_fin {w wz:World} {E:Nat→Addr} {r:PRes} {x:Option Addr} {c:Nat} {L:List Ck} (hX:Ext w wz) (hL:Cks wz x L) (h:r=.ok L):RPost w wz E r (.returned (.tuple #[.slice x L.length c,.nilIface])):=⟨hX,.inl ⟨L,x,c,h,rfl,hL⟩⟩
theorem ckinf:(Tryz.prog.info? 58).map (fun i=>(i.zero,i.size,i.bytes))=some (some (.agg #[.string ⟨#[]⟩,.string ⟨#[]⟩]),2,32):=by kernel_rfl
theorem two_new (w:World) (T:TypeId) (k d:ByteArray):∀(j:Nat) (u:Value),[Value.string k,Value.string d][j]? =some u→(w.alloc (.cells #[.string k,.string d] T)).cell? ((⟨w.heap.size,0,none⟩:Addr).add j)=some u:=by
 intro j u hj;rw[add_plain];match j,hj with
 | 0,hj=>simp at hj;subst hj;simp
 | 1,hj=>simp at hj;subst hj;simp
theorem two_one (k d:ByteArray):∀u∈ [Value.string k,Value.string d],u.oneCell'=true:=by
 intro u hu;simp at hu;rcases hu with rfl | rfl <;> rfl
theorem ck_push {w0 wr w1:World} {v v':Value} {L:List Ck} {k d:ByteArray} {T:TypeId} (hE:Ext w0 wr) (hR:wr.ownsRow w0.heap.size T 2 v L.length (ckL L)) (hg:wr.grownBy w1 v.ownBlock)
  (ho:w1.ownsRow w0.heap.size T 2 v' (L.length+1) (ckL L ++ [.string k,.string d])):w1.ownsRow w0.heap.size T 2 v' (L ++ [(⟨k,d⟩:Ck)]).length (ckL (L ++ [(⟨k,d⟩:Ck)]))∧Ext w0 w1:=by
 refine⟨?_,Below.trans hE ((Keeps.grown hg).below hE.size (fun k hk e=>by have:=(hR.lt k e).1;omega))⟩;rw[ckL_snoc,List.length_append];exact ho
theorem own_litR {w:World} {base:Nat} {e:TypeId} {size:Nat} {v:Value} {n:Nat} {xs:List Value} (h:w.ownsRow base e size v n xs):∃x c,v=.slice x n c:=by
 rcases ownsRow_slice h with⟨rfl,rfl⟩ | ⟨g,cap,rfl⟩
 ·exact⟨none,0,rfl⟩
 ·exact⟨_,cap,rfl⟩
def Rw (w0 w:World) (v:Value) (n:Nat) (L:List Ck):Prop:=w.ownsRow w0.heap.size 58 2 v n (ckL L)
theorem Rw.ext {w0 w w':World} {v:Value} {n:Nat} {L:List Ck} (h:Rw w0 w v n L) (hE:Ext w w'):Rw w0 w' v n L:=ownsRow_kept (S:=fun _=>False) h hE.keeps (fun _ _=>id)
theorem ex_size {s:ByteArray} {p:Nat} (h:p≤s.size):p+(s.extract p s.size).size=s.size:=by rw[ByteArray.size_extract];omega
set_option maxHeartbeats 4000000 in
theorem read_any (s:ByteArray) (w:World) (E:Nat→Addr) (hE:ErrC w E) (hs:s.size≤300000):
  Calls Tryz.prog 26 #[.string s] w fun e w'=>RPost w w' E (readL s) e:=by
 have HE:=Hd hE;clear hE;obtain⟨i0,hi0,hz0,hz1,hz2⟩:=info_parts ckinf;have tm:decide ((300000:Int)<(s.size:Int))=false:=decide_eq_false (by omega);have HPX:=Hd (fun w=>hasPrefix_any s ⟨sigB.toArray⟩ w (by omega) (by decide));by_cases qp:s.data.toList.take 8=sigB
 ·have qd:decide (s.data.toList.take (⟨sigB.toArray⟩:ByteArray).size=(⟨sigB.toArray⟩:ByteArray).data.toList)=true:=decide_eq_true qp;obtain⟨R,hR⟩:∃R,readL s=R:=⟨_,rfl⟩;have hP0:parse s (s.size+1) 8 []=R:=by rw[← hR];unfold readL;rw[if_pos qp]
  rw[hR];have HP0:=Hd hP0;clear hP0 hR;have h8:8≤s.size:=by
    have:=congrArg List.length qp;rw[List.length_take] at this;have e1:s.data.toList.length=s.size:=rfl;have e2:sigB.length=8:=rfl;omega
  clear qp;go_enter Tryz.func26,Tryz.ntmps26
  go_wp2_with fail;refine (HPX.out _).mono ?_;rintro e w9 ⟨rfl,rfl⟩;rw[qd];clear qd;go_wp2_with fail;go_loopw [5,6] (fun v q wr=>∃(pos f:Nat) (acc:List Ck),q=.int .i64 pos∧pos≤s.size∧acc.length≤pos∧Hid (s.size-pos<f)∧Hid (parse s f pos acc=R)∧Hid (wr.ownsRow w.heap.size 58 2 v (acc).length (ckL (acc)))∧Hid (Ext w wr)) (fun _ q _=>s.size-(intOf q).toNat)
  case atStart=>exact⟨8,s.size+1,[],rfl,h8,by simp,Hd (by omega),HP0,Hd (World.ownsRow_nil _ _ _ _),Hd (Ext.refl _)⟩
  case round=>
   clear HP0;obtain⟨pos,f,acc,rfl,hpos,hacc,HF,HP,HR,HW⟩:=hrel;by_cases hlt:pos<s.size
   ·obtain⟨vx,vc,rfl⟩:=own_litR HR.out;obtain⟨al,hal⟩:∃al,acc.length=al:=⟨_,rfl⟩;rw[hal] at HR hacc;have HAL:=Hd hal;rw[hal];clear hal;have hTs:=ex_size hpos;obtain⟨T,hT⟩:∃T,s.extract pos s.size=T:=⟨_,rfl⟩;rw[hT] at hTs;have HTS:=Hd hTs;have HTT:=Hd hT;have hTb:T.size≤300000:=by omega
    clear hTs;have HBad:=Hd (fun c (h:pstep T=.bad c)=>HP.out.symm.trans (parse_bad hlt HF.out hT h));have HNx:=Hd (fun n c (h:pstep T=.next n c)=>parse_next (acc:=acc) hlt HF.out hT h);by_cases q12:T.size<12
    ·have t1:decide ((T.size:Int)<12)=true:=decide_eq_true (by omega);have HB:=Hd (HBad.out 0 (pstep_short q12));clear HBad HNx HP HF;have hv:=(HE.out.ext HW.out).var 0 (by decide);simp only[gk,sentV] at hv;go_wp2_with fail;refine (fail_any _ _ _ _).mono ?_;rintro e w9 ⟨rfl,rfl⟩;go_wp2_with fail;go_ret2;exact read_err (k:=pos) HW.out (by decide) (by omega) HB.out
    ·have t1:decide ((T.size:Int)<12)=false:=decide_eq_false (by omega);obtain⟨T4,h4⟩:∃b,T.extract 0 4=b:=⟨_,rfl⟩;obtain⟨n,hn⟩:∃n,valN T4.data.toList=n:=⟨_,rfl⟩;have hnl:n<4294967296:=by rw[← hn];exact valN_lt _
     have hva:=fun w=>value_any T4 w (by rw[← h4,ByteArray.size_extract];unfold maxLen;omega);rw[hn] at hva;have HVA:=Hd hva;clear hva;have H4:=Hd h4;have HN:=Hd hn;clear hn;have hw64:IntKind.i64.wrap (n:Int)=(n:Int):=by unfold IntKind.wrap;simp[IntKind.bits,IntKind.signed];omega
     by_cases qn:T.size-12<n
     ·have t2:decide ((T.size:Int)-12<(n:Int))=true:=decide_eq_true (by omega);have HB:=Hd (HBad.out 0 (pstep_over q12 H4.out HN.out qn));clear HBad HNx HP HF;go_wp2_with fail;refine (HVA.out _).mono ?_;rintro e w9 ⟨rfl,rfl⟩;have hv:=(HE.out.ext HW.out).var 0 (by decide);simp only[gk,sentV] at hv;go_wp2_with fail;refine (fail_any _ _ _ _).mono ?_;rintro e w9 ⟨rfl,rfl⟩;go_wp2_with fail;go_ret2;exact read_err (k:=pos) HW.out (by decide) (by omega) HB.out
     ·have t2:decide ((T.size:Int)-12<(n:Int))=false:=decide_eq_false (by omega);obtain⟨K,hK⟩:∃b,T.extract 4 8=b:=⟨_,rfl⟩;have HIK:=Hd (fun w=>isKind_any K w (by rw[← hK,ByteArray.size_extract];unfold maxLen;omega));have HK:=Hd hK;by_cases qk:kindB K.data.toList=true
      ·have QK:=Hd qk;clear qk;obtain⟨B,hB⟩:∃b,T.extract (8+n) (12+n)=b:=⟨_,rfl⟩;obtain⟨A,hA⟩:∃b,T.extract 4 (8+n)=b:=⟨_,rfl⟩;obtain⟨D,hD⟩:∃b,T.extract 8 (8+n)=b:=⟨_,rfl⟩;obtain⟨u,hu⟩:∃u,valN B.data.toList=u:=⟨_,rfl⟩;obtain⟨v,hv⟩:∃v,Crc.crc A.data.toList=v:=⟨_,rfl⟩;have hvb:=fun w=>value_any B w (by rw[← hB,ByteArray.size_extract];unfold maxLen;omega);rw[hu] at hvb;have HVB:=Hd hvb;have hcr:=fun w=>crc_any A w (by rw[← hA,ByteArray.size_extract];unfold maxLen;omega);rw[hv] at hcr;have HCR:=Hd hcr;have HBB:=Hd hB;have HA:=Hd hA;have HD:=Hd hD;have HU:=Hd hu;have HV:=Hd hv;clear hvb hcr hu hv;have b1:(8:Int)+(n:Int)≤(12:Int)+(n:Int):=by omega
       have b2:(12:Int)+(n:Int)≤(T.size:Int):=by omega
       have b3:(8:Int)+(n:Int)≤(T.size:Int):=by omega
       have b4:(4:Int)≤(8:Int)+(n:Int):=by omega
       have b8:(8:Int)≤(T.size:Int):=by omega
       have b6:(0:Int)≤(12:Int)+(n:Int):=by omega
       have b7:(0:Int)≤(8:Int)+(n:Int):=by omega
       have b5:(8:Int)≤(8:Int)+(n:Int):=by omega
       have n1:((8:Int)+(n:Int)).toNat=8+n:=by omega
       have n2:((12:Int)+(n:Int)).toNat=12+n:=by omega
       have w8:IntKind.i64.wrap ((8:Int)+(n:Int))=(8:Int)+(n:Int):=by unfold IntKind.wrap;simp[IntKind.bits,IntKind.signed];omega
       have w12:IntKind.i64.wrap ((12:Int)+(n:Int))=(12:Int)+(n:Int):=by unfold IntKind.wrap;simp[IntKind.bits,IntKind.signed];omega
       go_wp2_with fail;refine (HVA.out _).mono ?_;rintro e w9 ⟨rfl,rfl⟩;go_wp2_with fail;refine (HIK.out _).mono ?_;rintro e w9 ⟨rfl,rfl⟩;rw[QK.out];go_wp2_with fail;have X_0:=HW;have R_0:Hid (Rw w wr (.slice vx al vc) al acc):=HR;clear HW HR;refine wp_region_held_drew (S:=fun w'=>True) (by kernel_rfl) trivial (fun hHeld=>?_);clear hHeld;refine anyHw (fun wz=>Ext wr wz) (show Ext wr wr.drew from Below.drew (Ext.refl wr)) ?_;rintro w1 h;have X_1:=Hd (X_0.out.trans h);have R_1:=Hd (R_0.out.ext h);clear h X_0 R_0;have hHeld:True:=trivial;refine tkH 0 rfl hHeld ?_;(try simp only[Act.put,xz]);refine tkH 1 rfl hHeld ?_;(try simp only[Act.put,xz]);refine tkH 2 rfl hHeld ?_;(try simp only[Act.put,xz]);refine tkH 3 rfl hHeld ?_;(try simp only[Act.put,xz]);refine tkH 4 rfl hHeld ?_;(try simp only[Act.put,xz]);refine tkH 5 rfl hHeld ?_;(try simp only[Act.put,xz]);refine tkH 7 rfl hHeld ?_;(try simp only[Act.put,xz]);refine tkH 8 rfl hHeld ?_;(try simp only[Act.put,xz]);refine tkH 9 rfl hHeld ?_;(try simp only[Act.put,xz]);refine tkH 10 rfl hHeld ?_;(try simp only[Act.put,xz]);refine rdH 6 rfl fun KK hK=>?_;clear hHeld;go_simp;refine (HVB.out _).mono ?_;rintro e w9 ⟨rfl,rfl⟩;go_simp;refine hK.out _ _ trivial (fun hHeld=>?_);clear hK KK;(try simp only[Act.put,xz]);refine rdH 11 rfl fun KK hK=>?_;clear hHeld;go_simp;refine (HCR.out _).mono ?_;rintro e w2 ⟨rfl,h⟩;have X_2:=Hd (X_1.out.trans h);have R_2:=Hd (R_1.out.ext h);clear h X_1 R_1;go_simp
       refine hK.out _ _ trivial (fun hHeld=>?_);clear hK KK;(try simp only[Act.put,xz]);refine tkH 12 rfl hHeld ?_;(try simp only[Act.put,xz]);refine wpAnyH_done (by kernel_rfl) ?_ _;clear hHeld;by_cases qs:u≠v
       ·have t3:((u:Int) !=(v:Int))=true:=by rw[bne_iff_ne];omega
        have HB:=Hd (HBad.out 3 (pstep_sum q12 H4.out HN.out qn HK.out QK.out HBB.out HA.out HU.out HV.out qs));clear HBad HNx HP HF;have hv:=(HE.out.ext X_2.out).var 3 (by decide);simp only[gk,sentV] at hv;go_wp2_with fail;refine (fail_any _ _ _ _).mono ?_;rintro e w9 ⟨rfl,rfl⟩;go_wp2_with fail;go_ret2;exact read_err (k:=pos) X_2.out (by decide) (by omega) HB.out
       ·have t3:((u:Int) !=(v:Int))=false:=by obtain rfl:u=v:=Classical.not_not.1 qs;exact bne_self_eq_false _
        obtain⟨f2,hf2,hp2⟩:=HNx.out n ⟨K,D⟩ (pstep_next q12 H4.out HN.out qn HK.out QK.out HBB.out HA.out HD.out HU.out HV.out qs);have HF2:=Hd hf2;have HP2:=Hd (hp2.symm.trans HP.out);clear hf2 hp2 HBad HNx HP HF;go_wp2_with fail;have HRd:Hid (w2.drew.ownsRow w.heap.size 58 2 (.slice vx al vc) al (ckL acc)):=R_2;refine wp_region_held_drew (S:=fun w'=>True) (by kernel_rfl) trivial (fun hHeld=>?_);clear hHeld;have hHeld:True:=trivial;refine tkH 0 rfl hHeld ?_;(try simp only[Act.put,xz]);refine tkH 1 rfl hHeld ?_;(try simp only[Act.put,xz]);refine tkH 2 rfl hHeld ?_;(try simp only[Act.put,xz]);refine tkH 3 rfl hHeld ?_;(try simp only[Act.put,xz]);refine tkH 4 rfl hHeld ?_;(try simp only[Act.put,xz]);refine tkH 5 rfl hHeld ?_;(try simp only[Act.put,xz]);refine tkH 6 rfl hHeld ?_;(try simp only[Act.put,xz]);refine tkH 7 rfl hHeld ?_;(try simp only[Act.put,xz]);refine rdH 8 rfl fun KK hK=>?_;clear hHeld;go_simp;refine hK.out _ _ trivial (fun hHeld=>?_);clear hK KK;(try simp only[Act.put,xz]);refine rdH 9 rfl fun KK hK=>?_;clear hHeld;refine step_append_lies _ rfl (.tmp 77) (.tmp 85) 57 rfl w.heap.size 58 i0 _ 2 32 Tryz.underlying57 hi0 hz0 hz1 hz2 rfl (by decide) (.slice vx al vc) al (ckL acc) (by simp[Act.eval]) (HRd.out.alloc _) ⟨w2.heap.size,0,none⟩ 1 1 [.string K,.string D] (by simp[Act.eval]) rfl (two_new _ _ _ _) (two_one _ _) (by omega) (by unfold maxLen;omega) (by omega) (by have:=X_2.out.size;simp;omega) _ rfl ?_
        intro g1 cap1 w7 hown1 hgrow1 hat1 hlt1;have P1:=ck_push (w0:=w) (L:=acc) (k:=K) (d:=D) ((show Ext w w2.drew from Below.drew X_2.out).alloc _) (by rw[HAL.out];exact HRd.out.alloc _) hgrow1 (by rw[HAL.out];exact hown1);rw[List.length_append,HAL.out] at P1;have HR7:=Hd P1.1;have HX7:=Hd P1.2;clear hown1 hgrow1 hat1 hlt1 P1;refine hK.out _ _ trivial (fun hHeld=>?_);clear hK KK;(try simp only[Act.put,xz]);refine tkH 10 rfl hHeld ?_;(try simp only[Act.put,xz]);refine wpAnyH_done (by kernel_rfl) ?_ _;clear hHeld;go_wp2_with fail;go_roundw
        case rel=>exact⟨pos+12+n,f2,acc ++ [⟨K,D⟩],by go_num,by have:=HTS.out;omega,by rw[List.length_append,HAL.out];simp;omega,HF2,HP2,Hd (by rw[List.length_append,HAL.out];exact HR7.out),HX7⟩
        case measure=>simp[intOf];have:=HTS.out;omega
      ·have qk':kindB K.data.toList=false:=by simpa using qk
       have HB:=Hd (HBad.out 0 (pstep_kind q12 H4.out HN.out qn HK.out qk'));clear HBad HNx HP HF qk;go_wp2_with fail;refine (HVA.out _).mono ?_;rintro e w9 ⟨rfl,rfl⟩;go_wp2_with fail;refine (HIK.out _).mono ?_;rintro e w9 ⟨rfl,rfl⟩;rw[qk'];clear qk';have hv:=(HE.out.ext HW.out).var 0 (by decide);simp only[gk,sentV] at hv;go_wp2_with fail;refine (fail_any _ _ _ _).mono ?_;rintro e w9 ⟨rfl,rfl⟩;go_wp2_with fail;go_ret2;exact read_err (k:=pos) HW.out (by decide) (by omega) HB.out
   ·obtain rfl:pos=s.size:=by omega
    have HL:Hid (R=.ok acc):=Hd (by rw[← HP.out,parse_end (Nat.le_refl _)]);obtain⟨x,c,rfl,hC⟩:=Cks.of_own HR.out;have HC:=Hd hC;clear hC;go_wp2_with fail;go_ret2;exact read_fin HW.out HC.out HL.out
 ·have qd:decide (s.data.toList.take (⟨sigB.toArray⟩:ByteArray).size=(⟨sigB.toArray⟩:ByteArray).data.toList)=false:=decide_eq_false qp;have HB:Hid (readL s=.bad 0 0):=Hd (by unfold readL;rw[if_neg qp]);clear qp;go_enter Tryz.func26,Tryz.ntmps26
  go_wp2_with fail;refine (HPX.out _).mono ?_;rintro e w9 ⟨rfl,rfl⟩;rw[qd];clear qd;have hv:=(HE.out.ext (Ext.refl w)).var 0 (by decide);simp only[gk,sentV] at hv;go_wp2_with fail;refine (fail_any _ _ _ _).mono ?_;rintro e w9 ⟨rfl,rfl⟩;go_wp2_with fail;go_ret2;exact read_err (k:=0) (Ext.refl w) (by decide) (by omega) HB.out
theorem exl (s:ByteArray) (a b:Nat):(s.extract a b).data.toList=(s.data.toList.drop a).take (b-a):=by
  rw[ByteArray.data_extract,Array.toList_extract]
theorem big4_of {l:List UInt8} (h:l.length=4):big4 (valN l)=l:=by
  match l,h with
  | [a,b,c,d],_=>exact big4_valN a b c d
theorem pstep_inv {T:ByteArray} {n:Nat} {c:Ck} (h:pstep T=.next n c):12+n≤T.size∧kindB c.k.data.toList=true∧c.d.size=n∧c.k.size=4∧T.data.toList.take (12+n)=enc c:=by
  unfold pstep at h;split at h
  · cases h
  rename_i h12;split at h
  · cases h
  rename_i hn;split at h
  · cases h
  rename_i hk;split at h
  · cases h
  rename_i hs;injection h with h1 h2;rw[h1] at h2 hn hs;have hT:T.data.toList.length=T.size:=rfl;have hs':=Classical.not_not.1 hs;have hkk:kindB (T.extract 4 8).data.toList=true:=by simpa using hk
  subst h2;refine⟨by omega,hkk,by show (T.extract 8 (8+n)).size=n;rw[ByteArray.size_extract];omega,by show (T.extract 4 8).size=4;rw[ByteArray.size_extract];omega,?_⟩;have hd:(T.extract 8 (8+n)).size=n:=by rw[ByteArray.size_extract];omega
  unfold enc;simp only[hd];have e4:big4 n=T.data.toList.take 4:=by
    rw[← h1,big4_of]
    · rw[exl];rfl
    · rw[exl,List.length_take,List.length_drop];omega
  have e5:(T.extract 4 8).data.toList++(T.extract 8 (8+n)).data.toList=(T.extract 4 (8+n)).data.toList:=by
    rw[exl,exl,exl,show 8+n-4=4+n by omega,List.take_add,List.drop_drop,show 8+n-8=n by omega]
  rw[e5,← hs',big4_of,List.append_assoc (big4 n),e5,e4,exl,exl]
  · rw[show 8+n-4=4+n by omega,show 12+n-(8+n)=4 by omega,show 12+n=4+((4+n)+4) by omega,List.take_add,List.take_add (i:=4+n),List.drop_drop,show 4+(4+n)=8+n by omega,List.append_assoc]
  · rw[exl,List.length_take,List.length_drop];omega
theorem fileL_app {L M:List Ck}:∀ {k:Nat},k≤L.length→fileL (L++M) k=fileL L k:=by
  intro k;induction k with
  | zero=>intro _;rfl
  | succ k ih=>
    intro hk;simp only[fileL,ih (by omega),List.getElem?_append_left (show k<L.length by omega)]
theorem fileL_snoc {L:List Ck} {c:Ck} {out:List UInt8} (h:fileL L L.length=.ok out):fileL (L ++ [c]) (L ++ [c]).length=fstep c L.length out:=by
  rw[List.length_append];exact fileL_succ ((fileL_app (Nat.le_refl _)).trans h) (by simp)
attribute [local go_sem ↓] Go.wp_at_zero Go.wp_at_succ
theorem own_slice {w:World} {base:Nat} {e:TypeId} {size:Nat} {v:Value} {n:Nat} {xs:List Value} (h:w.ownsRow base e size v n xs):∃x c,v=.slice x n c:=by
  rcases ownsRow_slice h with⟨h1,h2⟩ | ⟨g,cap,h1⟩
  · exact⟨none,0,by rw[h1,h2]⟩
  · exact⟨_,cap,h1⟩
/-- what 'each' holds while it goes -/
structure EAt (w wr:World) (W H:Int) (v:Value) (k:Nat) (px:Nat→P4):Prop where
  ext:Ext w wr
  res:PicAt wr w.heap.size 0 0 (.slice none 0 0)
  pic:PicAt wr (w.heap.size+1) W H v
  fr:∀j,wr.frozen? ⟨w.heap.size,j,none⟩=false
  fp:∀j,wr.frozen? ⟨w.heap.size+1,j,none⟩=false
  own:wr.ownsRow w.heap.size 53 4 v k (pxV k px)
  ne:v.ownBlock≠some w.heap.size∧v.ownBlock≠some (w.heap.size+1)
theorem add_add4 (a:Addr) (i c:Nat) (hc:c≠0):a.add (i*4+c)=⟨(a.add (i*4)).block,(a.add (i*4)).off+c,none⟩:=by
 unfold Addr.add;rw[if_neg (by omega)];split
 ·rename_i h;have:i=0:=by omega
  subst this;simp
 ·simp[Nat.add_assoc]
/-- the cells of a row, one behind the other -/
theorem Pxs.cells {w:World} {a:Addr} {n:Nat} {px:Nat→P4} (h:Pxs w (some a) n px) (j:Nat) (u:Value) (hj:(pxV n px)[j]? =some u):w.cell? (a.add j)=some u:=by
 have hl:j<n*4:=by
  rcases Nat.lt_or_ge j (n*4) with q | q
  ·exact q
  ·rw[List.getElem?_eq_none (by rw[pxV_length];exact q)] at hj;cases hj
 rw[pxV_get _ _ _ hl] at hj;injection hj with hj;subst hj;obtain⟨c0,c1,c2,c3,_⟩:=h.2 a rfl (j/4) (by omega);obtain⟨i,c,rfl,hc⟩:∃i c,j=i*4+c∧c<4:=⟨j/4,j%4,by omega,by omega⟩;rw[show (i*4+c)/4=i by omega] at c0 c1 c2 c3;match c,hc with
 | 0,_=>rw[Nat.add_zero,cellP_0];exact c0
 | 1,_=>rw[cellP_1,add_add4 _ _ _ (by decide)];exact c1
 | 2,_=>rw[cellP_2,add_add4 _ _ _ (by decide)];exact c2
 | 3,_=>rw[cellP_3,add_add4 _ _ _ (by decide)];exact c3
theorem cells_one (n:Nat) (px:Nat→P4):∀u∈pxV n px,u.oneCell'=true:=by
 intro u hu;obtain⟨j,_,rfl⟩:=List.mem_map.1 hu;exact cellP_one px j
/-- three variables that hold pictures, made one behind the other -/
theorem three_pics {w w1:World} {W H:Int} {u:Value}
  (hg:Ext (((w.alloc (.cells #[.int .i64 W,.int .i64 H,u] 24)).alloc (.cells #[.int .i64 0,.int .i64 0,.slice none 0 0] 24)).alloc (.cells #[.int .i64 W,.int .i64 H,.slice none 0 0] 24)) w1):
  PicAt w1 (w.heap.size+1) 0 0 (.slice none 0 0)∧PicAt w1 (w.heap.size+1+1) W H (.slice none 0 0)∧(∀j,w1.frozen? ⟨w.heap.size+1,j,none⟩=false)∧(∀j,w1.frozen? ⟨w.heap.size+1+1,j,none⟩=false)∧Ext w w1:=by
 have s1:(w.alloc (.cells #[.int .i64 W,.int .i64 H,u] 24)).heap.size=w.heap.size+1:=World.size_alloc _ _;have e1:Ext w (w.alloc (.cells #[.int .i64 W,.int .i64 H,u] 24)):=(Ext.refl w).alloc _;generalize w.alloc (.cells #[.int .i64 W,.int .i64 H,u] 24)=wa at *;have P1:=PicAt.new wa 0 0 (.slice none 0 0) 24;have f1:∀j,(wa.alloc (.cells #[.int .i64 0,.int .i64 0,.slice none 0 0] 24)).frozen? ⟨wa.heap.size,j,none⟩=false:=fun j=>World.frozen?_alloc_at _ _ _ _ rfl;have s2:(wa.alloc (.cells #[.int .i64 0,.int .i64 0,.slice none 0 0] 24)).heap.size=wa.heap.size+1:=World.size_alloc _ _;have e2:Ext wa (wa.alloc (.cells #[.int .i64 0,.int .i64 0,.slice none 0 0] 24)):=(Ext.refl wa).alloc _;generalize wa.alloc (.cells #[.int .i64 0,.int .i64 0,.slice none 0 0] 24)=wb at *;have P2:=PicAt.new wb W H (.slice none 0 0) 24;have f2:∀j,(wb.alloc (.cells #[.int .i64 W,.int .i64 H,.slice none 0 0] 24)).frozen? ⟨wb.heap.size,j,none⟩=false:=fun j=>World.frozen?_alloc_at _ _ _ _ rfl;have s3:(wb.alloc (.cells #[.int .i64 W,.int .i64 H,.slice none 0 0] 24)).heap.size=wb.heap.size+1:=World.size_alloc _ _;have e3:Ext wb (wb.alloc (.cells #[.int .i64 W,.int .i64 H,.slice none 0 0] 24)):=(Ext.refl wb).alloc _;generalize wb.alloc (.cells #[.int .i64 W,.int .i64 H,.slice none 0 0] 24)=wc at *
 rw[s1] at P1 f1 s2;rw[s2] at P2 f2 s3;refine⟨(P1.ext e3).ext hg,P2.ext hg,fun j=>?_,fun j=>?_,((e1.trans e2).trans e3).trans hg⟩
 ·exact (hg.frozen (p:=⟨w.heap.size+1,j,none⟩) (by show w.heap.size+1<_;omega)).trans ((e3.frozen (p:=⟨w.heap.size+1,j,none⟩) (by show w.heap.size+1<_;omega)).trans (f1 j))
 ·exact (hg.frozen (p:=⟨w.heap.size+1+1,j,none⟩) (by show w.heap.size+1+1<_;omega)).trans (f2 j)
theorem owns_based {w:World} {b b':Nat} {e:TypeId} {size:Nat} {v:Value} {n:Nat} {xs:List Value} (h:w.ownsRow b e size v n xs) (hb:b'≤b):w.ownsRow b' e size v n xs:=by
 obtain⟨h1,h2⟩:=h;refine⟨h1,?_⟩;rcases h2 with h2 | ⟨g,cap,cur,hv,hg,r⟩
 ·exact .inl h2
 ·exact .inr ⟨g,cap,cur,hv,by omega,r⟩
theorem own_any (W H:Int) (x:Option Addr) (n cap:Nat) (px:Nat→P4) (w:World) (hx:Pxs w x n px) (h0:x=none→cap=0) (hn:n≤10000000):
  Calls Tryz.prog 9 #[.agg #[.int .i64 W,.int .i64 H,.slice x n cap]] w fun e w'=>(∃v,e=.returned (.agg #[.int .i64 W,.int .i64 H,v])∧w'.ownsRow w.heap.size 53 4 v n (pxV n px))∧Ext w w':=by
 obtain⟨i0,hi0,hz0,hz1,hz2⟩:=info_parts pixinfo;have HX:=Hd hx;clear hx;cases x with
 | none=>
  obtain rfl:=HX.out.1 rfl;obtain rfl:=h0 rfl;go_enter Tryz.func9,Tryz.ntmps9
  go_wp2_with (at_builtin;refine wpList_append_own_none rfl _ _ 22 rfl 0 53 i0 4 Tryz.underlying22 hi0 (.slice none 0 0) 0 [] rfl (World.ownsRow_nil _ _ _ _) rfl ?_);exact bodyPost_ret (v:=.agg #[.int .i64 W,.int .i64 H,.slice none 0 0]) (by simp[results,Tryz.results9,go_sem]) rfl ⟨⟨_,rfl,World.ownsRow_nil _ _ _ _⟩,(((Ext.refl _).alloc _).alloc _).alloc _⟩
 | some a=>
  have HA:=Hd HX.out.cells;have HXA:Hid (Pxs (((w.alloc (.cells #[.int .i64 W,.int .i64 H,.slice (some a) n cap] 24)).alloc (.cells #[.int .i64 0,.int .i64 0,.slice none 0 0] 24)).alloc (.cells #[.int .i64 W,.int .i64 H,.slice none 0 0] 24)) (some a) n px):=Hd (HX.out.ext ((((Ext.refl _).alloc _).alloc _).alloc _));go_enter Tryz.func9,Tryz.ntmps9
  go_wp2_with (at_builtin;refine wpList_append_own_at _ rfl _ _ 22 rfl (w.heap.size+3) 53 i0 _ 4 4 Tryz.underlying22 hi0 hz0 hz1 hz2 rfl (by decide) (.slice none 0 0) 0 [] rfl (World.ownsRow_nil _ _ _ _) a n cap (pxV n px) rfl (pxV_length _ _) HXA.out.cells (cells_one _ _) ?c3 ?c4 ?c5 ?_)
  case c3=>unfold maxLen;omega
  case c4=>omega
  case c5=>simp
  intro v' w1 hown hgrow _ _;have P:=three_pics ((Keeps.grown hgrow).below (Nat.le_refl _) (fun k _ q=>by cases q));obtain⟨x',c',rfl⟩:=own_slice hown;have hb:(Value.slice x' n c').ownBlock≠some (w.heap.size+1)∧(Value.slice x' n c').ownBlock≠some (w.heap.size+1+1):=⟨fun e=>by have:=(hown.lt _ e).1;omega,fun e=>by have:=(hown.lt _ e).1;omega⟩;have hown1:(w1.setCell ⟨w.heap.size+1+1,2,none⟩ (.slice x' n c')).ownsRow (w.heap.size+3) 53 4 (.slice x' n c') n (pxV n px):=ownsRow_setCell_other hown hb.2 _;have e2:∀j,(⟨w.heap.size+1+1,2,none⟩:Addr)≠⟨w.heap.size+1,j,none⟩:=fun j e=>by injection e with e;omega
  have HP:=Hd P;have HO:=Hd hown1;have HB:=Hd hb;have e3:∀j,j≠2→(⟨w.heap.size+1+1,2,none⟩:Addr)≠⟨w.heap.size+1+1,j,none⟩:=fun j hj e=>by injection e with _ e;exact hj e.symm
  have c0:(w1.setCell ⟨w.heap.size+1+1,2,none⟩ (.slice x' n c')).cell? ⟨w.heap.size+1+1,0,none⟩=some (.int .i64 W):=(World.cell?_setCell_other _ _ _ _ (e3 0 (by decide))).trans P.2.1.c0;have c1:(w1.setCell ⟨w.heap.size+1+1,2,none⟩ (.slice x' n c')).cell? ⟨w.heap.size+1+1,1,none⟩=some (.int .i64 H):=(World.cell?_setCell_other _ _ _ _ (e3 1 (by decide))).trans P.2.1.c1;have d2:=P.2.1.c2;have g2:=P.2.2.2.1 2;have hq:PicAt (w1.setCell ⟨w.heap.size+1+1,2,none⟩ (.slice x' n c')) (w.heap.size+1) 0 0 (.slice none 0 0):=⟨(World.cell?_setCell_other _ _ _ _ (e2 0)).trans P.1.c0,(World.cell?_setCell_other _ _ _ _ (e2 1)).trans P.1.c1,(World.cell?_setCell_other _ _ _ _ (e2 2)).trans P.1.c2⟩;have q0:=hq.c0;have q1:=hq.c1;have q2:=hq.c2;have r0:=P.2.2.1 0;have r1:=P.2.2.1 1;have r2:=P.2.2.1 2;have HQ:=Hd hq;clear hq;clear P hown hgrow hb hown1 e2 e3;go_wp2_with fail;have P:=HQ.out.set (W':=W) (H':=H) (v':=.slice x' n c');have k0:=P.c0;have k1:=P.c1;have k2:=P.c2;have own:=ownsRow_set3 HO.out HB.out.1 (.int .i64 W) (.int .i64 H) (.slice x' n c');have hX:=(Ext.set3 (b:=w.heap.size+1) (Below.setCell (p:=⟨w.heap.size+1+1,2,none⟩) HP.out.2.2.2.2 (show w.heap.size≤w.heap.size+1+1 by omega) (.slice x' n c')) (by omega) (.int .i64 W) (.int .i64 H) (.slice x' n c'));exact bodyPost_ret (v:=.agg #[.int .i64 W,.int .i64 H,.slice x' n c']) (by simp[results,Tryz.results9,go_sem,k0,k1,k2]) rfl ⟨⟨_,rfl,owns_based own (by omega)⟩,hX⟩
theorem same_yes (W H:Int) (x y:Option Addr) (n cap cap':Nat) (px:Nat→P4) (w:World) (hx:Pxs w x n px) (hy:Pxs w y n px) (hn:n≤10000000):
  Calls Tryz.prog 11 #[.agg #[.int .i64 W,.int .i64 H,.slice x n cap],.agg #[.int .i64 W,.int .i64 H,.slice y n cap']] w fun e w'=>e=.returned (.bool true)∧Ext w w':=by
 have hE:Ext w ((w.alloc (.cells #[.int .i64 W,.int .i64 H,.slice x n cap] 24)).alloc (.cells #[.int .i64 W,.int .i64 H,.slice y n cap'] 24)):=((Ext.refl _).alloc _).alloc _;have HX:=Hd (hx.ext hE);have HY:=Hd (hy.ext hE);have HE:=Hd hE;have P1:=Hd ((PicAt.new w W H (.slice x n cap) 24).ext ((Ext.refl _).alloc (.cells #[.int .i64 W,.int .i64 H,.slice y n cap'] 24)));have P2:Hid (PicAt ((w.alloc (.cells #[.int .i64 W,.int .i64 H,.slice x n cap] 24)).alloc (.cells #[.int .i64 W,.int .i64 H,.slice y n cap'] 24)) (w.heap.size+1) W H (.slice y n cap')):=Hd (by
  have:=PicAt.new (w.alloc (.cells #[.int .i64 W,.int .i64 H,.slice x n cap] 24)) W H (.slice y n cap') 24;rwa [World.size_alloc] at this)
 have t1:(W !=W)=false:=by simp
 have t2:(H !=H)=false:=by simp
 have t3:((n:Int) !=(n:Int))=false:=by simp
 clear hx hy hE;go_enter Tryz.func11,Tryz.ntmps11
 go_wp2_with fail;clear t1 t2 t3;generalize ((w.alloc (.cells #[.int .i64 W,.int .i64 H,.slice x n cap] 24)).alloc (.cells #[.int .i64 W,.int .i64 H,.slice y n cap'] 24))=w2 at *;go_loopw [5] (fun c wr=>∃(i m:Nat),i≤n∧c=.int .i64 i∧wr=w2.drewN m) (fun c _=>n-(intOf c).toNat)
 case atStart=>exact⟨0,0,by omega,rfl,rfl⟩
 case round=>
  obtain⟨i,m,hi,rfl,rfl⟩:=hrel;have p2:=P1.out.c2;have r2:=P2.out.c2;by_cases hlt:i<n
  ·obtain⟨a,rfl⟩:=HX.out.isSome hlt;obtain⟨b,rfl⟩:=HY.out.isSome hlt;obtain⟨a0,a1,a2,a3,_⟩:=HX.out.2 a rfl i hlt;obtain⟨b0,b1,b2,b3,_⟩:=HY.out.2 b rfl i hlt;go_wp2_with fail;go_quiet (fail)
   go_wp2_with fail;go_roundw
   case rel=>exact⟨i+1,_,by omega,by go_num,rfl⟩
   case measure=>simp[intOf];omega
  ·obtain rfl:i=n:=by omega
   go_wp2_with fail;go_ret;exact⟨rfl,Ext.drewN HE.out _⟩
end Go.Proofs.YthlibiocadimhaaGreatDoor
namespace Go.Proofs.YthlibiocadimhaaGreatDoor
end Go.Proofs.YthlibiocadimhaaGreatDoor
