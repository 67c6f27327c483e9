/-
  png.Read.
  append(s, make([]T, k)...) onto a slice that the call owns. No function of the program is named.
  Rows of packed numbers as they grow in memory; a map of pixels that is read. No function of the program is named.
-/
import Derived.Test.YthlibiocadimhaaGreatDoorPngTwiceG1
import Derived.Test.YthlibiocadimhaaGreatDoorPngTwiceG26
import Derived.Test.YthlibiocadimhaaGreatDoorPngTwiceG27
import Derived.Maps.AppendAt
import Derived.Lib.AppendZerosOnto
import Derived.Test.YthlibiocadimhaaGreatDoorPngTwiceG3
import Derived.Test.YthlibiocadimhaaGreatDoorPngTwiceG25
set_option linter.unusedSimpArgs false
set_option linter.unusedVariables false
set_option maxRecDepth 100000
namespace Go.Proofs.YthlibiocadimhaaGreatDoor
open Go.RowKit
theorem MI.same {w w':World} {b:Nat} {g:Int→Option Nat} (h:MI w b g) (hm:∀(k:Nat) es c,w.heap[k]? =some (Obj.map es c)→w'.heap[k]? =some (Obj.map es c)):MI w' b g:=by
 obtain⟨es,c,hb,r⟩:=h;exact⟨es,c,hm _ _ _ hb,r⟩
theorem Ext.trans_below {a b c:World} {B:Nat} (h:Ext a b) (hB:a.heap.size=B) (k:Below B b c):Ext a c:=by subst hB;exact Below.trans h k
/-- what stays while a file is read: the result's variable, the chunks, errors, tables; the reader -/
structure RdS (w wr:World) (E:Nat→Addr) (x:Option Addr) (L:List Ck) (B:Nat) (r:Rd):Prop where
 X:Ext w wr
 Q:Bk wr w.heap.size #[.int .i64 0,.int .i64 0,.slice none 0 0]
 C:Cks wr x L
 E:Errs wr E
 T:Tabs wr
 R:RdAt B B r wr
 lt:w.heap.size<B
theorem RdS.ext {w wr wz:World} {E:Nat→Addr} {x:Option Addr} {L:List Ck} {B:Nat} {r:Rd} (h:RdS w wr E x L B r) (hE:Ext wr wz):RdS w wz E x L B r:=
 ⟨h.X.trans hE,h.Q.ext hE,h.C.ext hE,h.E.ext hE,h.T.ext hE,h.R.ext hE,h.lt⟩
structure RdQ (w wr:World) (E:Nat→Addr):Prop where
 X:Ext w wr
 Q:Bk wr w.heap.size #[.int .i64 0,.int .i64 0,.slice none 0 0]
 E:Errs wr E
theorem RdQ.ext {w wr wz:World} {E:Nat→Addr} (h:RdQ w wr E) (hE:Ext wr wz):RdQ w wz E:=⟨h.X.trans hE,h.Q.ext hE,h.E.ext hE⟩
theorem RdS.q {w wr:World} {E:Nat→Addr} {x:Option Addr} {L:List Ck} {B:Nat} {r:Rd} (h:RdS w wr E x L B r):RdQ w wr E:=⟨h.X,h.Q,h.E⟩
theorem Errs.ctop {w:World} {E:Nat→Addr} (h:Errs w E):ErrC w E:=h.c
def UpV (E:Nat→Addr) (r:Except Nat ByteArray) (t:ByteArray) (v:Value):Prop:=
 match r with
 | .ok u=>t=u∧v=.nilIface
 | .error c=>t=⟨#[]⟩∧v=sentV (E c)
theorem up_lit {w w':World} {E:Nat→Addr} {r:Except Nat ByteArray} {e:Ending} (h:UpPost w w' E r e):Ext w w'∧∃t v,e=.returned (.tuple #[.string t,v])∧UpV E r t v:=by
 obtain⟨h1,h2⟩:=h;cases r with
 | ok u=>exact⟨h1,u,.nilIface,h2,rfl,rfl⟩
 | error c=>exact⟨h1,⟨#[]⟩,sentV (E c),h2,rfl,rfl⟩
theorem last_is {h c:Ck} {L:List Ck} {n:Nat} (hn:(h ::L).length=n) (hc:(h ::L)[n-1]? =some c):Png.lastOk L↔(1<n∧c.k=Png.iend∧c.d=⟨#[]⟩):=by
 unfold Png.lastOk;cases L with
 | nil=>
  have:n=1:=by rw[← hn];rfl
  constructor
  ·rintro⟨h1,_⟩;exact absurd rfl h1
  ·rintro⟨h1,_⟩;omega
 | cons b M=>
  have hl:n-1=(b ::M).length:=by rw[← hn];rfl
  have h2:1<n:=by rw[← hn];simp
  rw[hl] at hc;have h3:(h ::b ::M)[(b ::M).length]? =(b ::M).getLast?:=by
   rw[List.getLast?_eq_getElem?];rfl
  rw[h3] at hc;rw[hc];constructor
  ·rintro⟨_,e⟩;simp only[Option.map_some,Option.some.injEq,Prod.mk.injEq] at e;exact⟨h2,e.1,e.2⟩
  ·rintro⟨_,e1,e2⟩;exact⟨by simp,by simp[e1,e2]⟩
theorem mid_get {h:Ck} {L:List Ck} {i:Nat} (h1:1≤i) (hi:i-1<L.dropLast.length):(h ::L)[i]? =some L.dropLast[i-1]:=by
 obtain⟨j,rfl⟩:∃j,i=j+1:=⟨i-1,by omega⟩;have hj:j<L.dropLast.length:=hi;have hj2:j<L.length:=by rw[List.length_dropLast] at hj;omega
 show L[j]? =_;rw[List.getElem?_eq_getElem hj2];congr 1
 exact (List.getElem_dropLast hj).symm
/-- the reader has turned: all that lay below it is as it was -/
theorem RdS.turn {w w0 wr wz:World} {E:Nat→Addr} {x:Option Addr} {L:List Ck} {B:Nat} {r r':Rd} (hB:w0.heap.size=B) (hX:Ext w w0) (hQ:Bk w0 w.heap.size #[.int .i64 0,.int .i64 0,.slice none 0 0]) (hC:Cks w0 x L) (hE:Errs w0 E) (hT:Tabs w0) (h:RdS w wr E x L B r) (hl:Below B w0 wz) (hR:RdAt B B r' wz):RdS w wz E x L B r':=by
 subst hB;exact⟨hX.trans hl,hQ.ext hl,hC.ext hl,hE.ext hl,hT.ext hl,hR,h.lt⟩
set_option maxHeartbeats 40000000 in
theorem pread_any (s:ByteArray) (w:World) (E:Nat→Addr) (hE:Errs w E) (hT:Tabs w) (hs:s.size≤300000):
  Calls Tryz.prog 10 #[.string s] w fun e w'=>RePost w w' E (Png.picR s) e:=by
 obtain⟨res,hres⟩:∃r,Png.picR s=r:=⟨_,rfl⟩;rw[hres];unfold Png.picR at hres;have HS:=Hd hs;have HGN:Hid (∀i,(⟨w.heap.size,i,none⟩:Addr)≠⟨1,0,none⟩):=Hd (fun i e=>by have h:=World.block_lt_of_cell? w _ (hE.var 0 (by decide));injection e with e _;have h2:(1 :Nat)<w.heap.size:=h;omega);go_enter Tryz.func10,Tryz.ntmps10
 go_upto_region 1 with fail;refine wp_world (fun wz=>Ext w wz∧Bk wz w.heap.size #[.int .i64 0,.int .i64 0,.slice none 0 0]∧wz.heap.size=w.heap.size+1) ⟨(Ext.refl w).alloc _,Bk.at rfl,World.size_alloc _ _⟩ ?_;rintro v0 ⟨hX,hQ,hz⟩;have X0:=Hd hX;have Q0:=Hd hQ;have Z0:=Hd hz;have E0:=Hd (hE.ext hX);have T0:=Hd (hT.ext hX);clear hX hQ hz hE hT;have HRD:=Hd (read_any s v0 E E0.out.c hs);go_wp2_with fail;refine HRD.out.mono ?_;rintro e v1 ⟨hX,hr⟩;have X1:=Hd (X0.out.trans hX);have Q1:=Hd (Q0.out.ext hX);have E1:=Hd (E0.out.ext hX);have T1:=Hd (T0.out.ext hX);have Z1:=Hd (show w.heap.size<v1.heap.size from by have:=hX.size;have:=Z0.out;omega);clear hX HRD X0 Q0 E0 T0 Z0;rcases hr with⟨L0,x,c,hrl,rfl,hC⟩ | ⟨ce,ie,F,hce,hie,hrl,rfl,hF⟩
 ·rw[hrl] at hres;(try simp only at hres);obtain⟨hok,hsum,hlen⟩:=Png.read_facts HS.out hrl;have HOK:=Hd hok;have HSUM:=Hd hsum;clear hok hrl hsum;go_upto_region 5 with fail;refine wp_world (fun wz=>RdS w wz E x L0 v1.heap.size (Png.rd0 0 0 0 0)∧Ext v1 wz) ⟨⟨X1.out.alloc _,Q1.out.ext ((Ext.refl _).alloc _),hC.ext ((Ext.refl _).alloc _),E1.out.ext ((Ext.refl _).alloc _),T1.out.ext ((Ext.refl _).alloc _),RdAt.start v1,Z1.out⟩,(Ext.refl _).alloc _⟩ ?_;rintro v2 ⟨hS,hO⟩;have C1:=Hd hC;have O2:=Hd hO;clear hC hO;obtain⟨B,hB⟩:∃B,v1.heap.size=B:=⟨_,rfl⟩;rw[hB] at hS⊢;have S2:=Hd hS;have HB:=Hd hB;clear hS hB;cases L0 with
  | nil=>
   have SQ:=Hd S2.out.q;(try simp only at hres);(try subst hres);go_upto_region 6 with fail;have S_0:=SQ;refine wp_region_held_drew (S:=fun w'=>w'.cell? ⟨1,0,none⟩=some (.iface 275 (.pointer (some (E 0))))) (by kernel_rfl) ((err_cells S_0.out.E (Ext.refl _)).1) (fun hHeld=>?_);clear hHeld;refine anyH_world (fun wz=>Ext v2 wz) (show Ext v2 v2.drew from Below.drew (Ext.refl v2)) ?_;rintro t1 h;have S_1:=Hd (S_0.out.ext h);clear h S_0;have hHeld:t1.cell? ⟨1,0,none⟩=some (.iface 275 (.pointer (some (E 0)))):=((err_cells S_1.out.E (Ext.refl _)).1);refine tkH 0 rfl hHeld ?_;(try simp only[Act.put,xz]);refine tkH 1 rfl hHeld ?_;(try simp only[Act.put,xz]);refine rdH 2 rfl fun KK hK=>?_;clear hHeld;have hX:=S_1.out.X;have hQ:=S_1.out.Q;have FIN:=Hd (And.intro (hQ.pic.set (W':=0) (H':=0) (v':=.slice none 0 0)) (hX.set3 (Nat.le_refl _) (.int .i64 0) (.int .i64 0) (.slice none 0 0)));have HEG:Hid ((((t1.setCell ⟨w.heap.size,0,none⟩ (.int .i64 0)).setCell ⟨w.heap.size,1,none⟩ (.int .i64 0)).setCell ⟨w.heap.size,2,none⟩ (.slice none 0 0)).cell? ⟨1,0,none⟩=some (.iface 275 (.pointer (some (E 0))))):=Hd (by rw[World.cell?_setCell_other _ _ _ _ (HGN.out 2),World.cell?_setCell_other _ _ _ _ (HGN.out 1),World.cell?_setCell_other _ _ _ _ (HGN.out 0)];exact (err_cells S_1.out.E (Ext.refl _)).1);have d0:=hQ.cell 0
   have f0:=hQ.frozen 0;have d1:=hQ.cell 1;have f1:=hQ.frozen 1;have d2:=hQ.cell 2;have f2:=hQ.frozen 2;clear hX hQ;go_simp;clear d0 d1 d2 f0 f1 f2;refine hK.out _ _ HEG.out (fun hHeld=>?_);clear hK KK hHeld;(try simp only[Act.put,xz]);refine anyH_world (fun wz=>(PicAt wz w.heap.size 0 0 (.slice none 0 0)∧Ext w wz)∧wz.cell? ⟨1,0,none⟩=some (.iface 275 (.pointer (some (E 0))))) ⟨FIN.out,HEG.out⟩ ?_;rintro t2 ⟨hF,hG⟩;clear FIN HEG S_1;have FIN:=Hd hF;have HG2:=Hd hG;clear hF hG;have hHeld:t2.cell? ⟨1,0,none⟩=some (.iface 275 (.pointer (some (E 0)))):=(HG2.out);refine tkH 3 rfl hHeld ?_;(try simp only[Act.put,xz]);refine wpAnyH_done (by kernel_rfl) ?_ _;clear hHeld;go_wp2_with fail;obtain⟨hPA,hXF⟩:=FIN.out;have k0:=hPA.c0;have k1:=hPA.c1;have k2:=hPA.c2;exact bodyPost_ret (v:=.tuple #[zeroPic,.iface 275 (.pointer (some (E 0)))]) (by simp[results,Tryz.results10,go_sem,k0,k1,k2,zeroPic]) rfl ⟨hXF,(by decide),rfl⟩
  | cons h L=>
   obtain⟨n,hn⟩:∃n,(h ::L).length=n:=⟨_,rfl⟩;have HN:=Hd hn;have hn1:1≤n:=by rw[← hn];simp
   have hnb:n≤300000:=by rw[← hn];exact hlen
   rw[hn];have t0:(((n:Nat):Int) ==0)=false:=int_ne (by omega);obtain⟨a,rfl⟩:=S2.out.C.isSome (i:=0) (by rw[hn];omega);obtain⟨c0,c1⟩:=S2.out.C.2 a rfl 0 h rfl;have c0:v2.cell? a=some (.string h.k):=c0;have c1:v2.cell? ⟨a.block,a.off+1,none⟩=some (.string h.d):=c1;clear hn hlen;have hi0:(0:Int)<(n:Int):=by omega
   have hi1:0<n:=by omega
   have hgB:∀c,c<4→gk c<B:=fun q hq=>by
    have h1:=World.block_lt_of_cell? v1 _ (E1.out.var q (by omega));have h2:gk q<v1.heap.size:=h1;rw[HB.out] at h2;exact h2
   have HGB:=Hd hgB;clear hgB;have HHD:=Hd (head_rd B B h.k h.d v2 E S2.out.E.ctop S2.out.R (HOK.out h (List.mem_cons_self ..)).1.k (HOK.out h (List.mem_cons_self ..)).1.d (Nat.le_of_lt S2.out.R.lt) HGB.out);go_wp2_with fail;refine HHD.out.mono ?_;rintro e v3 ⟨hBl,he⟩;clear HHD c0 c1 hi0 hi1 t0;have O3:Hid (Ext v1 v3):=Hd (O2.out.trans_below HB.out hBl);cases hh:Png.headR h with
   | bad ce=>
    have he:e=.returned (sentV (E ce)):=by
     rw[show (⟨h.k,h.d⟩:Ck)=h from rfl,hh] at he;exact he
    subst he;have hce:=Png.head_err hh;rw[hh] at hres;(try simp only at hres);subst hres;unfold sentV;have hQ:=Q1.out.ext O3.out;have hX:=X1.out.trans O3.out;have FIN:=Hd (And.intro (hQ.pic.set (W':=0) (H':=0) (v':=.slice none 0 0)) (hX.set3 (Nat.le_refl _) (.int .i64 0) (.int .i64 0) (.slice none 0 0)));have d0:=hQ.cell 0;have f0:=hQ.frozen 0;have d1:=hQ.cell 1;have f1:=hQ.frozen 1;have d2:=hQ.cell 2;have f2:=hQ.frozen 2;clear hQ hX;go_wp2_with fail;obtain⟨hPA,hXF⟩:=FIN.out;have k0:=hPA.c0;have k1:=hPA.c1;have k2:=hPA.c2;exact bodyPost_ret (v:=.tuple #[zeroPic,.iface 275 (.pointer (some (E ce)))]) (by simp[results,Tryz.results10,go_sem,k0,k1,k2,zeroPic]) rfl ⟨hXF,(by omega),rfl⟩
   | ok W H dep kd=>
    have he:e=.returned .nilIface∧RdAt B B (Png.rd0 W H dep kd) v3:=by
     rw[show (⟨h.k,h.d⟩:Ck)=h from rfl,hh] at he;exact he
    obtain⟨rfl,hRA⟩:=he;have HHO:=Hd (Png.head_ok hh);rw[hh] at hres;(try simp only at hres);have S3:=Hd (RdS.turn HB.out X1.out Q1.out C1.out E1.out T1.out S2.out (HB.out▸O3.out) hRA);clear S2 O2 hRA hh hBl;obtain⟨r0,hr0⟩:∃r,Png.rd0 W H dep kd=r:=⟨_,rfl⟩;have HR0:=Hd hr0;rw[hr0] at S3 hres;clear hr0;obtain⟨m,hm⟩:∃m,n-1=m:=⟨_,rfl⟩;have hmi:(n:Int)-1=(m:Int):=by omega
    have hmn:m<(h ::L).length:=by rw[HN.out];omega
    obtain⟨lc,hlc⟩:∃c,(h ::L)[m]? =some c:=⟨_,List.getElem?_eq_getElem hmn⟩;obtain⟨c0,c1⟩:=S3.out.C.2 a rfl m lc hlc;have HLC:=Hd hlc;have HMM:=Hd hm;obtain⟨wa,wb⟩:=pwq (x:=(m:Int)) ⟨by omega,by omega⟩;have i0:(0:Int)≤(m:Int):=by omega
    have i1:(m:Int)<(n:Int):=by omega
    clear hlc hm hmn;go_upto_region 11 with fail;refine wp_world (fun wz=>RdS w wz E (some a) (h ::L) B r0∧Ext v1 wz∧Bk wz v3.heap.size #[.string lc.k,.string lc.d]) ?hw ?_
    case hw=>exact⟨S3.out.ext ((Ext.refl _).alloc _),O3.out.trans ((Ext.refl _).alloc _),Bk.at rfl⟩
    rintro v4 ⟨hS,hO,hB⟩;obtain⟨T8,hT8⟩:∃q,v3.heap.size=q:=⟨_,rfl⟩;rw[hT8] at hB⊢;have S4:=Hd hS;have O4:=Hd hO;have B8:=Hd hB;clear hS hO hB hT8 S3 O3 c0 c1 wa wb i0 i1 hmi;obtain⟨ok0,hok0⟩:∃b:Bool,decide (1<n∧lc.k=Png.iend∧lc.d=⟨#[]⟩)=b:=⟨_,rfl⟩;have HO0:=Hd hok0;have y0:=B8.out.cell 0;have y1:=B8.out.cell 1;go_cut [9] (fun s9 wx=>s9=.bool ok0∧wx=v4)
    case first=>
     by_cases q1:1<n
     ·have t1:decide ((1:Int)<(n:Int))=true:=decide_eq_true (by omega);by_cases q2:lc.k=Png.iend
      ·have t2:=pkyes q2;by_cases q3:lc.d=⟨#[]⟩
       ·have t3:(lc.d.toList ==[])=true:=pkyes q3;have t4:lc.d.toList.isEmpty=true:=empty_yes _ (by rw[q3];rfl);have hv:ok0=true:=by rw[← hok0];exact decide_eq_true ⟨q1,q2,q3⟩
        have HV:=Hd hv;clear hv hok0 q2 q3;go_wp2_with fail;go_meet
        exact⟨by rw[HV.out],rfl⟩
       ·have t3:(lc.d.toList ==[])=false:=pkno q3;have t4:lc.d.toList.isEmpty=false:=empty_no _ (fun e=>q3 (bext (List.eq_nil_of_length_eq_zero e)));have hv:ok0=false:=by rw[← hok0];exact decide_eq_false (fun q=>q3 q.2.2)
        have HV:=Hd hv;clear hv hok0 q2 q3;go_wp2_with fail;go_meet
        exact⟨by rw[HV.out],rfl⟩
      ·have t2:=pkno q2;have hv:ok0=false:=by rw[← hok0];exact decide_eq_false (fun q=>q2 q.2.1)
       have HV:=Hd hv;clear hv hok0 q2;go_wp2_with fail;go_meet
       exact⟨by rw[HV.out],rfl⟩
     ·have t1:decide ((1:Int)<(n:Int))=false:=decide_eq_false (by omega);have hv:ok0=false:=by rw[← hok0];exact decide_eq_false (fun q=>q1 q.1)
      have HV:=Hd hv;clear hv hok0;go_wp2_with fail;go_meet
      exact⟨by rw[HV.out],rfl⟩
    case rest=>
     obtain⟨rfl,rfl⟩:=hcut;clear hok0 y0 y1 B8;have HLO:Hid (ok0=true↔Png.lastOk L):=Hd (by rw[← HO0.out,decide_eq_true_iff];exact (last_is HN.out (by rw[HMM.out];exact HLC.out)).symm);clear HO0 HLC HMM;obtain⟨ms,hms⟩:∃ms,L.dropLast=ms:=⟨_,rfl⟩;have HMS:=Hd hms;have hml:ms.length=n-2:=by rw[← hms,List.length_dropLast,← HN.out,List.length_cons];omega
     clear hms;have HMO:Hid (∀c∈ms,c.Ok∧kindB c.k.data.toList=true):=Hd (fun q hq=>HOK.out q (List.mem_cons_of_mem _ (by rw[← HMS.out] at hq;exact List.dropLast_subset _ hq)));have HMU:Hid (Png.sumC ms≤300000):=Hd (by have h1:=Png.sum_drop L;rw[HMS.out] at h1;have h2:=HSUM.out;have h3:Png.sumC (h ::L)=12+h.d.size+Png.sumC L:=rfl;omega);have HD0:Hid (r0.data.length=0∧r0.colors.size≤300000∧r0.alphas.size≤300000∧r0.colors.size%3=0∧(r0.kind=3→Png.IsDep r0.depth)):=Hd (by
      rw[← HR0.out];refine⟨rfl,by show (0:Nat)≤_;omega,by show (0:Nat)≤_;omega,rfl,fun _=>?_⟩;show Png.IsDep dep;rcases HHO.out.2.2.2.2.2 with q | ⟨_,q | q | q⟩
      ·exact .inr (.inr (.inr q))
      ·exact .inl q
      ·exact .inr (.inl q)
      ·exact .inr (.inr (.inl q)))
     go_wp2_with fail;go_loopw [9,10] (fun okv iv wr=>∃i:Nat,iv=.int .i64 (i:Int)∧1≤i∧i≤ms.length+1∧okv=.bool (ok0&&Png.runB r0 (ms.take (i-1)))∧Hid (RdS w wr E (some a) (h ::L) B (Png.runR r0 (ms.take (i-1))))∧Hid (Ext v1 wr)) (fun _ iv _=>n-(intOf iv).toNat)
     case atStart=>exact⟨1,rfl,by omega,by omega,by simp[Png.runB],S4,O4⟩
     case round=>
      clear S4 O4;obtain⟨i,rfl,hi1,hi2,rfl,SI,OI⟩:=hrel;obtain⟨okk,hokk⟩:∃b:Bool,(ok0&&Png.runB r0 (ms.take (i-1)))=b:=⟨_,rfl⟩;have HKK:=Hd hokk;rw[hokk];clear hokk;obtain⟨rr,hrr⟩:∃r,Png.runR r0 (ms.take (i-1))=r:=⟨_,rfl⟩;have HRR:=Hd hrr;rw[hrr] at SI;clear hrr;have hi3:(i:Int)+1=((i+1:Nat):Int):=by omega
      obtain⟨ip,hip⟩:∃q:Nat,i+1=q:=⟨_,rfl⟩;rw[hip] at hi3;obtain⟨wa,wb⟩:=pwq (x:=(ip:Int)) ⟨by omega,by omega⟩;by_cases hlt:ip<n
      ·have t1:decide ((ip:Int)<(n:Int))=true:=decide_eq_true (by omega);have hms:i-1<ms.length:=by omega
       obtain⟨ck,hck⟩:∃c,ms[i-1]=c:=⟨_,rfl⟩;have hci:(h ::L)[i]? =some ck:=by
        have hq:i-1<L.dropLast.length:=by rw[HMS.out];exact hms
        rw[mid_get hi1 hq,← hck];congr 1
        exact getElem_congr_coll HMS.out
       obtain⟨c0,c1⟩:=SI.out.C.2 a rfl i ck hci;have hmem:ck∈ms:=by rw[← hck];exact List.getElem_mem hms
       have htk:ms.take (i-1+1)=ms.take (i-1) ++ [ck]:=by rw[List.take_add_one,List.getElem?_eq_getElem hms,hck];rfl
       have HSM:Hid (rr.kind=r0.kind∧rr.depth=r0.depth):=Hd (by rw[← HRR.out];have q:=Png.runR_same r0 (ms.take (i-1));exact⟨q.2.2.2,q.2.2.1⟩);have HLN:Hid (rr.data.length≤300000):=Hd (by rw[← HRR.out];have q:=Png.run_len r0 (ms.take (i-1));have q2:=Png.sum_take ms (i-1);have q3:=HMU.out;have q4:=HD0.out.1;omega);have HCL:Hid (rr.colors.size≤300000):=Hd (by rw[← HRR.out];exact (Png.run_col r0 _ ⟨HD0.out.2.1,HD0.out.2.2.1⟩ (fun q hq=>(HMO.out q (List.mem_of_mem_take hq)).1)).1);have HON:=Hd (one_any B B rr ck.k ck.d wr SI.out.R (by have q:=(HMO.out ck hmem).2;unfold kindB at q;simp at q;exact q.1) (Nat.le_of_lt SI.out.R.lt) (HMO.out ck hmem).1.d (by have q:=(HMO.out ck hmem).1.d;have q2:=HLN.out;omega) (by rw[HSM.out.1,HSM.out.2];exact HD0.out.2.2.2.2) HCL.out);have HTK:=Hd htk;have i0:(0:Int)≤(i:Int):=by omega
       have i1:(i:Int)<(n:Int):=by omega
       clear htk hmem hci hck HSM HLN HCL;go_wp2_with fail;refine HON.out.mono ?_;rintro e w7 ⟨rfl,hR,hBl⟩;clear c0 c1 HON;have O7:Hid (Ext v1 w7):=Hd (OI.out.trans_below HB.out hBl);have S7:=Hd (RdS.turn HB.out X1.out Q1.out C1.out E1.out T1.out SI.out (HB.out▸O7.out) hR);clear hR hBl;obtain⟨ob,hob⟩:∃b:Bool,Png.onB rr ⟨ck.k,ck.d⟩=b:=⟨_,rfl⟩;have HOB:=Hd hob;rw[hob];clear hob;have HNX:Hid ((ok0&&Png.runB r0 (ms.take (ip-1)))=(okk&&ob)∧Png.runR r0 (ms.take (ip-1))=Png.onR rr ⟨ck.k,ck.d⟩):=Hd (by
        rw[show ip-1=i-1+1 by omega,HTK.out,Png.runB_snoc,Png.runR_snoc,HRR.out,← Bool.and_assoc,HKK.out];exact⟨by rw[← HOB.out],rfl⟩)
       clear HTK HKK HRR;cases okk
       ·go_wp2_with fail;go_roundw
        case rel=>exact⟨ip,by first | rfl | go_num,by omega,by omega,by rw[HNX.out.1];first | rfl | simp,by rw[HNX.out.2];exact S7,O7⟩
        case measure=>simp[intOf];omega
       ·go_wp2_with fail;go_roundw
        case rel=>exact⟨ip,by first | rfl | go_num,by omega,by omega,by rw[HNX.out.1];first | rfl | simp,by rw[HNX.out.2];exact S7,O7⟩
        case measure=>simp[intOf];omega
      ·have t1:decide ((ip:Int)<(n:Int))=false:=decide_eq_false (by omega);have hie:i-1=ms.length:=by omega
       rw[hie,List.take_length] at HKK HRR;have HSM:Hid (rr.wide=r0.wide∧rr.high=r0.high∧rr.depth=r0.depth∧rr.kind=r0.kind):=Hd (by rw[← HRR.out];exact Png.runR_same r0 ms);have HLN:Hid (rr.data.length≤300000):=Hd (by rw[← HRR.out];have q:=Png.run_len r0 ms;have q3:=HMU.out;have q4:=HD0.out.1;omega);have HCL:Hid (rr.colors.size≤300000∧rr.alphas.size≤300000):=Hd (by rw[← HRR.out];exact Png.run_col r0 _ ⟨HD0.out.2.1,HD0.out.2.2.1⟩ (fun q hq=>(HMO.out q hq).1));have HRL:Hid (Png.runR r0 L.dropLast=rr):=Hd (by rw[HMS.out];exact HRR.out);have HBL:Hid ((okk=true)↔(Png.lastOk L∧Png.runB r0 L.dropLast=true)):=Hd (by rw[HMS.out,← HKK.out,Bool.and_eq_true,HLO.out]);have HTH:Hid (okk=true→rr.colors.size%3=0):=Hd (fun q=>by rw[← HRR.out];refine Png.run_three r0 ms HD0.out.2.2.2.1 ?_;have:=(HBL.out.1 q).2;rw[HMS.out] at this;exact this);clear HKK HRR hie;obtain⟨bb,hbb⟩:∃b:Bool,(!okk || decide (rr.st=0∨(rr.kind=3∧rr.hc=false)))=b:=⟨_,rfl⟩;have HBB:=Hd hbb;go_upto_region 17 with fail;clear hi3 wa wb hlt t1;obtain⟨_,_,_,f3,_,_,f6,_,f10⟩:=SI.out.R.flds;go_cut [98] (fun s98 wx=>s98=.bool bb∧wx=wr)
       case first=>
        cases okk
        ·have hv:bb=true:=by rw[← hbb];rfl
         have HV:=Hd hv;clear hv hbb;go_wp2_with fail;go_meet
         exact⟨by rw[HV.out],rfl⟩
        ·by_cases s0:rr.st=0
         ·have t2:(((rr.st:Nat):Int) ==0)=true:=int_eq (by omega);have hv:bb=true:=by rw[← hbb];simp[s0]
          have HV:=Hd hv;clear hv hbb;go_wp2_with fail;go_meet
          exact⟨by rw[HV.out],rfl⟩
         ·have t2:(((rr.st:Nat):Int) ==0)=false:=int_ne (by omega);by_cases s3:rr.kind=3
          ·have t3:(((rr.kind:Nat):Int) ==3)=true:=int_eq (by omega);cases hhc:rr.hc
           ·have hv:bb=true:=by rw[← hbb];simp[s0,s3,hhc]
            rw[hhc] at f6;have HV:=Hd hv;clear hv hbb hhc s3 s0;go_wp2_with fail;go_meet
            exact⟨by rw[HV.out],rfl⟩
           ·have hv:bb=false:=by rw[← hbb];simp[s0,s3,hhc]
            rw[hhc] at f6;have HV:=Hd hv;clear hv hbb hhc s3 s0;go_wp2_with fail;go_meet
            exact⟨by rw[HV.out],rfl⟩
          ·have t3:(((rr.kind:Nat):Int) ==3)=false:=int_ne (by omega);have hv:bb=false:=by rw[← hbb];simp[s0,s3]
           have HV:=Hd hv;clear hv hbb s3 s0;go_wp2_with fail;go_meet
           exact⟨by rw[HV.out],rfl⟩
       case rest=>
        obtain⟨rfl,rfl⟩:=hcut;clear hbb f3 f6 f10;have SQ:=Hd SI.out.q;cases bb
        ·have hk0:okk=true:=by have q:=HBB.out;cases okk;cases q;rfl
         have hn0:¬ (rr.st=0∨(rr.kind=3∧rr.hc=false)):=by have q:=HBB.out;rw[hk0] at q;simpa using q
         have hgo:=Png.body_go (HBL.out.1 hk0) HRL.out hn0;rw[hgo] at hres;clear hgo hn0;have H3:=HTH.out hk0;clear HBB HBL HTH hk0;rename World=>wF;have HKF:Hid (1≤rr.wide∧rr.wide≤256∧1≤rr.high∧rr.high≤256∧Png.byN rr.kind≠0∧Png.depOk rr.kind rr.depth):=Hd (by
          obtain⟨q1,q2,q3,q4⟩:=HSM.out;rw[q1,q2,q3,q4,← HR0.out];exact HHO.out)
         obtain⟨by_,hby⟩:∃q,Png.byN rr.kind=q:=⟨_,rfl⟩;obtain⟨wd,hwd⟩:∃q,Png.rowN rr=q:=⟨_,rfl⟩;have HBY:=Hd hby
         have HWD:=Hd hwd;rw[hby,hwd] at hres;have hb4:by_≤4∧1≤by_:=by rw[← hby];exact⟨Png.byN_le _,by have:=HKF.out.2.2.2.2.1;omega⟩
         have hd8:rr.depth≤8∧1≤rr.depth:=by rcases HKF.out.2.2.2.2.2 with h | ⟨_,h | h | h⟩ <;> omega
         have hw1:1≤rr.wide∧rr.wide≤256:=⟨HKF.out.1,HKF.out.2.1⟩;obtain⟨p1,hp1⟩:∃q:Nat,rr.wide*by_=q:=⟨_,rfl⟩;obtain⟨p2,hp2⟩:∃q:Nat,p1*rr.depth=q:=⟨_,rfl⟩;have hp1b:1≤p1∧p1≤1024:=by rw[← hp1];exact⟨Nat.mul_le_mul hw1.1 hb4.2,Nat.mul_le_mul hw1.2 hb4.1⟩
         have hp2b:1≤p2∧p2≤8192:=by rw[← hp2];exact⟨Nat.mul_le_mul hp1b.1 hd8.2,Nat.mul_le_mul hp1b.2 hd8.1⟩
         have m1:(rr.wide:Int)*(by_:Int)=(p1:Int):=by rw[← hp1];push_cast;rfl
         have m2:(p1:Int)*(rr.depth:Int)=(p2:Int):=by rw[← hp2];push_cast;rfl
         have hwv:(p2+7)/8=wd:=by rw[← hwd];unfold Png.rowN;rw[hby,hp1,hp2]
         have m3:((p2:Int)+7).tdiv 8=(wd:Int):=by rw[← hwv];rfl
         have hwdb:1≤wd∧wd≤1100:=by omega
         obtain⟨wa1,wb1⟩:=pwq (x:=(p1:Int)) ⟨by omega,by omega⟩;obtain⟨wa2,wb2⟩:=pwq (x:=(p2:Int)) ⟨by omega,by omega⟩;obtain⟨wa3,wb3⟩:=pwq (x:=(p2:Int)+7) ⟨by omega,by omega⟩;obtain⟨wa4,wb4⟩:=pwq (x:=(wd:Int)) ⟨by omega,by omega⟩;have HKO:Hid (OkI (rr.kind:Int)):=Hd (by
          have hk6:rr.kind≤6:=by rcases Png.kinds HKF.out.2.2.2.2.1 with h | h | h | h <;> omega
          unfold OkI;omega)
         have HSP:Hid (smp (rr.kind:Int)=some by_):=Hd (by rw[Png.smp_by,hby,if_neg (by omega)]);clear hp1 hp2 hwv hby hwd;obtain⟨pp,pv,_,hK,_⟩:=SI.out.R.cells;have K_0:Hid (Bk wF B #[.int .i64 (rr.wide:Int),.int .i64 (rr.high:Int),.int .i64 (rr.depth:Int),.int .i64 (rr.kind:Int),.string rr.colors,.string rr.alphas,.bool rr.hc,.bool rr.ha,pp,pv,.int .i64 (rr.st:Int)]):=Hd hK;have O_0:=OI;have R_0:=Hd SI.out.R;clear hK SI OI SQ;go_upto_region 19 with fail;have k0:=K_0.out.cell 0;have k1:=K_0.out.cell 1;have k2:=K_0.out.cell 2;have k3:=K_0.out.cell 3;have k4:=K_0.out.cell 4;have k5:=K_0.out.cell 5;have k6:=K_0.out.cell 6;have k7:=K_0.out.cell 7;have k8:=K_0.out.cell 8;have k9:=K_0.out.cell 9;have k10:=K_0.out.cell 10;refine wp_region_held_drew (S:=fun w'=>w'.cell? ⟨B,0,none⟩=some (.int .i64 (rr.wide:Int))∧w'.cell? ⟨B,1,none⟩=some (.int .i64 (rr.high:Int))∧w'.cell? ⟨B,2,none⟩=some (.int .i64 (rr.depth:Int))∧w'.cell? ⟨B,3,none⟩=some (.int .i64 (rr.kind:Int))∧w'.cell? ⟨B,4,none⟩=some (.string rr.colors)∧w'.cell? ⟨B,5,none⟩=some (.string rr.alphas)∧w'.cell? ⟨B,6,none⟩=some (.bool rr.hc)∧w'.cell? ⟨B,7,none⟩=some (.bool rr.ha)∧w'.cell? ⟨B,8,none⟩=some (pp)∧w'.cell? ⟨B,9,none⟩=some (pv)∧w'.cell? ⟨B,10,none⟩=some (.int .i64 (rr.st:Int))) (by kernel_rfl) ⟨K_0.out.cell 0,K_0.out.cell 1,K_0.out.cell 2,K_0.out.cell 3,K_0.out.cell 4,K_0.out.cell 5,K_0.out.cell 6,K_0.out.cell 7,K_0.out.cell 8,K_0.out.cell 9,K_0.out.cell 10⟩ (fun hHeld=>?_)
         clear hHeld;clear k0 k1 k2 k3 k4 k5 k6 k7 k8 k9 k10;refine anyH_world (fun wz=>Ext wF wz) (show Ext wF wF.drew from Below.drew (Ext.refl wF)) ?_;rintro s1 h;have K_1:=Hd (K_0.out.ext h);have O_1:=Hd (O_0.out.trans h);have R_1:=Hd (R_0.out.ext h);clear h K_0 O_0 R_0;have hHeld:s1.cell? ⟨B,0,none⟩=some (.int .i64 (rr.wide:Int))∧s1.cell? ⟨B,1,none⟩=some (.int .i64 (rr.high:Int))∧s1.cell? ⟨B,2,none⟩=some (.int .i64 (rr.depth:Int))∧s1.cell? ⟨B,3,none⟩=some (.int .i64 (rr.kind:Int))∧s1.cell? ⟨B,4,none⟩=some (.string rr.colors)∧s1.cell? ⟨B,5,none⟩=some (.string rr.alphas)∧s1.cell? ⟨B,6,none⟩=some (.bool rr.hc)∧s1.cell? ⟨B,7,none⟩=some (.bool rr.ha)∧s1.cell? ⟨B,8,none⟩=some (pp)∧s1.cell? ⟨B,9,none⟩=some (pv)∧s1.cell? ⟨B,10,none⟩=some (.int .i64 (rr.st:Int)):=⟨K_1.out.cell 0,K_1.out.cell 1,K_1.out.cell 2,K_1.out.cell 3,K_1.out.cell 4,K_1.out.cell 5,K_1.out.cell 6,K_1.out.cell 7,K_1.out.cell 8,K_1.out.cell 9,K_1.out.cell 10⟩;refine tkH 0 rfl hHeld ?_;(try simp only[Act.put,xz]);refine tkH 1 rfl hHeld ?_;(try simp only[Act.put,xz]);refine tkH 2 rfl hHeld ?_;(try simp only[Act.put,xz]);refine tkH 3 rfl hHeld ?_;(try simp only[Act.put,xz]);refine tkH 5 rfl hHeld ?_;(try simp only[Act.put,xz]);refine tkH 6 rfl hHeld ?_;(try simp only[Act.put,xz]);refine tkH 7 rfl hHeld ?_;(try simp only[Act.put,xz]);refine tkH 8 rfl hHeld ?_;(try simp only[Act.put,xz]);refine tkH 11 rfl hHeld ?_;try simp only[Act.put,xz]
         refine tkH 12 rfl hHeld ?_;(try simp only[Act.put,xz]);refine tkH 13 rfl hHeld ?_;(try simp only[Act.put,xz]);refine tkH 14 rfl hHeld ?_;(try simp only[Act.put,xz]);refine rdH 4 rfl fun KK hK=>?_;clear hHeld;go_simp;refine (samples_any s1).mono ?_;rintro e s2 ⟨mb,rfl,hmi,h⟩;have HMI:=Hd hmi;clear hmi;have K_2:=Hd (K_1.out.ext h);have O_2:=Hd (O_1.out.trans h);have R_2:=Hd (R_1.out.ext h);clear h K_1 O_1 R_1;go_simp;refine hK.out _ _ ⟨K_2.out.cell 0,K_2.out.cell 1,K_2.out.cell 2,K_2.out.cell 3,K_2.out.cell 4,K_2.out.cell 5,K_2.out.cell 6,K_2.out.cell 7,K_2.out.cell 8,K_2.out.cell 9,K_2.out.cell 10⟩ (fun hHeld=>?_);clear hK KK;(try simp only[Act.put,xz]);refine rdH 9 rfl fun KK hK=>?_;clear hHeld;have tl:=HMI.out.get HKO.out HSP.out;go_simp;refine hK.out _ _ ⟨K_2.out.cell 0,K_2.out.cell 1,K_2.out.cell 2,K_2.out.cell 3,K_2.out.cell 4,K_2.out.cell 5,K_2.out.cell 6,K_2.out.cell 7,K_2.out.cell 8,K_2.out.cell 9,K_2.out.cell 10⟩ (fun hHeld=>?_);clear hK KK tl HMI;(try simp only[Act.put,xz]);refine tkH 10 rfl hHeld ?_;(try simp only[Act.put,xz]);refine tkH 15 rfl hHeld ?_;(try simp only[Act.put,xz]);refine tkH 16 rfl hHeld ?_;(try simp only[Act.put,xz]);refine tkH 17 rfl hHeld ?_;(try simp only[Act.put,xz]);refine tkH 18 rfl hHeld ?_;(try simp only[Act.put,xz]);refine wpAnyH_done (by kernel_rfl) ?_ _;clear hHeld;clear m1 m2 m3 wa1 wb1 wa2 wb2 wa3 wb3 wa4 wb4;obtain⟨ru,hru⟩:∃q,Png.unp ⟨rr.data.toArray⟩ rr.high wd by_=q:=⟨_,rfl⟩
         have HRU:=Hd hru;rw[hru] at hres;clear hru;go_upto_region 20 with fail;have k0:=K_2.out.cell 0;have k1:=K_2.out.cell 1;have k2:=K_2.out.cell 2;have k3:=K_2.out.cell 3;have k4:=K_2.out.cell 4;have k5:=K_2.out.cell 5;have k6:=K_2.out.cell 6;have k7:=K_2.out.cell 7;have k8:=K_2.out.cell 8;have k9:=K_2.out.cell 9;have k10:=K_2.out.cell 10;refine wp_region_held_drew (S:=fun w'=>w'.cell? ⟨B,0,none⟩=some (.int .i64 (rr.wide:Int))∧w'.cell? ⟨B,1,none⟩=some (.int .i64 (rr.high:Int))∧w'.cell? ⟨B,2,none⟩=some (.int .i64 (rr.depth:Int))∧w'.cell? ⟨B,3,none⟩=some (.int .i64 (rr.kind:Int))∧w'.cell? ⟨B,4,none⟩=some (.string rr.colors)∧w'.cell? ⟨B,5,none⟩=some (.string rr.alphas)∧w'.cell? ⟨B,6,none⟩=some (.bool rr.hc)∧w'.cell? ⟨B,7,none⟩=some (.bool rr.ha)∧w'.cell? ⟨B,8,none⟩=some (pp)∧w'.cell? ⟨B,9,none⟩=some (pv)∧w'.cell? ⟨B,10,none⟩=some (.int .i64 (rr.st:Int))) (by kernel_rfl) ⟨K_2.out.cell 0,K_2.out.cell 1,K_2.out.cell 2,K_2.out.cell 3,K_2.out.cell 4,K_2.out.cell 5,K_2.out.cell 6,K_2.out.cell 7,K_2.out.cell 8,K_2.out.cell 9,K_2.out.cell 10⟩ (fun hHeld=>?_);clear hHeld;clear k0 k1 k2 k3 k4 k5 k6 k7 k8 k9 k10;refine anyH_world (fun wz=>Ext s2 wz) (show Ext s2 s2.drew from Below.drew (Ext.refl s2)) ?_;rintro s3 h;have K_3:=Hd (K_2.out.ext h);have O_3:=Hd (O_2.out.trans h);have R_3:=Hd (R_2.out.ext h);clear h K_2 O_2 R_2;have hHeld:s3.cell? ⟨B,0,none⟩=some (.int .i64 (rr.wide:Int))∧s3.cell? ⟨B,1,none⟩=some (.int .i64 (rr.high:Int))∧s3.cell? ⟨B,2,none⟩=some (.int .i64 (rr.depth:Int))∧s3.cell? ⟨B,3,none⟩=some (.int .i64 (rr.kind:Int))∧s3.cell? ⟨B,4,none⟩=some (.string rr.colors)∧s3.cell? ⟨B,5,none⟩=some (.string rr.alphas)∧s3.cell? ⟨B,6,none⟩=some (.bool rr.hc)∧s3.cell? ⟨B,7,none⟩=some (.bool rr.ha)∧s3.cell? ⟨B,8,none⟩=some (pp)∧s3.cell? ⟨B,9,none⟩=some (pv)∧s3.cell? ⟨B,10,none⟩=some (.int .i64 (rr.st:Int)):=⟨K_3.out.cell 0,K_3.out.cell 1,K_3.out.cell 2,K_3.out.cell 3,K_3.out.cell 4,K_3.out.cell 5,K_3.out.cell 6,K_3.out.cell 7,K_3.out.cell 8,K_3.out.cell 9,K_3.out.cell 10⟩
         refine tkH 0 rfl hHeld ?_;(try simp only[Act.put,xz]);refine tkH 1 rfl hHeld ?_;(try simp only[Act.put,xz]);refine tkH 2 rfl hHeld ?_;(try simp only[Act.put,xz]);refine tkH 4 rfl hHeld ?_;(try simp only[Act.put,xz]);refine tkH 5 rfl hHeld ?_;(try simp only[Act.put,xz]);refine tkH 6 rfl hHeld ?_;(try simp only[Act.put,xz]);refine tkH 7 rfl hHeld ?_;(try simp only[Act.put,xz]);refine tkH 8 rfl hHeld ?_;(try simp only[Act.put,xz]);refine tkH 10 rfl hHeld ?_;(try simp only[Act.put,xz]);refine tkH 11 rfl hHeld ?_;(try simp only[Act.put,xz]);refine tkH 12 rfl hHeld ?_;(try simp only[Act.put,xz]);refine tkH 13 rfl hHeld ?_;(try simp only[Act.put,xz]);refine rdH 3 rfl fun KK hK=>?_;clear hHeld;go_simp;refine (rstring_any B B rr s3 R_3.out).mono ?_;rintro e s4 ⟨rfl,hKB,hMM,hBl⟩;have K_N:=Hd (hKB _ K_3.out);have O_N:=Hd (O_3.out.trans_below HB.out hBl);clear hKB hMM hBl K_3 O_3 R_3;have K_4:=K_N;have O_4:=O_N;clear K_N O_N;go_simp;refine hK.out _ _ ⟨K_4.out.cell 0,K_4.out.cell 1,K_4.out.cell 2,K_4.out.cell 3,K_4.out.cell 4,K_4.out.cell 5,K_4.out.cell 6,K_4.out.cell 7,K_4.out.cell 8,K_4.out.cell 9,K_4.out.cell 10⟩ (fun hHeld=>?_);clear hK KK;(try simp only[Act.put,xz]);refine rdH 9 rfl fun KK hK=>?_;clear hHeld;go_simp;refine (samples_any s4).mono ?_;rintro e s5 ⟨mb,rfl,hmi,h⟩;have HMI:=Hd hmi;clear hmi;have K_5:=Hd (K_4.out.ext h);have O_5:=Hd (O_4.out.trans h);clear h K_4 O_4;go_simp;refine hK.out _ _ ⟨K_5.out.cell 0,K_5.out.cell 1,K_5.out.cell 2,K_5.out.cell 3,K_5.out.cell 4,K_5.out.cell 5,K_5.out.cell 6,K_5.out.cell 7,K_5.out.cell 8,K_5.out.cell 9,K_5.out.cell 10⟩ (fun hHeld=>?_)
         clear hK KK;(try simp only[Act.put,xz]);refine rdH 14 rfl fun KK hK=>?_;clear hHeld;have tl:=HMI.out.get HKO.out HSP.out;go_simp;refine hK.out _ _ ⟨K_5.out.cell 0,K_5.out.cell 1,K_5.out.cell 2,K_5.out.cell 3,K_5.out.cell 4,K_5.out.cell 5,K_5.out.cell 6,K_5.out.cell 7,K_5.out.cell 8,K_5.out.cell 9,K_5.out.cell 10⟩ (fun hHeld=>?_);clear hK KK tl HMI;(try simp only[Act.put,xz]);refine rdH 15 rfl fun KK hK=>?_;clear hHeld;go_simp;refine (unpack_any ⟨rr.data.toArray⟩ rr.high wd by_ s5 E (E1.out.ext O_5.out) (T1.out.ext O_5.out) (by show rr.data.toArray.size≤_;have:=HLN.out;rw[List.size_toArray];unfold maxLen;omega) (Nat.le_trans (Nat.mul_le_mul HKF.out.2.2.2.1 (show wd+1≤1101 by omega)) (by decide)) (by omega) (by have:=HKF.out.2.2.2.1;omega) (by omega)).mono ?_;rintro e s6 hup;obtain⟨h,t,ev,rfl,hv⟩:=up_lit hup;rw[HRU.out] at hv;have HV:=Hd hv;clear hup hv;have K_6:=Hd (K_5.out.ext h);have O_6:=Hd (O_5.out.trans h);clear h K_5 O_5;go_simp;refine hK.out _ _ ⟨K_6.out.cell 0,K_6.out.cell 1,K_6.out.cell 2,K_6.out.cell 3,K_6.out.cell 4,K_6.out.cell 5,K_6.out.cell 6,K_6.out.cell 7,K_6.out.cell 8,K_6.out.cell 9,K_6.out.cell 10⟩ (fun hHeld=>?_);clear hK KK;(try simp only[Act.put,xz]);refine tkH 16 rfl hHeld ?_;(try simp only[Act.put,xz]);refine tkH 17 rfl hHeld ?_;(try simp only[Act.put,xz]);refine tkH 18 rfl hHeld ?_;(try simp only[Act.put,xz]);refine tkH 19 rfl hHeld ?_;(try simp only[Act.put,xz]);refine tkH 20 rfl hHeld ?_
         (try simp only[Act.put,xz]);refine wpAnyH_done (by kernel_rfl) ?_ _;clear hHeld;have hQS:RdQ w s6 E:=⟨X1.out.trans O_6.out,Q1.out.ext O_6.out,E1.out.ext O_6.out⟩;have SQ:=Hd hQS;have KZ:=Hd K_6.out;clear hQS K_6 O_6;have hv:=HV.out;clear HV;cases hr:ru with
         | error ce=>
          rw[hr] at hv hres;obtain⟨rfl,rfl⟩:=hv;(try simp only at hres);have hce:=Png.unp_err (HRU.out.trans hr);clear hr;subst hres;unfold sentV;have hQ:=SQ.out.Q;have hX:=SQ.out.X;have FIN:=Hd (And.intro (hQ.pic.set (W':=0) (H':=0) (v':=.slice none 0 0)) (hX.set3 (Nat.le_refl _) (.int .i64 0) (.int .i64 0) (.slice none 0 0)));have d0:=hQ.cell 0;have f0:=hQ.frozen 0;have d1:=hQ.cell 1;have f1:=hQ.frozen 1;have d2:=hQ.cell 2;have f2:=hQ.frozen 2;clear hQ hX;go_wp2_with fail;obtain⟨hPA,hXF⟩:=FIN.out;have k0:=hPA.c0;have k1:=hPA.c1;have k2:=hPA.c2;exact bodyPost_ret (v:=.tuple #[zeroPic,.iface 275 (.pointer (some (E ce)))]) (by simp[results,Tryz.results10,go_sem,k0,k1,k2,zeroPic]) rfl ⟨hXF,(by omega),rfl⟩
         | ok u=>
          rw[hr] at hv hres;obtain⟨rfl,rfl⟩:=hv;(try simp only at hres);have hus:=Png.unp_size (HRU.out.trans hr);clear hr;have HPX:=Hd (pixels_any B rr pp pv t wd s6 KZ.out ⟨HKF.out.1,HKF.out.2.1⟩ HKF.out.2.2.2.1 HKF.out.2.2.2.2.1 HKF.out.2.2.2.2.2 HWD.out.symm hus H3 HCL.out);go_wp2_with fail;refine HPX.out.mono ?_;rintro e z1 ⟨hX,hpx⟩;have SZ:=Hd (SQ.out.ext hX);have HLT:=Hd SQ.out.Q.lt;clear hX HPX SQ;rcases hpx with⟨xa,cx,rfl,hP,hg,hab⟩ | ⟨rfl,hbad⟩
          ·rw[if_pos hg] at hres;subst hres;have HP:=Hd hP;clear hP hg;go_upto_region 24 with fail;refine wp_world (fun wz=>RdQ w wz E∧Ext z1 wz∧Bk wz z1.heap.size #[.int .i64 (rr.wide:Int),.int .i64 (rr.high:Int),.slice xa (rr.high*rr.wide) cx]) ?hw ?_
           case hw=>exact⟨SZ.out.ext ((Ext.refl _).alloc _),(Ext.refl _).alloc _,Bk.at rfl⟩
           rintro z2 ⟨hS,hE2,hB⟩;obtain⟨T9,hT9⟩:∃q,z1.heap.size=q:=⟨_,rfl⟩;rw[hT9] at hB⊢;have hP2:=HP.out.ext hE2;have hQ:=hS.Q;have hX:=hS.X;have FIN:=Hd (And.intro (hQ.pic.set (W':=(rr.wide:Int)) (H':=(rr.high:Int)) (v':=.slice xa (rr.high*rr.wide) cx)) (And.intro (hX.set3 (Nat.le_refl _) (.int .i64 (rr.wide:Int)) (.int .i64 (rr.high:Int)) (.slice xa (rr.high*rr.wide) cx)) (hP2.keeps (S:=fun k=>k=w.heap.size) ((((Keeps.refl (fun k=>k=w.heap.size) z2).setCell (p:=⟨w.heap.size,0,none⟩) (.inl rfl) (.int .i64 (rr.wide:Int))).setCell (p:=⟨w.heap.size,1,none⟩) (.inl rfl) (.int .i64 (rr.high:Int))).setCell (p:=⟨w.heap.size,2,none⟩) (.inl rfl) (.slice xa (rr.high*rr.wide) cx)) (fun aa e1 e2=>by have h1:=hab aa e1;have h2:=HLT.out;omega))));have d0:=hQ.cell 0;have f0:=hQ.frozen 0;have y0:=hB.cell 0;have d1:=hQ.cell 1;have f1:=hQ.frozen 1;have y1:=hB.cell 1;have d2:=hQ.cell 2;have f2:=hQ.frozen 2;have y2:=hB.cell 2;clear hS hE2 hB hP2 hQ hX hab;go_wp2_with fail;obtain⟨hPA,hXF,hPF⟩:=FIN.out;have k0:=hPA.c0;have k1:=hPA.c1;have k2:=hPA.c2;exact bodyPost_ret (v:=.tuple #[.agg #[.int .i64 (rr.wide:Int),.int .i64 (rr.high:Int),.slice xa (rr.high*rr.wide) cx],.nilIface]) (by simp[results,Tryz.results10,go_sem,k0,k1,k2]) rfl ⟨hXF,_,_,rfl,hPF⟩
          ·obtain⟨ib,hib,hgb⟩:=hbad;rw[if_neg (fun q=>hgb (q ib hib))] at hres;clear hib hgb;go_upto_region 24 with fail;refine wp_world (fun wz=>RdQ w wz E) (SZ.out.ext ((Ext.refl _).alloc _)) ?_;intro z2 hS;have SY:=Hd hS;clear hS SZ;(try subst hres);go_upto_region 25 with fail;have S_0:=SY;refine wp_region_held_drew (S:=fun w'=>w'.cell? ⟨1,0,none⟩=some (.iface 275 (.pointer (some (E 0))))) (by kernel_rfl) ((err_cells S_0.out.E (Ext.refl _)).1) (fun hHeld=>?_);clear hHeld;refine anyH_world (fun wz=>Ext z2 wz) (show Ext z2 z2.drew from Below.drew (Ext.refl z2)) ?_;rintro t1 h;have S_1:=Hd (S_0.out.ext h);clear h S_0;have hHeld:t1.cell? ⟨1,0,none⟩=some (.iface 275 (.pointer (some (E 0)))):=((err_cells S_1.out.E (Ext.refl _)).1);refine tkH 0 rfl hHeld ?_;(try simp only[Act.put,xz]);refine tkH 1 rfl hHeld ?_;(try simp only[Act.put,xz]);refine rdH 2 rfl fun KK hK=>?_;clear hHeld;have hX:=S_1.out.X;have hQ:=S_1.out.Q;have FIN:=Hd (And.intro (hQ.pic.set (W':=0) (H':=0) (v':=.slice none 0 0)) (hX.set3 (Nat.le_refl _) (.int .i64 0) (.int .i64 0) (.slice none 0 0)));have HEG:Hid ((((t1.setCell ⟨w.heap.size,0,none⟩ (.int .i64 0)).setCell ⟨w.heap.size,1,none⟩ (.int .i64 0)).setCell ⟨w.heap.size,2,none⟩ (.slice none 0 0)).cell? ⟨1,0,none⟩=some (.iface 275 (.pointer (some (E 0))))):=Hd (by rw[World.cell?_setCell_other _ _ _ _ (HGN.out 2),World.cell?_setCell_other _ _ _ _ (HGN.out 1),World.cell?_setCell_other _ _ _ _ (HGN.out 0)];exact (err_cells S_1.out.E (Ext.refl _)).1)
           have d0:=hQ.cell 0;have f0:=hQ.frozen 0;have d1:=hQ.cell 1;have f1:=hQ.frozen 1;have d2:=hQ.cell 2;have f2:=hQ.frozen 2;clear hX hQ;go_simp;clear d0 d1 d2 f0 f1 f2;refine hK.out _ _ HEG.out (fun hHeld=>?_);clear hK KK hHeld;(try simp only[Act.put,xz]);refine anyH_world (fun wz=>(PicAt wz w.heap.size 0 0 (.slice none 0 0)∧Ext w wz)∧wz.cell? ⟨1,0,none⟩=some (.iface 275 (.pointer (some (E 0))))) ⟨FIN.out,HEG.out⟩ ?_;rintro t2 ⟨hF,hG⟩;clear FIN HEG S_1;have FIN:=Hd hF;have HG2:=Hd hG;clear hF hG;have hHeld:t2.cell? ⟨1,0,none⟩=some (.iface 275 (.pointer (some (E 0)))):=(HG2.out);refine tkH 3 rfl hHeld ?_;(try simp only[Act.put,xz]);refine wpAnyH_done (by kernel_rfl) ?_ _;clear hHeld;go_wp2_with fail;obtain⟨hPA,hXF⟩:=FIN.out;have k0:=hPA.c0;have k1:=hPA.c1;have k2:=hPA.c2;exact bodyPost_ret (v:=.tuple #[zeroPic,.iface 275 (.pointer (some (E 0)))]) (by simp[results,Tryz.results10,go_sem,k0,k1,k2,zeroPic]) rfl ⟨hXF,(by decide),rfl⟩
        ·have hbad:res=.bad 0:=by
          rw[← hres];cases hok:okk
          ·exact Png.body_no (fun q=>by have:=HBL.out.2 q;rw[hok] at this;cases this)
          ·have q:=HBB.out;rw[hok] at q;exact Png.body_st HRL.out (by simpa using q)
         clear hres;subst hbad;rename World=>wF;(try subst hres);go_upto_region 18 with fail;have S_0:=SQ;refine wp_region_held_drew (S:=fun w'=>w'.cell? ⟨1,0,none⟩=some (.iface 275 (.pointer (some (E 0))))) (by kernel_rfl) ((err_cells S_0.out.E (Ext.refl _)).1) (fun hHeld=>?_);clear hHeld;refine anyH_world (fun wz=>Ext wF wz) (show Ext wF wF.drew from Below.drew (Ext.refl wF)) ?_;rintro t1 h;have S_1:=Hd (S_0.out.ext h);clear h S_0;have hHeld:t1.cell? ⟨1,0,none⟩=some (.iface 275 (.pointer (some (E 0)))):=((err_cells S_1.out.E (Ext.refl _)).1);refine tkH 0 rfl hHeld ?_;(try simp only[Act.put,xz]);refine tkH 1 rfl hHeld ?_;(try simp only[Act.put,xz]);refine rdH 2 rfl fun KK hK=>?_;clear hHeld;have hX:=S_1.out.X;have hQ:=S_1.out.Q;have FIN:=Hd (And.intro (hQ.pic.set (W':=0) (H':=0) (v':=.slice none 0 0)) (hX.set3 (Nat.le_refl _) (.int .i64 0) (.int .i64 0) (.slice none 0 0)));have HEG:Hid ((((t1.setCell ⟨w.heap.size,0,none⟩ (.int .i64 0)).setCell ⟨w.heap.size,1,none⟩ (.int .i64 0)).setCell ⟨w.heap.size,2,none⟩ (.slice none 0 0)).cell? ⟨1,0,none⟩=some (.iface 275 (.pointer (some (E 0))))):=Hd (by rw[World.cell?_setCell_other _ _ _ _ (HGN.out 2),World.cell?_setCell_other _ _ _ _ (HGN.out 1),World.cell?_setCell_other _ _ _ _ (HGN.out 0)];exact (err_cells S_1.out.E (Ext.refl _)).1);have d0:=hQ.cell 0
         have f0:=hQ.frozen 0;have d1:=hQ.cell 1;have f1:=hQ.frozen 1;have d2:=hQ.cell 2;have f2:=hQ.frozen 2;clear hX hQ;go_simp;clear d0 d1 d2 f0 f1 f2;refine hK.out _ _ HEG.out (fun hHeld=>?_);clear hK KK hHeld;(try simp only[Act.put,xz]);refine anyH_world (fun wz=>(PicAt wz w.heap.size 0 0 (.slice none 0 0)∧Ext w wz)∧wz.cell? ⟨1,0,none⟩=some (.iface 275 (.pointer (some (E 0))))) ⟨FIN.out,HEG.out⟩ ?_;rintro t2 ⟨hF,hG⟩;clear FIN HEG S_1;have FIN:=Hd hF;have HG2:=Hd hG;clear hF hG;have hHeld:t2.cell? ⟨1,0,none⟩=some (.iface 275 (.pointer (some (E 0)))):=(HG2.out);refine tkH 3 rfl hHeld ?_;(try simp only[Act.put,xz]);refine wpAnyH_done (by kernel_rfl) ?_ _;clear hHeld;go_wp2_with fail;obtain⟨hPA,hXF⟩:=FIN.out;have k0:=hPA.c0;have k1:=hPA.c1;have k2:=hPA.c2;exact bodyPost_ret (v:=.tuple #[zeroPic,.iface 275 (.pointer (some (E 0)))]) (by simp[results,Tryz.results10,go_sem,k0,k1,k2,zeroPic]) rfl ⟨hXF,(by decide),rfl⟩
 ·rw[hrl] at hres;(try simp only at hres);subst hres;have FIN:=Hd (And.intro (Q1.out.pic.set (W':=0) (H':=0) (v':=.slice none 0 0)) (X1.out.set3 (Nat.le_refl _) (.int .i64 0) (.int .i64 0) (.slice none 0 0)));have d0:=Q1.out.cell 0;have f0:=Q1.out.frozen 0;have d1:=Q1.out.cell 1;have f1:=Q1.out.frozen 1;have d2:=Q1.out.cell 2;have f2:=Q1.out.frozen 2;have HFF:=Hd hF;have hFl:Hid (F≠w.heap.size):=Hd (fun e=>by obtain⟨t,h⟩:=Q1.out;rw[e,h] at hF;cases hF);clear hF;go_wp2_with fail;obtain⟨hPA,hXF⟩:=FIN.out;have k0:=hPA.c0;have k1:=hPA.c1;have k2:=hPA.c2;exact bodyPost_ret (v:=.tuple #[zeroPic,.iface 107 (.pointer (some ⟨F,0,none⟩))]) (by simp[results,Tryz.results10,go_sem,k0,k1,k2,zeroPic]) rfl ⟨hXF,F,hce,hie,rfl,by rw[Below.heap_setCell _ _ _ _ hFl.out,Below.heap_setCell _ _ _ _ hFl.out,Below.heap_setCell _ _ _ _ hFl.out];exact HFF.out⟩
end Go.Proofs.YthlibiocadimhaaGreatDoor
namespace Go.Proofs.YthlibiocadimhaaGreatDoor
open Go Go.RowKit Go.Lib
theorem run_append_room_zeros {P:Program} (w:World) (t tn ty e:TypeId) (i:TypeInfo) (z:Value) (kq kn:IntKind) (ht:P.underlying t=some (.slice e)) (htn:P.underlying tn=some (.int kn)) (hi:P.info? e=some i) (hz:i.zero=some z)
  (g sLen sCap:Nat) (cur:Array Value) (hg:w.heap[g]? =some (.cells cur e (0,0))) (k:Nat) (h0:0<k) (hs:0<i.size) (h63:(k:Int)≤9223372036854775807) (h48:k*i.bytes≤281474976710656)
  (news:List Value) (hnews:news=(Builtin.zeroCells z.cells k).toList) (h1:∀u∈news,u.oneCell'=true)
  (hroom:sLen+k≤sCap) (hfit:sLen*i.size+news.length≤cur.size):
  (Builtin.append_ #[t,tn] ty #[.slice (some ⟨g,0,none⟩) sLen sCap,.int kq k]).run P w=
   .ok (.slice (some ⟨g,0,none⟩) (sLen+k) sCap) (w.setRow g (cur.toList.take (sLen*i.size)++news++cur.toList.drop (sLen*i.size+news.length)).toArray):=by
 have hk:k≠0:=by omega
 have hw:IntKind.i64.wrap (k:Int)=k:=by rw[IntKind.wrap_i64];omega
 have h48i:¬ (281474976710656<(k:Int)*(i.bytes:Int)):=by
  rw[← Int.natCast_mul];omega
 have hneg:¬ ((k:Int)<0):=by omega
 have hns:¬ (k*i.size=0):=Nat.mul_ne_zero hk (by omega);have hst:=run_storeCells_at P g (sLen*i.size) e news 0 cur w hg (by simpa using hfit) h1;simp only[Nat.add_zero] at hst;rw[hnews] at hst⊢;simp[Builtin.append_,run_underlying ht,run_underlying htn,sizeOf,typeInfo,zeroValue,hi,hz,asInt,asIntOf,hw,hneg,hns,h48i,hroom,Addr.add_lit,hst]
theorem run_append_zeros_at {P:Program} (w:World) (base:Nat) (t tn ty e:TypeId) (i:TypeInfo) (z:Value) (size bytes:Nat) (kq kn:IntKind) (ht:P.underlying t=some (.slice e)) (htn:P.underlying tn=some (.int kn)) (hi:P.info? e=some i) (hz:i.zero=some z)
  (hsize:i.size=size) (hby:i.bytes=bytes) (hzs:z.cells.size=size) (hsz:0<size)
  (v:Value) (n:Nat) (xs:List Value) (hown:w.ownsRow base e size v n xs)
  (m:Nat) (h0:0<m) (news:List Value) (hnews:news=(Builtin.zeroCells z.cells m).toList) (h1:∀u∈news,u.oneCell'=true)
  (h63:n+m≤maxLen) (hbytes:(n+m)*bytes≤140737488355328) (hbase:base≤w.heap.size):
  ∃v' w',(Builtin.append_ #[t,tn] ty #[v,.int kq m]).run P w=.ok v' w'∧w'.ownsRow base e size v' (n+m) (xs++news)∧w.grownBy w' v.ownBlock∧(v'.ownBlock=v.ownBlock∨v'.ownBlock=some w.heap.size):=by
 subst hsize;subst hby
 have hl:news.length=m*i.size:=by rw[hnews,Array.length_toList,size_zeroCells,hzs]
 have hsmall:n+m≤9223372036854775807:=by simp only[maxLen] at h63;omega
 have h48:m*i.bytes≤281474976710656:=Nat.le_trans (Nat.mul_le_mul_right _ (Nat.le_add_left m n)) (by omega);have hlen:(xs++news).length=(n+m)*i.size:=by rw[List.length_append,hown.1,hl,Nat.add_mul]
 have ea:Builtin.zeroCells z.cells m=news.toArray:=by rw[hnews]
 have grown:∀(old:Nat),old<n+m→∀(row:Option Nat),
   (w.drew.alloc (.cells (xs.toArray++Builtin.zeroCells z.cells m++Builtin.zeroCells z.cells (grownCap w (n+m) old e-(n+m))) e)).ownsRow base e i.size
    (.slice (some ⟨w.heap.size,0,none⟩) (n+m) (grownCap w (n+m) old e)) (n+m) (xs++news)∧
   w.grownBy (w.drew.alloc (.cells (xs.toArray++Builtin.zeroCells z.cells m++Builtin.zeroCells z.cells (grownCap w (n+m) old e-(n+m))) e)) row:=by
  intro old ho row;rw[ea];have hge:=grownCap_ge w (n+m) old e;have hcm:grownCap w (n+m) old e≤maxLen:=grownCap_le_maxLen w (n+m) old e h63;refine⟨⟨hlen,.inr ⟨w.heap.size,_,_,rfl,hbase,heap_alloc_new w.drew _,hge,hcm,?_,?_⟩⟩,⟨rfl,rfl,rfl,by simp,fun k hk _=>Go.heap_alloc_old w.drew _ hk⟩⟩
  ·simp only[Array.size_append,List.size_toArray,size_zeroCells,hzs,hown.1,hl,← Nat.add_mul];congr 1
   omega
  ·simp only[Array.toList_append,List.append_assoc];rw[← List.append_assoc,← hlen];exact List.take_left
 rcases hown.2 with⟨rfl,rfl⟩ | ⟨g,cap,cur,rfl,hbg,hg,hnc,hcm,hcs,htake⟩
 ·have hx:xs=[]:=List.eq_nil_of_length_eq_zero (by simpa using hown.1);subst hx;have hr:=run_append_nil_zeros (P:=P) w t tn ty e i z kq kn ht htn hi hz m h0 (by omega) (by omega) h48;have hgr:=grown 0 (by omega) (Value.ownBlock (.slice none 0 0));simp only[Nat.zero_add,List.nil_append,Array.empty_append] at hgr⊢;exact⟨_,_,hr,hgr.1,hgr.2,Or.inr rfl⟩
 ·by_cases hroom:n+m≤cap
  ·have hfit:n*i.size+news.length≤cur.size:=by rw[hl,hcs,← Nat.add_mul];exact Nat.mul_le_mul_right _ hroom
   have hr:=run_append_room_zeros (P:=P) w t tn ty e i z kq kn ht htn hi hz g n cap cur hg m h0 (by omega) (by omega) h48 news hnews h1 hroom hfit;refine⟨_,_,hr,⟨hlen,.inr ⟨g,cap,_,rfl,hbg,setRow_heap w g cur _ e _ hg,hroom,hcm,?_,?_⟩⟩,⟨rfl,rfl,rfl,by simp,fun k _ hk=>setRow_other w g k _ (fun e=>hk (by simp[Value.ownBlock,e]))⟩,Or.inl rfl⟩
   ·simp only[List.size_toArray,List.length_append,List.length_take,List.length_drop,Array.length_toList];omega
   ·rw[htake,← hlen];exact List.take_left
  ·have holds:∀j u,xs[j]? =some u→w.drew.cell? ((⟨g,0,none⟩:Addr).add j)=some u:=hown.cells (g:=g) rfl;have hold:=run_firstCells_some (P:=P) w.drew i.size n ⟨g,0,none⟩ n cap xs hown.1 holds;have hr:=run_append_grow_zeros (P:=P) w t tn ty e i z kq kn ht htn hi hz (some ⟨g,0,none⟩) n cap xs hold m h0 (by omega) (by omega) (by omega) h48 (growslice_fits (by omega) hbytes);have hgr:=grown cap (by omega) (Value.ownBlock (.slice (some ⟨g,0,none⟩) n cap));exact⟨_,_,hr,hgr.1,hgr.2,Or.inr rfl⟩
theorem wpList_append_zeros_at {P:Program} (w:World) {ops:Array Oper} {rest:List Oper} {o:Oper} {a:Act} {Q:Exit→Act→World→Prop} (hgd:o.guard=none) (s x:Operand) (t tn:TypeId)
  (ho:o.op=.call { callee:=.builtin .append,args:=#[s,x],argTypes:=#[t,tn] })
  (base:Nat) (e:TypeId) (i:TypeInfo) (z:Value) (size bytes:Nat) (kq kn:IntKind) (ht:P.underlying t=some (.slice e)) (htn:P.underlying tn=some (.int kn)) (hi:P.info? e=some i) (hz:i.zero=some z)
  (hsize:i.size=size) (hby:i.bytes=bytes) (hzs:z.cells.size=size) (hsz:0<size)
  (v:Value) (n:Nat) (xs:List Value) (hs:a.eval s=v) (hown:w.ownsRow base e size v n xs)
  (m:Nat) (hx:a.eval x=.int kq m) (h0:0<m) (news:List Value) (hnews:news=(Builtin.zeroCells z.cells m).toList) (h1:∀u∈news,u.oneCell'=true)
  (h63:n+m≤maxLen) (hbytes:(n+m)*bytes≤140737488355328) (hbase:base≤w.heap.size)
  (h:∀v' w',w'.ownsRow base e size v' (n+m) (xs++news)→w.grownBy w' v.ownBlock→(v'.ownBlock=v.ownBlock∨v'.ownBlock=some w.heap.size)→wpList P ops Q rest (a.put o.dst v') w'):
  wpList P ops Q (o ::rest) a w:=by
 refine wpList_plain hgd fun K hK=>?_;obtain⟨v',w',hr,h2,h3,h5⟩:=run_append_zeros_at (P:=P) w base t tn o.type e i z size bytes kq kn ht htn hi hz hsize hby hzs hsz v n xs hown m h0 news hnews h1 h63 hbytes hbase;unfold Oper.wp execOp;simp only[ho,resolve,invoke,builtin,Sem.run_bind,Sem.run_pure,Result.andThen_ok,List.map_toArray,List.map_cons,List.map_nil,hs,hx,hr];exact hK _ _ (h v' w' h2 h3 h5)
/-- bytes of nothing -/
theorem zeros_bytes (k:Nat):bytesV (List.replicate k 0)=(Builtin.zeroCells (Value.int .u8 0).cells k).toList:=by
 have e:(Value.int .u8 0).cells=#[.int .u8 0]:=rfl;rw[e];unfold bytesV Builtin.zeroCells;refine List.ext_getElem (by simp) (fun j h1 h2=>?_);simp[Nat.mod_one]
end Go.Proofs.YthlibiocadimhaaGreatDoor
namespace Go.Proofs.YthlibiocadimhaaGreatDoor
open Go.RowKit
theorem MP.get {w:World} {b n:Nat} {p:P4} {g:P4→Option Nat} (h:MP w b g) (hp:p.Ok) (hg:g p=some n):
  (Instr.lookup 54 (.map (some b)) (p.val) false).run Tryz.prog w=.ok (.int .i64 (n:Int)) w:=by
 obtain⟨es,clock,hb,h1,h2,h3⟩:=h;obtain⟨l,hl⟩:=keyp_of p hp;have hzv:(zeroValue 3).run Tryz.prog w=.ok (.int .i64 0) w:=by kernel_rfl
 have hes:∀e∈es.toList,∃l,keyOf Tryz.prog 53 e.key=some l:=by
  intro e he;obtain⟨q,n,hk',q1,_⟩:=h1 e he;rw[hk'];exact keyp_of q q1
 have hcheck:=keyp_law.check w es.isEmpty hl;rcases keyp_law.find w hl es.toList hes with⟨hf,hno⟩ | ⟨j,e,hf,hj,he⟩
 ·obtain⟨e,hm,hk2⟩:=h2 p n hp hg;exact absurd hk2 (hno e hm)
 ·obtain⟨q,m,hk',_,hv,hg2⟩:=h1 e (List.mem_of_getElem? hj);obtain rfl:=pk_inj (hk'.symm.trans he);rw[hg] at hg2;injection hg2 with hg2;subst hg2;simp[Instr.lookup,run_underlying Tryz.underlying54,MapKept.run_getObj_map hb,hcheck,hf,hv,Result.andThen]
theorem or_sft (o:UInt8) {v sh:Nat} (h:v <<< sh<256):bits BinOp.or IntKind.u8 (o.toNat:Int) ((v:Int)*2^sh%256)=((o ||| UInt8.ofNat (v <<< sh)).toNat:Int):=by
 have ho:=o.toNat_lt;have e:(v:Int)*2^sh%256=((v <<< sh:Nat):Int):=by
  rw[Nat.shiftLeft_eq] at h⊢;have q:((v*2^sh:Nat):Int)=(v:Int)*2^sh:=by push_cast;rfl
  rw[← q];omega
 rw[e,u8_or_nat _ _ (by omega) h,UInt8.toNat_or,UInt8.toNat_ofNat',Nat.mod_eq_of_lt h]
theorem set_behind {α:Type} (a b:List α) {k j:Nat} (hk:a.length=k) (u:α):(a++b).set (k+j) u=a++b.set j u:=by
 subst hk;rw[List.set_append,if_neg (by omega),Nat.add_sub_cancel_left]
/-- a row of bytes that the call owns -/
structure RbS (wb wr:World) (v:Value) (l:List UInt8):Prop where
 fr:Ext wb wr
 own:wr.ownsRow wb.heap.size 5 1 v l.length (bytesV l)
theorem RbS.start (w:World):RbS w w (.slice none 0 0) []:=⟨Ext.refl w,World.ownsRow_nil _ _ _ _⟩
theorem RbS.ext {wb wr wz:World} {v:Value} {l:List UInt8} (h:RbS wb wr v l) (hE:Ext wr wz):RbS wb wz v l:=
 ⟨h.fr.trans hE,ownsRow_kept (S:=fun _=>False) h.own hE.keeps (fun _ _=>id)⟩
theorem RbS.app {wb wr w':World} {v v':Value} {l m:List UInt8} {n:Nat} (h:RbS wb wr v l) (hn:l.length+m.length=n) (hown:w'.ownsRow wb.heap.size 5 1 v' n (bytesV l++bytesV m)) (hg:wr.grownBy w' v.ownBlock):RbS wb w' v' (l++m):=by
 refine⟨Below.trans h.fr ((Keeps.grown hg).below h.fr.size (fun k hk q=>by have:=(h.own.lt k q).1;omega)),?_⟩;rw[List.length_append,hn,bytesV_app];exact hown
theorem RbS.put {wb wr:World} {g n c i:Nat} {l:List UInt8} (h:RbS wb wr (.slice (some ⟨g,0,none⟩) n c) l) (b:UInt8):RbS wb (wr.setCell ⟨g,i,none⟩ (.int .u8 (b.toNat:Int))) (.slice (some ⟨g,0,none⟩) n c) (l.set i b):=by
 obtain⟨hf,h1,h2⟩:=h;rcases h2 with⟨hv,_⟩ | ⟨g',cap,cur,hv,hbg,hh,hc,hm,hz,ht⟩
 ·cases hv
 ·injection hv with e1 e2 e3;injection e1 with e1;injection e1 with e1 _ _;subst e1;subst e3;refine⟨Below.setCell hf (p:=⟨g,i,none⟩) hbg _,by rw[bytesV_length,List.length_set];omega,.inr ⟨g,c,cur.setIfInBounds i (.int .u8 (b.toNat:Int)),?_,hbg,?_,?_,hm,?_,?_⟩⟩
  ·rw[List.length_set,e2]
  ·simp[World.setCell,Array.getElem?_modify,hh]
  ·rw[List.length_set];exact hc
  ·rw[Array.size_setIfInBounds];exact hz
  ·rw[Array.toList_setIfInBounds,List.length_set];have e4:(cur.toList.set i (.int .u8 (b.toNat:Int))).take (l.length*1)=(cur.toList.take (l.length*1)).set i (.int .u8 (b.toNat:Int)):=by rw[List.take_set]
   rw[e4,ht];unfold bytesV;rw[List.map_set]
theorem RbS.cell {wb wr:World} {g n c i:Nat} {l:List UInt8} (h:RbS wb wr (.slice (some ⟨g,0,none⟩) n c) l) (hi:i<l.length):wr.cell? ⟨g,i,none⟩=some (.int .u8 ((l.getD i 0).toNat:Int)):=by
 have hn:n=l.length:=by
  rcases h.own.2 with⟨hv,_⟩ | ⟨g',cap',cur',hv,_⟩
  ·cases hv
  ·injection hv
 subst hn;rw[h.own.cellAt i (by omega),bytesV_get l i hi,List.getD_eq_getElem?_getD,List.getElem?_eq_getElem hi];rfl
theorem RbS.froz {wb wr:World} {g n c i:Nat} {l:List UInt8} (h:RbS wb wr (.slice (some ⟨g,0,none⟩) n c) l):wr.frozen? ⟨g,i,none⟩=false:=by
 rcases h.own.2 with⟨hv,_⟩ | ⟨g',cap,cur,hv,hbg,hh,_⟩
 ·cases hv
 ·injection hv with e1 e2 e3;injection e1 with e1;injection e1 with e1 _ _;subst e1;simp[World.frozen?,hh]
theorem RbS.some {wb wr:World} {v:Value} {l:List UInt8} (h:RbS wb wr v l) (h0:0<l.length):∃g c,v=.slice (some ⟨g,0,none⟩) l.length c∧l.length≤c:=by
 obtain⟨g,c,h1,h2,_⟩:=ownsRow_some h.own h0;exact⟨g,c,h1,h2⟩
theorem RbS.keepsPic {wb wr:World} {b:Nat} {W H:Int} {u v:Value} {l:List UInt8} (h:RbS wb wr v l) (hb:PicAt wb b W H u):PicAt wr b W H u:=hb.ext h.fr
end Go.Proofs.YthlibiocadimhaaGreatDoor
