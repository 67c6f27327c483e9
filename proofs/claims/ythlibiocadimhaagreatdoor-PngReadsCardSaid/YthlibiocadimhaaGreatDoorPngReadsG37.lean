/-
  png.Read.
  png.Write of dot's picture.
  layercakelaw2.dot.
  The document's reading of a picture, beside the program's: plain; the variables of PictureOf. No function of the program is named.
-/
import Derived.Test.YthlibiocadimhaaGreatDoorPngReadsG35
import Derived.Test.YthlibiocadimhaaGreatDoorPngReadsG33
set_option linter.all false
set_option maxRecDepth 100000
namespace Go.Proofs.YthlibiocadimhaaGreatDoor
open Go.RowKit
theorem Yfu0 {p:Prop} (h:p:=by
 rintro t1 h;have S_1:=Hd (S_0.out.ext h);clear h S_0;have hHeld:t1.cell? ⟨1,0,none⟩=some (.iface 275 (.pointer (some (E 0)))):=((zaj S_1.out.E (Ext.refl _)).1);refine tk2 0 1 ?_;refine rdH 2 rfl λ KK hK=>?_;clear hHeld;have hX:=S_1.out.X;have hQ:=S_1.out.Q;have FIN:=Hd (qaB (hQ.pic.set (W':=0) (H':=0) (v':=.slice none 0 0)) (hX.set3 (qaj _) (.int .i64 0) (.int .i64 0) (.slice none 0 0)));have HEG:Hid ((((t1.setCell ⟨w.heap.size,0,none⟩ (.int .i64 0)).setCell ⟨w.heap.size,1,none⟩ (.int .i64 0)).setCell ⟨w.heap.size,2,none⟩ (.slice none 0 0)).cell? ⟨1,0,none⟩=some (.iface 275 (.pointer (some (E 0))))):=Hd (by rw[qah _ _ _ _ (HGN.out 2),qah _ _ _ _ (HGN.out 1),qah _ _ _ _ (HGN.out 0)];exact (zaj S_1.out.E (Ext.refl _)).1);have d0:=hQ.cell 0;have f0:=hQ.frozen 0;have d1:=hQ.cell 1;have f1:=hQ.frozen 1;have d2:=hQ.cell 2;have f2:=hQ.frozen 2;clear hX hQ;go_simp;clear d0 d1 d2 f0 f1 f2;refine oS hK HEG.out λ hHeld=>?_;clear hK KK hHeld;refine zab (λ wz=>(PicAt wz w.heap.size 0 0 (.slice none 0 0)/\Ext w wz)/\wz.cell? ⟨1,0,none⟩=some (.iface 275 (.pointer (some (E 0))))) ⟨FIN.out,HEG.out⟩ ?_;rintro t2 ⟨hF,hG⟩;clear FIN HEG S_1;have FIN:=Hd hF;have HG2:=Hd hG;clear hF hG;have hHeld:t2.cell? ⟨1,0,none⟩=some (.iface 275 (.pointer (some (E 0)))):=(HG2.out)
 refine tkH 3 ?_;refine dnT ?_;clear hHeld;go_wp2_with fail;obtain⟨hPA,hXF⟩:=FIN.out;have k0:=hPA.c0;have k1:=hPA.c1;have k2:=hPA.c2;exact qaZ (v:=.tuple #[zaH,.iface 275 (.pointer (some (E 0)))]) (by simp[results,Tryz.results10,go_sem,k0,k1,k2,zaH]) rfl ⟨hXF,(by decide),rfl⟩):p:=h
theorem Yfu1 {p:Prop} (h:p:=by
 have FIN:=Hd (qaB (hQ.pic.set (W':=0) (H':=0) (v':=.slice none 0 0)) (hX.set3 (qaj _) (.int .i64 0) (.int .i64 0) (.slice none 0 0)));have d0:=hQ.cell 0;have f0:=hQ.frozen 0;have d1:=hQ.cell 1;have f1:=hQ.frozen 1;have d2:=hQ.cell 2;have f2:=hQ.frozen 2;clear hQ hX;go_wp2_with fail;obtain⟨hPA,hXF⟩:=FIN.out;have k0:=hPA.c0;have k1:=hPA.c1;have k2:=hPA.c2;exact qaZ (v:=.tuple #[zaH,.iface 275 (.pointer (some (E ce)))]) (by simp[results,Tryz.results10,go_sem,k0,k1,k2,zaH]) rfl ⟨hXF,(by omega),rfl⟩):p:=h
theorem Yfu2 {p:Prop} (h:p:=by
 go_roundw
 case rel=>exact⟨ip,by first | rfl | go_num,by omega,by omega,by rw[HNX.out.1];first | rfl | simp,by rw[HNX.out.2];exact S7,O7⟩
 case measure=>simp[intOf];omega):p:=h
theorem Yfu3 {p:Prop} (h:p:=by
 rw[hhc] at f6;have HV:=Hd hv;clear hv hbb hhc s3 s0;go_wp2_with fail;go_meet
 exact⟨by rw[HV.out],rfl⟩):p:=h
theorem MI.same {w w':World} {b:Nat} {g:Int->Option Nat} (h:MI w b g) (hm:∀(k:Nat) es c,w.heap[k]? =some (Obj.map es c)->w'.heap[k]? =some (Obj.map es c)):MI w' b g:=by
 obtain⟨es,c,hb,r⟩:=h;exact⟨es,c,hm _ _ _ hb,r⟩
theorem Ext.trans_below {a b c:World} {B:Nat} (h:Ext a b) (hB:a.heap.size=B) (k:Below B b c):Ext a c:=by subst hB;exact Below.trans h k
structure RdS (w wr:World) (E:Nat->Addr) (x:Option Addr) (L:List Ck) (B:Nat) (r:Rd):Prop where
 X:Ext w wr
 Q:Bk wr w.heap.size #[.int .i64 0,.int .i64 0,.slice none 0 0]
 C:Cks wr x L
 E:Errs wr E
 T:Tabs wr
 R:RdAt B B r wr
 lt:w.heap.size<B
theorem RdS.ext {w wr wz:World} {E:Nat->Addr} {x:Option Addr} {L:List Ck} {B:Nat} {r:Rd} (h:RdS w wr E x L B r) (hE:Ext wr wz):RdS w wz E x L B r:=
 ⟨h.X.trans hE,h.Q.ext hE,h.C.ext hE,h.E.ext hE,h.T.ext hE,h.R.ext hE,h.lt⟩
structure RdQ (w wr:World) (E:Nat->Addr):Prop where
 X:Ext w wr
 Q:Bk wr w.heap.size #[.int .i64 0,.int .i64 0,.slice none 0 0]
 E:Errs wr E
theorem RdQ.ext {w wr wz:World} {E:Nat->Addr} (h:RdQ w wr E) (hE:Ext wr wz):RdQ w wz E:=⟨h.X.trans hE,h.Q.ext hE,h.E.ext hE⟩
theorem RdS.q {w wr:World} {E:Nat->Addr} {x:Option Addr} {L:List Ck} {B:Nat} {r:Rd} (h:RdS w wr E x L B r):RdQ w wr E:=⟨h.X,h.Q,h.E⟩
theorem Errs.ctop {w:World} {E:Nat->Addr} (h:Errs w E):ErrC w E:=h.c
def UpV (E:Nat->Addr) (r:Except Nat ByteArray) (t:ByteArray) (v:Value):Prop:=
 match r with
 | .ok u=>t=u/\v=.nilIface
 | .error c=>t=⟨#[]⟩/\v=sentV (E c)
theorem zqL {w w':World} {E:Nat->Addr} {r:Except Nat ByteArray} {e:Ending} (h:zlM w w' E r e):Ext w w'/\∃t v,e=.returned (.tuple #[.string t,v])/\UpV E r t v:=by
 obtain⟨h1,h2⟩:=h;cases r with
 | ok u=>exact⟨h1,u,.nilIface,h2,rfl,rfl⟩
 | error c=>exact⟨h1,⟨#[]⟩,sentV (E c),h2,rfl,rfl⟩
theorem zf0 {h c:Ck} {L:List Ck} {n:Nat} (hn:(h ::L).length=n) (hc:(h ::L)[n-1]? =some c):Png.zcq L↔(1<n/\c.k=Png.iend/\c.d=⟨#[]⟩):=by
 unfold Png.zcq;cases L with
 | nil=>
  have:n=1:=by rw[<- hn];rfl
  constructor
  ·rintro⟨h1,_⟩;exact absurd rfl h1
  rintro⟨h1,_⟩;omega
 | cons b M=>
  have hl:n-1=(b ::M).length:=by rw[<- hn];rfl
  have h2:1<n:=by rw[<- hn];simp
  rw[hl] at hc;have h3:(h ::b ::M)[(b ::M).length]? =(b ::M).getLast?:=by
   rw[List.getLast?_eq_getElem?];rfl
  rw[h3] at hc;rw[hc];constructor
  ·rintro⟨_,e⟩;simp only[Option.map_some,Option.some.injEq,Prod.mk.injEq] at e;exact⟨h2,e.1,e.2⟩
  rintro⟨_,e1,e2⟩;exact⟨by simp,by simp[e1,e2]⟩
theorem zjt {h:Ck} {L:List Ck} {i:Nat} (h1:1<=i) (hi:i-1<L.dropLast.length):(h ::L)[i]? =some L.dropLast[i-1]:=by
 obtain⟨j,rfl⟩:∃j,i=j+1:=⟨i-1,by omega⟩;have hj:j<L.dropLast.length:=hi;have hj2:j<L.length:=by rw[List.length_dropLast] at hj;omega
 show L[j]? =_;rw[qai hj2];congr 1
 exact (List.getElem_dropLast hj).symm
theorem RdS.turn {w w0 wr wz:World} {E:Nat->Addr} {x:Option Addr} {L:List Ck} {B:Nat} {r r':Rd} (hB:w0.heap.size=B) (hX:Ext w w0) (hQ:Bk w0 w.heap.size #[.int .i64 0,.int .i64 0,.slice none 0 0]) (hC:Cks w0 x L) (hE:Errs w0 E) (hT:Tabs w0) (h:RdS w wr E x L B r) (hl:Below B w0 wz) (hR:RdAt B B r' wz):RdS w wz E x L B r':=by
 subst hB;exact⟨hX.trans hl,hQ.ext hl,hC.ext hl,hE.ext hl,hT.ext hl,hR,h.lt⟩
set_option maxHeartbeats 40000000 in
theorem zgH (s:ByteArray) (w:World) (E:Nat->Addr) (hE:Errs w E) (hT:Tabs w) (hs:s.size<=300000):
  Calls Tryz.prog 10 #[.string s] w λ e w'=>zl0 w w' E (Png.picR s) e:=by
 obtain⟨res,hres⟩:=nmE (Png.picR s);rw[hres];unfold Png.picR at hres;have HS:=Hd hs;have HGN:Hid (∀i,(⟨w.heap.size,i,none⟩:Addr)≠⟨1,0,none⟩):=Hd (λ i e=>by have h:=qab w _ (hE.var 0 (by decide));injection e with e _;have h2:(1 :Nat)<w.heap.size:=h;omega);go_enter Tryz.func10,Tryz.ntmps10
 go_upto_region 1 with fail;refine zac (λ wz=>Ext w wz/\Bk wz w.heap.size #[.int .i64 0,.int .i64 0,.slice none 0 0]/\wz.heap.size=w.heap.size+1) ⟨(Ext.refl w).alloc _,Bk.at rfl,qb8 _ _⟩ ?_;rintro v0 ⟨hX,hQ,hz⟩;have X0:=Hd hX;have Q0:=Hd hQ;have Z0:=Hd hz;have E0:=Hd (hE.ext hX);have T0:=Hd (hT.ext hX);clear hX hQ hz hE hT;have HRD:=Hd (zob s v0 E E0.out.c hs);go_wp2_with fail;refine HRD.out.mono ?_;rintro e v1 ⟨hX,hr⟩;have X1:=Hd (X0.out.trans hX);have Q1:=Hd (Q0.out.ext hX);have E1:=Hd (E0.out.ext hX);have T1:=Hd (T0.out.ext hX);have Z1:=Hd (show w.heap.size<v1.heap.size from by have:=hX.size;have:=Z0.out;omega);clear hX HRD X0 Q0 E0 T0 Z0;rcases hr with⟨L0,x,c,hrl,rfl,hC⟩ | ⟨ce,ie,F,hce,hie,hrl,rfl,hF⟩
 ·rw[hrl] at hres;(try simp only at hres);obtain⟨hok,hsum,hlen⟩:=Png.zfL HS.out hrl;have HOK:=Hd hok;have HSUM:=Hd hsum;clear hok hrl hsum;go_upto_region 5 with fail;refine zac (λ wz=>RdS w wz E x L0 v1.heap.size (Png.rd0 0 0 0 0)/\Ext v1 wz) ⟨⟨X1.out.alloc _,Q1.out.ext ((Ext.refl _).alloc _),hC.ext ((Ext.refl _).alloc _),E1.out.ext ((Ext.refl _).alloc _),T1.out.ext ((Ext.refl _).alloc _),RdAt.start v1,Z1.out⟩,(Ext.refl _).alloc _⟩ ?_;rintro v2 ⟨hS,hO⟩;have C1:=Hd hC;have O2:=Hd hO;clear hC hO;obtain⟨B,hB⟩:=nmE (v1.heap.size);rw[hB] at hS⊢;have S2:=Hd hS;have HB:=Hd hB;clear hS hB;cases L0 with
  | nil=>
   have SQ:=Hd S2.out.q;(try simp only at hres);(try subst hres);go_upto_region 6 with fail;have S_0:=SQ;refine qar (S:=λ w'=>w'.cell? ⟨1,0,none⟩=some (.iface 275 (.pointer (some (E 0))))) (by kernel_rfl) ((zaj S_0.out.E (Ext.refl _)).1) (λ hHeld=>?_);clear hHeld;refine zab (λ wz=>Ext v2 wz) (show Ext v2 v2.drew from qag (Ext.refl v2)) ?_;exact Yfu0
  | cons h L=>
   obtain⟨n,hn⟩:=nmE ((h ::L).length);have HN:=Hd hn;have hn1:1<=n:=by rw[<- hn];simp
   have hnb:n<=300000:=by rw[<- hn];exact hlen
   rw[hn];have t0:(((n:Nat):Int) ==0)=false:=zal (by omega);obtain⟨a,rfl⟩:=S2.out.C.isSome (i:=0) (by rw[hn];omega);obtain⟨c0,c1⟩:=S2.out.C.2 a rfl 0 h rfl;have c0:v2.cell? a=some (.string h.k):=c0;have c1:v2.cell? ⟨a.block,a.off+1,none⟩=some (.string h.d):=c1;clear hn hlen;have hi0:(0:Int)<(n:Int):=by omega
   have hi1:0<n:=by omega
   have hgB:∀c,c<4->gk c<B:=λ q hq=>by
    have h1:=qab v1 _ (E1.out.var q (by omega));have h2:gk q<v1.heap.size:=h1;rw[HB.out] at h2;exact h2
   have HGB:=Hd hgB;clear hgB;have HHD:=Hd (zo5 B B h.k h.d v2 E S2.out.E.ctop S2.out.R (HOK.out h (qbc ..)).1.k (HOK.out h (qbc ..)).1.d (Nat.le_of_lt S2.out.R.lt) HGB.out);go_wp2_with fail;refine HHD.out.mono ?_;rintro e v3 ⟨hBl,he⟩;clear HHD c0 c1 hi0 hi1 t0;have O3:Hid (Ext v1 v3):=Hd (O2.out.trans_below HB.out hBl);cases hh:Png.headR h with
   | bad ce=>
    have he:e=.returned (sentV (E ce)):=by
     rw[show (⟨h.k,h.d⟩:Ck)=h from rfl,hh] at he;exact he
    subst he;have hce:=Png.znV hh;rw[hh] at hres;(try simp only at hres);subst hres;unfold sentV;have hQ:=Q1.out.ext O3.out;have hX:=X1.out.trans O3.out;exact Yfu1
   | ok W H dep kd=>
    have he:e=.returned .nilIface/\RdAt B B (Png.rd0 W H dep kd) v3:=by
     rw[show (⟨h.k,h.d⟩:Ck)=h from rfl,hh] at he;exact he
    obtain⟨rfl,hRA⟩:=he;have HHO:=Hd (Png.zjZ hh);rw[hh] at hres;(try simp only at hres);have S3:=Hd (RdS.turn HB.out X1.out Q1.out C1.out E1.out T1.out S2.out (HB.out▸O3.out) hRA);clear S2 O2 hRA hh hBl;obtain⟨r0,hr0⟩:=nmE (Png.rd0 W H dep kd);have HR0:=Hd hr0;rw[hr0] at S3 hres;clear hr0;obtain⟨m,hm⟩:=nmE (n-1);have hmi:(n:Int)-1=(m:Int):=by omega
    have hmn:m<(h ::L).length:=by rw[HN.out];omega
    obtain⟨lc,hlc⟩:∃c,(h ::L)[m]? =some c:=⟨_,qai hmn⟩;obtain⟨c0,c1⟩:=S3.out.C.2 a rfl m lc hlc;have HLC:=Hd hlc;have HMM:=Hd hm;obtain⟨wa,wb⟩:=pwq (x:=(m:Int)) ⟨by omega,by omega⟩;have i0:(0:Int)<=(m:Int):=by omega
    have i1:(m:Int)<(n:Int):=by omega
    clear hlc hm hmn;go_upto_region 11 with fail;refine zac (λ wz=>RdS w wz E (some a) (h ::L) B r0/\Ext v1 wz/\Bk wz v3.heap.size #[.string lc.k,.string lc.d]) ?hw ?_
    case hw=>exact⟨S3.out.ext ((Ext.refl _).alloc _),O3.out.trans ((Ext.refl _).alloc _),Bk.at rfl⟩
    rintro v4 ⟨hS,hO,hB⟩;obtain⟨T8,hT8⟩:=nmE (v3.heap.size);rw[hT8] at hB⊢;have S4:=Hd hS;have O4:=Hd hO;have B8:=Hd hB;clear hS hO hB hT8 S3 O3 c0 c1 wa wb i0 i1 hmi;obtain⟨ok0,hok0⟩:∃b:Bool,decide (1<n/\lc.k=Png.iend/\lc.d=⟨#[]⟩)=b:=⟨_,rfl⟩;have HO0:=Hd hok0;have y0:=B8.out.cell 0;have y1:=B8.out.cell 1;go_cut [9] (λ s9 wx=>s9=.bool ok0/\wx=v4)
    case first=>
     by_cases q1:1<n
     ·have t1:=dT (p:=(1:Int)<(n:Int));by_cases q2:lc.k=Png.iend
      ·have t2:=pkyes q2;by_cases q3:lc.d=⟨#[]⟩
       ·have t3:(lc.d.toList ==[])=true:=pkyes q3;have t4:lc.d.toList.isEmpty=true:=zbW _ (by rw[q3];rfl);have hv:ok0=true:=by rw[<- hok0];exact qae ⟨q1,q2,q3⟩
        have HV:=Hd hv;clear hv hok0 q2 q3;go_wp2_with fail;go_meet
        exact⟨by rw[HV.out],rfl⟩
       have t3:(lc.d.toList ==[])=false:=pkno q3;have t4:lc.d.toList.isEmpty=false:=zcg _ (λ e=>q3 (bext (qav e)));have hv:ok0=false:=by rw[<- hok0];exact qaf (λ q=>q3 q.2.2)
       have HV:=Hd hv;clear hv hok0 q2 q3;go_wp2_with fail;go_meet
       exact⟨by rw[HV.out],rfl⟩
      have t2:=pkno q2;have hv:ok0=false:=by rw[<- hok0];exact qaf (λ q=>q2 q.2.1)
      have HV:=Hd hv;clear hv hok0 q2;go_wp2_with fail;go_meet
      exact⟨by rw[HV.out],rfl⟩
     have t1:=dF (p:=(1:Int)<(n:Int));have hv:ok0=false:=by rw[<- hok0];exact qaf (λ q=>q1 q.1)
     have HV:=Hd hv;clear hv hok0;go_wp2_with fail;go_meet
     exact⟨by rw[HV.out],rfl⟩
    obtain⟨rfl,rfl⟩:=hcut;clear hok0 y0 y1 B8;have HLO:Hid (ok0=true↔Png.zcq L):=Hd (by rw[<- HO0.out,qaP];exact (zf0 HN.out (by rw[HMM.out];exact HLC.out)).symm);clear HO0 HLC HMM;obtain⟨ms,hms⟩:=nmE (L.dropLast);have HMS:=Hd hms;have hml:ms.length=n-2:=by rw[<- hms,List.length_dropLast,<- HN.out,qaR];omega
    clear hms;have HMO:Hid (∀c∈ms,c.Ok/\kindB c.k.data.toList=true):=Hd (λ q hq=>HOK.out q (qaQ _ (by rw[<- HMS.out] at hq;exact List.dropLast_subset _ hq)));have HMU:Hid (Png.sumC ms<=300000):=Hd (by have h1:=Png.zhW L;rw[HMS.out] at h1;have h2:=HSUM.out;have h3:Png.sumC (h ::L)=12+h.d.size+Png.sumC L:=rfl;omega);have HD0:Hid (r0.data.length=0/\r0.colors.size<=300000/\r0.alphas.size<=300000/\r0.colors.size%3=0/\(r0.kind=3->Png.IsDep r0.depth)):=Hd (by
     rw[<- HR0.out];refine⟨rfl,by show (0:Nat)<=_;omega,by show (0:Nat)<=_;omega,rfl,λ _=>?_⟩;show Png.IsDep dep;rcases HHO.out.2.2.2.2.2 with q | ⟨_,q | q | q⟩
     ·exact .inr (.inr (.inr q))
     ·exact .inl q
     ·exact .inr (.inl q)
     exact .inr (.inr (.inl q)))
    go_wp2_with fail;go_loopw [9,10] (λ okv iv wr=>∃i:Nat,iv=.int .i64 (i:Int)/\1<=i/\i<=ms.length+1/\okv=.bool (ok0&&Png.runB r0 (ms.take (i-1)))/\Hid (RdS w wr E (some a) (h ::L) B (Png.runR r0 (ms.take (i-1))))/\Hid (Ext v1 wr)) (λ _ iv _=>n-(intOf iv).toNat)
    case atStart=>exact⟨1,rfl,by omega,by omega,by simp[Png.runB],S4,O4⟩
    case round=>
     clear S4 O4;obtain⟨i,rfl,hi1,hi2,rfl,SI,OI⟩:=hrel;obtain⟨okk,hokk⟩:∃b:Bool,(ok0&&Png.runB r0 (ms.take (i-1)))=b:=⟨_,rfl⟩;have HKK:=Hd hokk;rw[hokk];clear hokk;obtain⟨rr,hrr⟩:=nmE (Png.runR r0 (ms.take (i-1)));have HRR:=Hd hrr;rw[hrr] at SI;clear hrr;have hi3:(i:Int)+1=((i+1:Nat):Int):=by omega
     obtain⟨ip,hip⟩:∃q:Nat,i+1=q:=⟨_,rfl⟩;rw[hip] at hi3;obtain⟨wa,wb⟩:=pwq (x:=(ip:Int)) ⟨by omega,by omega⟩;by_cases hlt:ip<n
     ·have t1:=dT (p:=(ip:Int)<(n:Int));have hms:i-1<ms.length:=by omega
      obtain⟨ck,hck⟩:=nmE (ms[i-1]);have hci:(h ::L)[i]? =some ck:=by
       have hq:i-1<L.dropLast.length:=by rw[HMS.out];exact hms
       rw[zjt hi1 hq,<- hck];congr 1
       exact getElem_congr_coll HMS.out
      obtain⟨c0,c1⟩:=SI.out.C.2 a rfl i ck hci;have hmem:ck∈ms:=by rw[<- hck];exact qcA hms
      have htk:ms.take (i-1+1)=ms.take (i-1) ++ [ck]:=by rw[qbS,qai hms,hck];rfl
      have HSM:Hid (rr.kind=r0.kind/\rr.depth=r0.depth):=Hd (by rw[<- HRR.out];have q:=Png.zcx r0 (ms.take (i-1));exact⟨q.2.2.2,q.2.2.1⟩);have HLN:Hid (rr.data.length<=300000):=Hd (by rw[<- HRR.out];have q:=Png.zev r0 (ms.take (i-1));have q2:=Png.zfd ms (i-1);have q3:=HMU.out;have q4:=HD0.out.1;omega);have HCL:Hid (rr.colors.size<=300000):=Hd (by rw[<- HRR.out];exact (Png.zes r0 _ ⟨HD0.out.2.1,HD0.out.2.2.1⟩ (λ q hq=>(HMO.out q (List.mem_of_mem_take hq)).1)).1);have HON:=Hd (zpS B B rr ck.k ck.d wr SI.out.R (by have q:=(HMO.out ck hmem).2;unfold kindB at q;simp at q;exact q.1) (Nat.le_of_lt SI.out.R.lt) (HMO.out ck hmem).1.d (by have q:=(HMO.out ck hmem).1.d;have q2:=HLN.out;omega) (by rw[HSM.out.1,HSM.out.2];exact HD0.out.2.2.2.2) HCL.out);have HTK:=Hd htk;have i0:(0:Int)<=(i:Int):=by omega
      have i1:(i:Int)<(n:Int):=by omega
      clear htk hmem hci hck HSM HLN HCL;go_wp2_with fail;refine HON.out.mono ?_;rintro e w7 ⟨rfl,hR,hBl⟩;clear c0 c1 HON;have O7:Hid (Ext v1 w7):=Hd (OI.out.trans_below HB.out hBl);have S7:=Hd (RdS.turn HB.out X1.out Q1.out C1.out E1.out T1.out SI.out (HB.out▸O7.out) hR);clear hR hBl;obtain⟨ob,hob⟩:∃b:Bool,Png.onB rr ⟨ck.k,ck.d⟩=b:=⟨_,rfl⟩;have HOB:=Hd hob;rw[hob];clear hob;have HNX:Hid ((ok0&&Png.runB r0 (ms.take (ip-1)))=(okk&&ob)/\Png.runR r0 (ms.take (ip-1))=Png.onR rr ⟨ck.k,ck.d⟩):=Hd (by
       rw[show ip-1=i-1+1 by omega,HTK.out,Png.zd9,Png.zgY,HRR.out,<- Bool.and_assoc,HKK.out];exact⟨by rw[<- HOB.out],rfl⟩)
      clear HTK HKK HRR;cases okk
      ·go_wp2_with fail;exact Yfu2
      go_wp2_with fail;exact Yfu2
     have t1:=dF (p:=(ip:Int)<(n:Int));have hie:i-1=ms.length:=by omega
     rw[hie,List.take_length] at HKK HRR;have HSM:Hid (rr.wide=r0.wide/\rr.high=r0.high/\rr.depth=r0.depth/\rr.kind=r0.kind):=Hd (by rw[<- HRR.out];exact Png.zcx r0 ms);have HLN:Hid (rr.data.length<=300000):=Hd (by rw[<- HRR.out];have q:=Png.zev r0 ms;have q3:=HMU.out;have q4:=HD0.out.1;omega);have HCL:Hid (rr.colors.size<=300000/\rr.alphas.size<=300000):=Hd (by rw[<- HRR.out];exact Png.zes r0 _ ⟨HD0.out.2.1,HD0.out.2.2.1⟩ (λ q hq=>(HMO.out q hq).1));have HRL:Hid (Png.runR r0 L.dropLast=rr):=Hd (by rw[HMS.out];exact HRR.out);have HBL:Hid ((okk=true)↔(Png.zcq L/\Png.runB r0 L.dropLast=true)):=Hd (by rw[HMS.out,<- HKK.out,Bool.and_eq_true,HLO.out]);have HTH:Hid (okk=true->rr.colors.size%3=0):=Hd (λ q=>by rw[<- HRR.out];refine Png.zgw r0 ms HD0.out.2.2.2.1 ?_;have:=(HBL.out.1 q).2;rw[HMS.out] at this;exact this);clear HKK HRR hie;obtain⟨bb,hbb⟩:∃b:Bool,(!okk || decide (rr.st=0\/(rr.kind=3/\rr.hc=false)))=b:=⟨_,rfl⟩;have HBB:=Hd hbb;go_upto_region 17 with fail;clear hi3 wa wb hlt t1;obtain⟨_,_,_,f3,_,_,f6,_,f10⟩:=SI.out.R.flds;go_cut [98] (λ s98 wx=>s98=.bool bb/\wx=wr)
     case first=>
      cases okk
      ·have hv:bb=true:=by rw[<- hbb];rfl
       have HV:=Hd hv;clear hv hbb;go_wp2_with fail;go_meet
       exact⟨by rw[HV.out],rfl⟩
      by_cases s0:rr.st=0
      ·have t2:(((rr.st:Nat):Int) ==0)=true:=zav (by omega);have hv:bb=true:=by rw[<- hbb];simp[s0]
       have HV:=Hd hv;clear hv hbb;go_wp2_with fail;go_meet
       exact⟨by rw[HV.out],rfl⟩
      have t2:(((rr.st:Nat):Int) ==0)=false:=zal (by omega);by_cases s3:rr.kind=3
      ·have t3:(((rr.kind:Nat):Int) ==3)=true:=zav (by omega);cases hhc:rr.hc
       ·have hv:bb=true:=by rw[<- hbb];simp[s0,s3,hhc]
        exact Yfu3
       have hv:bb=false:=by rw[<- hbb];simp[s0,s3,hhc]
       exact Yfu3
      have t3:(((rr.kind:Nat):Int) ==3)=false:=zal (by omega);have hv:bb=false:=by rw[<- hbb];simp[s0,s3]
      have HV:=Hd hv;clear hv hbb s3 s0;go_wp2_with fail;go_meet
      exact⟨by rw[HV.out],rfl⟩
     obtain⟨rfl,rfl⟩:=hcut;clear hbb f3 f6 f10;have SQ:=Hd SI.out.q;cases bb
     ·have hk0:okk=true:=by have q:=HBB.out;cases okk;cases q;rfl
      have hn0:¬ (rr.st=0\/(rr.kind=3/\rr.hc=false)):=by have q:=HBB.out;rw[hk0] at q;simpa using q
      have hgo:=Png.zkb (HBL.out.1 hk0) HRL.out hn0;rw[hgo] at hres;clear hgo hn0;have H3:=HTH.out hk0;clear HBB HBL HTH hk0;rename World=>wF;have HKF:Hid (1<=rr.wide/\rr.wide<=256/\1<=rr.high/\rr.high<=256/\Png.byN rr.kind≠0/\Png.depOk rr.kind rr.depth):=Hd (by
       obtain⟨q1,q2,q3,q4⟩:=HSM.out;rw[q1,q2,q3,q4,<- HR0.out];exact HHO.out)
      obtain⟨by_,hby⟩:=nmE (Png.byN rr.kind);obtain⟨wd,hwd⟩:=nmE (Png.rowN rr);have HBY:=Hd hby
      have HWD:=Hd hwd;rw[hby,hwd] at hres;have hb4:by_<=4/\1<=by_:=by rw[<- hby];exact⟨Png.zfh _,by have:=HKF.out.2.2.2.2.1;omega⟩
      have hd8:rr.depth<=8/\1<=rr.depth:=by rcases HKF.out.2.2.2.2.2 with h | ⟨_,h | h | h⟩ <;> omega
      have hw1:1<=rr.wide/\rr.wide<=256:=⟨HKF.out.1,HKF.out.2.1⟩;obtain⟨p1,hp1⟩:∃q:Nat,rr.wide*by_=q:=⟨_,rfl⟩;obtain⟨p2,hp2⟩:∃q:Nat,p1*rr.depth=q:=⟨_,rfl⟩;have hp1b:1<=p1/\p1<=1024:=by rw[<- hp1];exact⟨qaE hw1.1 hb4.2,qaE hw1.2 hb4.1⟩
      have hp2b:1<=p2/\p2<=8192:=by rw[<- hp2];exact⟨qaE hp1b.1 hd8.2,qaE hp1b.2 hd8.1⟩
      have m1:(rr.wide:Int)*(by_:Int)=(p1:Int):=by rw[<- hp1];push_cast;rfl
      have m2:(p1:Int)*(rr.depth:Int)=(p2:Int):=by rw[<- hp2];push_cast;rfl
      have hwv:(p2+7)/8=wd:=by rw[<- hwd];unfold Png.rowN;rw[hby,hp1,hp2]
      have m3:((p2:Int)+7).tdiv 8=(wd:Int):=by rw[<- hwv];rfl
      have hwdb:1<=wd/\wd<=1100:=by omega
      obtain⟨wa1,wb1⟩:=pwq (x:=(p1:Int)) ⟨by omega,by omega⟩;obtain⟨wa2,wb2⟩:=pwq (x:=(p2:Int)) ⟨by omega,by omega⟩;obtain⟨wa3,wb3⟩:=pwq (x:=(p2:Int)+7) ⟨by omega,by omega⟩;obtain⟨wa4,wb4⟩:=pwq (x:=(wd:Int)) ⟨by omega,by omega⟩;have HKO:Hid (OkI (rr.kind:Int)):=Hd (by
       have hk6:rr.kind<=6:=by rcases Png.kinds HKF.out.2.2.2.2.1 with h | h | h | h <;> omega
       unfold OkI;omega)
      have HSP:Hid (smp (rr.kind:Int)=some by_):=Hd (by rw[Png.zh4,hby,qac (by omega)]);clear hp1 hp2 hwv hby hwd;obtain⟨pp,pv,_,hK,_⟩:=SI.out.R.cells;have K_0:Hid (Bk wF B #[.int .i64 (rr.wide:Int),.int .i64 (rr.high:Int),.int .i64 (rr.depth:Int),.int .i64 (rr.kind:Int),.string rr.colors,.string rr.alphas,.bool rr.hc,.bool rr.ha,pp,pv,.int .i64 (rr.st:Int)]):=Hd hK;have O_0:=OI;have R_0:=Hd SI.out.R;clear hK SI OI SQ;go_upto_region 19 with fail;have k0:=K_0.out.cell 0;have k1:=K_0.out.cell 1;have k2:=K_0.out.cell 2;have k3:=K_0.out.cell 3;have k4:=K_0.out.cell 4;have k5:=K_0.out.cell 5;have k6:=K_0.out.cell 6;have k7:=K_0.out.cell 7;have k8:=K_0.out.cell 8;have k9:=K_0.out.cell 9;have k10:=K_0.out.cell 10;refine qar (S:=λ w'=>w'.cell? ⟨B,0,none⟩=some (.int .i64 (rr.wide:Int))/\w'.cell? ⟨B,1,none⟩=some (.int .i64 (rr.high:Int))/\w'.cell? ⟨B,2,none⟩=some (.int .i64 (rr.depth:Int))/\w'.cell? ⟨B,3,none⟩=some (.int .i64 (rr.kind:Int))/\w'.cell? ⟨B,4,none⟩=some (.string rr.colors)/\w'.cell? ⟨B,5,none⟩=some (.string rr.alphas)/\w'.cell? ⟨B,6,none⟩=some (.bool rr.hc)/\w'.cell? ⟨B,7,none⟩=some (.bool rr.ha)/\w'.cell? ⟨B,8,none⟩=some (pp)/\w'.cell? ⟨B,9,none⟩=some (pv)/\w'.cell? ⟨B,10,none⟩=some (.int .i64 (rr.st:Int))) (by kernel_rfl) ⟨K_0.out.cell 0,K_0.out.cell 1,K_0.out.cell 2,K_0.out.cell 3,K_0.out.cell 4,K_0.out.cell 5,K_0.out.cell 6,K_0.out.cell 7,K_0.out.cell 8,K_0.out.cell 9,K_0.out.cell 10⟩ (λ hHeld=>?_)
      clear hHeld;clear k0 k1 k2 k3 k4 k5 k6 k7 k8 k9 k10;refine zab (λ wz=>Ext wF wz) (show Ext wF wF.drew from qag (Ext.refl wF)) ?_;rintro s1 h;have K_1:=Hd (K_0.out.ext h);have O_1:=Hd (O_0.out.trans h);have R_1:=Hd (R_0.out.ext h);clear h K_0 O_0 R_0;have hHeld:s1.cell? ⟨B,0,none⟩=some (.int .i64 (rr.wide:Int))/\s1.cell? ⟨B,1,none⟩=some (.int .i64 (rr.high:Int))/\s1.cell? ⟨B,2,none⟩=some (.int .i64 (rr.depth:Int))/\s1.cell? ⟨B,3,none⟩=some (.int .i64 (rr.kind:Int))/\s1.cell? ⟨B,4,none⟩=some (.string rr.colors)/\s1.cell? ⟨B,5,none⟩=some (.string rr.alphas)/\s1.cell? ⟨B,6,none⟩=some (.bool rr.hc)/\s1.cell? ⟨B,7,none⟩=some (.bool rr.ha)/\s1.cell? ⟨B,8,none⟩=some (pp)/\s1.cell? ⟨B,9,none⟩=some (pv)/\s1.cell? ⟨B,10,none⟩=some (.int .i64 (rr.st:Int)):=⟨K_1.out.cell 0,K_1.out.cell 1,K_1.out.cell 2,K_1.out.cell 3,K_1.out.cell 4,K_1.out.cell 5,K_1.out.cell 6,K_1.out.cell 7,K_1.out.cell 8,K_1.out.cell 9,K_1.out.cell 10⟩;refine tk5 0 1 2 3 5 ?_;refine tk5 6 7 8 11 12 ?_;refine tk2 13 14 ?_;refine rdH 4 rfl λ KK hK=>?_;clear hHeld;go_simp;refine (zcl s1).mono ?_;rintro e s2 ⟨mb,rfl,hmi,h⟩;have HMI:=Hd hmi;clear hmi;have K_2:=Hd (K_1.out.ext h);have O_2:=Hd (O_1.out.trans h);have R_2:=Hd (R_1.out.ext h);clear h K_1 O_1 R_1;go_simp;refine oS hK ⟨K_2.out.cell 0,K_2.out.cell 1,K_2.out.cell 2,K_2.out.cell 3,K_2.out.cell 4,K_2.out.cell 5,K_2.out.cell 6,K_2.out.cell 7,K_2.out.cell 8,K_2.out.cell 9,K_2.out.cell 10⟩ λ hHeld=>?_
      clear hK KK;refine rdH 9 rfl λ KK hK=>?_;clear hHeld;have tl:=HMI.out.get HKO.out HSP.out;go_simp;refine oS hK ⟨K_2.out.cell 0,K_2.out.cell 1,K_2.out.cell 2,K_2.out.cell 3,K_2.out.cell 4,K_2.out.cell 5,K_2.out.cell 6,K_2.out.cell 7,K_2.out.cell 8,K_2.out.cell 9,K_2.out.cell 10⟩ λ hHeld=>?_;clear hK KK tl HMI;refine tk5 10 15 16 17 18 ?_;refine dnT ?_;clear hHeld;clear m1 m2 m3 wa1 wb1 wa2 wb2 wa3 wb3 wa4 wb4;obtain⟨ru,hru⟩:=nmE (Png.unp ⟨rr.data.toArray⟩ rr.high wd by_);have HRU:=Hd hru;rw[hru] at hres;clear hru;go_upto_region 20 with fail;have k0:=K_2.out.cell 0;have k1:=K_2.out.cell 1;have k2:=K_2.out.cell 2;have k3:=K_2.out.cell 3;have k4:=K_2.out.cell 4;have k5:=K_2.out.cell 5;have k6:=K_2.out.cell 6;have k7:=K_2.out.cell 7;have k8:=K_2.out.cell 8;have k9:=K_2.out.cell 9;have k10:=K_2.out.cell 10;refine qar (S:=λ w'=>w'.cell? ⟨B,0,none⟩=some (.int .i64 (rr.wide:Int))/\w'.cell? ⟨B,1,none⟩=some (.int .i64 (rr.high:Int))/\w'.cell? ⟨B,2,none⟩=some (.int .i64 (rr.depth:Int))/\w'.cell? ⟨B,3,none⟩=some (.int .i64 (rr.kind:Int))/\w'.cell? ⟨B,4,none⟩=some (.string rr.colors)/\w'.cell? ⟨B,5,none⟩=some (.string rr.alphas)/\w'.cell? ⟨B,6,none⟩=some (.bool rr.hc)/\w'.cell? ⟨B,7,none⟩=some (.bool rr.ha)/\w'.cell? ⟨B,8,none⟩=some (pp)/\w'.cell? ⟨B,9,none⟩=some (pv)/\w'.cell? ⟨B,10,none⟩=some (.int .i64 (rr.st:Int))) (by kernel_rfl) ⟨K_2.out.cell 0,K_2.out.cell 1,K_2.out.cell 2,K_2.out.cell 3,K_2.out.cell 4,K_2.out.cell 5,K_2.out.cell 6,K_2.out.cell 7,K_2.out.cell 8,K_2.out.cell 9,K_2.out.cell 10⟩ (λ hHeld=>?_)
      clear hHeld;clear k0 k1 k2 k3 k4 k5 k6 k7 k8 k9 k10;refine zab (λ wz=>Ext s2 wz) (show Ext s2 s2.drew from qag (Ext.refl s2)) ?_;rintro s3 h;have K_3:=Hd (K_2.out.ext h);have O_3:=Hd (O_2.out.trans h);have R_3:=Hd (R_2.out.ext h);clear h K_2 O_2 R_2;have hHeld:s3.cell? ⟨B,0,none⟩=some (.int .i64 (rr.wide:Int))/\s3.cell? ⟨B,1,none⟩=some (.int .i64 (rr.high:Int))/\s3.cell? ⟨B,2,none⟩=some (.int .i64 (rr.depth:Int))/\s3.cell? ⟨B,3,none⟩=some (.int .i64 (rr.kind:Int))/\s3.cell? ⟨B,4,none⟩=some (.string rr.colors)/\s3.cell? ⟨B,5,none⟩=some (.string rr.alphas)/\s3.cell? ⟨B,6,none⟩=some (.bool rr.hc)/\s3.cell? ⟨B,7,none⟩=some (.bool rr.ha)/\s3.cell? ⟨B,8,none⟩=some (pp)/\s3.cell? ⟨B,9,none⟩=some (pv)/\s3.cell? ⟨B,10,none⟩=some (.int .i64 (rr.st:Int)):=⟨K_3.out.cell 0,K_3.out.cell 1,K_3.out.cell 2,K_3.out.cell 3,K_3.out.cell 4,K_3.out.cell 5,K_3.out.cell 6,K_3.out.cell 7,K_3.out.cell 8,K_3.out.cell 9,K_3.out.cell 10⟩;refine tk5 0 1 2 4 5 ?_;refine tk5 6 7 8 10 11 ?_;refine tk2 12 13 ?_;refine rdH 3 rfl λ KK hK=>?_;clear hHeld;go_simp;refine (zi7 B B rr s3 R_3.out).mono ?_;rintro e s4 ⟨rfl,hKB,hMM,hBl⟩;have K_N:=Hd (hKB _ K_3.out);have O_N:=Hd (O_3.out.trans_below HB.out hBl);clear hKB hMM hBl K_3 O_3 R_3;have K_4:=K_N;have O_4:=O_N;clear K_N O_N;go_simp;refine oS hK ⟨K_4.out.cell 0,K_4.out.cell 1,K_4.out.cell 2,K_4.out.cell 3,K_4.out.cell 4,K_4.out.cell 5,K_4.out.cell 6,K_4.out.cell 7,K_4.out.cell 8,K_4.out.cell 9,K_4.out.cell 10⟩ λ hHeld=>?_
      clear hK KK;refine rdH 9 rfl λ KK hK=>?_;clear hHeld;go_simp;refine (zcl s4).mono ?_;rintro e s5 ⟨mb,rfl,hmi,h⟩;have HMI:=Hd hmi;clear hmi;have K_5:=Hd (K_4.out.ext h);have O_5:=Hd (O_4.out.trans h);clear h K_4 O_4;go_simp;refine oS hK ⟨K_5.out.cell 0,K_5.out.cell 1,K_5.out.cell 2,K_5.out.cell 3,K_5.out.cell 4,K_5.out.cell 5,K_5.out.cell 6,K_5.out.cell 7,K_5.out.cell 8,K_5.out.cell 9,K_5.out.cell 10⟩ λ hHeld=>?_;clear hK KK;refine rdH 14 rfl λ KK hK=>?_;clear hHeld;have tl:=HMI.out.get HKO.out HSP.out;go_simp;refine oS hK ⟨K_5.out.cell 0,K_5.out.cell 1,K_5.out.cell 2,K_5.out.cell 3,K_5.out.cell 4,K_5.out.cell 5,K_5.out.cell 6,K_5.out.cell 7,K_5.out.cell 8,K_5.out.cell 9,K_5.out.cell 10⟩ λ hHeld=>?_;clear hK KK tl HMI;refine rdH 15 rfl λ KK hK=>?_;clear hHeld;go_simp;refine (zko ⟨rr.data.toArray⟩ rr.high wd by_ s5 E (E1.out.ext O_5.out) (T1.out.ext O_5.out) (by show rr.data.toArray.size<=_;have:=HLN.out;rw[qb5];unfold maxLen;omega) (qam (qaE HKF.out.2.2.2.1 (show wd+1<=1101 by omega)) (by decide)) (by omega) (by have:=HKF.out.2.2.2.1;omega) (by omega)).mono ?_;rintro e s6 hup;obtain⟨h,t,ev,rfl,hv⟩:=zqL hup;rw[HRU.out] at hv;have HV:=Hd hv;clear hup hv;have K_6:=Hd (K_5.out.ext h);have O_6:=Hd (O_5.out.trans h);clear h K_5 O_5;go_simp;refine oS hK ⟨K_6.out.cell 0,K_6.out.cell 1,K_6.out.cell 2,K_6.out.cell 3,K_6.out.cell 4,K_6.out.cell 5,K_6.out.cell 6,K_6.out.cell 7,K_6.out.cell 8,K_6.out.cell 9,K_6.out.cell 10⟩ λ hHeld=>?_
      clear hK KK;refine tk5 16 17 18 19 20 ?_;refine dnT ?_;clear hHeld;have hQS:RdQ w s6 E:=⟨X1.out.trans O_6.out,Q1.out.ext O_6.out,E1.out.ext O_6.out⟩;have SQ:=Hd hQS;have KZ:=Hd K_6.out;clear hQS K_6 O_6;have hv:=HV.out;clear HV;cases hr:ru with
      | error ce=>
       rw[hr] at hv hres;obtain⟨rfl,rfl⟩:=hv;(try simp only at hres);have hce:=Png.zo9 (HRU.out.trans hr);clear hr;subst hres;unfold sentV;have hQ:=SQ.out.Q;have hX:=SQ.out.X;exact Yfu1
      | ok u=>
       rw[hr] at hv hres;obtain⟨rfl,rfl⟩:=hv;(try simp only at hres);have hus:=Png.zie (HRU.out.trans hr);clear hr;have HPX:=Hd (zkz B rr pp pv t wd s6 KZ.out ⟨HKF.out.1,HKF.out.2.1⟩ HKF.out.2.2.2.1 HKF.out.2.2.2.2.1 HKF.out.2.2.2.2.2 HWD.out.symm hus H3 HCL.out);go_wp2_with fail;refine HPX.out.mono ?_;rintro e z1 ⟨hX,hpx⟩;have SZ:=Hd (SQ.out.ext hX);have HLT:=Hd SQ.out.Q.lt;clear hX HPX SQ;rcases hpx with⟨xa,cx,rfl,hP,hg,hab⟩ | ⟨rfl,hbad⟩
       ·rw[qad hg] at hres;subst hres;have HP:=Hd hP;clear hP hg;go_upto_region 24 with fail;refine zac (λ wz=>RdQ w wz E/\Ext z1 wz/\Bk wz z1.heap.size #[.int .i64 (rr.wide:Int),.int .i64 (rr.high:Int),.slice xa (rr.high*rr.wide) cx]) ?hw ?_
        case hw=>exact⟨SZ.out.ext ((Ext.refl _).alloc _),(Ext.refl _).alloc _,Bk.at rfl⟩
        rintro z2 ⟨hS,hE2,hB⟩;obtain⟨T9,hT9⟩:=nmE (z1.heap.size);rw[hT9] at hB⊢;have hP2:=HP.out.ext hE2;have hQ:=hS.Q;have hX:=hS.X;have FIN:=Hd (qaB (hQ.pic.set (W':=(rr.wide:Int)) (H':=(rr.high:Int)) (v':=.slice xa (rr.high*rr.wide) cx)) (qaB (hX.set3 (qaj _) (.int .i64 (rr.wide:Int)) (.int .i64 (rr.high:Int)) (.slice xa (rr.high*rr.wide) cx)) (hP2.keeps (S:=λ k=>k=w.heap.size) ((((Keeps.refl (λ k=>k=w.heap.size) z2).setCell (p:=⟨w.heap.size,0,none⟩) (.inl rfl) (.int .i64 (rr.wide:Int))).setCell (p:=⟨w.heap.size,1,none⟩) (.inl rfl) (.int .i64 (rr.high:Int))).setCell (p:=⟨w.heap.size,2,none⟩) (.inl rfl) (.slice xa (rr.high*rr.wide) cx)) (λ aa e1 e2=>by have h1:=hab aa e1;have h2:=HLT.out;omega))));have d0:=hQ.cell 0;have f0:=hQ.frozen 0;have y0:=hB.cell 0;have d1:=hQ.cell 1;have f1:=hQ.frozen 1;have y1:=hB.cell 1;have d2:=hQ.cell 2;have f2:=hQ.frozen 2;have y2:=hB.cell 2;clear hS hE2 hB hP2 hQ hX hab;go_wp2_with fail;obtain⟨hPA,hXF,hPF⟩:=FIN.out;have k0:=hPA.c0;have k1:=hPA.c1;have k2:=hPA.c2;exact qaZ (v:=.tuple #[.agg #[.int .i64 (rr.wide:Int),.int .i64 (rr.high:Int),.slice xa (rr.high*rr.wide) cx],.nilIface]) (by simp[results,Tryz.results10,go_sem,k0,k1,k2]) rfl ⟨hXF,_,_,rfl,hPF⟩
       obtain⟨ib,hib,hgb⟩:=hbad;rw[qac (λ q=>hgb (q ib hib))] at hres;clear hib hgb;go_upto_region 24 with fail;refine zac (λ wz=>RdQ w wz E) (SZ.out.ext ((Ext.refl _).alloc _)) ?_;intro z2 hS;have SY:=Hd hS;clear hS SZ;(try subst hres);go_upto_region 25 with fail;have S_0:=SY;refine qar (S:=λ w'=>w'.cell? ⟨1,0,none⟩=some (.iface 275 (.pointer (some (E 0))))) (by kernel_rfl) ((zaj S_0.out.E (Ext.refl _)).1) (λ hHeld=>?_);clear hHeld;refine zab (λ wz=>Ext z2 wz) (show Ext z2 z2.drew from qag (Ext.refl z2)) ?_;exact Yfu0
     have hbad:res=.bad 0:=by
      rw[<- hres];cases hok:okk
      ·exact Png.zga (λ q=>by have:=HBL.out.2 q;rw[hok] at this;cases this)
      have q:=HBB.out;rw[hok] at q;exact Png.zjh HRL.out (by simpa using q)
     clear hres;subst hbad;rename World=>wF;(try subst hres);go_upto_region 18 with fail;have S_0:=SQ;refine qar (S:=λ w'=>w'.cell? ⟨1,0,none⟩=some (.iface 275 (.pointer (some (E 0))))) (by kernel_rfl) ((zaj S_0.out.E (Ext.refl _)).1) (λ hHeld=>?_);clear hHeld;refine zab (λ wz=>Ext wF wz) (show Ext wF wF.drew from qag (Ext.refl wF)) ?_;exact Yfu0
 rw[hrl] at hres;(try simp only at hres);subst hres;have FIN:=Hd (qaB (Q1.out.pic.set (W':=0) (H':=0) (v':=.slice none 0 0)) (X1.out.set3 (qaj _) (.int .i64 0) (.int .i64 0) (.slice none 0 0)));have d0:=Q1.out.cell 0;have f0:=Q1.out.frozen 0;have d1:=Q1.out.cell 1;have f1:=Q1.out.frozen 1;have d2:=Q1.out.cell 2;have f2:=Q1.out.frozen 2;have HFF:=Hd hF;have hFl:Hid (F≠w.heap.size):=Hd (λ e=>by obtain⟨t,h⟩:=Q1.out;rw[e,h] at hF;cases hF);clear hF;go_wp2_with fail;obtain⟨hPA,hXF⟩:=FIN.out;have k0:=hPA.c0;have k1:=hPA.c1;have k2:=hPA.c2;exact qaZ (v:=.tuple #[zaH,.iface 107 (.pointer (some ⟨F,0,none⟩))]) (by simp[results,Tryz.results10,go_sem,k0,k1,k2,zaH]) rfl ⟨hXF,F,hce,hie,rfl,by rw[qcv _ _ _ _ hFl.out,qcv _ _ _ _ hFl.out,qcv _ _ _ _ hFl.out];exact HFF.out⟩
theorem zqF (x:Option Addr) (cap:Nat) (w:World) (E:Nat->Addr) (hE:Errs w E) (hT:Tabs w) (hx:Pxs w x 1 (λ _=>Png.p1)):
    Calls Tryz.prog 8 #[.agg #[.int .i64 1,.int .i64 1,.slice x 1 cap]] w λ e w'=>Ext w w'/\∃(out:List UInt8),e=.returned (.tuple #[.string ⟨out.toArray⟩,.nilIface])/\60<out.length/\out.length<=300000/\∃qx,Png.picR ⟨out.toArray⟩=.ok 1 1 qx/\qx 0=Png.p1:=by
  refine (zkC 1 1 x 1 cap (λ _=>Png.p1) w E hE hT hx rfl (by decide) Png.zmo ⟨by rw[Png.zhz];decide,Png.zmy⟩).mono ?_;rintro e w' ⟨hX,z,w9,hz,hl,hX9,hF⟩;rw[Png.zmo] at hz hl hF;have hall:=Sto.zcH (([0,0]:List UInt8).length+1) [0,0];obtain⟨out,hf,h60,hmax,hpic⟩:=Png.zq6 hz (by simp only[qaR,List.length_nil] at hall hl;omega);rcases hF with⟨o,ho,rfl⟩ | ⟨c,i,F,_,_,hb,_⟩
  · rw[hf] at ho;injection ho with ho;subst ho;exact⟨hX,out,rfl,h60,hmax,hpic⟩
  rw[hf] at hb;cases hb
set_option maxHeartbeats 4000000 in
theorem zqf (w:World) (E:Nat->Addr) (hE:Errs w E) (hT:Tabs w):Calls Tryz.prog 6 #[] w λ e w'=>e=.returned (.bool true)/\Ext w w':=by
 have HER:=Hd hE;have HTB:=Hd hT;clear hE hT;go_enter Tryz.func6,Tryz.ntmps6
 go_upto_region 2 with fail;refine zac (λ wz=>Ext w wz/\Bk wz w.heap.size #[.int .u8 1,.int .u8 2,.int .u8 3,.int .u8 4]/\Bk wz (w.heap.size+1) #[.int .i64 1,.int .i64 1,.slice (some ⟨w.heap.size,0,none⟩) 1 1]) ⟨((Ext.refl w).alloc _).alloc _,Bk.old (Bk.at rfl),Bk.at (by rw[qb8])⟩ ?_;rintro w0 ⟨hX,hA,hP⟩;have X_0:=Hd hX;have P_0:=Hd hP;have HOK:(⟨1,2,3,4⟩:P4).Ok:=⟨⟨by decide,by decide⟩,⟨by decide,by decide⟩,⟨by decide,by decide⟩,⟨by decide,by decide⟩⟩;have hx:Pxs w0 (some ⟨w.heap.size,0,none⟩) 1 (λ _=>(⟨1,2,3,4⟩:P4)):=⟨(λ h=>by cases h),λ a ha i hi=>by
  injection ha with ha;subst ha;obtain rfl:i=0:=by omega
  exact⟨hA.cell 0,hA.cell 1,hA.cell 2,hA.cell 3,HOK⟩⟩
 have HX_0:=Hd hx;clear hx HOK hX hA hP;have k0:=P_0.out.cell 0;have k1:=P_0.out.cell 1;have k2:=P_0.out.cell 2;go_wp2_with fail;refine (zqF (some ⟨w.heap.size,0,none⟩) 1 w0 E (HER.out.ext X_0.out) (HTB.out.ext X_0.out) HX_0.out).mono ?_;rintro e w1 ⟨hX,out,rfl,h60,hmx,qz,hq,hqx⟩;have H60:=Hd h60;have HMX:=Hd hmx;have HQ:=Hd hq;have HQX:=Hd hqx;clear h60 hmx hq hqx;obtain⟨T,hT⟩:∃T:ByteArray,(⟨out.toArray⟩:ByteArray)=T:=⟨_,rfl⟩;have HTS:Hid (60<T.size/\T.size<=300000):=Hd (by rw[<- hT];show 60<out.toArray.size/\out.toArray.size<=300000;rw[qb5];exact⟨H60.out,HMX.out⟩);rw[hT] at HQ⊢;clear hT H60 HMX;have X_1:=Hd (X_0.out.trans hX);have HX_1:=Hd (HX_0.out.ext hX);have P_1:=Hd (P_0.out.ext hX);clear hX X_0 HX_0 P_0;clear k0 k1 k2;go_wp2_with fail;refine (zgH T w1 E (HER.out.ext X_1.out) (HTB.out.ext X_1.out) HTS.out.2).mono ?_;rintro e w2 ⟨hX,hre⟩;rw[HQ.out] at hre;obtain⟨y,cy,rfl,hy⟩:=hre;have hy2:=hy.congr (qx:=(λ _=>(⟨1,2,3,4⟩:P4))) (λ i hi=>by rw[show i=0 by omega];exact HQX.out.symm);have X_2:=Hd (X_1.out.trans hX);have HX_2:=Hd (HX_1.out.ext hX);have P_2:=Hd (P_1.out.ext hX);clear hX X_1 HX_1 P_1;have HY_2:=Hd (hy2);clear hy hy2;have hs60:decide ((60:Int)<(T.size:Int))=true:=qae (by have:=HTS.out;omega);have hs60n:60<T.size:=HTS.out.1;go_upto_region 6 with fail;refine zac (λ wz=>Ext w2 wz/\Bk wz w2.heap.size #[.int .i64 1,.int .i64 1,.slice y (1*1) cy]) ⟨(Ext.refl _).alloc _,Bk.at rfl⟩ ?_
 rintro w3 ⟨hE,hB⟩;obtain⟨TQ,hTQ⟩:=nmE (w2.heap.size);rw[hTQ] at hB⊢;have X_3:=Hd (X_2.out.trans hE);have HX_3:=Hd (HX_2.out.ext hE);have P_3:=Hd (P_2.out.ext hE);have HY_3:=Hd (HY_2.out.ext hE);clear hE hTQ X_2 HX_2 P_2 HY_2;have Q_3:=Hd (hB);clear hB;have k0:=P_3.out.cell 0;have k1:=P_3.out.cell 1;have k2:=P_3.out.cell 2;have k3:=Q_3.out.cell 0;have k4:=Q_3.out.cell 1;have k5:=Q_3.out.cell 2;go_wp2_with fail;refine (zeO 1 1 (some ⟨w.heap.size,0,none⟩) y 1 1 cy (λ _=>(⟨1,2,3,4⟩:P4)) w3 HX_3.out HY_3.out (by decide)).mono ?_;rintro e w4 ⟨rfl,hX⟩;have X_4:=Hd (X_3.out.trans hX);have HX_4:=Hd (HX_3.out.ext hX);have P_4:=Hd (P_3.out.ext hX);have HY_4:=Hd (HY_3.out.ext hX);have Q_4:=Hd (Q_3.out.ext hX);clear hX X_3 HX_3 P_3 HY_3 Q_3;clear k0 k1 k2 k3 k4 k5;go_wp2_with fail;go_ret;exact⟨rfl,X_4.out⟩
theorem Yga0 {p:Prop} (h:p:=by
 rw[hs];rcases h.ee with⟨q,e⟩ | ⟨q,e,e2⟩ | ⟨q,e,e2⟩
 ·rw[qac (by omega)];exact .inl ⟨q,e⟩
 ·rw[qad q];exact .inr (.inr ⟨rfl,e2,by omega⟩)
 rw[qac (by omega)];exact .inr (.inr ⟨q,e,by omega⟩)):p:=h
namespace Png
structure Doc (r:Rd) (i:Nat) (fi en:Int) (L:List Ck):Prop where
 hc:r.hc=true↔r.colors.size≠0
 ha:r.ha=true->r.hc=true
 al:r.alphas.size≠0->r.ha=true
 tr:r.ha=true↔∃c∈L,c.k=trns
 ff:fi<0↔r.st=0
 fb: -1<=fi/\fi<=(i:Int)
 ee:(r.st=0/\en= -1)\/(r.st=1/\en=(i:Int)-1/\1<=en)\/(r.st=2/\1<=en/\en<(i:Int)-1)
theorem Doc.start (W H d k:Nat):Doc (rd0 W H d k) 1 (-1) (-1) []:=
 ⟨⟨λ h=>(by cases h),λ h=>absurd rfl h⟩,λ h=>(by cases h),λ h=>absurd rfl h,⟨λ h=>(by cases h),λ⟨c,hc,_⟩=>(by cases hc)⟩,⟨λ _=>rfl,λ _=>(by omega)⟩,⟨by omega,by omega⟩,.inl ⟨rfl,rfl⟩⟩
theorem zmu {L:List Ck} {c:Ck} (h:c.k≠trns):(∃q∈L ++ [c],q.k=trns)↔∃q∈L,q.k=trns:=by
 constructor
 ·rintro⟨q,hq,e⟩;rcases qa3.1 hq with hq | hq
  ·exact⟨q,hq,e⟩
  rw[qaN.1 hq] at e;exact absurd e h
 rintro⟨q,hq,e⟩;exact⟨q,qcl _ hq,e⟩
theorem Doc.same {r:Rd} {i:Nat} {fi en:Int} {L:List Ck} (h:Doc r i fi en L) {c:Ck} (hk:c.k≠trns) (hi:c.k≠idat):Doc { r with st:=stN r c } (i+1) fi en (L ++ [c]):=by
 have hs:stN r c=if r.st=1 then 2 else r.st:=by
  unfold stN;by_cases h1:r.st=1
  ·rw[qad ⟨hi,h1⟩,qad h1]
  rw[qac (λ q=>h1 q.2),qac h1]
 refine⟨h.hc,h.ha,h.al,h.tr.trans (zmu hk).symm,?_,⟨h.fb.1,by have:=h.fb.2;omega⟩,?_⟩
 ·show fi<0↔stN r c=0;rw[hs,h.ff];split <;> omega
 show (stN r c=0/\_)\/(stN r c=1/\_)\/(stN r c=2/\_);exact Yga0
theorem Doc.idat {r:Rd} {i:Nat} {fi en:Int} {L:List Ck} (h:Doc r i fi en L) (hi:1<=i) {c:Ck} (hk:c.k=Png.idat):Doc (onR r c) (i+1) (if fi<0 then (i:Int) else fi) (i:Int) (L ++ [c]):=by
 have e:onR r c= { r with data:=r.data++c.d.data.toList,st:=1 }:=by
  unfold onR;rw[hk,qac zb4,qad rfl]
 rw[e];refine⟨h.hc,h.ha,h.al,h.tr.trans (zmu (by rw[hk];decide)).symm,?_,?_,.inr (.inl ⟨rfl,by omega,by omega⟩)⟩
 ·show _↔(1:Nat)=0;split <;> omega
 have:=h.fb;split
 ·exact⟨by omega,by omega⟩
 exact⟨by omega,by omega⟩
theorem zox {r:Rd} {i:Nat} {fi en:Int} {L:List Ck} (h:Doc r i fi en L) {c:Ck} (hk:c.k=Png.idat):onB r c=true↔¬ (0<=en/\en≠(i:Int)-1):=by
 have hs:stN r c=r.st:=by unfold stN;rw[qac (λ q=>q.1 hk)]
 unfold onB;rw[hk,qac zb4,qad rfl,qaP,hs];rcases h.ee with⟨q,e⟩ | ⟨q,e,e2⟩ | ⟨q,e,e2⟩ <;> omega
theorem Doc.plte {r:Rd} {i:Nat} {fi en:Int} {L:List Ck} (h:Doc r i fi en L) {c:Ck} (hk:c.k=Png.plte) (hn:c.d.size≠0):Doc (onR r c) (i+1) fi en (L ++ [c]):=by
 have h2:=h.same (c:=c) (by rw[hk];decide) (by rw[hk];decide);have e:onR r c= { r with colors:=c.d,hc:=true,st:=stN r c }:=by
  unfold onR;rw[hk,qac zbG.1,qac zbG.2,qad rfl]
 rw[e];exact⟨⟨λ _=>hn,λ _=>rfl⟩,λ _=>rfl,h2.al,h2.tr,h2.ff,h2.fb,h2.ee⟩
theorem Doc.trns {r:Rd} {i:Nat} {fi en:Int} {L:List Ck} (h:Doc r i fi en L) {c:Ck} (hk:c.k=Png.trns) (hn:r.hc=true):Doc (onR r c) (i+1) fi en (L ++ [c]):=by
 have hi:c.k≠Png.idat:=by rw[hk];decide
 have e:onR r c= { r with alphas:=c.d,ha:=true,st:=stN r c }:=by
  unfold onR;rw[hk,qac zbb.1,qac zbb.2.1,qac zbb.2.2,qad rfl]
 have hs:stN r c=if r.st=1 then 2 else r.st:=by
  unfold stN;by_cases h1:r.st=1
  ·rw[qad ⟨hi,h1⟩,qad h1]
  rw[qac (λ q=>h1 q.2),qac h1]
 rw[e];refine⟨h.hc,λ _=>hn,λ _=>rfl,⟨λ _=>⟨c,by simp,hk⟩,λ _=>rfl⟩,?_,⟨h.fb.1,by have:=h.fb.2;omega⟩,?_⟩
 ·show fi<0↔stN r c=0;rw[hs,h.ff];split <;> omega
 show (stN r c=0/\_)\/(stN r c=1/\_)\/(stN r c=2/\_);exact Yga0
theorem zhX {r:Rd} {c:Ck} {i:Nat} {fi en:Int} {L:List Ck} (h:Doc r i fi en L) (hi:c.k≠Png.idat):stN r c=0↔fi<0:=by
 unfold stN;rw[h.ff];by_cases h1:r.st=1
 ·rw[qad ⟨hi,h1⟩];omega
 rw[qac (λ q=>h1 q.2)]
theorem znQ {r:Rd} {i:Nat} {fi en:Int} {L:List Ck} (h:Doc r i fi en L) {c:Ck} (hk:c.k=Png.plte):onB r c=true↔¬ (r.colors.size≠0\/r.alphas.size≠0\/0<=fi\/r.kind=0\/c.d.size=0\/c.d.size%3≠0\/mostN r<c.d.size/3):=by
 have hz:=zhX (c:=c) h (by rw[hk];decide);unfold onB;rw[hk,qac zbG.1,qac zbG.2,qad rfl,qaP,hz];have hc:r.hc=false↔r.colors.size=0:=by
  have:=h.hc;constructor
  ·intro q;by_cases hz:r.colors.size=0
   ·exact hz
   have:=this.2 hz;rw[q] at this;cases this
  intro q;cases hq:r.hc
  ·rfl
  exact absurd q (this.1 hq)
 have ha:r.hc=false->r.ha=false:=λ q=>by
  have:=h.ha;cases hq:r.ha
  ·rfl
  rw[this hq] at q;cases q
 have hal:r.ha=false->r.alphas.size=0:=λ q=>by
  have:=h.al;by_cases hz:r.alphas.size=0
  ·exact hz
  rw[this hz] at q;cases q
 constructor
 ·rintro⟨q1,q2,q3,q4,q5,q6,q7⟩;have:=hc.1 q1;have:=hal q2;omega
 intro q;have q1:=hc.2 (by omega);exact⟨q1,ha q1,by omega,by omega,by omega,by omega,by omega⟩
theorem zov {r:Rd} {i:Nat} {fi en:Int} {L:List Ck} (h:Doc r i fi en L) {c:Ck} (hk:c.k=Png.trns):onB r c=true↔¬ (r.ha=true\/r.colors.size=0\/0<=fi\/r.kind≠3\/r.colors.size/3<c.d.size):=by
 have hz:=zhX (c:=c) h (by rw[hk];decide);unfold onB;rw[hk,qac zbb.1,qac zbb.2.1,qac zbb.2.2,qad rfl,qaP,hz,h.hc];cases hq:r.ha
 ·constructor
  ·rintro⟨q1,q2,q3,q4,q5⟩;rintro (x | x | x | x | x)
   ·cases x
   all_goals omega
  intro q;refine⟨λ x=>q (.inr (.inl x)),rfl,by omega,by omega,?_⟩;have:¬ (r.colors.size/3<c.d.size):=λ x=>q (.inr (.inr (.inr (.inr x))));omega
 constructor
 ·rintro⟨_,q,_⟩;cases q
 intro q;exact absurd (.inl rfl) q
theorem zmJ {r:Rd} {c:Ck} (hk:kindB c.k.data.toList=true) (h1:c.k≠Png.idat) (h2:c.k≠Png.plte) (h3:c.k≠Png.trns):onB r c=true↔¬ ((c.k.data.toList.getD 0 0).toNat<=90):=by
 unfold onB;by_cases h0:c.k=ihdr\/c.k=iend
 ·rw[qad h0];have:(c.k.data.toList.getD 0 0).toNat=73:=by rcases h0 with e | e <;> rw[e] <;> rfl
  rw[this];simp
 rw[qac h0,qac h1,qac h2,qac h3,qaP];obtain⟨hsz,hall⟩:c.k.data.toList.length=4/\∀x∈c.k.data.toList,(65<=x.toNat/\x.toNat<=90)\/(97<=x.toNat/\x.toNat<=122):=by
  unfold kindB at hk;rw[Bool.and_eq_true,qaP,List.all_eq_true] at hk;refine⟨hk.1,λ x hx=>?_⟩;have q:=hk.2 x hx;have hall:∀y:Fin 256,za5 (UInt8.ofNat y.val)=true->(65<=y.val/\y.val<=90)\/(97<=y.val/\y.val<=122):=by decide +kernel
  have q2:=hall ⟨x.toNat,x.toNat_lt⟩;rw[show UInt8.ofNat x.toNat=x from UInt8.toNat_inj.1 (by rw[qbI,qaF x.toNat_lt])] at q2;exact q2 q
 have hm:c.k.data.toList.getD 0 0∈c.k.data.toList:=by
  rw[qaY,qai (by omega)];exact qcA _
 have:=hall _ hm;omega
theorem znO {r:Rd} {c:Ck} (h1:c.k≠Png.idat) (h2:c.k≠Png.plte) (h3:c.k≠Png.trns):onR r c= { r with st:=stN r c }:=by
 unfold onR;split
 ·rfl
 first | rfl | rw[qac h1,qac h2,qac h3]
end Png
end Go.Proofs.YthlibiocadimhaaGreatDoor
