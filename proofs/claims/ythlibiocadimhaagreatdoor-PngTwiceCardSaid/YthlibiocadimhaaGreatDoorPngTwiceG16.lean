/-
  match.finder: longest.
  Tokens of a text: what they mean, as they grow. No function of the program is named.
  The laws' rows of tokens: tokens, wide.
  match.Tokens.
  A writer of bits: Align.
  A writer of bits: Bytes, behind what is aligned.
-/
import Derived.Test.YthlibiocadimhaaGreatDoorPngTwiceG1
import Derived.Test.YthlibiocadimhaaGreatDoorPngTwiceG15
import Derived.BigQuiet
import Derived.Deep.RegionHeld3
import Derived.Test.YthlibiocadimhaaGreatDoorPngTwiceG5
import Derived.Laws.AppendOwnNone
import Derived.Test.YthlibiocadimhaaGreatDoorPngTwiceG4
import Derived.StillTailTactics
import Derived.Lib.AppendStr
import Derived.Deep.LoopGhost
import Derived.Deep.DeepCutAuto
import Derived.Deep.CutBlock
import Derived.Test.YthlibiocadimhaaGreatDoorPngTwiceG6
set_option linter.unusedSimpArgs false
set_option linter.unusedVariables false
set_option maxRecDepth 100000
namespace Go.Proofs.YthlibiocadimhaaGreatDoor
open Go.RowKit
theorem longest_no (B mp ab a q:Nat) (s:ByteArray) (wd tries:Int) (w:World) (h:FSt w B mp ab s wd tries q) (ha:s.size<a+3) (hs:s.size≤300000) (hl:a≤s.size):
  Calls Tryz.prog 118 #[.pointer (some ⟨B,0,none⟩),.int .i64 (a:Int)] w fun e w'=>e=.returned (.tuple #[.int .i64 0,.int .i64 0])∧w'=w:=by
 have c0:=h.bk.cell 0;have t:(s.size:Int)<(a:Int)+3:=by omega
 clear h;go_enter Tryz.func118,Tryz.ntmps118
 go_wp2_with fail;go_ret2;exact⟨rfl,rfl⟩
set_option maxHeartbeats 4000000 in
theorem longest_yes (B mp ab a W T:Nat) (s:ByteArray) (w:World) (h:FSt w B mp ab s (W:Int) (T:Int) a) (ha:a+3≤s.size) (hs:s.size≤300000) (hW:W≤1000000) (hT9:T≤1000000):
  Calls Tryz.prog 118 #[.pointer (some ⟨B,0,none⟩),.int .i64 (a:Int)] w fun e w'=>∃m d:Nat,e=.returned (.tuple #[.int .i64 (m:Int),.int .i64 (d:Int)])∧Mt.Good (byt s) s.size W a m d∧(s.size≤T→Mt.Long (byt s) s.size W a m d)∧Ext w w':=by
 have HF:=Hd h;have c0:=h.bk.cell 0;have t:¬ (s.size:Int)<(a:Int)+3:=by omega
 have h0:a<s.size:=by omega
 clear h;obtain⟨A1,hA1⟩:∃A,a+1=A:=⟨_,rfl⟩;obtain⟨A2,hA2⟩:∃A,a+2=A:=⟨_,rfl⟩;have d1:(a:Int)+1=(A1:Int):=by omega
 have d2:(a:Int)+2=(A2:Int):=by omega
 have h1:A1<s.size:=by omega
 have h2:A2<s.size:=by omega
 obtain⟨x,hx⟩:∃z,(s[a]'h0).toNat=z:=⟨_,rfl⟩;have HBx:Hid (byt s a=x):=Hd ((byt_at s a h0).trans hx);have hxI:(((s[a]'h0).toNat:Nat):Int)=(x:Int):=by rw[hx]
 have hxl:x<256:=by rw[← hx];exact UInt8.toNat_lt _
 clear hx;obtain⟨y,hy⟩:∃z,(s[A1]'h1).toNat=z:=⟨_,rfl⟩;have HBy:Hid (byt s A1=y):=Hd ((byt_at s A1 h1).trans hy);have hyI:(((s[A1]'h1).toNat:Nat):Int)=(y:Int):=by rw[hy]
 have hyl:y<256:=by rw[← hy];exact UInt8.toNat_lt _
 clear hy;obtain⟨z,hz⟩:∃z,(s[A2]'h2).toNat=z:=⟨_,rfl⟩;have HBz:Hid (byt s A2=z):=Hd ((byt_at s A2 h2).trans hz);have hzI:(((s[A2]'h2).toNat:Nat):Int)=(z:Int):=by rw[hz]
 have hzl:z<256:=by rw[← hz];exact UInt8.toNat_lt _
 clear hz;have HA:=Hd (And.intro hA1 hA2);clear hA1 hA2;go_enter Tryz.func118,Tryz.ntmps118
 go_wp2_with fail;obtain⟨wa1,wa2⟩:IntKind.i64.wrap (A1:Int)=(A1:Int)∧IntKind.i64.wrap (A2:Int)=(A2:Int):=⟨wrapi (by omega) (by omega),wrapi (by omega) (by omega)⟩;have S_0:=Hd (HF.out);have X_0:=Hd (Ext.refl w);have HPO:Hid (prO s a=Mt.prv (byt s) x y z a):=Hd (by unfold prO;rw[HA.out.1,HA.out.2,HBx.out,HBy.out,HBz.out]);obtain⟨r,hr⟩:∃r,Mt.prv (byt s) x y z a=r:=⟨_,rfl⟩;have HR:=Hd hr;rw[hr] at HPO;clear hr;refine wp_region_held_drew (S:=fun w'=>w'.cell? ⟨B,0,none⟩=some (.string s)∧w'.cell? ⟨B,2,none⟩=some (.map (some mp))) (by kernel_rfl) ⟨S_0.out.bk.cell 0,S_0.out.bk.cell 2⟩ (fun hHeld=>?_);clear hHeld;refine anyH_world (fun wz=>Ext w wz) (show Ext w w.drew from Below.drew (Ext.refl w)) ?_;rintro w1 h;have S_1:=Hd (S_0.out.ext h);have X_1:=Hd (X_0.out.trans h);clear h S_0 X_0;have hHeld:w1.cell? ⟨B,0,none⟩=some (.string s)∧w1.cell? ⟨B,2,none⟩=some (.map (some mp)):=⟨S_1.out.bk.cell 0,S_1.out.bk.cell 2⟩;refine tkH 0 rfl hHeld ?_;(try simp only[Act.put,xz]);refine tkH 1 rfl hHeld ?_;(try simp only[Act.put,xz]);refine tkH 2 rfl hHeld ?_;(try simp only[Act.put,xz]);refine tkH 3 rfl hHeld ?_;(try simp only[Act.put,xz]);refine tkH 4 rfl hHeld ?_;(try simp only[Act.put,xz]);refine tkH 5 rfl hHeld ?_;(try simp only[Act.put,xz]);refine tkH 6 rfl hHeld ?_;(try simp only[Act.put,xz]);refine tkH 7 rfl hHeld ?_;(try simp only[Act.put,xz]);refine tkH 8 rfl hHeld ?_;try simp only[Act.put,xz]
 refine tkH 9 rfl hHeld ?_;(try simp only[Act.put,xz]);refine tkH 10 rfl hHeld ?_;(try simp only[Act.put,xz]);refine tkH 11 rfl hHeld ?_;(try simp only[Act.put,xz]);refine tkH 12 rfl hHeld ?_;(try simp only[Act.put,xz]);refine tkH 13 rfl hHeld ?_;(try simp only[Act.put,xz]);refine tkH 14 rfl hHeld ?_;(try simp only[Act.put,xz]);refine tkH 15 rfl hHeld ?_;(try simp only[Act.put,xz]);refine tkH 16 rfl hHeld ?_;(try simp only[Act.put,xz]);refine tkH 17 rfl hHeld ?_;(try simp only[Act.put,xz]);refine tkH 18 rfl hHeld ?_;(try simp only[Act.put,xz]);refine tkH 19 rfl hHeld ?_;(try simp only[Act.put,xz]);refine tkH 20 rfl hHeld ?_;(try simp only[Act.put,xz]);refine tkH 21 rfl hHeld ?_;(try simp only[Act.put,xz]);refine tkH 22 rfl hHeld ?_;(try simp only[Act.put,xz]);refine tkH 23 rfl hHeld ?_;(try simp only[Act.put,xz]);refine tkH 24 rfl hHeld ?_;(try simp only[Act.put,xz]);refine rdH 25 rfl fun KK hK=>?_;clear hHeld;have t0:=S_1.out.mm.look hxl hyl hzl;unfold kb at t0;rw[HR.out] at t0;go_simp;clear t0;refine hK.out _ _ ⟨S_1.out.bk.cell 0,S_1.out.bk.cell 2⟩ (fun hHeld=>?_);clear hK KK;(try simp only[Act.put,xz]);refine tkH 26 rfl hHeld ?_;(try simp only[Act.put,xz]);refine tkH 27 rfl hHeld ?_;(try simp only[Act.put,xz]);refine tkH 28 rfl hHeld ?_;(try simp only[Act.put,xz]);refine tkH 29 rfl hHeld ?_;(try simp only[Act.put,xz]);refine tkH 30 rfl hHeld ?_;(try simp only[Act.put,xz]);refine wpAnyH_done (by kernel_rfl) ?_ _;clear hHeld
 have HLS:Hid (Mt.Look (byt s) s.size W a r 0 0):=Hd (by rw[← HPO.out];exact Mt.Look.start _ _ _ _);have HKS:Hid (∀k,r=some k→k<a∧byt s k=byt s a∧byt s (k+1)=byt s (a+1)∧byt s (k+2)=byt s (a+2)∧0+k+1≤a):=Hd (fun k hk=>by
  have q:=Mt.prv_some (HPO.out.trans hk);exact⟨q.1,q.2.1,q.2.2.1,q.2.2.2.1,by have:=q.1;omega⟩)
 have HOS:Hid ((r.isSome=true∧((r.getD 0:Nat):Int)=cI r)∨(r.isSome=false∧r=none)):=Hd (by cases r with | none=>exact .inr ⟨rfl,rfl⟩ | some k=>exact .inl ⟨rfl,rfl⟩);obtain⟨ob,hob⟩:∃ob,r.isSome=ob:=⟨_,rfl⟩;rw[hob] at HOS;simp only[hob];clear hob;clear wa1 wa2 d1 d2 c0 t HPO HR hxI hyI hzI;go_wp2_with fail;go_loopw [4,5,6,8] (fun l d k n wr=>∃(m dd nn:Nat) (c:Option Nat) (kI:Int),l=.int .i64 (m:Int)∧d=.int .i64 (dd:Int)∧k=.int .i64 kI∧n=.int .i64 (nn:Int)∧Hid (Mt.Look (byt s) s.size W a c m dd)∧Hid (∀k,c=some k→k<a∧byt s k=byt s a∧byt s (k+1)=byt s (a+1)∧byt s (k+2)=byt s (a+2)∧nn+k+1≤a)∧Hid ((ob=true∧kI=cI c)∨(ob=false∧c=none))∧m≤258∧dd≤a∧nn≤a∧Hid (Ext w wr)) (fun _ _ k _ _=>(intOf k+1).toNat)
 case atStart=>exact⟨0,0,0,r,_,rfl,rfl,rfl,rfl,HLS,HKS,HOS,by omega,by omega,by omega,X_1⟩
 case round=>
  clear HLS HKS HOS S_1 X_1;obtain⟨m,dd,nn,c,kI,rfl,rfl,rfl,rfl,HL,HK,HO,hm,hd,hn,HX⟩:=hrel;have hdw:=HL.out;clear hdw;have HS:=Hd (HF.out.ext HX.out);rcases HO.out with⟨rfl,hk⟩ | ⟨rfl,rfl⟩
  ·cases c with
   | none=>
    have hkn:kI= -1:=hk;clear hk HO;subst hkn;go_wp2_with fail;go_ret2;exact⟨m,dd,rfl,HL.out.good,fun hq=>HL.out.none_,HX.out⟩
   | some k=>
    have hks:kI=(k:Int):=hk;clear hk HO;subst hks;obtain⟨k1,k2,k3,k4,k5⟩:=HK.out k rfl;have HKK:=Hd (And.intro k2 (And.intro k3 k4));clear k2 k3 k4;have c0:=HS.out.bk.cell 0;have c1:=HS.out.bk.cell 1;have c4:=HS.out.bk.cell 4;have t1:decide ((0:Int)≤(k:Int))=true:=decide_eq_true (by omega);by_cases hw:a-k≤W
    ·have t2:decide ((a:Int)-(k:Int)≤(W:Int))=true:=decide_eq_true (by omega);by_cases hT:nn<T
     ·have t3:decide ((nn:Int)<(T:Int))=true:=decide_eq_true (by omega);go_wp2_with fail;clear t1 t2 t3 c0 c1 c4;obtain⟨L,hL⟩:∃L,Mt.mlen (byt s) s.size k a=L:=⟨_,rfl⟩;have HLL:=Hd hL;clear hL;go_loopw [9] (fun z wr=>∃zz:Nat,z=.int .i64 (zz:Int)∧zz≤258∧a+zz≤s.size∧Hid (Mt.mlf (byt s) s.size k a zz=L)∧Hid (Ext w wr)) (fun z _=>258-(intOf z).toNat)
      case atStart=>exact⟨0,rfl,by omega,by omega,HLL,HX⟩
      case round=>
       clear HX HS;obtain⟨zz,rfl,hz,hza,HM,HX⟩:=hrel;have HS:=Hd (HF.out.ext HX.out);by_cases q1:zz<258
       ·have t1:decide ((zz:Int)<258)=true:=decide_eq_true (by omega);obtain⟨A3,hA3⟩:∃A,a+zz=A:=⟨_,rfl⟩;have d3:(a:Int)+(zz:Int)=(A3:Int):=by omega
        have HA3:=Hd hA3;have hA3l:A3≤s.size:=by omega
        rw[hA3] at hza;clear hA3;by_cases q2:A3<s.size
        ·have t2:decide ((A3:Int)<(s.size:Int))=true:=decide_eq_true (by omega);obtain⟨K3,hK3⟩:∃A,k+zz=A:=⟨_,rfl⟩;have d4:(k:Int)+(zz:Int)=(K3:Int):=by omega
         have HK3:=Hd hK3;have hK3l:K3<s.size:=by have:=HA3.out;omega
         clear hK3;obtain⟨u,hu⟩:∃z,(s[K3]'hK3l).toNat=z:=⟨_,rfl⟩;have HBu:Hid (byt s K3=u):=Hd ((byt_at s K3 hK3l).trans hu);have huI:(((s[K3]'hK3l).toNat:Nat):Int)=(u:Int):=by rw[hu]
         have hul:u<256:=by rw[← hu];exact UInt8.toNat_lt _
         clear hu;obtain⟨v,hv⟩:∃z,(s[A3]'q2).toNat=z:=⟨_,rfl⟩;have HBv:Hid (byt s A3=v):=Hd ((byt_at s A3 q2).trans hv);have hvI:(((s[A3]'q2).toNat:Nat):Int)=(v:Int):=by rw[hv]
         have hvl:v<256:=by rw[← hv];exact UInt8.toNat_lt _
         clear hv;have hzn:zz+1≤258:=by omega
         have hzan:a+(zz+1)≤s.size:=by have:=HA3.out;omega
         by_cases q3:u=v
         ·have t3:((u:Int) ==(v:Int))=true:=beq_iff_eq.2 (by omega);have HMY:Hid (Mt.mlf (byt s) s.size k a (zz+1)=L):=Hd (by rw[← HM.out];exact (Mt.mlf_yes ⟨q1,by have:=HA3.out;omega,by rw[HK3.out,HA3.out,HBu.out,HBv.out];exact q3⟩).symm);obtain⟨wa1,wa2⟩:IntKind.i64.wrap (A3:Int)=(A3:Int)∧IntKind.i64.wrap (K3:Int)=(K3:Int):=⟨wrapi (by omega) (by omega),wrapi (by omega) (by omega)⟩;go_wp2_with fail;have S_0:=Hd (HS.out);have X_0:=Hd (HX.out);clear HS HX;refine wp_region_held_drew (S:=fun w'=>w'.cell? ⟨B,0,none⟩=some (.string s)) (by kernel_rfl) (S_0.out.bk.cell 0) (fun hHeld=>?_);clear hHeld;refine anyH_world (fun wz=>Ext wr wz) (show Ext wr wr.drew from Below.drew (Ext.refl wr)) ?_;rintro w1 h;have S_1:=Hd (S_0.out.ext h);have X_1:=Hd (X_0.out.trans h);clear h S_0 X_0;have hHeld:w1.cell? ⟨B,0,none⟩=some (.string s):=(S_1.out.bk.cell 0);refine tkH 0 rfl hHeld ?_;(try simp only[Act.put,xz]);refine tkH 1 rfl hHeld ?_;(try simp only[Act.put,xz]);refine tkH 2 rfl hHeld ?_;(try simp only[Act.put,xz]);refine tkH 3 rfl hHeld ?_;(try simp only[Act.put,xz]);refine tkH 4 rfl hHeld ?_;(try simp only[Act.put,xz]);refine tkH 5 rfl hHeld ?_;(try simp only[Act.put,xz]);refine tkH 6 rfl hHeld ?_;(try simp only[Act.put,xz]);refine tkH 7 rfl hHeld ?_;(try simp only[Act.put,xz]);refine tkH 8 rfl hHeld ?_;(try simp only[Act.put,xz]);refine tkH 9 rfl hHeld ?_;(try simp only[Act.put,xz]);refine tkH 10 rfl hHeld ?_
          (try simp only[Act.put,xz]);refine tkH 11 rfl hHeld ?_;(try simp only[Act.put,xz]);refine tkH 12 rfl hHeld ?_;(try simp only[Act.put,xz]);refine tkH 13 rfl hHeld ?_;(try simp only[Act.put,xz]);refine tkH 14 rfl hHeld ?_;(try simp only[Act.put,xz]);refine tkH 15 rfl hHeld ?_;(try simp only[Act.put,xz]);refine tkH 16 rfl hHeld ?_;(try simp only[Act.put,xz]);refine tkH 17 rfl hHeld ?_;(try simp only[Act.put,xz]);refine tkH 18 rfl hHeld ?_;(try simp only[Act.put,xz]);refine tkH 19 rfl hHeld ?_;(try simp only[Act.put,xz]);refine tkH 20 rfl hHeld ?_;(try simp only[Act.put,xz]);refine tkH 21 rfl hHeld ?_;(try simp only[Act.put,xz]);refine tkH 22 rfl hHeld ?_;(try simp only[Act.put,xz]);refine tkH 23 rfl hHeld ?_;(try simp only[Act.put,xz]);refine tkH 24 rfl hHeld ?_;(try simp only[Act.put,xz]);refine tkH 25 rfl hHeld ?_;(try simp only[Act.put,xz]);refine tkH 26 rfl hHeld ?_;(try simp only[Act.put,xz]);refine tkH 27 rfl hHeld ?_;(try simp only[Act.put,xz]);refine tkH 28 rfl hHeld ?_;(try simp only[Act.put,xz]);refine tkH 29 rfl hHeld ?_;(try simp only[Act.put,xz]);refine tkH 30 rfl hHeld ?_;(try simp only[Act.put,xz]);refine tkH 31 rfl hHeld ?_;(try simp only[Act.put,xz]);refine wpAnyH_done (by kernel_rfl) ?_ _;clear hHeld;clear wa1 wa2;go_wp2_with fail;go_roundw
          case rel=>exact⟨zz+1,by go_num,hzn,hzan,HMY,X_1⟩
          case measure=>simp[intOf];omega
         ·have t3:((u:Int) ==(v:Int))=false:=beq_eq_false_iff_ne.2 (by omega);obtain⟨wa1,wa2⟩:IntKind.i64.wrap (A3:Int)=(A3:Int)∧IntKind.i64.wrap (K3:Int)=(K3:Int):=⟨wrapi (by omega) (by omega),wrapi (by omega) (by omega)⟩;go_wp2_with fail;have S_0:=Hd (HS.out);have X_0:=Hd (HX.out);clear HS HX;refine wp_region_held_drew (S:=fun w'=>w'.cell? ⟨B,0,none⟩=some (.string s)) (by kernel_rfl) (S_0.out.bk.cell 0) (fun hHeld=>?_);clear hHeld;refine anyH_world (fun wz=>Ext wr wz) (show Ext wr wr.drew from Below.drew (Ext.refl wr)) ?_;rintro w1 h;have S_1:=Hd (S_0.out.ext h);have X_1:=Hd (X_0.out.trans h);clear h S_0 X_0;have hHeld:w1.cell? ⟨B,0,none⟩=some (.string s):=(S_1.out.bk.cell 0);refine tkH 0 rfl hHeld ?_;(try simp only[Act.put,xz]);refine tkH 1 rfl hHeld ?_;(try simp only[Act.put,xz]);refine tkH 2 rfl hHeld ?_;(try simp only[Act.put,xz]);refine tkH 3 rfl hHeld ?_;(try simp only[Act.put,xz]);refine tkH 4 rfl hHeld ?_;(try simp only[Act.put,xz]);refine tkH 5 rfl hHeld ?_;(try simp only[Act.put,xz]);refine tkH 6 rfl hHeld ?_;(try simp only[Act.put,xz]);refine tkH 7 rfl hHeld ?_;(try simp only[Act.put,xz]);refine tkH 8 rfl hHeld ?_;(try simp only[Act.put,xz]);refine tkH 9 rfl hHeld ?_;(try simp only[Act.put,xz]);refine tkH 10 rfl hHeld ?_;(try simp only[Act.put,xz]);refine tkH 11 rfl hHeld ?_;(try simp only[Act.put,xz]);refine tkH 12 rfl hHeld ?_;(try simp only[Act.put,xz]);refine tkH 13 rfl hHeld ?_;try simp only[Act.put,xz]
          refine tkH 14 rfl hHeld ?_;(try simp only[Act.put,xz]);refine tkH 15 rfl hHeld ?_;(try simp only[Act.put,xz]);refine tkH 16 rfl hHeld ?_;(try simp only[Act.put,xz]);refine tkH 17 rfl hHeld ?_;(try simp only[Act.put,xz]);refine tkH 18 rfl hHeld ?_;(try simp only[Act.put,xz]);refine tkH 19 rfl hHeld ?_;(try simp only[Act.put,xz]);refine tkH 20 rfl hHeld ?_;(try simp only[Act.put,xz]);refine tkH 21 rfl hHeld ?_;(try simp only[Act.put,xz]);refine tkH 22 rfl hHeld ?_;(try simp only[Act.put,xz]);refine tkH 23 rfl hHeld ?_;(try simp only[Act.put,xz]);refine tkH 24 rfl hHeld ?_;(try simp only[Act.put,xz]);refine tkH 25 rfl hHeld ?_;(try simp only[Act.put,xz]);refine tkH 26 rfl hHeld ?_;(try simp only[Act.put,xz]);refine tkH 27 rfl hHeld ?_;(try simp only[Act.put,xz]);refine tkH 28 rfl hHeld ?_;(try simp only[Act.put,xz]);refine tkH 29 rfl hHeld ?_;(try simp only[Act.put,xz]);refine tkH 30 rfl hHeld ?_;(try simp only[Act.put,xz]);refine tkH 31 rfl hHeld ?_;(try simp only[Act.put,xz]);refine wpAnyH_done (by kernel_rfl) ?_ _;clear hHeld;clear wa1 wa2 t1 t2 t3 d3 d4;have HLz:Hid (L=zz):=Hd (by rw[← HM.out];exact Mt.mlf_no (fun h=>q3 (by have:=h.2.2;rwa [HK3.out,HA3.out,HBu.out,HBv.out] at this)));have HNx:=Hd (Mt.Look.next HL.out (by omega) k1 hw HKK.out.1 HKK.out.2.1 HKK.out.2.2);rw[HLL.out,HLz.out] at HNx;obtain⟨pv,hpv,hpf,hpc⟩:=S_1.out.ah k (by omega);have hpc:=hpc k1;subst hpc;have HKN:Hid (∀k2,prO s k=some k2→k2<a∧byt s k2=byt s a∧byt s (k2+1)=byt s (a+1)∧byt s (k2+2)=byt s (a+2)∧nn+1+k2+1≤a):=Hd (fun k2 hk2=>by
           have q:=Mt.prv_some hk2;exact⟨by have:=q.1;omega,q.2.1.trans HKK.out.1,q.2.2.1.trans HKK.out.2.1,q.2.2.2.1.trans HKK.out.2.2,by have:=q.1;omega⟩)
          have HKL:Hid (cI (prO s k)<(k:Int)∧ -1≤cI (prO s k)):=Hd (by cases hq:prO s k with | none=>exact⟨by show (-1:Int)<k;omega,by show (-1:Int)≤ -1;omega⟩ | some k2=>exact⟨by show ((k2:Nat):Int)<k;have:=(Mt.prv_some hq).1;omega,by show (-1:Int)≤((k2:Nat):Int);omega⟩);have HNx2:Hid (Mt.Look (byt s) s.size W a (prO s k) (if m<zz then zz else m) (if m<zz then a-k else dd)):=HNx;clear HNx;obtain⟨pr,hpr⟩:∃q,prO s k=q:=⟨_,rfl⟩;rw[hpr] at hpv HKN HKL HNx2;clear hpr hpf;obtain⟨pI,hpI⟩:∃q,cI pr=q:=⟨_,rfl⟩;rw[hpI] at hpv HKL;have HPI:=Hd hpI;clear hpI;have c3:=S_1.out.bk.cell 3;have ha3:(k:Int)<(s.size:Int):=by omega
          by_cases hmz:m<zz
          ·rw[if_pos hmz,if_pos hmz] at HNx2;have hmI:(m:Int)<(zz:Int):=by omega
           obtain⟨dk,hdk⟩:∃q:Nat,a-k=q:=⟨_,rfl⟩;have hdI:(a:Int)-(k:Int)=(dk:Int):=by omega
           rw[hdk] at HNx2;have HDK:=Hd hdk;clear hdk;go_wp2_with fail;go_roundw
           case rel=>exact⟨zz,dk,nn+1,pr,pI,rfl,rfl,rfl,by go_num,HNx2,HKN,Hd (.inl ⟨by simp,HPI.out.symm⟩),hz,by have:=HDK.out;omega,by omega,X_1⟩
           case measure=>have:=HKL.out;simp[intOf];omega
          ·rw[if_neg hmz,if_neg hmz] at HNx2;have hmI:¬ (m:Int)<(zz:Int):=by omega
           go_wp2_with fail;go_roundw
           case rel=>exact⟨m,dd,nn+1,pr,pI,rfl,rfl,rfl,by go_num,HNx2,HKN,Hd (.inl ⟨by simp,HPI.out.symm⟩),hm,hd,by omega,X_1⟩
           case measure=>have:=HKL.out;simp[intOf];omega
        ·have t2:decide ((A3:Int)<(s.size:Int))=false:=decide_eq_false (by omega);have wa1:IntKind.i64.wrap (A3:Int)=(A3:Int):=wrapi (by omega) (by omega);go_wp2_with fail;have S_0:=Hd (HS.out);have X_0:=Hd (HX.out);clear HS HX;refine wp_region_held_drew (S:=fun w'=>w'.cell? ⟨B,0,none⟩=some (.string s)) (by kernel_rfl) (S_0.out.bk.cell 0) (fun hHeld=>?_);clear hHeld;refine anyH_world (fun wz=>Ext wr wz) (show Ext wr wr.drew from Below.drew (Ext.refl wr)) ?_;rintro w1 h;have S_1:=Hd (S_0.out.ext h);have X_1:=Hd (X_0.out.trans h);clear h S_0 X_0;have hHeld:w1.cell? ⟨B,0,none⟩=some (.string s):=(S_1.out.bk.cell 0);refine tkH 0 rfl hHeld ?_;(try simp only[Act.put,xz]);refine tkH 1 rfl hHeld ?_;(try simp only[Act.put,xz]);refine tkH 2 rfl hHeld ?_;(try simp only[Act.put,xz]);refine tkH 3 rfl hHeld ?_;(try simp only[Act.put,xz]);refine tkH 4 rfl hHeld ?_;(try simp only[Act.put,xz]);refine tkH 5 rfl hHeld ?_;(try simp only[Act.put,xz]);refine tkH 6 rfl hHeld ?_;(try simp only[Act.put,xz]);refine tkH 7 rfl hHeld ?_;(try simp only[Act.put,xz]);refine tkH 8 rfl hHeld ?_;(try simp only[Act.put,xz]);refine tkH 9 rfl hHeld ?_;(try simp only[Act.put,xz]);refine tkH 10 rfl hHeld ?_;(try simp only[Act.put,xz]);refine tkH 11 rfl hHeld ?_;(try simp only[Act.put,xz]);refine tkH 12 rfl hHeld ?_;(try simp only[Act.put,xz]);refine tkH 13 rfl hHeld ?_;(try simp only[Act.put,xz]);refine skH 14 rfl hHeld ?_;try simp only[Act.put,xz]
         refine skH 15 rfl hHeld ?_;(try simp only[Act.put,xz]);refine skH 16 rfl hHeld ?_;(try simp only[Act.put,xz]);refine skH 17 rfl hHeld ?_;(try simp only[Act.put,xz]);refine skH 18 rfl hHeld ?_;(try simp only[Act.put,xz]);refine skH 19 rfl hHeld ?_;(try simp only[Act.put,xz]);refine skH 20 rfl hHeld ?_;(try simp only[Act.put,xz]);refine skH 21 rfl hHeld ?_;(try simp only[Act.put,xz]);refine skH 22 rfl hHeld ?_;(try simp only[Act.put,xz]);refine skH 23 rfl hHeld ?_;(try simp only[Act.put,xz]);refine skH 24 rfl hHeld ?_;(try simp only[Act.put,xz]);refine skH 25 rfl hHeld ?_;(try simp only[Act.put,xz]);refine skH 26 rfl hHeld ?_;(try simp only[Act.put,xz]);refine skH 27 rfl hHeld ?_;(try simp only[Act.put,xz]);refine skH 28 rfl hHeld ?_;(try simp only[Act.put,xz]);refine skH 29 rfl hHeld ?_;(try simp only[Act.put,xz]);refine skH 30 rfl hHeld ?_;(try simp only[Act.put,xz]);refine tkH 31 rfl hHeld ?_;(try simp only[Act.put,xz]);refine wpAnyH_done (by kernel_rfl) ?_ _;clear hHeld;clear wa1 t1 t2 d3;have HLz:Hid (L=zz):=Hd (by rw[← HM.out];exact Mt.mlf_no (fun h=>q2 (by have:=h.2.1;rwa [HA3.out] at this)));have HNx:=Hd (Mt.Look.next HL.out (by omega) k1 hw HKK.out.1 HKK.out.2.1 HKK.out.2.2);rw[HLL.out,HLz.out] at HNx;obtain⟨pv,hpv,hpf,hpc⟩:=S_1.out.ah k (by omega);have hpc:=hpc k1;subst hpc;have HKN:Hid (∀k2,prO s k=some k2→k2<a∧byt s k2=byt s a∧byt s (k2+1)=byt s (a+1)∧byt s (k2+2)=byt s (a+2)∧nn+1+k2+1≤a):=Hd (fun k2 hk2=>by
          have q:=Mt.prv_some hk2;exact⟨by have:=q.1;omega,q.2.1.trans HKK.out.1,q.2.2.1.trans HKK.out.2.1,q.2.2.2.1.trans HKK.out.2.2,by have:=q.1;omega⟩)
         have HKL:Hid (cI (prO s k)<(k:Int)∧ -1≤cI (prO s k)):=Hd (by cases hq:prO s k with | none=>exact⟨by show (-1:Int)<k;omega,by show (-1:Int)≤ -1;omega⟩ | some k2=>exact⟨by show ((k2:Nat):Int)<k;have:=(Mt.prv_some hq).1;omega,by show (-1:Int)≤((k2:Nat):Int);omega⟩);have HNx2:Hid (Mt.Look (byt s) s.size W a (prO s k) (if m<zz then zz else m) (if m<zz then a-k else dd)):=HNx;clear HNx;obtain⟨pr,hpr⟩:∃q,prO s k=q:=⟨_,rfl⟩;rw[hpr] at hpv HKN HKL HNx2;clear hpr hpf;obtain⟨pI,hpI⟩:∃q,cI pr=q:=⟨_,rfl⟩;rw[hpI] at hpv HKL;have HPI:=Hd hpI;clear hpI;have c3:=S_1.out.bk.cell 3;have ha3:(k:Int)<(s.size:Int):=by omega
         by_cases hmz:m<zz
         ·rw[if_pos hmz,if_pos hmz] at HNx2;have hmI:(m:Int)<(zz:Int):=by omega
          obtain⟨dk,hdk⟩:∃q:Nat,a-k=q:=⟨_,rfl⟩;have hdI:(a:Int)-(k:Int)=(dk:Int):=by omega
          rw[hdk] at HNx2;have HDK:=Hd hdk;clear hdk;go_wp2_with fail;go_roundw
          case rel=>exact⟨zz,dk,nn+1,pr,pI,rfl,rfl,rfl,by go_num,HNx2,HKN,Hd (.inl ⟨by simp,HPI.out.symm⟩),hz,by have:=HDK.out;omega,by omega,X_1⟩
          case measure=>have:=HKL.out;simp[intOf];omega
         ·rw[if_neg hmz,if_neg hmz] at HNx2;have hmI:¬ (m:Int)<(zz:Int):=by omega
          go_wp2_with fail;go_roundw
          case rel=>exact⟨m,dd,nn+1,pr,pI,rfl,rfl,rfl,by go_num,HNx2,HKN,Hd (.inl ⟨by simp,HPI.out.symm⟩),hm,hd,by omega,X_1⟩
          case measure=>have:=HKL.out;simp[intOf];omega
       ·have t1:decide ((zz:Int)<258)=false:=decide_eq_false (by omega);go_wp2_with fail;have S_0:=Hd (HS.out);have X_0:=Hd (HX.out);clear HS HX;refine wp_region_held_drew (S:=fun w'=>w'.cell? ⟨B,0,none⟩=some (.string s)) (by kernel_rfl) (S_0.out.bk.cell 0) (fun hHeld=>?_);clear hHeld;refine anyH_world (fun wz=>Ext wr wz) (show Ext wr wr.drew from Below.drew (Ext.refl wr)) ?_;rintro w1 h;have S_1:=Hd (S_0.out.ext h);have X_1:=Hd (X_0.out.trans h);clear h S_0 X_0;have hHeld:w1.cell? ⟨B,0,none⟩=some (.string s):=(S_1.out.bk.cell 0);refine tkH 0 rfl hHeld ?_;(try simp only[Act.put,xz]);refine tkH 1 rfl hHeld ?_;(try simp only[Act.put,xz]);refine tkH 2 rfl hHeld ?_;(try simp only[Act.put,xz]);refine skH 3 rfl hHeld ?_;(try simp only[Act.put,xz]);refine skH 4 rfl hHeld ?_;(try simp only[Act.put,xz]);refine skH 5 rfl hHeld ?_;(try simp only[Act.put,xz]);refine skH 6 rfl hHeld ?_;(try simp only[Act.put,xz]);refine skH 7 rfl hHeld ?_;(try simp only[Act.put,xz]);refine skH 8 rfl hHeld ?_;(try simp only[Act.put,xz]);refine skH 9 rfl hHeld ?_;(try simp only[Act.put,xz]);refine skH 10 rfl hHeld ?_;(try simp only[Act.put,xz]);refine skH 11 rfl hHeld ?_;(try simp only[Act.put,xz]);refine tkH 12 rfl hHeld ?_;(try simp only[Act.put,xz]);refine tkH 13 rfl hHeld ?_;(try simp only[Act.put,xz]);refine skH 14 rfl hHeld ?_;(try simp only[Act.put,xz]);refine skH 15 rfl hHeld ?_;(try simp only[Act.put,xz]);refine skH 16 rfl hHeld ?_;try simp only[Act.put,xz]
        refine skH 17 rfl hHeld ?_;(try simp only[Act.put,xz]);refine skH 18 rfl hHeld ?_;(try simp only[Act.put,xz]);refine skH 19 rfl hHeld ?_;(try simp only[Act.put,xz]);refine skH 20 rfl hHeld ?_;(try simp only[Act.put,xz]);refine skH 21 rfl hHeld ?_;(try simp only[Act.put,xz]);refine skH 22 rfl hHeld ?_;(try simp only[Act.put,xz]);refine skH 23 rfl hHeld ?_;(try simp only[Act.put,xz]);refine skH 24 rfl hHeld ?_;(try simp only[Act.put,xz]);refine skH 25 rfl hHeld ?_;(try simp only[Act.put,xz]);refine skH 26 rfl hHeld ?_;(try simp only[Act.put,xz]);refine skH 27 rfl hHeld ?_;(try simp only[Act.put,xz]);refine skH 28 rfl hHeld ?_;(try simp only[Act.put,xz]);refine skH 29 rfl hHeld ?_;(try simp only[Act.put,xz]);refine skH 30 rfl hHeld ?_;(try simp only[Act.put,xz]);refine tkH 31 rfl hHeld ?_;(try simp only[Act.put,xz]);refine wpAnyH_done (by kernel_rfl) ?_ _;clear hHeld;clear t1;have HLz:Hid (L=zz):=Hd (by rw[← HM.out];exact Mt.mlf_no (fun h=>q1 h.1));have HNx:=Hd (Mt.Look.next HL.out (by omega) k1 hw HKK.out.1 HKK.out.2.1 HKK.out.2.2);rw[HLL.out,HLz.out] at HNx;obtain⟨pv,hpv,hpf,hpc⟩:=S_1.out.ah k (by omega);have hpc:=hpc k1;subst hpc;have HKN:Hid (∀k2,prO s k=some k2→k2<a∧byt s k2=byt s a∧byt s (k2+1)=byt s (a+1)∧byt s (k2+2)=byt s (a+2)∧nn+1+k2+1≤a):=Hd (fun k2 hk2=>by
         have q:=Mt.prv_some hk2;exact⟨by have:=q.1;omega,q.2.1.trans HKK.out.1,q.2.2.1.trans HKK.out.2.1,q.2.2.2.1.trans HKK.out.2.2,by have:=q.1;omega⟩)
        have HKL:Hid (cI (prO s k)<(k:Int)∧ -1≤cI (prO s k)):=Hd (by cases hq:prO s k with | none=>exact⟨by show (-1:Int)<k;omega,by show (-1:Int)≤ -1;omega⟩ | some k2=>exact⟨by show ((k2:Nat):Int)<k;have:=(Mt.prv_some hq).1;omega,by show (-1:Int)≤((k2:Nat):Int);omega⟩);have HNx2:Hid (Mt.Look (byt s) s.size W a (prO s k) (if m<zz then zz else m) (if m<zz then a-k else dd)):=HNx;clear HNx;obtain⟨pr,hpr⟩:∃q,prO s k=q:=⟨_,rfl⟩;rw[hpr] at hpv HKN HKL HNx2;clear hpr hpf;obtain⟨pI,hpI⟩:∃q,cI pr=q:=⟨_,rfl⟩;rw[hpI] at hpv HKL;have HPI:=Hd hpI;clear hpI;have c3:=S_1.out.bk.cell 3;have ha3:(k:Int)<(s.size:Int):=by omega
        by_cases hmz:m<zz
        ·rw[if_pos hmz,if_pos hmz] at HNx2;have hmI:(m:Int)<(zz:Int):=by omega
         obtain⟨dk,hdk⟩:∃q:Nat,a-k=q:=⟨_,rfl⟩;have hdI:(a:Int)-(k:Int)=(dk:Int):=by omega
         rw[hdk] at HNx2;have HDK:=Hd hdk;clear hdk;go_wp2_with fail;go_roundw
         case rel=>exact⟨zz,dk,nn+1,pr,pI,rfl,rfl,rfl,by go_num,HNx2,HKN,Hd (.inl ⟨by simp,HPI.out.symm⟩),hz,by have:=HDK.out;omega,by omega,X_1⟩
         case measure=>have:=HKL.out;simp[intOf];omega
        ·rw[if_neg hmz,if_neg hmz] at HNx2;have hmI:¬ (m:Int)<(zz:Int):=by omega
         go_wp2_with fail;go_roundw
         case rel=>exact⟨m,dd,nn+1,pr,pI,rfl,rfl,rfl,by go_num,HNx2,HKN,Hd (.inl ⟨by simp,HPI.out.symm⟩),hm,hd,by omega,X_1⟩
         case measure=>have:=HKL.out;simp[intOf];omega
     ·have t3:decide ((nn:Int)<(T:Int))=false:=decide_eq_false (by omega);go_wp2_with fail;go_ret2;exact⟨m,dd,rfl,HL.out.good,fun hq=>absurd hq (by omega),HX.out⟩
    ·have t2:decide ((a:Int)-(k:Int)≤(W:Int))=false:=decide_eq_false (by omega);go_wp2_with fail;go_ret2;exact⟨m,dd,rfl,HL.out.good,fun hq=>HL.out.far (by omega),HX.out⟩
  ·go_wp2_with fail;go_ret2;exact⟨m,dd,rfl,HL.out.good,fun hq=>HL.out.none_,HX.out⟩
def tkl (l:List Tk) (i:Nat):Tk:=l.getD i ⟨0,0,0⟩
theorem tkl_old (l:List Tk) (t:Tk) {i:Nat} (h:i<l.length):tkl (l ++ [t]) i=tkl l i:=by
 unfold tkl;rw[List.getD,List.getD,List.getElem?_append_left h]
theorem tkl_new (l:List Tk) (t:Tk):tkl (l ++ [t]) l.length=t:=by
 unfold tkl;rw[List.getD,List.getElem?_append_right (Nat.le_refl _),Nat.sub_self];rfl
theorem expL_congr {tk tk':Nat→Tk}:∀ {n:Nat},(∀i,i<n→tk i=tk' i)→expL tk n=expL tk' n:=by
 intro n;induction n with
 | zero=>intro _;rfl
 | succ n ih=>intro h;simp only[expL];rw[ih (fun i hi=>h i (by omega)),h n (by omega)]
theorem expL_push {l:List Tk} {t:Tk} {out o:List UInt8} (h:expL (tkl l) l.length=.ok out) (hs:stepX t l.length out=.ok o):expL (tkl (l ++ [t])) (l ++ [t]).length=.ok o:=by
 have h1:expL (tkl (l ++ [t])) l.length=.ok out:=by rw[← h];exact expL_congr (fun i hi=>tkl_old l t hi)
 rw[List.length_append,List.length_singleton,expL_succ h1,tkl_new];exact hs
/-- the text's first a bytes -/
def pre (s:ByteArray) (a:Nat):List UInt8:=s.data.toList.take a
theorem list_len (s:ByteArray):s.data.toList.length=s.size:=by simp
theorem pre_len (s:ByteArray) {a:Nat} (h:a≤s.size):(pre s a).length=a:=by unfold pre;rw[List.length_take,list_len];omega
theorem pre_zero (s:ByteArray):pre s 0=[]:=rfl
theorem pre_all (s:ByteArray):pre s s.size=s.data.toList:=by unfold pre;rw[← list_len];exact List.take_length
theorem pre_succ (s:ByteArray) {a:Nat} (h:a<s.size):pre s (a+1)=pre s a ++ [s.data.toList.getD a 0]:=by
 have h':a<s.data.toList.length:=by rw[list_len];exact h
 unfold pre;rw[List.take_add_one,List.getElem?_eq_getElem h',List.getD,List.getElem?_eq_getElem h'];rfl
theorem pre_get (s:ByteArray) {a i:Nat} (h:i<a):(pre s a).getD i 0=s.data.toList.getD i 0:=by
 unfold pre;rw[List.getD,List.getD,List.getElem?_take_of_lt h]
theorem byt_inj {s:ByteArray} {i j:Nat} (h:byt s i=byt s j):s.data.toList.getD i 0=s.data.toList.getD j 0:=UInt8.toNat_inj.1 h
theorem copy_pre (s:ByteArray) {a d:Nat} (hd:1≤d) (hda:d≤a):∀m,a+m≤s.size→(∀j,j<m→byt s (a-d+j)=byt s (a+j))→copyL (pre s a) d m=pre s (a+m):=by
 intro m;induction m with
 | zero=>intro _ _;rfl
 | succ m ih=>
  intro hm hj;have e:=ih (by omega) (fun j h=>hj j (by omega));simp only[copyL];rw[e,pre_len s (by omega),pre_get s (by omega),show a+(m+1)=a+m+1 by omega,pre_succ s (by omega)];congr 2
  have:=byt_inj (hj m (by omega));rw[← this];congr 1;omega
/-- a row of tokens that grows -/
structure TL (s:ByteArray) (W T a:Nat) (l:List Tk):Prop where
 means:expL (tkl l) l.length=.ok (pre s a)
 le:a≤s.size
 few:l.length≤a
 win:∀t∈l,t.d≤(W:Int)
 ok:∀t∈l,t.Ok
 greed:s.size≤T→∀g,Mt.Greed (byt s) s.size W a g→Mt.Greed (byt s) s.size W 0 (l.length+g)
theorem TL.nil (s:ByteArray) (W T:Nat):TL s W T 0 []:=⟨by rw[pre_zero];rfl,Nat.zero_le _,Nat.le_refl _,by simp,by simp,fun _ g h=>by simpa using h⟩
theorem TL.lit {s:ByteArray} {W T a:Nat} {l:List Tk} (h:TL s W T a l) (ha:a<s.size) (hs:s.size≤300000) (hL:s.size≤T→∃d,Mt.Long (byt s) s.size W a 0 d):TL s W T (a+1) (l ++ [⟨s.data.toList.getD a 0,0,0⟩]):=by
 refine⟨?_,by omega,by rw[List.length_append,List.length_singleton];have:=h.few;omega,?_,?_,?_⟩
 ·refine expL_push h.means ?_;rw[pre_succ s ha];exact stepX_lit ⟨rfl,rfl⟩ (by rw[pre_len s h.le];omega)
 ·intro t ht;rcases List.mem_append.1 ht with ht | ht
  ·exact h.win t ht
  ·rw[List.mem_singleton.1 ht];show (0:Int)≤W;omega
 ·intro t ht;rcases List.mem_append.1 ht with ht | ht
  ·exact h.ok t ht
  ·rw[List.mem_singleton.1 ht];exact⟨⟨(by show (-9223372036854775808:Int)≤0;decide),(by show (0:Int)≤9223372036854775807;decide)⟩,⟨(by show (-9223372036854775808:Int)≤0;decide),(by show (0:Int)≤9223372036854775807;decide)⟩⟩
 ·intro hT g hg;obtain⟨d,hd⟩:=hL hT;have:=h.greed hT (g+1) (.lit ha hd hg);rw[List.length_append,List.length_singleton,show l.length+1+g=l.length+(g+1) by omega];exact this
theorem TL.mat {s:ByteArray} {W T a m d:Nat} {l:List Tk} (h:TL s W T a l) (hM:Mt.Mat (byt s) s.size W a m d) (hs:s.size≤300000) (hW:W≤32768) (hL:s.size≤T→Mt.Long (byt s) s.size W a m d):TL s W T (a+m) (l ++ [⟨0,m,d⟩]):=by
 obtain⟨h1,h2,h3,h4,h5,h6,h7⟩:=hM;refine⟨?_,h3,by rw[List.length_append,List.length_singleton];have:=h.few;omega,?_,?_,?_⟩
 ·refine expL_push h.means ?_;rw[← copy_pre s h4 h6 m h3 h7];have hb:¬ badP ⟨0,(m:Int),(d:Int)⟩ (pre s a).length:=by
   rw[pre_len s h.le];rintro (q | q | q | q | q | q)
   ·exact q rfl
   ·have:(m:Int)<3:=q;omega
   ·have:(258:Int)<m:=q;omega
   ·have:(d:Int)<1:=q;omega
   ·have:(32768:Int)<d:=q;omega
   ·have:(a:Int)<d:=q;omega
  exact stepX_copy (fun q=>by have:(m:Int)=0:=q.1;omega) hb rfl rfl (by rw[pre_len s h.le];omega)
 ·intro t ht;rcases List.mem_append.1 ht with ht | ht
  ·exact h.win t ht
  ·rw[List.mem_singleton.1 ht];show (d:Int)≤W;omega
 ·intro t ht;rcases List.mem_append.1 ht with ht | ht
  ·exact h.ok t ht
  ·rw[List.mem_singleton.1 ht];exact⟨⟨by show (-9223372036854775808:Int)≤m;omega,by show (m:Int)≤9223372036854775807;omega⟩,⟨by show (-9223372036854775808:Int)≤d;omega,by show (d:Int)≤9223372036854775807;omega⟩⟩
 ·intro hT g hg;have:=h.greed hT (g+1) (.mat (by omega) (hL hT) hg);rw[List.length_append,List.length_singleton,show l.length+1+g=l.length+(g+1) by omega];exact this
/-- the cells of tokens, one behind the other -/
def cellT (tk:Nat→Tk) (j:Nat):Value:=if j%3=0 then .int .u8 ((tk (j/3)).b.toNat:Int) else if j%3=1 then .int .i64 (tk (j/3)).l else .int .i64 (tk (j/3)).d
def tkV (n:Nat) (tk:Nat→Tk):List Value:=(List.range (n*3)).map (cellT tk)
theorem tkV_length (n:Nat) (tk:Nat→Tk):(tkV n tk).length=n*3:=by simp[tkV]
theorem tkV_get (n:Nat) (tk:Nat→Tk) (j:Nat) (h:j<n*3):(tkV n tk)[j]? =some (cellT tk j):=by simp[tkV,h]
theorem cellT_0 (tk:Nat→Tk) (i:Nat):cellT tk (i*3)=.int .u8 ((tk i).b.toNat:Int):=by
 unfold cellT;rw[if_pos (by omega),show i*3/3=i by omega]
theorem cellT_1 (tk:Nat→Tk) (i:Nat):cellT tk (i*3+1)=.int .i64 (tk i).l:=by
 unfold cellT;rw[if_neg (by omega),if_pos (by omega),show (i*3+1)/3=i by omega]
theorem cellT_2 (tk:Nat→Tk) (i:Nat):cellT tk (i*3+2)=.int .i64 (tk i).d:=by
 unfold cellT;rw[if_neg (by omega),if_neg (by omega),show (i*3+2)/3=i by omega]
theorem add_add3 (a:Addr) (i c:Nat) (hc:c≠0):a.add (i*3+c)=⟨(a.add (i*3)).block,(a.add (i*3)).off+c,none⟩:=by
 unfold Addr.add;rw[if_neg (by omega)];split
 ·rename_i h;have:i=0:=by omega
  subst this;simp
 ·simp[Nat.add_assoc]
theorem Toks.cells {w:World} {a:Addr} {n:Nat} {tk:Nat→Tk} (h:Toks w (some a) n tk) (j:Nat) (u:Value) (hj:(tkV n tk)[j]? =some u):w.cell? (a.add j)=some u:=by
 have hl:j<n*3:=by
  rcases Nat.lt_or_ge j (n*3) with q | q
  ·exact q
  ·rw[List.getElem?_eq_none (by rw[tkV_length];exact q)] at hj;cases hj
 rw[tkV_get _ _ _ hl] at hj;injection hj with hj;subst hj;obtain⟨c0,c1,c2,_⟩:=h.2 a rfl (j/3) (by omega);obtain⟨i,c,rfl,hc⟩:∃i c,j=i*3+c∧c<3:=⟨j/3,j%3,by omega,by omega⟩;rw[show (i*3+c)/3=i by omega] at c0 c1 c2;match c,hc with
 | 0,_=>rw[Nat.add_zero,cellT_0];exact c0
 | 1,_=>rw[cellT_1,add_add3 _ _ _ (by decide)];exact c1
 | 2,_=>rw[cellT_2,add_add3 _ _ _ (by decide)];exact c2
theorem Toks.of_own {w:World} {base:Nat} {v:Value} {n:Nat} {tk:Nat→Tk} (h:w.ownsRow base 165 3 v n (tkV n tk)) (hb:∀i,i<n→(tk i).Ok):
  ∃x c,v=.slice x n c∧Toks w x n tk:=by
 rcases ownsRow_slice h with⟨rfl,h0⟩ | ⟨g,cap,rfl⟩
 ·subst h0;exact⟨none,0,rfl,fun _=>rfl,fun a h=>by cases h⟩
 ·refine⟨some ⟨g,0,none⟩,cap,rfl,(fun h=>by cases h),fun a ha i hi=>?_⟩;injection ha with ha;subst ha;rw[add_plain];refine⟨?_,?_,?_,hb i hi⟩
  ·rw[h.cellAt _ (by omega),tkV_get _ _ _ (by omega),cellT_0]
  ·show w.cell? ⟨g,i*3+1,none⟩=_;rw[h.cellAt _ (by omega),tkV_get _ _ _ (by omega),cellT_1]
  ·show w.cell? ⟨g,i*3+2,none⟩=_;rw[h.cellAt _ (by omega),tkV_get _ _ _ (by omega),cellT_2]
theorem tokinf:(Tryz.prog.info? 165).map (fun i=>(i.zero,i.size,i.bytes))=some (some (.agg #[.int .u8 0,.int .i64 0,.int .i64 0]),3,24):=by kernel_rfl
theorem tkV_push (l:List Tk) (t:Tk):tkV (l ++ [t]).length (tkl (l ++ [t]))=tkV l.length (tkl l) ++ [.int .u8 (t.b.toNat:Int),.int .i64 t.l,.int .i64 t.d]:=by
 have e:(l ++ [t]).length*3=l.length*3+1+1+1:=by rw[List.length_append,List.length_singleton];omega
 have h0:(List.range (l.length*3)).map (cellT (tkl (l ++ [t])))=(List.range (l.length*3)).map (cellT (tkl l)):=by
  apply List.map_congr_left;intro j hj;have hj:=List.mem_range.1 hj;unfold cellT;rw[tkl_old l t (by omega)]
 unfold tkV;rw[e,List.range_succ,List.range_succ,List.range_succ,List.map_append,List.map_append,List.map_append,h0];simp only[List.map_cons,List.map_nil,List.append_assoc,List.cons_append,List.nil_append];rw[cellT_0,cellT_1,cellT_2,tkl_new]
theorem row_sl {w:World} {base:Nat} {e:TypeId} {size n:Nat} {v:Value} {xs:List Value} (h:w.ownsRow base e size v n xs):∃x c,v=.slice x n c:=by
 rcases ownsRow_slice h with⟨rfl,rfl⟩ | ⟨g,c,rfl⟩
 ·exact⟨none,0,rfl⟩
 ·exact⟨some ⟨g,0,none⟩,c,rfl⟩
theorem owns_b {w:World} {b b':Nat} {e:TypeId} {size:Nat} {v:Value} {n:Nat} {xs:List Value} (h:w.ownsRow b e size v n xs) (hb:b'≤b):w.ownsRow b' e size v n xs:=by
 obtain⟨h1,h2⟩:=h;refine⟨h1,?_⟩;rcases h2 with h2 | ⟨g,cap,cur,hv,hg,r⟩
 ·exact .inl h2
 ·exact .inr ⟨g,cap,cur,hv,by omega,r⟩
structure TS (w0 w:World) (base B mp ab:Nat) (s:ByteArray) (W T q:Nat) (v:Value) (l:List Tk):Prop where
 ext:Ext w0 w
 st:FSt w B mp ab s (W:Int) (T:Int) q
 row:w.ownsRow base 165 3 v l.length (tkV l.length (tkl l))
 o2:w0.heap.size≤mp
 o3:w0.heap.size≤ab
 lt:B<base∧mp<base∧ab<base
 bw:base≤w.heap.size
 b0:w0.heap.size≤base
theorem TS.step {w0 w w':World} {base B mp ab W T q:Nat} {s:ByteArray} {v:Value} {l:List Tk} (h:TS w0 w base B mp ab s W T q v l) (hE:Ext w w'):TS w0 w' base B mp ab s W T q v l:=
 ⟨h.ext.trans hE,h.st.ext hE,ownsRow_kept h.row (hE.keeps (S:=fun _=>False)) (fun _ _ q=>q),h.o2,h.o3,h.lt,Nat.le_trans h.bw hE.size,h.b0⟩
theorem TS.put {w0 w w':World} {base B mp ab W T q q':Nat} {s:ByteArray} {v:Value} {l:List Tk} (h:TS w0 w base B mp ab s W T q v l) (hs:FSt w' B mp ab s (W:Int) (T:Int) q') (hk:Keeps (fun k=>k=mp∨k=ab) w w'):TS w0 w' base B mp ab s W T q' v l:=
 ⟨Below.trans h.ext (hk.below h.ext.size (fun k hk' e=>by rcases e with e | e;(have:=h.o2;omega);have:=h.o3;omega)),hs,ownsRow_kept h.row hk (fun k hk' e=>by have:=(h.row.lt k hk').1;have:=h.lt;omega),h.o2,h.o3,h.lt,Nat.le_trans h.bw hk.size,h.b0⟩
theorem TS.grow {w0 w w':World} {base B mp ab W T q:Nat} {s:ByteArray} {v v':Value} {l:List Tk} {t:Tk} (h:TS w0 w base B mp ab s W T q v l) (hk:Keeps (fun k=>v.ownBlock=some k) w w') (ho:w'.ownsRow base 165 3 v' (l ++ [t]).length (tkV (l ++ [t]).length (tkl (l ++ [t])))):TS w0 w' base B mp ab s W T q v' (l ++ [t]):=by
 have nb:∀k,k<base→¬ v.ownBlock=some k:=fun k hk' e=>by have:=(h.row.lt k e).1;omega
 exact⟨Below.trans h.ext (hk.below h.ext.size (fun k hk'=>nb k (Nat.lt_of_lt_of_le hk' h.b0))),h.st.keeps hk (nb _ h.lt.1) (nb _ h.lt.2.1) (nb _ h.lt.2.2),ho,h.o2,h.o3,h.lt,Nat.le_trans h.bw hk.size,h.b0⟩
def triesOf (s:ByteArray):Nat:=if 3000<s.size then 64 else s.size
def tokAt (s:ByteArray) (a m d:Nat):Tk:=if m=0 then ⟨s.data.toList.getD a 0,0,0⟩ else ⟨0,m,d⟩
theorem TL.more {s:ByteArray} {W T a m d:Nat} {l:List Tk} (h:TL s W T a l) (ha:a<s.size) (hs:s.size≤300000) (hW:W≤32768) (hG:Mt.Good (byt s) s.size W a m d) (hL:s.size≤T→Mt.Long (byt s) s.size W a m d):TL s W T (a+(if m=0 then 1 else m)) (l ++ [tokAt s a m d]):=by
 unfold tokAt;by_cases hm:m=0
 ·subst hm;rw[if_pos rfl,if_pos rfl];exact h.lit ha hs (fun hT=>⟨d,hL hT⟩)
 ·rw[if_neg hm,if_neg hm];exact h.mat (hG.one hm) hs hW hL
set_option maxHeartbeats 4000000 in
theorem tokens_good (s:ByteArray) (W:Nat) (w:World) (hs:s.size≤300000) (h1:1≤W) (h2:W≤32768):
  Calls Tryz.prog 86 #[.string s,.int .i64 (W:Int)] w fun e w'=>∃(l:List Tk) (v:Value),e=.returned (.tuple #[v,.nilIface])∧w'.ownsRow w.heap.size 165 3 v l.length (tkV l.length (tkl l))∧TL s W (triesOf s) s.size l∧Ext w w':=by
 obtain⟨i0,hi0,hz0,hz1,hz2⟩:=info_parts tokinf;have hb:badB s (W:Int)=false:=by unfold badB;exact decide_eq_false (by omega)
 have HB:=Hd (fun wz=>mbad_any s (W:Int) wz (by unfold maxLen;omega));rw[hb] at HB;clear hb;obtain⟨T,hT⟩:∃T,triesOf s=T:=⟨_,rfl⟩;have hTl:T≤300000:=by rw[← hT];unfold triesOf;split <;> omega
 rw[hT];have HT:=Hd hT;clear hT;go_enter Tryz.func86,Tryz.ntmps86
 go_wp2_with fail;refine (HB.out _).mono ?_;rintro e w9 ⟨rfl,rfl⟩;go_upto_if 21 with fail
 go_cut [6] (fun s6 wx=>s6=.int .i64 (T:Int)∧w9=wx)
 case first=>
  by_cases q:3000<s.size
  ·have t1:decide ((3000:Int)<(s.size:Int))=true:=decide_eq_true (by omega);have hTT:T=64:=by rw[← HT.out];unfold triesOf;rw[if_pos q]
   go_wp2_with fail;go_meet
   exact⟨by rw[hTT];rfl,rfl⟩
  ·have t1:decide ((3000:Int)<(s.size:Int))=false:=decide_eq_false (by omega);have hTT:T=s.size:=by rw[← HT.out];unfold triesOf;rw[if_neg q]
   go_wp2_with fail;go_meet
   exact⟨by rw[hTT],rfl⟩
 case rest=>
  obtain⟨rfl,rfl⟩:=hcut;go_wp2_with fail;refine (newFinder_any s (W:Int) (T:Int) _ (by omega)).mono ?_;rintro e w1 ⟨B,mp,ab,rfl,hF,hX,q1,q2,q3⟩;have hTS:TS w9 w1 w1.heap.size B mp ab s W T 0 (.slice none 0 0) []:=⟨hX,hF,World.ownsRow_nil _ _ _ _,q2,q3,⟨hF.bk.lt,hF.mm.lt,hF.al⟩,Nat.le_refl _,hX.size⟩;have HS:=Hd hTS;obtain⟨base,hbs⟩:∃z,w1.heap.size=z:=⟨_,rfl⟩;rw[hbs] at HS;clear hF hX q1 q2 q3 hTS hbs;go_wp2_with fail;go_loopw [8,9] (fun v k wr=>∃(a:Nat) (l:List Tk),k=.int .i64 (a:Int)∧Hid (TL s W T a l)∧Hid (TS w9 wr base B mp ab s W T (min a (s.size-2)) v l)) (fun _ k _=>s.size-(intOf k).toNat)
  case atStart=>exact⟨0,[],rfl,Hd (TL.nil _ _ _),by rw[Nat.zero_min];exact HS⟩
  case round=>
   clear HS;obtain⟨a,l,rfl,HL,HS⟩:=hrel;have hal:=HL.out.le;have hlf:=HL.out.few;obtain⟨xo,co,rfl⟩:=row_sl HS.out.row;by_cases hlt:a<s.size
   ·have HLG:Hid (∀wz,Ext wr wz→Calls Tryz.prog 118 #[.pointer (some ⟨B,0,none⟩),.int .i64 (a:Int)] wz fun e w'=>∃m d:Nat,e=.returned (.tuple #[.int .i64 (m:Int),.int .i64 (d:Int)])∧Mt.Good (byt s) s.size W a m d∧(s.size≤T→Mt.Long (byt s) s.size W a m d)∧Ext wz w'):=Hd (fun wz hz=>by
     by_cases h3:a+3≤s.size
     ·have hq:=(HS.out.st.ext hz);rw[show min a (s.size-2)=a by omega] at hq;exact longest_yes B mp ab a W T s wz hq h3 (by omega) (by omega) (by omega)
     ·refine (longest_no B mp ab a _ s _ _ wz (HS.out.st.ext hz) (by omega) (by omega) (by omega)).mono ?_;rintro e w5 ⟨rfl,rfl⟩;exact⟨0,0,rfl,Mt.Good.edge _ _ _ _,fun _=>Mt.Long.edge _ _ _ _ (by omega),Ext.refl _⟩)
    go_wp2_with fail;refine (HLG.out _ (Ext.refl _)).mono ?_;rintro e w3 ⟨m,d,rfl,hg,hl,hx⟩;have HG:=Hd (And.intro hg hl);have HS3:=Hd (HS.out.step hx);have hml:m≤258:=by rcases Nat.eq_zero_or_pos m with q | q;(omega);exact (hg.one (by omega)).most
    have hdl:d≤32768:=by rcases Nat.eq_zero_or_pos m with q | q;(have:=hg.zero q;omega);have:=(hg.one (by omega)).win;omega
    have hm3:m≠0→3≤m:=fun q=>(hg.one q).three;have HN:=Hd (HL.out.more hlt (by omega) h2 hg hl);clear hl hx hg HS HLG;obtain⟨y,hy⟩:∃z,(s[a]'hlt).toNat=z:=⟨_,rfl⟩;have HBy:Hid (byt s a=y):=Hd ((byt_at s a hlt).trans hy);have hyI:(((s[a]'hlt).toNat:Nat):Int)=(y:Int):=by rw[hy]
    have hyl:y<256:=by rw[← hy];exact UInt8.toNat_lt _
    clear hy;have HTK:Hid (tokAt s a m d=if m=0 then ⟨s.data.toList.getD a 0,0,0⟩ else ⟨0,m,d⟩):=Hd rfl;obtain⟨t,ht⟩:∃t,tokAt s a m d=t:=⟨_,rfl⟩;rw[ht] at HTK HN;clear ht;obtain⟨M,hM⟩:∃M,(if m=0 then 1 else m)=M:=⟨_,rfl⟩;rw[hM] at HN;have HM:=Hd hM;clear hM;go_upto_if 41 with fail
    go_cut [12] (fun s12 wx=>s12=.pointer (some ⟨w3.heap.size,0,none⟩)∧Hid (Ext w3 wx)∧Hid (Bk wx w3.heap.size #[.int .u8 (t.b.toNat:Int),.int .i64 t.l,.int .i64 t.d]))
    case first=>
     by_cases hm:m=0
     ·subst hm;have t1:decide ((3:Int)≤((0:Nat):Int))=false:=by decide
      have hlit:¬ (3:Int)≤0:=by decide
      rw[if_pos rfl] at HTK;have hyb:((s.data.toList.getD a 0).toNat:Int)=(y:Int):=by have:=HBy.out;unfold byt at this;omega
      go_wp2_with fail;go_meet
      refine⟨rfl,Hd ((Ext.refl _).alloc _),Hd ?_⟩;rw[HTK.out];show Bk _ _ #[.int .u8 ((s.data.toList.getD a 0).toNat:Int),.int .i64 0,.int .i64 0];rw[hyb];exact Bk.at rfl
     ·have h3m:=hm3 hm;have t1:decide ((3:Int)≤(m:Int))=true:=decide_eq_true (by omega);rw[if_neg hm] at HTK;go_wp2_with fail;go_meet
      refine⟨rfl,Hd ((Ext.refl _).alloc _),Hd ?_⟩;rw[HTK.out];exact Bk.at rfl
    case rest=>
     obtain⟨rfl,HX4,HB4⟩:=hcut;have HS4:=Hd (HS3.out.step HX4.out);have hTl2:t.l=(m:Int):=by rw[HTK.out];split;(rename_i q;subst q;rfl);rfl
     have hMd:(m=0∧M=1)∨(3≤m∧M=m):=by have:=HM.out;by_cases q:m=0;(rw[if_pos q] at this;exact .inl ⟨q,this.symm⟩);(rw[if_neg q] at this;exact .inr ⟨hm3 q,this.symm⟩)
     rw[hTl2] at HB4;obtain⟨tb,htb⟩:∃z:Nat,t.b.toNat=z:=⟨_,rfl⟩;obtain⟨td,htd⟩:∃z:Int,t.d=z:=⟨_,rfl⟩;obtain⟨tB,htB⟩:∃z,w3.heap.size=z:=⟨_,rfl⟩;have HTB:Hid (∀k,(Value.slice xo l.length co).ownBlock=some k→k<w3.heap.size):=Hd (fun k e=>(HS3.out.row.lt k e).2);rw[htb,htd,htB] at HB4;rw[htB] at HTB⊢;have HTT:=Hd (And.intro htb (And.intro htd hTl2));clear htb htd htB hTl2 HX4 HS3 HTK HG;have k0:=HB4.out.cell 0;have k1:=HB4.out.cell 1;have k2:=HB4.out.cell 2;have hzb:=HS4.out.bw;obtain⟨n0,hn0⟩:∃n,l.length=n:=⟨_,rfl⟩;have hn0l:n0≤300000:=by omega
     have HNL:=Hd hn0;have HRow:=Hd HS4.out.row;rw[hn0] at HRow HS4 HTB⊢;go_wp2_with (at_builtin;refine wpList_append_own_at _ rfl _ _ 95 rfl base 165 i0 _ 3 24 Tryz.underlying95 hi0 hz0 hz1 hz2 rfl (by decide) _ _ _ rfl (HRow.out.alloc _) ⟨wc.heap.size,0,none⟩ 1 1 [.int .u8 (tb:Int),.int .i64 (m:Int),.int .i64 td] rfl rfl ?c1 ?c2 ?c3 ?c4 ?c5 ?_)
     case c1=>
      intro j u hu;rw[add_plain];exact (Bk.at (w:=wc) rfl).cell j |>.trans (by simpa using hu)
     case c2=>intro u hu;simp at hu;rcases hu with hu | hu | hu <;> (subst hu;rfl)
     case c3=>unfold maxLen;omega
     case c4=>omega
     case c5=>rw[World.size_alloc];omega
     intro v7 w7 hown hgrow _ hat;have K7:=(Keeps.alloc (Ext.keeps (S:=fun i=>(Value.slice xo n0 co).ownBlock=some i) (Ext.refl wc)) (.cells #[.int .u8 (tb:Int),.int .i64 (m:Int),.int .i64 td] 165)).trans (Keeps.grown hgrow) (fun _ _ q=>q);have O7:w7.ownsRow base 165 3 v7 (l ++ [t]).length (tkV (l ++ [t]).length (tkl (l ++ [t]))):=by
      rw[tkV_push,List.length_append,List.length_singleton,HNL.out,HTT.out.1,HTT.out.2.1,HTT.out.2.2];exact hown
     have HB7:=Hd (HB4.out.keeps K7 (fun e=>by have:=HTB.out _ e;omega));have HS7:=Hd (TS.grow (t:=t) HS4.out K7 O7);clear hown hgrow hat K7 O7 HB4 HS4 HRow k0 k1 k2;have k1:=HB7.out.cell 1;have hmx:(if (1:Int)<(m:Int) then (m:Int) else 1)=(M:Int):=by rcases hMd with q | q;(rw[if_neg (by omega)];omega);(rw[if_pos (by omega)];omega)
     have haM:=HN.out.le;go_wp2_with fail;clear hmx k1;go_loopw [9,52] (fun k i wr=>∃j A:Nat,A=a+j∧k=.int .i64 (A:Int)∧i=.int .i64 (j:Int)∧j≤M∧Hid (TS w9 wr base B mp ab s W T (min A (s.size-2)) v7 (l ++ [t]))) (fun _ i _=>M-(intOf i).toNat)
     case atStart=>exact⟨0,a,rfl,rfl,rfl,by omega,HS7⟩
     case round=>
      clear HS7;obtain⟨j,A,hA,rfl,rfl,hjM,HS⟩:=hrel;by_cases hj:j<M
      ·have hAs:A<s.size:=by omega
       have hA1:A+1=a+(j+1):=by omega
       have HA1:=Hd hA1;clear hA hA1;have HPT:Hid (∀wz,Ext wr wz→Calls Tryz.prog 119 #[.pointer (some ⟨B,0,none⟩),.int .i64 (A:Int)] wz fun e w'=>e=.returned (.tuple #[])∧FSt w' B mp ab s (W:Int) (T:Int) (min (A+1) (s.size-2))∧Keeps (fun k=>k=mp∨k=ab) wz w'):=Hd (fun wz hz=>by
        by_cases h3:A+3≤s.size
        ·have hq:=(HS.out.st.ext hz);rw[show min A (s.size-2)=A by omega] at hq;rw[show min (A+1) (s.size-2)=A+1 by omega];exact put_yes B mp ab A s _ _ wz hq h3 (by omega)
        ·refine (put_no B mp ab A _ s _ _ wz (HS.out.st.ext hz) (by omega) (by omega) (by omega)).mono ?_;rintro e w5 ⟨rfl,rfl⟩;refine⟨rfl,?_,Keeps.refl _ _⟩;have hq:=(HS.out.st.ext hz);rwa [show min A (s.size-2)=min (A+1) (s.size-2) by omega] at hq)
       go_wp2_with fail;refine (HPT.out _ (Ext.refl _)).mono ?_;rintro e w5 ⟨rfl,hq1,hq2⟩;have HSN:=Hd (HS.out.put hq1 hq2);clear hq1 hq2 HPT HS;go_wp2_with fail;go_roundw
       case rel=>exact⟨j+1,A+1,HA1.out,by go_num,by go_num,by omega,HSN⟩
       case measure=>simp[intOf];omega
      ·obtain rfl:j=M:=by omega
       have HA:=Hd hA;clear hA;go_wp2_with fail;go_roundw
       case rel=>exact⟨A,l ++ [t],rfl,by rw[HA.out];exact HN,HS⟩
       case measure=>have:=HA.out;simp[intOf];omega
   ·obtain rfl:a=s.size:=by omega
    go_wp2_with fail;go_ret2;exact⟨l,_,rfl,owns_b HS.out.row HS.out.b0,HL.out,HS.out.ext⟩
theorem align_calls (B o n V:Nat) (v:Value) (w:World) (hW:WAt w B o v V n) (hn:n<1099511627776):
    Calls Tryz.prog 121 #[.pointer (some ⟨B,o,none⟩)] w fun e w'=>e=.returned (.tuple #[])∧WAt w' B o v V ((n+7)/8*8)∧WStep w w' B o v v:=by
  obtain⟨c0,c1,f0,f1,⟨l,hl,hV,hown⟩,hap,hlt⟩:=hW;have a3:(⟨B,o+1,none⟩:Addr)≠⟨B,o,none⟩:=by intro e;injection e with _ e2;omega
  have e8:(8:Int)*(l.length:Int)=(((n+7)/8*8:Nat):Int):=by rw[hl];omega
  have hlenI:(l.length:Int)≤1099511627776:=by omega
  have fin:∀m:Nat,WAt ((w.setCell ⟨B,o+1,none⟩ (.int .i64 ((8:Int)*(l.length:Int)))).drewN m) B o v V ((n+7)/8*8)∧WStep w ((w.setCell ⟨B,o+1,none⟩ (.int .i64 ((8:Int)*(l.length:Int)))).drewN m) B o v v:=by
    intro m;rw[e8];refine⟨⟨?_,?_,?_,?_,⟨l,by omega,hV,?_⟩,hap,?_⟩,⟨?_,?_,?_,?_⟩⟩
    · exact (World.cell?_setCell_other _ _ _ _ a3).trans c0
    · exact World.cell?_setCell_same _ _ _ c1
    · show World.frozen? (World.setCell _ _ _) _=_;rw[World.frozen?_setCell];exact f0
    · show World.frozen? (World.setCell _ _ _) _=_;rw[World.frozen?_setCell];exact f1
    · exact ownsRow_setCell_other hown hap _
    · exact Nat.lt_of_lt_of_le hlt (Nat.pow_le_pow_right (by decide) (by omega))
    · exact ((Keeps.refl _ w).setCell (.inl (.inl rfl)) _).drewN m
    · intro j h1 h2;have b1:(⟨B,o+1,none⟩:Addr)≠⟨B,j,none⟩:=by intro e;injection e with _ e2;exact h2 e2.symm
      exact World.cell?_setCell_other _ _ _ _ b1
    · intro j;show World.frozen? (World.setCell _ _ _) _=_;rw[World.frozen?_setCell]
    · intro k hk;exact .inl hk
  have HF:=Hd fin
  have H8:=Hd e8;rcases ownsRow_slice hown with⟨rfl,h0⟩ | ⟨g,cap,rfl⟩
  · have HL:=Hd hl;have H0:=Hd h0;rw[h0] at HF;clear hl hV h0 fin e8;go_enter Tryz.func121,Tryz.ntmps121
    go_wp2
    go_end0;exact⟨rfl,HF.out 0⟩
  · have HL:=Hd hl;clear hl hV fin e8;go_enter Tryz.func121,Tryz.ntmps121
    go_wp2
    go_end0;exact⟨rfl,HF.out 0⟩
set_option maxHeartbeats 1000000 in
theorem bytes_calls (B o n V:Nat) (v:Value) (s:ByteArray) (w:World) (hW:WAt w B o v V n) (h8:n%8=0) (hn:n+8*s.size<1099511627776):
  Calls Tryz.prog 122 #[.pointer (some ⟨B,o,none⟩),.string s] w fun e w'=>e=.returned (.tuple #[])∧∃v',WAt w' B o v' (V+Crc.num s.data.toList*2^n) (n+8*s.size)∧WStep w w' B o v v':=by
 obtain⟨i0,hi0,hz0,hz1,hz2⟩:=info_parts u8inf;have HA:=Hd (align_calls B o n V v w hW (by omega));rw[show (n+7)/8*8=n by omega] at HA;clear hW;go_enter Tryz.func122,Tryz.ntmps122
 go_wp2_with fail;refine HA.out.mono ?_;rintro e w2 ⟨rfl,hW2,hS2⟩;obtain⟨c0,c1,f0,f1,⟨l,hl,hV,hown⟩,hap,hlt⟩:=hW2;obtain⟨N,hN⟩:∃N,l.length=N:=⟨_,rfl⟩;have hlN:=hN;rw[hN] at hown hl;obtain⟨x,c,rfl⟩:=lit_row hown;have HO:=Hd hown;have HN:=Hd hN;have HV:=Hd hV;have HS2:=Hd hS2;have HP:=Hd (And.intro hap hlt);have hB:B<w2.heap.size:=World.block_lt_of_cell? w2 _ c0;have HB:=Hd hB;have H8:=Hd h8;have HL:=Hd hl;have hNb:N≤140737488355328:=by omega
 have hSb:N+s.size≤140737488355328:=by omega
 have F0:=Hd f0;have F1:=Hd f1;have C1:=Hd c1;clear hown hN hlN hV hS2 hap hlt hl h8 HA;go_wp2_with (at_builtin;refine wpList_app_string rfl _ _ 62 9 rfl 0 5 i0 Tryz.underlying62 Tryz.underlying9 hi0 hz0 hz1 hz2 _ _ _ rfl HO.out s rfl ?c3 ?c4 (Nat.zero_le _) ?_)
 case c3=>unfold maxLen;omega
 case c4=>omega
 intro v8 w8 hown hgrow hat;obtain⟨x8,c8,rfl⟩:=lit_row hown;have K:Keeps (fun k=>(Value.slice x N c).ownBlock=some k) w2 w8:=Keeps.grown hgrow;have nB:¬ (Value.slice x N c).ownBlock=some B:=HP.out.1;have k0:w8.cell? ⟨B,o,none⟩=some (.slice x N c):=(K.cell (p:=⟨B,o,none⟩) HB.out nB).trans c0;have k1:w8.cell? ⟨B,o+1,none⟩=some (.int .i64 (n:Int)):=(K.cell (p:=⟨B,o+1,none⟩) HB.out nB).trans c1;have g0:w8.frozen? ⟨B,o,none⟩=false:=(K.frozen (p:=⟨B,o,none⟩) HB.out nB).trans f0;have g1:w8.frozen? ⟨B,o+1,none⟩=false:=(K.frozen (p:=⟨B,o+1,none⟩) HB.out nB).trans f1;have nB8:(Value.slice x8 (N+s.size) c8).ownBlock≠some B:=by
  rcases hat with q | q
  ·rw[q];exact nB
  ·rw[q];intro e;injection e with e;have:=HB.out;omega
 have hnew:∀k,(Value.slice x8 (N+s.size) c8).ownBlock=some k→(Value.slice x N c).ownBlock=some k∨w2.heap.size≤k:=by
  intro k hk;rcases hat with q | q
  ·rw[q] at hk;exact .inl hk
  ·rw[q] at hk;injection hk with hk;exact .inr (by omega)
 have a3:(⟨B,o+1,none⟩:Addr)≠⟨B,o,none⟩:=by intro e;injection e with _ e2;omega
 have e8:(8:Int)*((N+s.size:Nat):Int)=((n+8*s.size:Nat):Int):=by have:=HL.out;have:=H8.out;omega
 have HF:Hid (WAt ((w8.setCell ⟨B,o,none⟩ (.slice x8 (N+s.size) c8)).setCell ⟨B,o+1,none⟩ (.int .i64 ((8:Int)*((N+s.size:Nat):Int)))) B o (.slice x8 (N+s.size) c8) (V+Crc.num s.data.toList*2^n) (n+8*s.size)∧WStep w2 ((w8.setCell ⟨B,o,none⟩ (.slice x8 (N+s.size) c8)).setCell ⟨B,o+1,none⟩ (.int .i64 ((8:Int)*((N+s.size:Nat):Int)))) B o (.slice x N c) (.slice x8 (N+s.size) c8)):=Hd (by
  rw[e8];have hl8:(l++s.data.toList).length=N+s.size:=by rw[List.length_append,HN.out];rfl
  have e1:2^n=2^(8*l.length):=by rw[HN.out,HL.out];congr 1;have:=H8.out;omega
  have hnum:Crc.num (l++s.data.toList)=V+Crc.num s.data.toList*2^n:=by rw[numcat,HV.out,e1]
  refine⟨⟨?_,?_,?_,?_,⟨l++s.data.toList,by rw[hl8];have:=HL.out;have:=H8.out;omega,hnum,?_⟩,nB8,?_⟩,⟨?_,?_,?_,hnew⟩⟩
  ·exact (World.cell?_setCell_other _ _ _ _ a3).trans (World.cell?_setCell_same _ _ _ k0)
  ·exact World.cell?_setCell_same _ _ _ ((World.cell?_setCell_other _ _ _ _ (fun e=>a3 e.symm)).trans k1)
  ·rw[World.frozen?_setCell,World.frozen?_setCell];exact g0
  ·rw[World.frozen?_setCell,World.frozen?_setCell];exact g1
  ·rw[hl8,show bytesV (l++s.data.toList)=bytesV l++Lib.strCells s by rw[strCells_eq];simp[bytesV]];exact ownsRow_setCell_other (ownsRow_setCell_other hown nB8 _) nB8 _
  ·rw[← hnum];have h:=Crc.num_lt (l++s.data.toList);rw[hl8] at h;rw[show n+8*s.size=8*(N+s.size) by have:=HL.out;have:=H8.out;omega];exact h
  ·exact ((K.mono (fun _ _ q=>.inr q)).setCell (p:=⟨B,o,none⟩) (.inl (.inl rfl)) _).setCell (p:=⟨B,o+1,none⟩) (.inl (.inl rfl)) _
  ·intro j h1 h2;have b0:(⟨B,o,none⟩:Addr)≠⟨B,j,none⟩:=by intro e;injection e with _ e2;exact h1 e2.symm
   have b1:(⟨B,o+1,none⟩:Addr)≠⟨B,j,none⟩:=by intro e;injection e with _ e2;exact h2 e2.symm
   exact ((World.cell?_setCell_other _ _ _ _ b1).trans (World.cell?_setCell_other _ _ _ _ b0)).trans (K.cell (p:=⟨B,j,none⟩) HB.out nB)
  ·intro j;rw[World.frozen?_setCell,World.frozen?_setCell];exact K.frozen (p:=⟨B,j,none⟩) HB.out nB)
 clear hown hgrow hat K nB nB8 hnew e8 c0 c1 f0 f1;go_wp2_with fail;go_end0;exact⟨rfl,_,HF.out.1,HS2.out.trans HF.out.2⟩
end Go.Proofs.YthlibiocadimhaaGreatDoor
