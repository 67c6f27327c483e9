/-
  inflate.Inflate.
  inflate.Unzip.
-/
import Derived.Test.YthlibiocadimhaaGreatDoorPngReadsG20
set_option linter.all false
set_option maxRecDepth 100000
namespace Go.Proofs.YthlibiocadimhaaGreatDoor
open Go.RowKit
theorem Yes3 {p:Prop} (h:p:=by
 go_enter Tryz.func95,Tryz.ntmps95
 go_wp2_with fail;go_ret;exact⟨rfl,rfl⟩):p:=h
theorem Yes0 {p:Prop} (h:p:=by
 rw[e];exact Yes3):p:=h
theorem Yes1 {p:Prop} (h:p:=by
 rw[e];clear e;exact Yes3):p:=h
theorem Yes2 {p:Prop} (h:p:=by
 refine rdH 11 rfl λ KK hK=>?_;clear hHeld;have k0:=(H0.out.ext H_8.out.old).cell 0;have f0:=(H0.out.ext H_8.out.old).frozen 0;have k1:=(H1.out.ext H_8.out.old).cell 0;have f1:=(H1.out.ext H_8.out.old).frozen 0;have k2:=(H2.out.ext H_8.out.old).cell 0;have f2:=(H2.out.ext H_8.out.old).frozen 0;have c0:=H_8.out.bk.cell 0;have c1:=H_8.out.bk.cell 1;go_simp;refine oS hK ⟨by simp[go_sem,c0,c1,n0,n1,n2],by simp[go_sem,c0,c1,n0,n1,n2]⟩ λ hHeld=>?_;clear hK KK;refine rdH 12 rfl λ KK hK=>?_;clear hHeld;go_simp;refine oS hK ⟨by simp[go_sem,c0,c1,n0,n1,n2],by simp[go_sem,c0,c1,n0,n1,n2]⟩ λ hHeld=>?_;clear hK KK;refine rdH 13 rfl λ KK hK=>?_;clear hHeld;go_simp;refine oS hK ⟨by simp[go_sem,c0,c1,n0,n1,n2],by simp[go_sem,c0,c1,n0,n1,n2]⟩ λ hHeld=>?_;clear hK KK;refine dnT ?_;clear hHeld;simp only[zjr];go_wp2_with fail;obtain⟨q0,q1,q2⟩:=zka (x':=.string (tb out1)) (y':=.int .i64 (used:Int)) (z':=.nilIface) (H0.out.ext H_8.out.old) (H1.out.ext H_8.out.old) (H2.out.ext H_8.out.old);refine leaves_cons (f:=133) (args:=#[.pointer (some ⟨p,0,none⟩),.pointer (some ⟨p+1,0,none⟩),.pointer (some ⟨p+2,0,none⟩)]) (by simp) (by simp[go_sem]) ?_;refine (ziy _ _ _ _).mono ?_;rintro e u' w'' ⟨rfl,rfl,rfl⟩;exact⟨_,zdi p (tb out1) (used:Int) _ _ _ q0 q1 q2 rfl rfl rfl ⟨3,.nilIface,.inr rfl⟩,zkJ HQ.out (zh5 HP.out (HX.out.trans H_8.out.old)) rfl⟩):p:=h
theorem zgr (s:ByteArray) (most:Int) (w:World) (hs:s.size<=maxLen):Calls Tryz.prog 95 #[.string s,.int .i64 most] w λ e w'=>e=.returned (.bool (decide (most<0\/300000<most\/300000<s.size)))/\w=w':=by
 unfold maxLen at hs;by_cases h0:most<0
 ·have e:decide (most<0\/300000<most\/300000<s.size)=true:=qae (.inl h0);exact Yes0
 by_cases h1:300000<most
 ·have e:decide (most<0\/300000<most\/300000<s.size)=true:=qae (.inr (.inl h1));exact Yes0
 by_cases h2:300000<s.size
 ·have e:decide (most<0\/300000<most\/300000<s.size)=true:=qae (.inr (.inr h2));have h2I:(300000:Int)<(s.size:Int):=by omega
  exact Yes1
 have e:=dF (p:=most<0\/300000<most\/300000<s.size);have h2I:¬ (300000:Int)<(s.size:Int):=by omega
 exact Yes1
def zfY (w w':World) (E:Nat->Addr) (r:Except Nat (List UInt8 × Nat × List Inf.Blk)) (e:Ending):Prop:=
 Ext w w'/\match r with
 | .ok (out,used,_)=>e=.returned (.tuple #[.string (tb out),.int .i64 (used:Int),.nilIface])
 | .error c=>e=.returned (.tuple #[.string ⟨#[]⟩,.int .i64 0,sentV (E c)])
theorem zkJ {w w':World} {E:Nat->Addr} {r:Except Nat (List UInt8 × Nat × List Inf.Blk)} {out:List UInt8} {used:Nat} {bs:List Inf.Blk} {x:Value} (hr:r=.ok (out,used,bs)) (hX:Ext w w') (hx:x=.tuple #[.string (tb out),.int .i64 (used:Int),.nilIface]):zfY w w' E r (.returned x):=by
 subst hr hx;exact⟨hX,rfl⟩
theorem zdZ {w w':World} {E:Nat->Addr} {r:Except Nat (List UInt8 × Nat × List Inf.Blk)} {c:Nat} {x:Value} (hr:r=.error c) (hX:Ext w w') (hx:x=.tuple #[.string ⟨#[]⟩,.int .i64 0,sentV (E c)]):zfY w w' E r (.returned x):=by
 subst hr hx;exact⟨hX,rfl⟩
theorem zdi (p:Nat) (x:ByteArray) (y:Int) (z:Value) (w:World) (tmps:Array Value) (h0:Bk w p #[.string x]) (h1:Bk w (p+1) #[.int .i64 y]) (h2:Bk w (p+2) #[z]) (t4:tmps[4]? =some (.pointer (some ⟨p,0,none⟩))) (t5:tmps[5]? =some (.pointer (some ⟨p+1,0,none⟩))) (t6:tmps[6]? =some (.pointer (some ⟨p+2,0,none⟩))) (hz:∃u v,z=.iface u v\/z=.nilIface):
  (results Tryz.f96 tmps).run Tryz.prog w=.ok (.tuple #[.string x,.int .i64 y,z]) w:=by
 have c0:=h0.cell 0;have c1:=h1.cell 0;have c2:=h2.cell 0;obtain⟨u,v,rfl | rfl⟩:=hz
 ·simp[results,Tryz.results96,go_sem,t4,t5,t6,c0,c1,c2]
 simp[results,Tryz.results96,go_sem,t4,t5,t6,c0,c1,c2]
theorem zmE {s:ByteArray} {m:Nat} {c:Nat} {r0:Except Nat (Nat × List UInt8 × List Inf.Blk)} {r:Except Nat (List UInt8 × Nat × List Inf.Blk)} (h0:Inf.zaE s.data.toList m (8*s.data.toList.length+1) 0 [] []=r0) (h:Inf.inf s.data.toList m=r) (e:r0=.error c):r=.error c:=by
 unfold Inf.inf at h;rw[h0,e] at h;exact h.symm
theorem zq4 {s:ByteArray} {m a:Nat} {out:List UInt8} {bs:List Inf.Blk} {r0:Except Nat (Nat × List UInt8 × List Inf.Blk)} {r:Except Nat (List UInt8 × Nat × List Inf.Blk)} (h0:Inf.zaE s.data.toList m (8*s.data.toList.length+1) 0 [] []=r0) (h:Inf.inf s.data.toList m=r) (e:r0=.ok (a,out,bs)):r=.ok (out,(a+7)/8,bs):=by
 unfold Inf.inf at h;rw[h0,e] at h;exact h.symm
theorem BPost.yes {w0 w w':World} {R B a most last:Nat} {s:ByteArray} {v:Value} {E:Nat->Addr} {out:List UInt8} {b:Inf.Blk} {r:Except Nat (Nat × Nat × List UInt8 × Inf.Blk)} {e:Ending} (h:BPost w0 w R B s most v E r e w') (hr:r=.ok (last,a,out,b)):e=.returned (.bool (decide (last=1)))/\∃v',IGo w0 w w' R B s a v v' out most:=by subst hr;exact h
theorem BPost.no {w0 w w':World} {R B most c:Nat} {s:ByteArray} {v:Value} {E:Nat->Addr} {r:Except Nat (Nat × Nat × List UInt8 × Inf.Blk)} {e:Ending} (h:BPost w0 w R B s most v E r e w') (hr:r=.error c):e=zaR (E c)/\Ext w0 w':=by subst hr;exact h
theorem zh5 {w w3:World} {p:Nat} (hp:w.heap.size=p) (hX:Ext w w3) {x y z:Value}:Ext w (((w3.setCell ⟨p,0,none⟩ x).setCell ⟨p+1,0,none⟩ y).setCell ⟨p+2,0,none⟩ z):=by
 refine (((show Below w.heap.size w w3 from hX).setCell (p:=⟨p,0,none⟩) (by show _<=p;omega) _).setCell (p:=⟨p+1,0,none⟩) (by show _<=p+1;omega) _).setCell (p:=⟨p+2,0,none⟩) (by show _<=p+2;omega) _
theorem zka {w:World} {p:Nat} {x y z x' y' z':Value} (h0:Bk w p #[x]) (h1:Bk w (p+1) #[y]) (h2:Bk w (p+2) #[z]):
  Bk (((w.setCell ⟨p,0,none⟩ x').setCell ⟨p+1,0,none⟩ y').setCell ⟨p+2,0,none⟩ z') p #[x']/\Bk (((w.setCell ⟨p,0,none⟩ x').setCell ⟨p+1,0,none⟩ y').setCell ⟨p+2,0,none⟩ z') (p+1) #[y']/\Bk (((w.setCell ⟨p,0,none⟩ x').setCell ⟨p+1,0,none⟩ y').setCell ⟨p+2,0,none⟩ z') (p+2) #[z']:=
 ⟨((h0.set_ 0 x').far (p:=⟨p+1,0,none⟩) (by show p≠p+1;omega) _).far (p:=⟨p+2,0,none⟩) (by show p≠p+2;omega) _,((h1.far (p:=⟨p,0,none⟩) (by show p+1≠p;omega) _).set_ 0 y').far (p:=⟨p+2,0,none⟩) (by show p+1≠p+2;omega) _,((h2.far (p:=⟨p,0,none⟩) (by show p+2≠p;omega) _).far (p:=⟨p+1,0,none⟩) (by show p+2≠p+1;omega) _).set_ 0 z'⟩
set_option maxHeartbeats 4000000 in
theorem ziM (s:ByteArray) (most:Int) (w:World) (E:Nat->Addr) (hE:Errs w E) (hTb:Tabs w) (hs:s.size<=maxLen):
  Calls Tryz.prog 96 #[.string s,.int .i64 most] w λ e w'=>zfY w w' E (Inf.infl s most) e:=by
 have HE:=Hd hE;have HTb:=Hd hTb;have HBd:=Hd (λ w=>zgr s most w hs);obtain⟨r,hr⟩:=nmE (Inf.infl s most);rw[hr];unfold Inf.infl at hr;have hmf:∀(fn:Fn) (first cap:Array Value) (w:World),(Instr.makeFunc fn first cap).run Tryz.prog w=.ok (.func fn first cap) w:=λ _ _ _ _=>rfl;obtain⟨p,hp⟩:=nmE (w.heap.size);have HP:=Hd hp;by_cases hb:most<0\/300000<most\/300000<s.size
 ·have hd:decide (most<0\/300000<most\/300000<s.size)=true:=qae hb;rw[qad hb] at hr;have HR:=Hd hr.symm;clear hE hTb hr hb hp hs;go_enter_defers Tryz.func96,Tryz.ntmps96
  go_wp2_with fail;refine (HBd.out _).mono ?_;rintro e _ ⟨rfl,rfl⟩;rw[hd];go_wp2_with fail;clear hd hmf;rw[show w.heap.size+1+1=w.heap.size+2 from rfl,HP.out];refine zac (λ wz=>Ext w wz/\Bk wz p #[.string ⟨#[]⟩]/\Bk wz (p+1) #[.int .i64 0]/\Bk wz (p+2) #[.nilIface]) ⟨(((Ext.refl w).alloc _).alloc _).alloc _,Bk.old (Bk.old (Bk.at HP.out)),Bk.old (Bk.at (by simp[HP.out])),Bk.at (by simp[HP.out])⟩ ?_;rintro w3 ⟨hX,h0,h1,h2⟩;have HX:=Hd hX;have H3:=Hd (λ (x y z:Value)=>zka (x':=x) (y':=y) (z':=z) h0 h1 h2);have k0:=h0.cell 0;have k1:=h1.cell 0;have k2:=h2.cell 0;have f0:=h0.frozen 0;have f1:=h1.frozen 0;have f2:=h2.frozen 0;have ev:=(zaj HE.out hX).2;have hg:(2 :Nat)<w.heap.size:=qab w _ (zaj HE.out (Ext.refl w)).2;rw[HP.out] at hg;have n0:¬ 2 =p:=by omega
  have n1:¬ 2 =p+1:=by omega
  clear hX h0 h1 h2 hg;go_region;all_goals (try go_wp2_with fail)
  all_goals
   obtain⟨q0,q1,q2⟩:=H3.out (.string ⟨#[]⟩) (.int .i64 0) (.iface 275 (.pointer (some (E 1))));exact⟨_,zdi p ⟨#[]⟩ 0 _ _ _ q0.drew q1.drew q2.drew rfl rfl rfl ⟨_,_,.inl rfl⟩,zdZ HR.out (qag (zh5 HP.out HX.out)) rfl⟩
 have hd:decide (most<0\/300000<most\/300000<s.size)=false:=qaf hb;rw[qac hb] at hr;obtain⟨m,rfl⟩:∃m:Nat,most=m:=⟨most.toNat,by omega⟩;have hm:m<=300000:=by omega
 have hsz:s.size<=300000:=by omega
 rw[qbm] at hr;have HR:=Hd hr;obtain⟨r0,hr0⟩:=nmE (Inf.zaE s.data.toList m (8*s.data.toList.length+1) 0 [] []);have HR0:=Hd hr0;clear hE hTb hr hb hp hs hr0;go_enter_defers Tryz.func96,Tryz.ntmps96
 go_wp2_with fail;refine (HBd.out _).mono ?_;rintro e _ ⟨rfl,rfl⟩;rw[hd];go_wp2_with fail;clear hd;rw[show w.heap.size+1+1=w.heap.size+2 from rfl,HP.out];refine zaM (λ wz=>Ext w wz/\Bk wz p #[.string ⟨#[]⟩]/\Bk wz (p+1) #[.int .i64 0]/\Bk wz (p+2) #[.nilIface]) ⟨(((Ext.refl w).alloc _).alloc _).alloc _,Bk.old (Bk.old (Bk.at HP.out)),Bk.old (Bk.at (by simp[HP.out])),Bk.at (by simp[HP.out])⟩ ?_;rintro w3 ⟨hX,h0,h1,h2⟩;have HX:=Hd hX;have H0:=Hd h0;have H1:=Hd h1;have H2:=Hd h2;have HE3:=Hd (HE.out.ext hX);have HT3:=Hd (HTb.out.ext hX);have HPL:=Hd (⟨by rw[<- HP.out];exact hX.size,h2.lt⟩:p<=w3.heap.size/\p+2<w3.heap.size);clear hX h0 h1 h2;refine (zfO s w3 (by omega)).mono ?_;rintro e w4 ⟨rfl,hr4,hx4⟩;have HR4:=Hd hr4;have HX4:=Hd hx4;have hlt4:w3.heap.size<w4.heap.size:=hr4.lt;have HL4:=Hd hlt4;clear hr4 hx4 hlt4;go_wp2_with fail;obtain⟨B,hB⟩:=nmE (w3.heap.size);obtain⟨R,hR⟩:=nmE (w4.heap.size);refine zac (λ wz=>IGo w3 wz wz R B s 0 (.slice none 0 0) (.slice none 0 0) [] m) ?_ ?_
 ·refine IGo.start ⟨⟨?_,?_,qaK _ _ _ _,?_,(λ e=>by cases e),(λ e=>by cases e)⟩,HX4.out.alloc _,?_,?_,(λ k e=>by cases e),qbi _⟩
  ·rw[hB];exact Bk.at hR
  ·have h:=HR4.out;rw[hB] at h;exact⟨zai ((Ext.refl w4).alloc _) h.c0,zai ((Ext.refl w4).alloc _) h.c1,by rw[World.frozen?_alloc_past _ _ _ h.lt];exact h.f1,h.size,h.le⟩
  ·have:=HL4.out;omega
  ·have:=HL4.out;omega
  omega
 rintro w5 hG;have HG:=Hd hG;rw[hR];clear hG hB hR;go_loopg [] (8*s.size) (λ k wr=>∃(a:Nat) (v:Value) (out:List UInt8) (bs:List Inf.Blk) (FF:Nat),Hid (IGo w3 w5 wr R B s a (.slice none 0 0) v out m)/\Hid (Inf.zaE s.data.toList m FF a out bs=r0)/\Hid (8*s.size-a<FF/\k=8*s.size-a)/\out.length<=m)
 case atStart=>exact⟨0,_,[],[],8*s.data.toList.length+1,HG,HR0,Hd ⟨by rw[zag];omega,by omega⟩,qbi _⟩
 case round=>
  clear HG;obtain⟨a,v,out,bs,FF,H,HRb,HK,hout⟩:=hrel;have HF0:Hid (0<FF):=Hd (by have:=HK.out;omega);go_wp2_with fail;have hP:=zks R B a m s v out w3 wr E HE3.out HT3.out H.out.st hm hsz hout;cases hs:Inf.block s.data.toList m a out with
  | error c=>
   have HQ:=Hd (zmE HR0.out HR.out (Inf.zb9 HF0.out HRb.out hs));refine hP.mono ?_;intro e w9 h9;obtain⟨rfl,h8⟩:=h9.no hs;have H8:=Hd h8;clear hP h9 h8 hs H;unfold zaR;refine leaves_cons (f:=133) (args:=#[.pointer (some ⟨p,0,none⟩),.pointer (some ⟨p+1,0,none⟩),.pointer (some ⟨p+2,0,none⟩)]) (by simp) (by simp[go_sem]) ?_;refine (zqo p (E c) [] _ _ _ w9 (H0.out.ext H8.out) (H1.out.ext H8.out) (H2.out.ext H8.out)).mono ?_;rintro e u' w8 ⟨rfl,rfl,hc⟩;exact⟨_,zdi p ⟨#[]⟩ 0 _ _ _ hc.h0 hc.h1 hc.h2 rfl rfl rfl ⟨_,_,.inl rfl⟩,zdZ HQ.out (Below.trans (HX.out.trans H8.out) (by rw[HP.out];exact hc.ext)) rfl⟩
  | ok q=>
   obtain⟨last,a1,out1,b⟩:=q;have hgr:=Inf.zdQ hout hs;refine hP.mono ?_;intro e w6 h6;obtain⟨rfl,v',h8⟩:=h6.yes hs;have H6:=Hd (H.out.trans h8);clear h6 h8 hP H;by_cases hl:last=1
   ·subst hl;have HQ:=Hd (zq4 HR0.out HR.out (Inf.zeK HF0.out HRb.out hs));have c0:=H6.out.bk.cell 0;clear hs;go_wp2_with fail;refine (zb8 B 0 a1 s w6 H6.out.st.at_.rd H6.out.st.le).mono ?_;rintro e w7 ⟨rfl,hR,hS⟩;have hle:=H6.out.st.le;obtain⟨used,hus⟩:=nmE ((a1+7)/8);rw[hus] at hR HQ;obtain⟨a7,ha7⟩:=nmE (used*8);rw[ha7] at hR;have H7:=Hd (H6.out.read hR hS (by omega));have hq1:(a7:Int).tdiv 8=(used:Int):=by rw[Int.tdiv_eq_ediv_of_nonneg (by omega)];omega
    have hq2:(a7:Int)/8=(used:Int):=by omega
    have hub:used<=300000:=by omega
    have wu:=wqz (x:=(used:Int));obtain⟨Lo,hLo⟩:=nmE (out1.length);have HL:=Hd hLo;have hro:=H7.out.row;rw[hLo] at hro;obtain⟨xo,co,rfl⟩:=zam hro

    clear hR hS hus ha7 hro hLo hle H6;have H_7:=H7;clear H7;have n0:¬ p=R:=by have:=HPL.out;have:=H_7.out.st.hR;omega
    have n1:¬ p+1=R:=by have:=HPL.out;have:=H_7.out.st.hR;omega
    have n2:¬ p+2=R:=by have:=HPL.out;have:=H_7.out.st.hR;omega
    go_wp2_with fail;refine zkt ?_;refine qar (S:=λ w'=>w'.cell? ⟨R,0,none⟩=some (.pointer (some ⟨B,0,none⟩))/\w'.cell? ⟨R,1,none⟩=some (.slice xo Lo co)) (by kernel_rfl) ⟨H_7.out.bk.cell 0,H_7.out.bk.cell 1⟩ (λ hHeld=>?_);clear hHeld;refine zab (λ wz=>Ext w7 wz) (show Ext w7 w7.drew from qag (Ext.refl w7)) ?_;rintro w8 h;have H_8:=Hd (H_7.out.ext h);clear h H_7;have hHeld:w8.cell? ⟨R,0,none⟩=some (.pointer (some ⟨B,0,none⟩))/\w8.cell? ⟨R,1,none⟩=some (.slice xo Lo co):=⟨H_8.out.bk.cell 0,H_8.out.bk.cell 1⟩;refine tk5 0 1 2 3 5 ?_;refine tk3 6 7 8 ?_;refine rdH2 4 9 rfl rfl (λ KK hK=>?_) λ KK hK=>?_
    ·clear hHeld;have hro:=H_8.out.row;rw[HL.out] at hro;have hcr:=ze1 HL.out hro;clear hro;go_simp;refine oS hK ⟨H_8.out.bk.cell 0,H_8.out.bk.cell 1⟩ λ hHeld=>?_;clear hK KK hcr;refine rdH 9 rfl λ KK hK=>?_;clear hHeld;go_simp;refine (zhk B 0 a7 s _ H_8.out.st.at_.rd).mono ?_;rintro e w9 ⟨rfl,rfl⟩;go_simp;refine oS hK ⟨H_8.out.bk.cell 0,H_8.out.bk.cell 1⟩ λ hHeld=>?_;clear hK KK;refine tkH 10 ?_;exact Yes2
    clear hHeld;go_simp;refine (zhk B 0 a7 s _ H_8.out.st.at_.rd).mono ?_;rintro e w9 ⟨rfl,rfl⟩;go_simp;refine oS hK ⟨H_8.out.bk.cell 0,H_8.out.bk.cell 1⟩ λ hHeld=>?_;clear hK KK;refine tkH 10 ?_;refine rdH 4 rfl λ KK hK=>?_;clear hHeld;have hro:=H_8.out.row;rw[HL.out] at hro;have hcr:=ze1 HL.out hro;clear hro;go_simp;refine oS hK ⟨H_8.out.bk.cell 0,H_8.out.bk.cell 1⟩ λ hHeld=>?_;clear hK KK hcr;exact Yes2
   have hd:decide (last=1)=false:=qaf hl;obtain⟨F2,hF2,hR2⟩:=Inf.zgB HF0.out HRb.out hs hl;have HR2:=Hd hR2;clear hR2 hs;go_wp2_with fail;go_roundg (8*s.size-a1)
   case measure=>have:=HK.out;have:=H6.out.st.le;omega
   case rel=>exact⟨a1,v',out1,_,F2,H6,HR2,Hd ⟨by have:=HK.out;have:=H6.out.st.le;omega,rfl⟩,hgr.2⟩
theorem Yet0 {p:Prop} (h:p:=by
 go_meet
 exact⟨by rw[show decide (¬ Inf.zaB s)=true from qae HQ.out],rfl⟩):p:=h
set_option maxHeartbeats 4000000 in
theorem zld (s:ByteArray) (most:Int) (w:World) (E:Nat->Addr) (hE:Errs w E) (hTb:Tabs w) (hs:s.size<=maxLen):
  Calls Tryz.prog 65 #[.string s,.int .i64 most] w λ e w'=>zqv w w' E (Inf.unz s most) e:=by
 have HE:=Hd hE;have HTb:=Hd hTb;have HBd:=Hd (λ w=>zgr s most w hs);have HI:=Hd (λ (t:ByteArray) (ht:t.size<=maxLen) (w:World) (hE:Errs w E) (hT:Tabs w)=>ziM t most w E hE hT ht);have HAd:=Hd (λ (t:ByteArray) (w:World) (h:t.size<=maxLen)=>zgu t w h);unfold maxLen at hs;obtain⟨r,hr⟩:=nmE (Inf.unz s most);rw[hr];unfold Inf.unz at hr;have ev:=(zaj hE (Ext.refl w)).2;have et:=(zaj hE (Ext.refl w)).1;clear hE hTb;by_cases hb:most<0\/300000<most\/300000<s.size
 ·rw[qad hb] at hr;have hd:decide (most<0\/300000<most\/300000<s.size)=true:=qae hb;subst hr;go_enter Tryz.func65,Tryz.ntmps65
  go_wp2_with fail;refine (HBd.out _).mono ?_;rintro e _ ⟨rfl,rfl⟩;rw[hd];clear hd hb;go_wp2_with fail;have ev2:w.drew.cell? ⟨2,0,none⟩=some (.iface 275 (.pointer (some (E 1)))):=ev;refine rgQ ?_;refine qY ?_;refine qY ?_;refine qY ?_;refine zaf ?_;go_wp2_with fail;go_ret2;exact⟨qag (Ext.refl _),rfl⟩
 rw[qac hb] at hr;have hd:decide (most<0\/300000<most\/300000<s.size)=false:=qaf hb;have hsz:s.size<=300000:=by omega
 have HR:=Hd hr;go_enter Tryz.func65,Tryz.ntmps65
 go_wp2_with fail;refine (HBd.out _).mono ?_;rintro e _ ⟨rfl,rfl⟩;rw[hd];clear hd hb hr;go_upto_region 3 with fail;go_cut [48] (λ s48 wx=>s48=.bool (decide (¬ Inf.zaB s))/\w.drew=wx)
 case first=>
  by_cases h2:s.size<2
  ·have f0:=dT (p:=(s.size:Int)<2);have HQ:Hid (¬ Inf.zaB s):=Hd (λ h=>by have:=h.1;omega);refine rgQ ?_;refine qY ?_;refine qY ?_;refine qY ?_;refine qY ?_;refine qN ?_;refine qN ?_;refine qN ?_;refine qN ?_;refine qY ?_;refine qY ?_;refine qN ?_;refine qN ?_;refine qN ?_;refine qN ?_;refine qY ?_;refine qY ?_;refine qN ?_;refine qN ?_;refine qN ?_;refine qN ?_;refine qN ?_;refine qN ?_;refine qN ?_;refine qN ?_;refine qN ?_;refine qN ?_;refine qY ?_;refine qY ?_;refine qN ?_;refine qN ?_;refine qN ?_;refine qN ?_;refine qY ?_;refine zaf ?_;(try go_wp2_with fail);clear f0;exact Yet0
  have f0:=dF (p:=(s.size:Int)<2);have h0:0<s.size:=by omega
  have h1:1<s.size:=by omega
  have h0I:(0:Int)<(s.size:Int):=by omega
  have h1I:(1:Int)<(s.size:Int):=by omega
  have HH:Hid (Inf.zaB s↔(s[0].toNat%16=8/\s[0].toNat/16<=7/\(s[0].toNat*256+s[1].toNat)%31=0/\s[1].toNat/32%2=0)):=Hd (zjA s h1);have ha:=s[0].toNat_lt;have hb:=s[1].toNat_lt;obtain⟨K,hK⟩:∃K:Nat,s[0].toNat*256+s[1].toNat=K:=⟨_,rfl⟩;obtain⟨r31,hr31⟩:∃q:Nat,K%31=q:=⟨_,rfl⟩;have mC:(K:Int).tmod 31=(r31:Int):=by rw[qcg (by omega)];omega
  have wa:=wqz (x:=(s[0].toNat:Int));have wb:=wqz (x:=(s[1].toNat:Int));have wr:=wqz (x:=(r31:Int));rw[hK,hr31] at HH;have gA:=u8_15 s[0].toNat ha;have gD:=u8_32 s[1].toNat hb;have gO:=zoR s[0].toNat s[1].toNat ha hb;rw[hK] at gO;have wK:=wqz (x:=(K:Int));have wL:=wqz (x:=(s[0].toNat:Int)*256);by_cases hA:s[0].toNat%16=8
  ·have fA:(((s[0].toNat%16:Nat):Int) !=8)=false:=by rw[qbL];omega
   have mA:(s[0].toNat:Int)%16=((s[0].toNat%16:Nat):Int):=by omega
   have fA2:((s[0].toNat:Int)%16 !=8)=false:=by rw[qbL];omega
   by_cases hB:s[0].toNat/16<=7
   ·have fB:=dF (p:=(7:Int)<(s[0].toNat:Int)/16);by_cases hC:r31=0
    ·have fC:((r31:Int) !=0)=false:=by rw[qbL];omega
     by_cases hD:s[1].toNat/32%2=0
     ·have fD:(bits BinOp.and IntKind.u8 (s[1].toNat:Int) 32 !=0)=false:=by rw[gD];exact qaf (by omega)
      have HQ:Hid (Inf.zaB s):=Hd (HH.out.2 ⟨hA,hB,hC,hD⟩);refine rgQ ?_;refine qY ?_;refine qY ?_;refine qY ?_;refine qY ?_;refine qY ?_;refine qY ?_;refine qY ?_;refine qY ?_;refine qY ?_;refine qY ?_;refine qY ?_;refine qY ?_;refine qY ?_;refine qY ?_;refine qY ?_;refine qY ?_;refine qY ?_;refine qY ?_;refine qY ?_;refine qY ?_;refine qY ?_;refine qY ?_;refine qY ?_;refine qY ?_;refine qY ?_;refine qY ?_;refine qY ?_;refine qY ?_;refine qY ?_;refine qY ?_;refine qY ?_;refine qY ?_;refine qY ?_;refine zaf ?_;(try go_wp2_with fail);clear fA fB fC fD;go_meet
      exact⟨by rw[show decide (¬ Inf.zaB s)=false from qaf (λ h=>h HQ.out)],rfl⟩
     have fD:(bits BinOp.and IntKind.u8 (s[1].toNat:Int) 32 !=0)=true:=by rw[gD];exact qae (by omega)
     have HQ:Hid (¬ Inf.zaB s):=Hd (λ h=>hD (HH.out.1 h).2.2.2);refine rgQ ?_;refine qY ?_;refine qY ?_;refine qY ?_;refine qY ?_;refine qY ?_;refine qY ?_;refine qY ?_;refine qY ?_;refine qY ?_;refine qY ?_;refine qY ?_;refine qY ?_;refine qY ?_;refine qY ?_;refine qY ?_;refine qY ?_;refine qY ?_;refine qY ?_;refine qY ?_;refine qY ?_;refine qY ?_;refine qY ?_;refine qY ?_;refine qY ?_;refine qY ?_;refine qY ?_;refine qY ?_;refine qY ?_;refine qY ?_;refine qY ?_;refine qY ?_;refine qY ?_;refine qY ?_;refine zaf ?_;(try go_wp2_with fail);clear fA fB fC fD;exact Yet0
    have fC:((r31:Int) !=0)=true:=by rw[qce];omega
    have HQ:Hid (¬ Inf.zaB s):=Hd (λ h=>hC (HH.out.1 h).2.2.1);refine rgQ ?_;refine qY ?_;refine qY ?_;refine qY ?_;refine qY ?_;refine qY ?_;refine qY ?_;refine qY ?_;refine qY ?_;refine qY ?_;refine qY ?_;refine qY ?_;refine qY ?_;refine qY ?_;refine qY ?_;refine qY ?_;refine qY ?_;refine qY ?_;refine qY ?_;refine qY ?_;refine qY ?_;refine qY ?_;refine qY ?_;refine qY ?_;refine qY ?_;refine qY ?_;refine qY ?_;refine qY ?_;refine qY ?_;refine qN ?_;refine qN ?_;refine qN ?_;refine qN ?_;refine qY ?_;refine zaf ?_;(try go_wp2_with fail);clear fA fB fC;exact Yet0
   have fB:=dT (p:=(7:Int)<(s[0].toNat:Int)/16);have HQ:Hid (¬ Inf.zaB s):=Hd (λ h=>hB (HH.out.1 h).2.1);refine rgQ ?_;refine qY ?_;refine qY ?_;refine qY ?_;refine qY ?_;refine qY ?_;refine qY ?_;refine qY ?_;refine qY ?_;refine qY ?_;refine qY ?_;refine qY ?_;refine qY ?_;refine qY ?_;refine qY ?_;refine qY ?_;refine qY ?_;refine qN ?_;refine qN ?_;refine qN ?_;refine qN ?_;refine qN ?_;refine qN ?_;refine qN ?_;refine qN ?_;refine qN ?_;refine qN ?_;refine qY ?_;refine qY ?_;refine qN ?_;refine qN ?_;refine qN ?_;refine qN ?_;refine qY ?_;refine zaf ?_;(try go_wp2_with fail);clear fA fB;exact Yet0
  have fA:(((s[0].toNat%16:Nat):Int) !=8)=true:=by rw[qce];omega
  have mA:(s[0].toNat:Int)%16=((s[0].toNat%16:Nat):Int):=by omega
  have fA2:((s[0].toNat:Int)%16 !=8)=true:=by rw[qce];omega
  have HQ:Hid (¬ Inf.zaB s):=Hd (λ h=>hA (HH.out.1 h).1);refine rgQ ?_;refine qY ?_;refine qY ?_;refine qY ?_;refine qY ?_;refine qY ?_;refine qY ?_;refine qY ?_;refine qY ?_;refine qY ?_;refine qY ?_;refine qN ?_;refine qN ?_;refine qN ?_;refine qN ?_;refine qY ?_;refine qY ?_;refine qN ?_;refine qN ?_;refine qN ?_;refine qN ?_;refine qN ?_;refine qN ?_;refine qN ?_;refine qN ?_;refine qN ?_;refine qN ?_;refine qY ?_;refine qY ?_;refine qN ?_;refine qN ?_;refine qN ?_;refine qN ?_;refine qY ?_;refine zaf ?_;(try go_wp2_with fail);clear fA;exact Yet0
 obtain⟨rfl,rfl⟩:=hcut;by_cases hh:Inf.zaB s
 ·have HQ:=Hd hh;rw[qaf (λ h=>h hh)];have h2:=hh.1;clear hh;go_wp2_with fail;have hr:=HR.out;rw[qac (λ h=>h HQ.out)] at hr;have HR2:=Hd hr;clear hr HR;obtain⟨S,hS⟩:=nmE (s.extract 2 s.size);have hSs:S.size=s.size-2:=by rw[<- hS];simp
  have h2n:2<=s.size:=by omega
  have h2I:(2:Int)<=(s.size:Int):=by omega
  go_wp2_with fail;rw[hS];refine (HI.out S (by rw[hSs];unfold maxLen;omega) _ (HE.out.ext (qag (Ext.refl _))) (HTb.out.ext (qag (Ext.refl _)))).mono ?_;rintro e w2 ⟨h2x,he⟩;have X2:Hid (Ext w w2):=Hd (Ext.trans (qag (Ext.refl _)) h2x);clear h2x et ev;rw[hS] at HR2;cases hi:Inf.infl S most with
  | error c=>
   rw[hi] at he HR2;simp only at he HR2;subst he;unfold sentV;go_wp2_with fail;go_ret2;rw[<- HR2.out];exact⟨X2.out,rfl⟩
  | ok q=>
   obtain⟨out,used,bl⟩:=q;have hbd:=Inf.zec hi;have hus:used<=s.size-2:=by rw[<- hSs];exact hbd.2.1
   have hob:out.length<=300000:=by have:=Inf.zjy hi;omega
   rw[hi] at he HR2;simp only at he HR2;obtain⟨T,hT⟩:=nmE (tb out);have hTs:T.size=out.length:=by rw[<- hT,zj2]
   have hTl:T.data.toList=out:=by rw[<- hT];simp[tb]
   rw[hT] at he;subst he;have HT:=Hd hT;obtain⟨A,hA0⟩:=nmE (2+used);have hAI:(2:Int)+(used:Int)=(A:Int):=by omega
   have wA:=wqz (x:=(A:Int));have hAs:A<=s.size:=by omega
   have hAsI:(A:Int)<=(s.size:Int):=by omega
   have hA0n:(0:Int)<=(A:Int):=by omega
   have hAt:((A:Nat):Int).toNat=A:=by omega
   rw[hA0] at HR2;obtain⟨R,hR⟩:=nmE (s.extract A s.size);have hRs:R.size=s.size-A:=by rw[<- hR];simp
   have hRl:R.data.toList=s.data.toList.drop A:=by rw[<- hR,zbY,qan (by rw[qbh,zaF];omega)]
   have HRl:=Hd hRl;have HTl:=Hd hTl;clear hi hbd hT hTl hRl hS h2;by_cases h4:R.size=4
   ·have t4:((R.size:Int) !=4)=false:=by rw[qbL];omega
    have hr:=HR2.out;rw[qac (by omega)] at hr;have HR3:=Hd hr;clear hr HR2 hRs;go_wp2_with fail;clear t4 hAI wA hR hAsI hA0n hAt;go_loopw [10,69] (λ x c wr=>∃k:Nat,k<=4/\c=.int .i64 k/\x=.int .u32 ((valN (R.data.toList.take k):Nat):Int)/\Hid (Ext w2 wr)) (λ _ c _=>4-(intOf c).toNat)
    case atStart=>exact⟨0,by omega,rfl,by rw[qaH];rfl,Hd (Ext.refl _)⟩
    case round=>
     obtain⟨k,hk,rfl,rfl,HW⟩:=hrel;have X3:=Hd (X2.out.trans HW.out);by_cases hlt:k<4
     ·have t0:=dT (p:=(k:Int)<4);have hks:k<R.size:=by omega
      have hk0:(0:Int)<=(k:Int):=by omega
      have hksI:(k:Int)<(R.size:Int):=by omega
      have hv:valN (R.data.toList.take (k+1))=vstep (valN (R.data.toList.take k)) R[k]:=zen (by rw[zaF];exact hks);obtain⟨x,hx⟩:=nmE (valN (R.data.toList.take k));have hxl:=zca (R.data.toList.take k);rw[hx] at hv hxl⊢;have ho:=zj7 x R[k];have wk:=wqz (x:=(k:Int)+1);go_wp2_with fail;go_roundw
      case rel=>exact⟨k+1,by omega,by go_num,by rw[hv],HW⟩
      case measure=>simp[intOf];omega
     obtain rfl:k=4:=by omega
     have e1:R.data.toList.take 4=R.data.toList:=qan (by rw[zaF];omega);rw[e1,HRl.out];have hr:=HR3.out;obtain⟨v,hv⟩:=nmE (valN (s.data.toList.drop A));rw[hv] at hr⊢;have hTm:T.size<=maxLen:=by unfold maxLen;omega
     go_wp2_with fail;refine (HAd.out T _ hTm).mono ?_;rintro e w3 ⟨rfl,h3⟩;subst h3;rw[HTl.out];obtain⟨y,hy⟩:=nmE (Adl.adler out);rw[hy] at hr⊢;by_cases hvy:v=y
     ·have t5:((v:Int) !=(y:Int))=false:=by rw[qbL];omega
      rw[qac (λ h=>h hvy)] at hr;subst hr;go_wp2_with fail;go_ret2;exact⟨X3.out,by show _=Ending.returned (.tuple #[.string (tb out),.nilIface]);rw[HT.out];rfl⟩
     have t5:((v:Int) !=(y:Int))=true:=by rw[qce];omega
     rw[qad hvy] at hr;subst hr;go_wp2_with fail;have es:wr.drew.cell? ⟨3,0,none⟩=some (.iface 275 (.pointer (some (E 3)))):=zai X3.out (HE.out.var 3 (by decide));refine rgQ ?_;refine qY ?_;refine qY ?_;refine qY ?_;refine zaf ?_;go_wp2_with fail;go_ret2;exact⟨qag X3.out,rfl⟩
   have t4:((R.size:Int) !=4)=true:=by rw[qce];omega
   have hr:=HR2.out;rw[qad (by omega)] at hr;subst hr;clear hRs;go_wp2_with fail;have et2:w2.drew.cell? ⟨1,0,none⟩=some (.iface 275 (.pointer (some (E 0)))):=(zaj HE.out X2.out).1;refine rgQ ?_;refine qY ?_;refine qY ?_;refine qY ?_;refine zaf ?_;go_wp2_with fail;go_ret2;exact⟨qag X2.out,rfl⟩
 have HQ:=Hd hh;rw[qae hh];clear hh;go_wp2_with fail;have hr:=HR.out;rw[qad HQ.out] at hr;subst hr;have et2:w.drew.drew.cell? ⟨1,0,none⟩=some (.iface 275 (.pointer (some (E 0)))):=et;refine rgQ ?_;refine qY ?_;refine qY ?_;refine qY ?_;refine zaf ?_;go_wp2_with fail;go_ret2;exact⟨qag (qag (Ext.refl _)),rfl⟩
end Go.Proofs.YthlibiocadimhaaGreatDoor
