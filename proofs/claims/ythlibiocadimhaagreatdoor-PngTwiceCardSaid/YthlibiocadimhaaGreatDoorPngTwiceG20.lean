/-
  inflate: a block.
  inflate.Inflate: the deferred closure.
  inflate.Inflate.
-/
import Derived.Test.YthlibiocadimhaaGreatDoorPngTwiceG1
import Derived.Test.YthlibiocadimhaaGreatDoorPngTwiceG12
import Derived.Test.YthlibiocadimhaaGreatDoorPngTwiceG18
import Derived.Test.YthlibiocadimhaaGreatDoorPngTwiceG19
import Derived.Test.YthlibiocadimhaaGreatDoorPngTwiceG5
import Derived.Defers
import Derived.Recover
import Derived.Test.YthlibiocadimhaaGreatDoorPngTwiceG6
import Derived.Deep.LoopGhost
import Derived.StillTailTactics
set_option linter.unusedSimpArgs false
set_option linter.unusedVariables false
set_option maxRecDepth 100000
namespace Go.Proofs.YthlibiocadimhaaGreatDoor
open Go.RowKit
def BPost (w0 w:World) (R B:Nat) (s:ByteArray) (most:Nat) (v:Value) (E:Nat→Addr) (r:Except Nat (Nat × Nat × List UInt8 × Inf.Blk)) (e:Ending) (w':World):Prop:=
 match r with
 | .ok (last,a,out,_)=>e=.returned (.bool (decide (last=1)))∧∃v',IGo w0 w w' R B s a v v' out most
 | .error c=>e=thrown (E c)∧Ext w0 w'
section
variable {w0 w w1 w':World} {R B a c most last:Nat} {s:ByteArray} {v v':Value} {E:Nat→Addr} {out:List UInt8} {b:Inf.Blk} {r:Except Nat (Nat × Nat × List UInt8 × Inf.Blk)} {e:Ending}
theorem bpost_ok (hr:.ok (last,a,out,b)=r) (h:IGo w0 w w' R B s a v v' out most):BPost w0 w R B s most v E r (.returned (.bool (decide (last=1)))) w':=by
 subst hr;exact⟨rfl,v',h⟩
theorem bpost_error (hr:.error c=r) (h:Ext w0 w'):BPost w0 w R B s most v E r (thrown (E c)) w':=by
 subst hr;exact⟨rfl,h⟩
theorem IPost.yes {r:Except Nat (Nat × List UInt8)} (h:IPost w0 w R B s most v E r e w') (hr:r=.ok (a,out)):e=.returned (.tuple #[])∧∃v',IGo w0 w w' R B s a v v' out most:=by subst hr;exact h
theorem IPost.no {r:Except Nat (Nat × List UInt8)} (h:IPost w0 w R B s most v E r e w') (hr:r=.error c):e=thrown (E c)∧Ext w0 w':=by subst hr;exact h
theorem DPost.yes {r:Except Nat (List Nat × List Nat × Nat)} {l d:List Nat} (h:DPost w0 w R B s most v out E r e w') (hr:r=.ok (l,d,a)):∃T U,e=.returned (.tuple #[.pointer (some ⟨T,0,none⟩),.pointer (some ⟨U,0,none⟩)])∧IGo w0 w w' R B s a v v out most∧Tr w' T (Inf.fn l) l.length R B v∧Tr w' U (Inf.fn d) d.length R B v:=by subst hr;exact h
theorem DPost.no {r:Except Nat (List Nat × List Nat × Nat)} (h:DPost w0 w R B s most v out E r e w') (hr:r=.error c):e=thrown (E c)∧Ext w0 w':=by subst hr;exact h
end
theorem pr_ok {r:Inf.TRes} {a:Nat} {out:List UInt8} {tr:List Inf.Ev} (h:r=.ok (a,out,tr)):Inf.pr r=.ok (a,out):=by subst h;rfl
theorem pr_error {r:Inf.TRes} {c:Nat} (h:r=.error c):Inf.pr r=.error c:=by subst h;rfl
set_option maxHeartbeats 4000000 in
theorem iblock_any (R B a most:Nat) (s:ByteArray) (v:Value) (out:List UInt8) (w0 w:World) (E:Nat→Addr) (hE:Errs w0 E) (hTb:Tabs w0) (hI:ISt w0 w R B s a v out most) (hmost:most≤300000) (hsz:s.size≤300000) (hout:out.length≤most):
  Calls Tryz.prog 135 #[.pointer (some ⟨R,0,none⟩)] w fun e w'=>BPost w0 w R B s most v E (Inf.block s.data.toList most a out) e w':=by
 have HE:=Hd hE;have HTb:=Hd hTb;have H_0:Hid (IGo w0 w w R B s a v v out most):=Hd (IGo.start hI);have HLT:=Hd (IGo.start hI).lts;obtain⟨r,hr⟩:∃r,Inf.block s.data.toList most a out=r:=⟨_,rfl⟩;rw[hr];unfold Inf.block at hr;have HR:=Hd hr;clear hE hTb hI hr;have hmf:∀(fn:Fn) (first cap:Array Value) (w:World),(Instr.makeFunc fn first cap).run Tryz.prog w=.ok (.func fn first cap) w:=fun _ _ _ _=>rfl;go_enter Tryz.func135,Tryz.ntmps135
 go_wp2_with fail;refine calls_world (fun wz=>Ext w wz∧Bk wz w.heap.size #[.pointer (some ⟨R,0,none⟩)]) ⟨(Ext.refl _).alloc _,Bk.at rfl⟩ ?_;rintro w1 ⟨h,hB⟩;have HB:Hid (BoxB w.heap.size (.pointer (some ⟨R,0,none⟩)) R B w1 v):=Hd ⟨hB,by have:=HLT.out;omega,by have:=HLT.out;omega,fun q=>by have:=HLT.out.2.2 _ q;omega⟩;clear hB;obtain⟨bb,hbb⟩:∃bb,w.heap.size=bb:=⟨_,rfl⟩;have HBB:=Hd hbb;rw[hbb] at HB⊢;clear hbb;have H_1:=Hd (H_0.out.ext h);clear h H_0;cases hg:Inf.get s.data.toList 1 a with
 | error c=>
  refine (gget_no R B a 1 c most s v v out w0 w _ E HE.out H_1.out (by omega) hg).mono ?_;rintro e w9 ⟨rfl,h9⟩;exact⟨rfl,bpost_error (by have h:=HR.out;simp only[hg] at h;exact h) h9⟩
 | ok p=>
  obtain⟨last,a1⟩:=p;have HR1:=HR.out;simp only[hg] at HR1;clear HR;have HR:=Hd HR1;clear HR1;refine (gget_yes R B a 1 last a1 most s v v out w0 w _ E HE.out H_1.out (by omega) hg).mono ?_;rintro e w2 ⟨rfl,hG,hS⟩;have HB1:=Hd (HB.out.step (IStep.rd hS));clear HB;have HB:=HB1;clear HB1;have H_2:=Hd (hG);clear H_1 hG hS;have hl2:last<2:=(Inf.get_ok hg).2.2.1;clear hg;have b0:=HB.out.1.cell 0;obtain⟨lb,hlb⟩:∃lb,decide (last=1)=lb:=⟨_,rfl⟩;have hlb2:((last:Int) ==1)=lb:=by rw[← hlb];rw[Bool.eq_iff_iff];simp only[beq_iff_eq,decide_eq_true_eq];omega
  have HLB:=Hd hlb;clear hlb;go_wp2_with fail;clear b0;cases hg:Inf.get s.data.toList 2 a1 with
  | error c=>
   refine (gget_no R B a1 2 c most s v v out w0 w _ E HE.out H_2.out (by omega) hg).mono ?_;rintro e w9 ⟨rfl,h9⟩;exact⟨rfl,bpost_error (by have h:=HR.out;simp only[hg] at h;exact h) h9⟩
  | ok p=>
   obtain⟨kind,a2⟩:=p;have HR1:=HR.out;simp only[hg] at HR1;clear HR;have HR:=Hd HR1;clear HR1;refine (gget_yes R B a1 2 kind a2 most s v v out w0 w _ E HE.out H_2.out (by omega) hg).mono ?_;rintro e w3 ⟨rfl,hG,hS⟩;have HB1:=Hd (HB.out.step (IStep.rd hS));clear HB;have HB:=HB1;clear HB1;have H_3:=Hd (hG);clear H_2 hG hS;have hk4:kind<4:=(Inf.get_ok hg).2.2.1;clear hg hlb2;by_cases hk0:kind=0
   ·subst hk0;have HR1:=HR.out;simp only[if_pos] at HR1;clear HR;have HR:=Hd HR1;clear HR1;have b0:=HB.out.1.cell 0;go_wp2_with fail;clear b0;have hP:=istored_any R B a2 most s v out w0 _ E HE.out H_3.out.st hmost hsz hout;cases hs:Inf.stored s.data.toList most a2 out with
    | error c=>
     refine hP.mono ?_;intro e w9 h9;obtain⟨rfl,h8⟩:=h9.no hs;exact⟨rfl,bpost_error (by have h:=HR.out;simp only[hs] at h;exact h) h8⟩
    | ok q=>
     obtain⟨a3,out3⟩:=q;refine hP.mono ?_;intro e w9 h9;obtain⟨rfl,v',h9⟩:=h9.yes hs;have HRR:Hid (.ok (last,a3,out3,⟨0,[],[],[]⟩)=r):=Hd (by have h:=HR.out;simp only[hs] at h;exact h);have HF:=Hd (H_3.out.trans h9);clear hP hs h9;go_wp2_with fail;go_ret;rw[← HLB.out];exact bpost_ok HRR.out HF.out
   ·have t0:((kind:Int) ==0)=false:=beq_eq_false_iff_ne.2 (by omega);by_cases hk1:kind=1
    ·subst hk1;have HR1:=HR.out;rw[if_neg hk0,if_pos rfl] at HR1;clear HR;have HR:=Hd HR1;clear HR1 t0;go_wp2_with fail;obtain⟨tr0,htr0⟩:∃tr0,Inf.toks s.data.toList most Inf.fixF 288 Inf.fiveF 32 (8*s.data.toList.length+1) a2 out []=tr0:=⟨_,rfl⟩;rw[htr0] at HR;have HT0:=Hd htr0;clear htr0;have Y_3:=Hd (Ext.refl w3);refine wp_region_held_drew (S:=fun w'=>w'.cell? ⟨bb,0,none⟩=some (.pointer (some ⟨R,0,none⟩))) (by kernel_rfl) ((ext_cell Y_3.out (HB.out.1.cell 0))) (fun hHeld=>?_);clear hHeld;refine anyH_world (fun wz=>Ext w3 wz) (show Ext w3 w3.drew from Below.drew (Ext.refl w3)) ?_;rintro w4 h;have H_4:=Hd (H_3.out.ext h);have Y_4:=Hd (Y_3.out.trans h);clear h H_3 Y_3;have hHeld:w4.cell? ⟨bb,0,none⟩=some (.pointer (some ⟨R,0,none⟩)):=((ext_cell Y_4.out (HB.out.1.cell 0)));refine tkH 0 rfl hHeld ?_;(try simp only[Act.put,xz]);refine tkH 1 rfl hHeld ?_;(try simp only[Act.put,xz]);refine tkH 4 rfl hHeld ?_;(try simp only[Act.put,xz]);refine rdH 2 rfl fun KK hK=>?_;clear hHeld;go_simp;refine (fixed_any _).mono ?_;rintro e w5 ⟨⟨xf,cf,rfl,hI,_⟩,h⟩;have HI:=Hd hI;clear hI;have H_5:=Hd (H_4.out.ext h);have Y_5:=Hd (Y_4.out.trans h);clear h H_4 Y_4;go_simp;refine hK.out _ _ ((ext_cell Y_5.out (HB.out.1.cell 0))) (fun hHeld=>?_);clear hK KK;(try simp only[Act.put,xz]);refine rdH 3 rfl fun KK hK=>?_;clear hHeld;go_simp;refine (gtree_yes R B a2 most 288 cf xf _ s v v out w0 w _ E HE.out H_5.out HI.out Inf.good_fix).mono ?_
     rintro e w6 ⟨T,rfl,hT,h⟩;have HTr:=Hd hT;clear hT HI;have H_6:=Hd (H_5.out.ext h);have Y_6:=Hd (Y_5.out.trans h);clear h H_5 Y_5;go_simp;refine hK.out _ _ ((ext_cell Y_6.out (HB.out.1.cell 0))) (fun hHeld=>?_);clear hK KK;(try simp only[Act.put,xz]);refine rdH 5 rfl fun KK hK=>?_;clear hHeld;go_simp;have hP:=itokens_any _ _ _ R B T a2 most 288 32 (8*s.data.toList.length+1) Inf.fixF Inf.fiveF s v out [] w0 w6 E HE.out HTb.out (Dist.five bb R B most s w0 E HE.out) H_6.out.st HTr.out (HB.out.step (IStep.ext Y_6.out)) (by rw[list_size];omega) hmost hsz hout;rw[HT0.out] at hP;cases tr0 with
     | error c=>
      refine hP.mono ?_;intro e w9 h9;obtain⟨rfl,h8⟩:=h9.no (pr_error rfl);exact⟨rfl,bpost_error HR.out h8⟩
     | ok q=>
      obtain⟨a3,out3,tr⟩:=q;refine hP.mono ?_;intro e w7 h9;obtain⟨rfl,v',h9⟩:=h9.yes (pr_ok rfl);have HF:=Hd (H_6.out.trans h9);clear hP;go_simp;refine hK.out _ _ ?hS (fun hHeld=>?_)
      case hS=>exact ((HB.out.step (IStep.ext Y_6.out)).step h9.step).1.cell 0
      clear hK KK h9;(try simp only[Act.put,xz]);refine wpAnyH_done (by kernel_rfl) ?_ _;clear hHeld;go_wp2_with fail;go_ret;rw[← HLB.out];exact bpost_ok HR.out HF.out
    ·have t1:((kind:Int) ==1)=false:=beq_eq_false_iff_ne.2 (by omega);by_cases hk2:kind=2
     ·subst hk2;have HR1:=HR.out;rw[if_neg hk0,if_neg hk1,if_pos rfl] at HR1;clear HR;have HR:=Hd HR1;clear HR1 t0 t1;have b0:=HB.out.1.cell 0;go_wp2_with fail;clear b0;have hP:=idynamic_any R B a2 most s v out w0 _ E HE.out HTb.out H_3.out.st;cases hs:Inf.dyn s.data.toList a2 with
      | error c=>
       refine hP.mono ?_;intro e w9 h9;obtain⟨rfl,h8⟩:=h9.no hs;exact⟨rfl,bpost_error (by have h:=HR.out;simp only[hs] at h;exact h) h8⟩
      | ok q=>
       obtain⟨l,dd,a3⟩:=q;have HR1:=HR.out;simp only[hs] at HR1;clear HR;have HR:=Hd HR1;clear HR1;obtain⟨tr0,htr0⟩:∃tr0,Inf.toks s.data.toList most (Inf.fn l) l.length (Inf.fn dd) dd.length (8*s.data.toList.length+1) a3 out []=tr0:=⟨_,rfl⟩;rw[htr0] at HR;have HT0:=Hd htr0;clear htr0;refine hP.mono ?_;intro e w4 h9;obtain⟨T,U,rfl,h9,hT,hU⟩:=h9.yes hs;have hH:=H_3.out.trans h9;have HB1:=Hd (HB.out.step h9.step);clear HB;have HB:=HB1;have HT:=Hd hT;have HU:=Hd hU;have H_4:=Hd hH;have HLT3:=Hd hH.lts;clear HB1 hT hU h9 hH hP hs H_3;have b0:=HB.out.1.cell 0;have b1:∀o:Obj,(w4.alloc o).cell? ⟨bb,0,none⟩=some (.pointer (some ⟨R,0,none⟩)):=fun o=>ext_cell ((Ext.refl w4).alloc o) (HB.out.1.cell 0);go_wp2_with fail;clear b0 b1;refine calls_world (fun wz=>Ext w4 wz∧Bk wz w4.heap.size #[.pointer (some ⟨U,0,none⟩)]) ⟨(Ext.refl _).alloc _,Bk.at rfl⟩ ?_;rintro w5 ⟨h,hB2⟩;have HB2:Hid (BoxB w4.heap.size (.pointer (some ⟨U,0,none⟩)) R B w5 v):=Hd ⟨hB2,by have:=HLT3.out;omega,by have:=HLT3.out;omega,fun q=>by have:=HLT3.out.2.2 _ q;omega⟩;have HBx:=Hd (HB.out.step (IStep.ext h));have HTx:=Hd (HT.out.step (IStep.ext h));have HUx:=Hd (HU.out.step (IStep.ext h));clear hB2 HB HT HU;have H_5:=Hd (H_4.out.ext h);clear h H_4;have hP:=itokens_any _ _ _ R B T a3 most l.length dd.length (8*s.data.toList.length+1) (Inf.fn l) (Inf.fn dd) s v out [] w0 w5 E HE.out HTb.out (Dist.far bb w4.heap.size U R B most dd.length (Inf.fn dd) s w0 E HE.out) H_5.out.st HTx.out ⟨HBx.out,HB2.out,HUx.out⟩ (by rw[list_size];omega) hmost hsz hout
       rw[HT0.out] at hP;cases tr0 with
       | error c=>
        refine hP.mono ?_;intro e w9 h9;obtain⟨rfl,h8⟩:=h9.no (pr_error rfl);exact⟨rfl,bpost_error HR.out h8⟩
       | ok q=>
        obtain⟨a4,out4,tr⟩:=q;refine hP.mono ?_;intro e w9 h9;obtain⟨rfl,v',h8⟩:=h9.yes (pr_ok rfl);have HF:=Hd (H_5.out.trans h8);clear hP h9 h8;go_wp2_with fail;go_ret;rw[← HLB.out];exact bpost_ok HR.out HF.out
     ·have t2:((kind:Int) ==2)=false:=beq_eq_false_iff_ne.2 (by omega);have HR1:=HR.out;rw[if_neg hk0,if_neg hk1,if_neg hk2] at HR1;have e0:=(err_cells HE.out H_3.out.old).1;go_wp2_with fail;exact⟨rfl,bpost_error HR1 H_3.out.old⟩
end Go.Proofs.YthlibiocadimhaaGreatDoor
namespace Go.Proofs.YthlibiocadimhaaGreatDoor
open Go.RowKit
/-- no panic comes up -/
def noPanic (Q:Exit→Act→World→Prop):Exit→Act→World→Prop
 | .panic _,_,_=>False
 | e,a,w=>Q e a w
theorem wp_noPanic {P:Program} {c:Code} {Q:Exit→Act→World→Prop} {a:Act} {w:World} (h:c.wp P (noPanic Q) a w):c.wp P Q a w:=
 wp_mono h fun e a w q=>by
  cases e with
  | panic ch=>exact q.elim
  | _=>exact q
theorem fail_assert (x:Value) (xT:TypeId) (w:World):(Instr.typeAssert (.iface 197 x) xT 197 true).run Tryz.prog w=.ok (.tuple #[x,.bool true]) w:=by
 have hu:=Tryz.underlying197;simp[Instr.typeAssert,run_underlying hu,go_sem,Result.andThen]
theorem icatch_idle (p q r:Addr) (w:World):
  CallsD Tryz.prog 133 #[.pointer (some p),.pointer (some q),.pointer (some r)] .returning w fun e u' w'=>e=.returned (.tuple #[])∧u'=.returning∧w'=w:=by
 refine callsD_of_wpS Tryz.func133 rfl fun c₀ cs hu=>?_;apply wpS_seq;apply wpS_region;simp[wpOpsS,go_sem,recoverD,hu,Tryz.ntmps133,Exit.thenS];refine wpS_of_wp ?_;go_wp2_with fail;cases c₀
 simp_all [bodyPostS,results,Tryz.results133]
/-- what the three results hold behind a recovered panic -/
structure Caught (w w':World) (p q r:Nat) (a:Addr):Prop where
 h0:Bk w' p #[.string ⟨#[]⟩]
 h1:Bk w' q #[.int .i64 0]
 h2:Bk w' r #[sentV a]
 ext:Below p w w'
theorem Caught.drew {w w':World} {p q r:Nat} {a:Addr} (h:Caught w w' p q r a):Caught w w'.drew p q r a:=⟨h.h0,h.h1,h.h2,Below.drew h.ext⟩
theorem caught_of {w w0:World} {p:Nat} {a:Addr} {x y z:Value} (h0:Bk w p #[x]) (h1:Bk w (p+1) #[y]) (h2:Bk w (p+2) #[z]) (hE:Ext w w0):Caught w (((w0.setCell ⟨p,0,none⟩ (.string ⟨#[]⟩)).setCell ⟨p+1,0,none⟩ (.int .i64 0)).setCell ⟨p+2,0,none⟩ (sentV a)) p (p+1) (p+2) a:=by
 have hl:=h0.lt;have hs:=hE.size;have b0:=(h0.ext hE).set_ 0 (.string ⟨#[]⟩);have b1:=(h1.ext hE);have b2:=(h2.ext hE);refine⟨?_,?_,?_,?_⟩
 ·exact (b0.far (p:=⟨p+1,0,none⟩) (by show p≠p+1;omega) _).far (p:=⟨p+2,0,none⟩) (by show p≠p+2;omega) _
 ·exact ((b1.far (p:=⟨p,0,none⟩) (by show p+1≠p;omega) _).set_ 0 (.int .i64 0)).far (p:=⟨p+2,0,none⟩) (by show p+1≠p+2;omega) _
 ·exact ((b2.far (p:=⟨p,0,none⟩) (by show p+2≠p;omega) _).far (p:=⟨p+1,0,none⟩) (by show p+2≠p+1;omega) _).set_ 0 (sentV a)
 ·exact (((Below.mono hE (Nat.le_of_lt hl)).setCell (p:=⟨p,0,none⟩) (Nat.le_refl _) _).setCell (p:=⟨p+1,0,none⟩) (by show p≤p+1;omega) _).setCell (p:=⟨p+2,0,none⟩) (by show p≤p+2;omega) _
set_option maxHeartbeats 1000000 in
theorem icatch (p:Nat) (a:Addr) (older:List PanicEntry) (x y z:Value) (w:World) (h0:Bk w p #[x]) (h1:Bk w (p+1) #[y]) (h2:Bk w (p+2) #[z]):
  CallsD Tryz.prog 133 #[.pointer (some ⟨p,0,none⟩),.pointer (some ⟨p+1,0,none⟩),.pointer (some ⟨p+2,0,none⟩)] (.panicking ({ v:=failV a,recovered:=false } ::older)) w fun e u' w'=>e=.returned (.tuple #[])∧u'=.panicking ({ v:=failV a,recovered:=true } ::older)∧Caught w w' p (p+1) (p+2) a:=by
 have HC:=Hd (fun w0 (hE:Ext w w0)=>caught_of (a:=a) h0 h1 h2 hE);have H0:=Hd h0;have H1:=Hd h1;have H2:=Hd h2;clear h0 h1 h2;refine callsD_of_wpS Tryz.func133 rfl fun c₀ cs hu=>?_;rw[show (#[Value.pointer (some ⟨p,0,none⟩),.pointer (some ⟨p+1,0,none⟩),.pointer (some ⟨p+2,0,none⟩)]++Array.replicate (Tryz.f133.ntmps - #[Value.pointer (some ⟨p,0,none⟩),.pointer (some ⟨p+1,0,none⟩),.pointer (some ⟨p+2,0,none⟩)].size) undef)=#[Value.pointer (some ⟨p,0,none⟩),.pointer (some ⟨p+1,0,none⟩),.pointer (some ⟨p+2,0,none⟩),undef,undef,undef,undef,undef,undef,undef,undef,undef,undef,undef] from rfl];apply wpS_seq;apply wpS_region;simp[wpOpsS,go_sem,recoverD,hu,Exit.thenS];refine wpS_of_wp ?_;unfold failV sentV;have hta:=fail_assert;go_wp2_with fail;clear hta;have hl:=H0.out.lt;have hl1:=H1.out.lt;have hl2:=H2.out.lt;obtain⟨b,hb⟩:∃b,w.heap.size=b:=⟨_,rfl⟩;refine wp_world (fun wz=>Ext w wz∧wz.cell? ⟨b,0,none⟩=some (.iface 275 (.pointer (some a)))) ⟨(Ext.refl _).alloc _,by subst hb;exact (Bk.at (w:=w) rfl).cell 0⟩ ?_;rintro w1 ⟨hX,hc⟩;rw[hb] at hl hl1 hl2⊢;have HX:=Hd hX;have k0:=(H0.out.ext hX).cell 0;have k1:=(H1.out.ext hX).cell 0;have k2:=(H2.out.ext hX).cell 0;have f0:=(H0.out.ext hX).frozen 0;have f1:=(H1.out.ext hX).frozen 0;have f2:=(H2.out.ext hX).frozen 0;have n0:¬ p=b:=by omega
 have n1:¬ p+1=b:=by omega
 have n2:¬ p+2=b:=by omega
 clear hX hb hl hl1 hl2;go_region;all_goals (try go_wp2_with fail)
 all_goals exact⟨rfl,_,rfl,.tuple #[],by simp[results,Tryz.results133],rfl,rfl,(HC.out w1 HX.out).drew⟩
theorem bound_any (s:ByteArray) (most:Int) (w:World) (hs:s.size≤maxLen):Calls Tryz.prog 95 #[.string s,.int .i64 most] w fun e w'=>e=.returned (.bool (decide (most<0∨300000<most∨300000<s.size)))∧w=w':=by
 unfold maxLen at hs;by_cases h0:most<0
 ·have e:decide (most<0∨300000<most∨300000<s.size)=true:=decide_eq_true (.inl h0);rw[e];go_enter Tryz.func95,Tryz.ntmps95
  go_wp2_with fail;go_ret;exact⟨rfl,rfl⟩
 ·by_cases h1:300000<most
  ·have e:decide (most<0∨300000<most∨300000<s.size)=true:=decide_eq_true (.inr (.inl h1));rw[e];go_enter Tryz.func95,Tryz.ntmps95
   go_wp2_with fail;go_ret;exact⟨rfl,rfl⟩
  ·by_cases h2:300000<s.size
   ·have e:decide (most<0∨300000<most∨300000<s.size)=true:=decide_eq_true (.inr (.inr h2));have h2I:(300000:Int)<(s.size:Int):=by omega
    rw[e];clear e;go_enter Tryz.func95,Tryz.ntmps95
    go_wp2_with fail;go_ret;exact⟨rfl,rfl⟩
   ·have e:decide (most<0∨300000<most∨300000<s.size)=false:=decide_eq_false (by omega);have h2I:¬ (300000:Int)<(s.size:Int):=by omega
    rw[e];clear e;go_enter Tryz.func95,Tryz.ntmps95
    go_wp2_with fail;go_ret;exact⟨rfl,rfl⟩
def InfPost (w w':World) (E:Nat→Addr) (r:Except Nat (List UInt8 × Nat × List Inf.Blk)) (e:Ending):Prop:=
 Ext w w'∧match r with
 | .ok (out,used,_)=>e=.returned (.tuple #[.string (tb out),.int .i64 (used:Int),.nilIface])
 | .error c=>e=.returned (.tuple #[.string ⟨#[]⟩,.int .i64 0,sentV (E c)])
theorem infpost_ok {w w':World} {E:Nat→Addr} {r:Except Nat (List UInt8 × Nat × List Inf.Blk)} {out:List UInt8} {used:Nat} {bs:List Inf.Blk} {x:Value} (hr:r=.ok (out,used,bs)) (hX:Ext w w') (hx:x=.tuple #[.string (tb out),.int .i64 (used:Int),.nilIface]):InfPost w w' E r (.returned x):=by
 subst hr hx;exact⟨hX,rfl⟩
theorem infpost_error {w w':World} {E:Nat→Addr} {r:Except Nat (List UInt8 × Nat × List Inf.Blk)} {c:Nat} {x:Value} (hr:r=.error c) (hX:Ext w w') (hx:x=.tuple #[.string ⟨#[]⟩,.int .i64 0,sentV (E c)]):InfPost w w' E r (.returned x):=by
 subst hr hx;exact⟨hX,rfl⟩
theorem res_inflate (p:Nat) (x:ByteArray) (y:Int) (z:Value) (w:World) (tmps:Array Value) (h0:Bk w p #[.string x]) (h1:Bk w (p+1) #[.int .i64 y]) (h2:Bk w (p+2) #[z]) (t4:tmps[4]? =some (.pointer (some ⟨p,0,none⟩))) (t5:tmps[5]? =some (.pointer (some ⟨p+1,0,none⟩))) (t6:tmps[6]? =some (.pointer (some ⟨p+2,0,none⟩))) (hz:∃u v,z=.iface u v∨z=.nilIface):
  (results Tryz.f96 tmps).run Tryz.prog w=.ok (.tuple #[.string x,.int .i64 y,z]) w:=by
 have c0:=h0.cell 0;have c1:=h1.cell 0;have c2:=h2.cell 0;obtain⟨u,v,rfl | rfl⟩:=hz
 ·simp[results,Tryz.results96,go_sem,t4,t5,t6,c0,c1,c2]
 ·simp[results,Tryz.results96,go_sem,t4,t5,t6,c0,c1,c2]
theorem inf_error {s:ByteArray} {m:Nat} {c:Nat} {r0:Except Nat (Nat × List UInt8 × List Inf.Blk)} {r:Except Nat (List UInt8 × Nat × List Inf.Blk)} (h0:Inf.blocks s.data.toList m (8*s.data.toList.length+1) 0 [] []=r0) (h:Inf.inf s.data.toList m=r) (e:r0=.error c):r=.error c:=by
 unfold Inf.inf at h;rw[h0,e] at h;exact h.symm
theorem inf_ok {s:ByteArray} {m a:Nat} {out:List UInt8} {bs:List Inf.Blk} {r0:Except Nat (Nat × List UInt8 × List Inf.Blk)} {r:Except Nat (List UInt8 × Nat × List Inf.Blk)} (h0:Inf.blocks s.data.toList m (8*s.data.toList.length+1) 0 [] []=r0) (h:Inf.inf s.data.toList m=r) (e:r0=.ok (a,out,bs)):r=.ok (out,(a+7)/8,bs):=by
 unfold Inf.inf at h;rw[h0,e] at h;exact h.symm
theorem BPost.yes {w0 w w':World} {R B a most last:Nat} {s:ByteArray} {v:Value} {E:Nat→Addr} {out:List UInt8} {b:Inf.Blk} {r:Except Nat (Nat × Nat × List UInt8 × Inf.Blk)} {e:Ending} (h:BPost w0 w R B s most v E r e w') (hr:r=.ok (last,a,out,b)):e=.returned (.bool (decide (last=1)))∧∃v',IGo w0 w w' R B s a v v' out most:=by subst hr;exact h
theorem BPost.no {w0 w w':World} {R B most c:Nat} {s:ByteArray} {v:Value} {E:Nat→Addr} {r:Except Nat (Nat × Nat × List UInt8 × Inf.Blk)} {e:Ending} (h:BPost w0 w R B s most v E r e w') (hr:r=.error c):e=thrown (E c)∧Ext w0 w':=by subst hr;exact h
theorem set3_ext {w w3:World} {p:Nat} (hp:w.heap.size=p) (hX:Ext w w3) {x y z:Value}:Ext w (((w3.setCell ⟨p,0,none⟩ x).setCell ⟨p+1,0,none⟩ y).setCell ⟨p+2,0,none⟩ z):=by
 refine (((show Below w.heap.size w w3 from hX).setCell (p:=⟨p,0,none⟩) (by show _≤p;omega) _).setCell (p:=⟨p+1,0,none⟩) (by show _≤p+1;omega) _).setCell (p:=⟨p+2,0,none⟩) (by show _≤p+2;omega) _
theorem set3_bk {w:World} {p:Nat} {x y z x' y' z':Value} (h0:Bk w p #[x]) (h1:Bk w (p+1) #[y]) (h2:Bk w (p+2) #[z]):
  Bk (((w.setCell ⟨p,0,none⟩ x').setCell ⟨p+1,0,none⟩ y').setCell ⟨p+2,0,none⟩ z') p #[x']∧Bk (((w.setCell ⟨p,0,none⟩ x').setCell ⟨p+1,0,none⟩ y').setCell ⟨p+2,0,none⟩ z') (p+1) #[y']∧Bk (((w.setCell ⟨p,0,none⟩ x').setCell ⟨p+1,0,none⟩ y').setCell ⟨p+2,0,none⟩ z') (p+2) #[z']:=
 ⟨((h0.set_ 0 x').far (p:=⟨p+1,0,none⟩) (by show p≠p+1;omega) _).far (p:=⟨p+2,0,none⟩) (by show p≠p+2;omega) _,((h1.far (p:=⟨p,0,none⟩) (by show p+1≠p;omega) _).set_ 0 y').far (p:=⟨p+2,0,none⟩) (by show p+1≠p+2;omega) _,((h2.far (p:=⟨p,0,none⟩) (by show p+2≠p;omega) _).far (p:=⟨p+1,0,none⟩) (by show p+2≠p+1;omega) _).set_ 0 z'⟩
set_option maxHeartbeats 4000000 in
theorem inflate_any (s:ByteArray) (most:Int) (w:World) (E:Nat→Addr) (hE:Errs w E) (hTb:Tabs w) (hs:s.size≤maxLen):
  Calls Tryz.prog 96 #[.string s,.int .i64 most] w fun e w'=>InfPost w w' E (Inf.infl s most) e:=by
 have HE:=Hd hE;have HTb:=Hd hTb;have HBd:=Hd (fun w=>bound_any s most w hs);obtain⟨r,hr⟩:∃r,Inf.infl s most=r:=⟨_,rfl⟩;rw[hr];unfold Inf.infl at hr;have hmf:∀(fn:Fn) (first cap:Array Value) (w:World),(Instr.makeFunc fn first cap).run Tryz.prog w=.ok (.func fn first cap) w:=fun _ _ _ _=>rfl;obtain⟨p,hp⟩:∃p,w.heap.size=p:=⟨_,rfl⟩;have HP:=Hd hp;by_cases hb:most<0∨300000<most∨300000<s.size
 ·have hd:decide (most<0∨300000<most∨300000<s.size)=true:=decide_eq_true hb;rw[if_pos hb] at hr;have HR:=Hd hr.symm;clear hE hTb hr hb hp hs;go_enter_defers Tryz.func96,Tryz.ntmps96
  go_wp2_with fail;refine (HBd.out _).mono ?_;rintro e _ ⟨rfl,rfl⟩;rw[hd];go_wp2_with fail;clear hd hmf;rw[show w.heap.size+1+1=w.heap.size+2 from rfl,HP.out];refine wp_world (fun wz=>Ext w wz∧Bk wz p #[.string ⟨#[]⟩]∧Bk wz (p+1) #[.int .i64 0]∧Bk wz (p+2) #[.nilIface]) ⟨(((Ext.refl w).alloc _).alloc _).alloc _,Bk.old (Bk.old (Bk.at HP.out)),Bk.old (Bk.at (by simp[HP.out])),Bk.at (by simp[HP.out])⟩ ?_;rintro w3 ⟨hX,h0,h1,h2⟩;have HX:=Hd hX;have H3:=Hd (fun (x y z:Value)=>set3_bk (x':=x) (y':=y) (z':=z) h0 h1 h2);have k0:=h0.cell 0;have k1:=h1.cell 0;have k2:=h2.cell 0;have f0:=h0.frozen 0;have f1:=h1.frozen 0;have f2:=h2.frozen 0;have ev:=(err_cells HE.out hX).2;have hg:(2 :Nat)<w.heap.size:=World.block_lt_of_cell? w _ (err_cells HE.out (Ext.refl w)).2;rw[HP.out] at hg;have n0:¬ 2 =p:=by omega
  have n1:¬ 2 =p+1:=by omega
  clear hX h0 h1 h2 hg;go_region;all_goals (try go_wp2_with fail)
  all_goals
   obtain⟨q0,q1,q2⟩:=H3.out (.string ⟨#[]⟩) (.int .i64 0) (.iface 275 (.pointer (some (E 1))));exact⟨_,res_inflate p ⟨#[]⟩ 0 _ _ _ q0.drew q1.drew q2.drew rfl rfl rfl ⟨_,_,.inl rfl⟩,infpost_error HR.out (Below.drew (set3_ext HP.out HX.out)) rfl⟩
 ·have hd:decide (most<0∨300000<most∨300000<s.size)=false:=decide_eq_false hb;rw[if_neg hb] at hr;obtain⟨m,rfl⟩:∃m:Nat,most=m:=⟨most.toNat,by omega⟩;have hm:m≤300000:=by omega
  have hsz:s.size≤300000:=by omega
  rw[Int.toNat_natCast] at hr;have HR:=Hd hr;obtain⟨r0,hr0⟩:∃r0,Inf.blocks s.data.toList m (8*s.data.toList.length+1) 0 [] []=r0:=⟨_,rfl⟩;have HR0:=Hd hr0;clear hE hTb hr hb hp hs hr0;go_enter_defers Tryz.func96,Tryz.ntmps96
  go_wp2_with fail;refine (HBd.out _).mono ?_;rintro e _ ⟨rfl,rfl⟩;rw[hd];go_wp2_with fail;clear hd;rw[show w.heap.size+1+1=w.heap.size+2 from rfl,HP.out];refine calls_world (fun wz=>Ext w wz∧Bk wz p #[.string ⟨#[]⟩]∧Bk wz (p+1) #[.int .i64 0]∧Bk wz (p+2) #[.nilIface]) ⟨(((Ext.refl w).alloc _).alloc _).alloc _,Bk.old (Bk.old (Bk.at HP.out)),Bk.old (Bk.at (by simp[HP.out])),Bk.at (by simp[HP.out])⟩ ?_;rintro w3 ⟨hX,h0,h1,h2⟩;have HX:=Hd hX;have H0:=Hd h0;have H1:=Hd h1;have H2:=Hd h2;have HE3:=Hd (HE.out.ext hX);have HT3:=Hd (HTb.out.ext hX);have HPL:=Hd (⟨by rw[← HP.out];exact hX.size,h2.lt⟩:p≤w3.heap.size∧p+2<w3.heap.size);clear hX h0 h1 h2;refine (newReader_calls s w3 (by omega)).mono ?_;rintro e w4 ⟨rfl,hr4,hx4⟩;have HR4:=Hd hr4;have HX4:=Hd hx4;have hlt4:w3.heap.size<w4.heap.size:=hr4.lt;have HL4:=Hd hlt4;clear hr4 hx4 hlt4;go_wp2_with fail;obtain⟨B,hB⟩:∃B,w3.heap.size=B:=⟨_,rfl⟩;obtain⟨R,hR⟩:∃R,w4.heap.size=R:=⟨_,rfl⟩;refine wp_world (fun wz=>IGo w3 wz wz R B s 0 (.slice none 0 0) (.slice none 0 0) [] m) ?_ ?_
  ·refine IGo.start ⟨⟨?_,?_,World.ownsRow_nil _ _ _ _,?_,(fun e=>by cases e),(fun e=>by cases e)⟩,HX4.out.alloc _,?_,?_,(fun k e=>by cases e),Nat.zero_le _⟩
   ·rw[hB];exact Bk.at hR
   ·have h:=HR4.out;rw[hB] at h;exact⟨ext_cell ((Ext.refl w4).alloc _) h.c0,ext_cell ((Ext.refl w4).alloc _) h.c1,by rw[World.frozen?_alloc_past _ _ _ h.lt];exact h.f1,h.size,h.le⟩
   ·have:=HL4.out;omega
   ·have:=HL4.out;omega
   ·omega
  rintro w5 hG;have HG:=Hd hG;rw[hR];clear hG hB hR;go_loopg [] (8*s.size) (fun k wr=>∃(a:Nat) (v:Value) (out:List UInt8) (bs:List Inf.Blk) (FF:Nat),Hid (IGo w3 w5 wr R B s a (.slice none 0 0) v out m)∧Hid (Inf.blocks s.data.toList m FF a out bs=r0)∧Hid (8*s.size-a<FF∧k=8*s.size-a)∧out.length≤m)
  case atStart=>exact⟨0,_,[],[],8*s.data.toList.length+1,HG,HR0,Hd ⟨by rw[list_size];omega,by omega⟩,Nat.zero_le _⟩
  case round=>
   clear HG;obtain⟨a,v,out,bs,FF,H,HRb,HK,hout⟩:=hrel;have HF0:Hid (0<FF):=Hd (by have:=HK.out;omega);go_wp2_with fail;have hP:=iblock_any R B a m s v out w3 wr E HE3.out HT3.out H.out.st hm hsz hout;cases hs:Inf.block s.data.toList m a out with
   | error c=>
    have HQ:=Hd (inf_error HR0.out HR.out (Inf.blocks_err HF0.out HRb.out hs));refine hP.mono ?_;intro e w9 h9;obtain⟨rfl,h8⟩:=h9.no hs;have H8:=Hd h8;clear hP h9 h8 hs H;unfold thrown;refine leaves_cons (f:=133) (args:=#[.pointer (some ⟨p,0,none⟩),.pointer (some ⟨p+1,0,none⟩),.pointer (some ⟨p+2,0,none⟩)]) (by simp) (by simp[go_sem]) ?_;refine (icatch p (E c) [] _ _ _ w9 (H0.out.ext H8.out) (H1.out.ext H8.out) (H2.out.ext H8.out)).mono ?_;rintro e u' w8 ⟨rfl,rfl,hc⟩;exact⟨_,res_inflate p ⟨#[]⟩ 0 _ _ _ hc.h0 hc.h1 hc.h2 rfl rfl rfl ⟨_,_,.inl rfl⟩,infpost_error HQ.out (Below.trans (HX.out.trans H8.out) (by rw[HP.out];exact hc.ext)) rfl⟩
   | ok q=>
    obtain⟨last,a1,out1,b⟩:=q;have hgr:=Inf.block_grow hout hs;refine hP.mono ?_;intro e w6 h6;obtain⟨rfl,v',h8⟩:=h6.yes hs;have H6:=Hd (H.out.trans h8);clear h6 h8 hP H;by_cases hl:last=1
    ·subst hl;have HQ:=Hd (inf_ok HR0.out HR.out (Inf.blocks_last HF0.out HRb.out hs));have c0:=H6.out.bk.cell 0;clear hs;go_wp2_with fail;refine (ralign_calls B 0 a1 s w6 H6.out.st.at_.rd H6.out.st.le).mono ?_;rintro e w7 ⟨rfl,hR,hS⟩;have hle:=H6.out.st.le;obtain⟨used,hus⟩:∃u,(a1+7)/8=u:=⟨_,rfl⟩;rw[hus] at hR HQ;obtain⟨a7,ha7⟩:∃x,used*8=x:=⟨_,rfl⟩;rw[ha7] at hR;have H7:=Hd (H6.out.read hR hS (by omega));have hq1:(a7:Int).tdiv 8=(used:Int):=by rw[Int.tdiv_eq_ediv_of_nonneg (by omega)];omega
     have hq2:(a7:Int)/8=(used:Int):=by omega
     have hub:used≤300000:=by omega
     have wu:∀z,z=(used:Int)→IntKind.i64.wrap z=z:=by rintro _ rfl;rw[IntKind.wrap_i64];omega
     obtain⟨Lo,hLo⟩:∃Lo,out1.length=Lo:=⟨_,rfl⟩;have HL:=Hd hLo;have hro:=H7.out.row;rw[hLo] at hro;obtain⟨xo,co,rfl⟩:=lit_row hro
     -- region
     clear hR hS hus ha7 hro hLo hle H6;have H_7:=H7;clear H7;have n0:¬ p=R:=by have:=HPL.out;have:=H_7.out.st.hR;omega
     have n1:¬ p+1=R:=by have:=HPL.out;have:=H_7.out.st.hR;omega
     have n2:¬ p+2=R:=by have:=HPL.out;have:=H_7.out.st.hR;omega
     go_wp2_with fail;refine wp_noPanic ?_;refine wp_region_held_drew (S:=fun w'=>w'.cell? ⟨R,0,none⟩=some (.pointer (some ⟨B,0,none⟩))∧w'.cell? ⟨R,1,none⟩=some (.slice xo Lo co)) (by kernel_rfl) ⟨H_7.out.bk.cell 0,H_7.out.bk.cell 1⟩ (fun hHeld=>?_);clear hHeld;refine anyH_world (fun wz=>Ext w7 wz) (show Ext w7 w7.drew from Below.drew (Ext.refl w7)) ?_;rintro w8 h;have H_8:=Hd (H_7.out.ext h);clear h H_7;have hHeld:w8.cell? ⟨R,0,none⟩=some (.pointer (some ⟨B,0,none⟩))∧w8.cell? ⟨R,1,none⟩=some (.slice xo Lo co):=⟨H_8.out.bk.cell 0,H_8.out.bk.cell 1⟩;refine tkH 0 rfl hHeld ?_;(try simp only[Act.put,xz]);refine tkH 1 rfl hHeld ?_;(try simp only[Act.put,xz]);refine tkH 2 rfl hHeld ?_;(try simp only[Act.put,xz]);refine tkH 3 rfl hHeld ?_;(try simp only[Act.put,xz]);refine tkH 5 rfl hHeld ?_;(try simp only[Act.put,xz]);refine tkH 6 rfl hHeld ?_;(try simp only[Act.put,xz]);refine tkH 7 rfl hHeld ?_;(try simp only[Act.put,xz]);refine tkH 8 rfl hHeld ?_;(try simp only[Act.put,xz]);refine rdH2 4 9 rfl rfl (fun KK hK=>?_) fun KK hK=>?_
     ·clear hHeld;have hro:=H_8.out.row;rw[HL.out] at hro;have hcr:=conv_row HL.out hro;clear hro;go_simp;refine hK.out _ _ ⟨H_8.out.bk.cell 0,H_8.out.bk.cell 1⟩ (fun hHeld=>?_);clear hK KK hcr;(try simp only[Act.put,xz]);refine rdH 9 rfl fun KK hK=>?_;clear hHeld;go_simp;refine (at_calls B 0 a7 s _ H_8.out.st.at_.rd).mono ?_;rintro e w9 ⟨rfl,rfl⟩;go_simp;refine hK.out _ _ ⟨H_8.out.bk.cell 0,H_8.out.bk.cell 1⟩ (fun hHeld=>?_);clear hK KK;(try simp only[Act.put,xz]);refine tkH 10 rfl hHeld ?_;(try simp only[Act.put,xz]);refine rdH 11 rfl fun KK hK=>?_;clear hHeld;have k0:=(H0.out.ext H_8.out.old).cell 0;have f0:=(H0.out.ext H_8.out.old).frozen 0;have k1:=(H1.out.ext H_8.out.old).cell 0;have f1:=(H1.out.ext H_8.out.old).frozen 0;have k2:=(H2.out.ext H_8.out.old).cell 0;have f2:=(H2.out.ext H_8.out.old).frozen 0;have c0:=H_8.out.bk.cell 0;have c1:=H_8.out.bk.cell 1;go_simp;refine hK.out _ _ ⟨by simp[go_sem,c0,c1,n0,n1,n2],by simp[go_sem,c0,c1,n0,n1,n2]⟩ (fun hHeld=>?_);clear hK KK;(try simp only[Act.put,xz]);refine rdH 12 rfl fun KK hK=>?_;clear hHeld;go_simp;refine hK.out _ _ ⟨by simp[go_sem,c0,c1,n0,n1,n2],by simp[go_sem,c0,c1,n0,n1,n2]⟩ (fun hHeld=>?_);clear hK KK;(try simp only[Act.put,xz]);refine rdH 13 rfl fun KK hK=>?_;clear hHeld;go_simp;refine hK.out _ _ ⟨by simp[go_sem,c0,c1,n0,n1,n2],by simp[go_sem,c0,c1,n0,n1,n2]⟩ (fun hHeld=>?_);clear hK KK;(try simp only[Act.put,xz]);refine wpAnyH_done (by kernel_rfl) ?_ _
      clear hHeld;simp only[noPanic];go_wp2_with fail;obtain⟨q0,q1,q2⟩:=set3_bk (x':=.string (tb out1)) (y':=.int .i64 (used:Int)) (z':=.nilIface) (H0.out.ext H_8.out.old) (H1.out.ext H_8.out.old) (H2.out.ext H_8.out.old);refine leaves_cons (f:=133) (args:=#[.pointer (some ⟨p,0,none⟩),.pointer (some ⟨p+1,0,none⟩),.pointer (some ⟨p+2,0,none⟩)]) (by simp) (by simp[go_sem]) ?_;refine (icatch_idle _ _ _ _).mono ?_;rintro e u' w'' ⟨rfl,rfl,rfl⟩;exact⟨_,res_inflate p (tb out1) (used:Int) _ _ _ q0 q1 q2 rfl rfl rfl ⟨3,.nilIface,.inr rfl⟩,infpost_ok HQ.out (set3_ext HP.out (HX.out.trans H_8.out.old)) rfl⟩
     ·clear hHeld;go_simp;refine (at_calls B 0 a7 s _ H_8.out.st.at_.rd).mono ?_;rintro e w9 ⟨rfl,rfl⟩;go_simp;refine hK.out _ _ ⟨H_8.out.bk.cell 0,H_8.out.bk.cell 1⟩ (fun hHeld=>?_);clear hK KK;(try simp only[Act.put,xz]);refine tkH 10 rfl hHeld ?_;(try simp only[Act.put,xz]);refine rdH 4 rfl fun KK hK=>?_;clear hHeld;have hro:=H_8.out.row;rw[HL.out] at hro;have hcr:=conv_row HL.out hro;clear hro;go_simp;refine hK.out _ _ ⟨H_8.out.bk.cell 0,H_8.out.bk.cell 1⟩ (fun hHeld=>?_);clear hK KK hcr;(try simp only[Act.put,xz]);refine rdH 11 rfl fun KK hK=>?_;clear hHeld;have k0:=(H0.out.ext H_8.out.old).cell 0;have f0:=(H0.out.ext H_8.out.old).frozen 0;have k1:=(H1.out.ext H_8.out.old).cell 0;have f1:=(H1.out.ext H_8.out.old).frozen 0;have k2:=(H2.out.ext H_8.out.old).cell 0;have f2:=(H2.out.ext H_8.out.old).frozen 0;have c0:=H_8.out.bk.cell 0;have c1:=H_8.out.bk.cell 1;go_simp;refine hK.out _ _ ⟨by simp[go_sem,c0,c1,n0,n1,n2],by simp[go_sem,c0,c1,n0,n1,n2]⟩ (fun hHeld=>?_);clear hK KK;(try simp only[Act.put,xz]);refine rdH 12 rfl fun KK hK=>?_;clear hHeld;go_simp;refine hK.out _ _ ⟨by simp[go_sem,c0,c1,n0,n1,n2],by simp[go_sem,c0,c1,n0,n1,n2]⟩ (fun hHeld=>?_);clear hK KK;(try simp only[Act.put,xz]);refine rdH 13 rfl fun KK hK=>?_;clear hHeld;go_simp;refine hK.out _ _ ⟨by simp[go_sem,c0,c1,n0,n1,n2],by simp[go_sem,c0,c1,n0,n1,n2]⟩ (fun hHeld=>?_);clear hK KK;(try simp only[Act.put,xz]);refine wpAnyH_done (by kernel_rfl) ?_ _
      clear hHeld;simp only[noPanic];go_wp2_with fail;obtain⟨q0,q1,q2⟩:=set3_bk (x':=.string (tb out1)) (y':=.int .i64 (used:Int)) (z':=.nilIface) (H0.out.ext H_8.out.old) (H1.out.ext H_8.out.old) (H2.out.ext H_8.out.old);refine leaves_cons (f:=133) (args:=#[.pointer (some ⟨p,0,none⟩),.pointer (some ⟨p+1,0,none⟩),.pointer (some ⟨p+2,0,none⟩)]) (by simp) (by simp[go_sem]) ?_;refine (icatch_idle _ _ _ _).mono ?_;rintro e u' w'' ⟨rfl,rfl,rfl⟩;exact⟨_,res_inflate p (tb out1) (used:Int) _ _ _ q0 q1 q2 rfl rfl rfl ⟨3,.nilIface,.inr rfl⟩,infpost_ok HQ.out (set3_ext HP.out (HX.out.trans H_8.out.old)) rfl⟩
    ·have hd:decide (last=1)=false:=decide_eq_false hl;obtain⟨F2,hF2,hR2⟩:=Inf.blocks_go HF0.out HRb.out hs hl;have HR2:=Hd hR2;clear hR2 hs;go_wp2_with fail;go_roundg (8*s.size-a1)
     case measure=>have:=HK.out;have:=H6.out.st.le;omega
     case rel=>exact⟨a1,v',out1,_,F2,H6,HR2,Hd ⟨by have:=HK.out;have:=H6.out.st.le;omega,rfl⟩,hgr.2⟩
end Go.Proofs.YthlibiocadimhaaGreatDoor
