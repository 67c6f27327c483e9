/-
  inflate: a dynamic block.
  inflate: a stored block.
-/
import Derived.Test.YthlibiocadimhaaGreatDoorPngTwiceG1
import Derived.Test.YthlibiocadimhaaGreatDoorPngTwiceG12
import Derived.Test.YthlibiocadimhaaGreatDoorPngTwiceG5
set_option linter.unusedSimpArgs false
set_option linter.unusedVariables false
set_option maxRecDepth 100000
namespace Go.Proofs.YthlibiocadimhaaGreatDoor
open Go.RowKit
set_option maxHeartbeats 4000000 in
theorem idynamic_any (R B a most:Nat) (s:ByteArray) (v:Value) (out:List UInt8) (w0 w:World) (E:Nat→Addr) (hE:Errs w0 E) (hTb:Tabs w0) (hI:ISt w0 w R B s a v out most):
  Calls Tryz.prog 162 #[.pointer (some ⟨R,0,none⟩)] w fun e w'=>DPost w0 w R B s most v out E (Inf.dyn s.data.toList a) e w':=by
 have HE:=Hd hE;have HTb:=Hd hTb;have H_0:Hid (IGo w0 w w R B s a v v out most):=Hd (IGo.start hI);have HW:Hid (w0.heap.size≤w.heap.size):=Hd hI.old.size;have HLT:=Hd (IGo.start hI).lts;obtain⟨r,hr⟩:∃r,Inf.dyn s.data.toList a=r:=⟨_,rfl⟩;rw[hr];rw[Inf.dyn_eq] at hr;have HR:=Hd hr;obtain⟨i0,hi0,hz0,hz1,hz2⟩:=info_parts i64info;clear hE hTb hI hr;go_enter Tryz.func162,Tryz.ntmps162
 go_wp2_with fail;cases hg:Inf.get s.data.toList 5 a with
 | error c=>
  refine (gget_no R B a 5 c most s v v out w0 w _ E HE.out H_0.out (by omega) hg).mono ?_;rintro e w9 ⟨rfl,h9⟩;exact⟨rfl,dpost_error (by have h:=HR.out;simp only[hg] at h;exact h) h9⟩
 | ok p=>
  obtain⟨m,a1⟩:=p;have HR1:=HR.out;simp only[hg] at HR1;clear HR;have HR:=Hd HR1;clear HR1;refine (gget_yes R B a 5 m a1 most s v v out w0 w _ E HE.out H_0.out (by omega) hg).mono ?_;rintro e w1 ⟨rfl,hG,hS⟩;have H_1:=Hd (hG);clear H_0 hG hS;obtain⟨z1,z2,z3,z4⟩:=Inf.get_ok hg;clear z4 hg;rw[list_size] at z2;have hb_m:m<32:=z3;have hh_m:a1≤8*s.size∧a≤a1:=⟨by omega,by omega⟩;clear z1 z2 z3;obtain⟨mm,hmm⟩:∃mm,m+257=mm:=⟨_,rfl⟩;have hmI:(m:Int)+257=(mm:Int):=by omega
  have wm:∀z,z=(mm:Int)→IntKind.i64.wrap z=z:=by rintro _ rfl;rw[IntKind.wrap_i64];omega
  go_wp2_with fail;cases hg:Inf.get s.data.toList 5 a1 with
  | error c=>
   refine (gget_no R B a1 5 c most s v v out w0 w _ E HE.out H_1.out (by omega) hg).mono ?_;rintro e w9 ⟨rfl,h9⟩;exact⟨rfl,dpost_error (by have h:=HR.out;simp only[hg] at h;exact h) h9⟩
  | ok p=>
   obtain⟨q,a2⟩:=p;have HR1:=HR.out;simp only[hg] at HR1;clear HR;have HR:=Hd HR1;clear HR1;refine (gget_yes R B a1 5 q a2 most s v v out w0 w _ E HE.out H_1.out (by omega) hg).mono ?_;rintro e w2 ⟨rfl,hG,hS⟩;have H_2:=Hd (hG);clear H_1 hG hS;obtain⟨z1,z2,z3,z4⟩:=Inf.get_ok hg;clear z4 hg;rw[list_size] at z2;have hb_q:q<32:=z3;have hh_q:a2≤8*s.size∧a1≤a2:=⟨by omega,by omega⟩;clear z1 z2 z3;obtain⟨ff,hff⟩:∃ff,q+1=ff:=⟨_,rfl⟩;have hqI:(q:Int)+1=(ff:Int):=by omega
   have wf:∀z,z=(ff:Int)→IntKind.i64.wrap z=z:=by rintro _ rfl;rw[IntKind.wrap_i64];omega
   go_wp2_with fail;cases hg:Inf.get s.data.toList 4 a2 with
   | error c=>
    refine (gget_no R B a2 4 c most s v v out w0 w _ E HE.out H_2.out (by omega) hg).mono ?_;rintro e w9 ⟨rfl,h9⟩;exact⟨rfl,dpost_error (by have h:=HR.out;simp only[hg] at h;exact h) h9⟩
   | ok p=>
    obtain⟨x,a3⟩:=p;have HR1:=HR.out;simp only[hg] at HR1;clear HR;have HR:=Hd HR1;clear HR1;refine (gget_yes R B a2 4 x a3 most s v v out w0 w _ E HE.out H_2.out (by omega) hg).mono ?_;rintro e w3 ⟨rfl,hG,hS⟩;have H_3:=Hd (hG);clear H_2 hG hS;obtain⟨z1,z2,z3,z4⟩:=Inf.get_ok hg;clear z4 hg;rw[list_size] at z2;have hb_x:x<16:=z3;have hh_x:a3≤8*s.size∧a2≤a3:=⟨by omega,by omega⟩;clear z1 z2 z3;obtain⟨few,hfew⟩:∃few,x+4=few:=⟨_,rfl⟩;have hxI:(x:Int)+4=(few:Int):=by omega
    have wx:∀z,z=(few:Int)→IntKind.i64.wrap z=z:=by rintro _ rfl;rw[IntKind.wrap_i64];omega
    have hmm2:257≤mm:=by omega
    have hff2:1≤ff∧ff≤32:=by omega
    have hfew2:few≤19:=by omega
    have hmm3:mm≤288:=by omega
    rw[hmm,hff,hfew] at HR;have e0:=(err_cells HE.out H_3.out.old).1;have hHM:=And.intro hh_m (And.intro hh_q hh_x);clear hh_m hh_q hh_x hmm hff hfew hb_m hb_q hb_x;by_cases hb1:286<mm
    ·have t1:decide ((mm:Int)≤286)=false:=decide_eq_false (by omega);have n1:¬ (mm≤286):=by omega
     have HQ:Hid (.error 0=r):=Hd (by have h:=HR.out;rw[if_pos (.inl hb1)] at h;exact h);go_wp2_with fail;refine (must_no _ (E 0) _).mono ?_;rintro e _ ⟨rfl,rfl⟩;exact⟨rfl,dpost_error HQ.out H_3.out.old⟩
    ·have t1:decide ((mm:Int)≤286)=true:=decide_eq_true (by omega);have n1:mm≤286:=by omega
     by_cases hb2:30<ff
     ·have t2:decide ((ff:Int)≤30)=false:=decide_eq_false (by omega);have n2:¬ (ff≤30):=by omega
      have HQ:Hid (.error 0=r):=Hd (by have h:=HR.out;rw[if_pos (.inr hb2)] at h;exact h);go_wp2_with fail;refine (must_no _ (E 0) _).mono ?_;rintro e _ ⟨rfl,rfl⟩;exact⟨rfl,dpost_error HQ.out H_3.out.old⟩
     ·have t2:decide ((ff:Int)≤30)=true:=decide_eq_true (by omega);have n2:ff≤30:=by omega
      have HR1:=HR.out;rw[if_neg (by omega)] at HR1;clear HR;have HR:=Hd HR1;clear HR1;go_wp2_with fail;refine (must_yes _ _ _).mono ?_;rintro e _ ⟨rfl,rfl⟩;clear t1 t2 e0 hb1 hb2 hmI hqI hxI;have hmk:=fun w=>run_make_row' (P:=Tryz.prog) 88 3 (.int .i64 0) 8 Tryz.underlying88 i64info rfl .i64 .i64 19 (by omega) (by omega) w;simp only[show ((19:Nat):Int)=19 from rfl] at hmk;have hgr:(10 :Nat)<w3.heap.size:=World.block_lt_of_cell? _ _ (ext_cell H_3.out.old (HTb.out.order 0 (by decide)));have hsl:=order_slice few hfew2;go_wp2_with fail;clear hmk;obtain⟨rs,hrs⟩:∃rs,Inf.smalls s.data.toList few 0 a3 (fun _=>0)=rs:=⟨_,rfl⟩;rw[hrs] at HR;have HRS:=Hd hrs;clear hrs;have HS0:Hid (SGo w0 w (w3.alloc (.cells (madeCells #[.int .i64 0] 19) 3)) R B s a3 v out most w3.heap.size (fun _=>0)):=Hd ⟨H_3.out.ext ((Ext.refl _).alloc _),by rw[made_eq];exact Cs.born _ _ _ _ _,H_3.out.step.keeps.size,HLT.out,HW.out⟩;obtain⟨GG,hGG⟩:∃GG,w3.heap.size=GG:=⟨_,rfl⟩;rw[hGG] at HS0⊢;clear hGG H_3;skip
      go_loopw [37] (fun c wr=>∃(i a:Nat) (f:Nat→Int),i≤few∧c=.int .i64 i∧Hid (SGo w0 w wr R B s a v out most GG f)∧Hid (Inf.smalls s.data.toList (few-i) i a f=rs)∧Hid (∀j,0≤f j∧f j≤7)) (fun c _=>few-(intOf c).toNat)
      case atStart=>exact⟨0,a3,_,by omega,rfl,HS0,HRS,Hd (fun _=>⟨by omega,by omega⟩)⟩
      case round=>
       clear HS0 HRS;obtain⟨i,a,f,hi,rfl,H_0,HRS,HBD⟩:=hrel;by_cases hlt:i<few
       ·obtain⟨pz,hto⟩:∃pz,Inf.orderL.getD i 0=pz:=⟨_,rfl⟩;have hto19:pz<19:=by rw[← hto];exact Inf.orderL_lt i (by omega)
        have hoc:=ext_cell H_0.out.old (HTb.out.order i (by omega));rw[hto] at hoc;have HRS2:=HRS.out;rw[show few-i=(few-(i+1))+1 by omega] at HRS2;have HRS3:=Hd HRS2;clear HRS2;have HTO:=Hd hto;clear hto;have wi:∀z,z=(i:Int)+1→IntKind.i64.wrap z=z:=by rintro _ rfl;rw[IntKind.wrap_i64];omega
        go_wp2_with fail;clear hoc;cases hg:Inf.get s.data.toList 3 a with
        | error c=>
         refine (gget_no R B a 3 c most s v v out w0 w _ E HE.out H_0.out.go (by omega) hg).mono ?_;rintro e w9 ⟨rfl,h9⟩;exact⟨rfl,dpost_error (Inf.mid_err HR.out (Inf.smalls_err HRS3.out hg)) h9⟩
        | ok p=>
         obtain⟨y,a'⟩:=p;have HRS4:=Hd (Inf.smalls_go HRS3.out hg);refine (gget_yes R B a 3 y a' most s v v out w0 w _ E HE.out H_0.out.go (by omega) hg).mono ?_;rintro e w1 ⟨rfl,hG,hS⟩;have H_1:=Hd (H_0.out.rd hG hS);clear H_0 hG hS;have hy8:y<8:=(Inf.get_ok hg).2.2.1;have q1:=(H_1.out.cs pz hto19).1;have q2:=(H_1.out.cs pz hto19).2;have hS:=Hd (H_1.out.put pz (y:Int) hto19);have HBD2:Hid (∀j,0≤Inf.upd f pz (y:Int) j∧Inf.upd f pz (y:Int) j≤7):=Hd (fun j=>by have:=HBD.out j;unfold Inf.upd;split <;> omega);rw[HTO.out] at HRS4;have hto0:(0:Int)≤(pz:Int):=by omega
         have hto1:(pz:Int)<19:=by omega
         have hton:((pz:Nat):Int).toNat=pz:=by omega
         clear hg;go_wp2_with fail;go_roundw
         case rel=>exact⟨i+1,a',_,by omega,by go_num,hS,HRS4,HBD2⟩
         case measure=>simp[intOf];omega
       ·obtain rfl:i=few:=by omega
        have HRS2:rs=.ok (f,a):=by rw[← HRS.out,Nat.sub_self];rfl
        have HRF:=Hd HRS2;clear HRS2 HRS;go_wp2_with fail;by_cases hgood:Inf.good f 19
        ·have HR2:=Hd (Inf.mid_go HR.out HRF.out hgood);refine (gtree_yes R B a most 19 19 _ f s v v out w0 w _ E HE.out H_0.out.go (H_0.out.ints HBD.out) hgood).mono ?_;rintro e w5 ⟨T,rfl,hTr,hX⟩;have HT5:=Hd hTr;have HL0:Hid (LGo w0 w w5 w5 R B s a v out most (.slice none 0 0) []):=Hd (by
          have hg5:=H_0.out.go.ext hX;exact⟨hg5,IStep.refl _ _ _ _,World.ownsRow_nil _ _ _ _,hg5.lts,⟨HW.out,hg5.step.keeps.size⟩,fun x hx=>by cases hx⟩)
         obtain⟨rl,hrl⟩:∃rl,Inf.lens s.data.toList f (mm+ff) (mm+ff+1) a []=rl:=⟨_,rfl⟩;rw[hrl] at HR2;have HRL:=Hd hrl;clear hTr hX hgood H_0 HBD HRF HR hrl;obtain⟨W,hW⟩:∃W,mm+ff=W:=⟨_,rfl⟩;rw[hW] at HRL;have hWI:(mm:Int)+(ff:Int)=(W:Int):=by omega
         have wW:∀z,z=(W:Int)→IntKind.i64.wrap z=z:=by rintro _ rfl;rw[IntKind.wrap_i64];omega
         have hWb:W≤316:=by omega
         go_wp2_with fail;go_loopg [11] W (fun k vl wr=>∃(a:Nat) (l:List Nat) (FF:Nat),Hid (LGo w0 w w5 wr R B s a v out most vl l)∧Hid (Inf.lens s.data.toList f W FF a l=rl)∧Hid (W-l.length<FF∧k=W-l.length∧l.length≤W))
         case atStart=>exact⟨a,[],W+1,HL0,HRL,Hd ⟨by simp,rfl,Nat.zero_le _⟩⟩
         case round=>
          clear HL0 HRL;obtain⟨a,l,FF,H_0,HRL,HK⟩:=hrel;have HF0:Hid (0<FF):=Hd (by have:=HK.out;omega);obtain⟨n,hn⟩:∃n,l.length=n:=⟨_,rfl⟩;have hro:=H_0.out.row;rw[hn] at hro;obtain⟨xo,co,rfl⟩:=lit_row hro;have HN:=Hd hn;have hnb:n≤W:=by rw[← hn];exact HK.out.2.2
          clear hro hn;by_cases hle:W≤n
          ·obtain rfl:n=W:=by omega
           have t1:decide ((n:Int)<(n:Int))=false:=decide_eq_false (by omega);have HQ:=Hd (Inf.lens_done HF0.out HRL.out (by rw[HN.out];exact Nat.le_refl _));go_wp2_with fail;clear t1;obtain⟨gb,cp,e1,hcap,_⟩:=ownsRow_some (by have h:=H_0.out.row;rw[HN.out] at h;exact h) (by omega);injection e1 with e1 _ e2;subst e1 e2;have HT1:=Hd (H_0.out.take HN.out mm (by omega));have HT2:=Hd (fun (wq:World) (h:LGo w0 w w5 wq R B s a v out most (.slice (some ⟨gb,0,none⟩) n co) l)=>h.drop HN.out mm ff (by omega));have hcI:(mm:Int)≤(n:Int):=by omega
           have hcI2:(mm:Int)≤(co:Int):=by omega
           have hm0:(0:Int)≤(mm:Int):=by omega
           have hmt:((mm:Nat):Int).toNat=mm:=by omega
           have hnf:n-mm=ff:=by omega
           have hne:¬ co=mm:=by omega
           by_cases hg1:Inf.good (Inf.fn (l.take mm)) mm
           ·have HG1:=Hd hg1;by_cases hg2:Inf.good (Inf.fn (l.drop mm)) ff
            ·have HG2:=Hd hg2;clear hg1 hg2;refine wp_region_held_drew (S:=fun w'=>True) (by kernel_rfl) trivial (fun hHeld=>?_);clear hHeld;refine anyH_world (fun wz=>Ext wr wz) (show Ext wr wr.drew from Below.drew (Ext.refl wr)) ?_;rintro w1 h;have H_1:=Hd (H_0.out.ext h);clear h H_0;have hHeld:True:=trivial;refine tkH 0 rfl hHeld ?_;(try simp only[Act.put,xz]);refine tkH 1 rfl hHeld ?_;(try simp only[Act.put,xz]);refine tkH 2 rfl hHeld ?_;(try simp only[Act.put,xz]);refine tkH 3 rfl hHeld ?_;(try simp only[Act.put,xz]);refine tkH 5 rfl hHeld ?_;(try simp only[Act.put,xz]);refine tkH 6 rfl hHeld ?_;(try simp only[Act.put,xz]);refine tkH 7 rfl hHeld ?_;(try simp only[Act.put,xz]);refine tkH 8 rfl hHeld ?_;(try simp only[Act.put,xz]);refine rdH 4 rfl fun KK hK=>?_;clear hHeld;go_simp;refine (gtree_yes R B a most mm co _ _ s v v out w0 w _ E HE.out H_1.out.go (H_1.out.take HN.out mm (by omega)) HG1.out).mono ?_;rintro e w2 ⟨T1,rfl,hT1,hX⟩;have HTA:=Hd hT1;clear hT1;have H_2:=Hd (H_1.out.ext hX);clear hX H_1;go_simp;refine hK.out _ _ trivial (fun hHeld=>?_);clear hK KK;(try simp only[Act.put,xz]);refine rdH 9 rfl fun KK hK=>?_;clear hHeld;go_simp;refine (gtree_yes R B a most ff (co-mm) _ _ s v v out w0 w _ E HE.out H_2.out.go (HT2.out _ H_2.out) HG2.out).mono ?_;rintro e w3 ⟨T2,rfl,hT2,hX⟩;have HTB:=Hd hT2;have HTA2:=Hd (HTA.out.step (IStep.ext hX));clear hT2 HTA;have H_3:=Hd (H_2.out.ext hX);clear hX H_2;go_simp;refine hK.out _ _ trivial (fun hHeld=>?_)
             clear hK KK;(try simp only[Act.put,xz]);refine tkH 10 rfl hHeld ?_;(try simp only[Act.put,xz]);refine tkH 11 rfl hHeld ?_;(try simp only[Act.put,xz]);refine wpAnyH_done (by kernel_rfl) ?_ _;clear hHeld;have e0:=(err_cells HE.out H_3.out.old).1;have HC:=Hd (H_3.out.cell HN.out 256 (by omega));have hc:=HC.out;obtain⟨z,hz⟩:∃z,l.getD 256 0=z:=⟨_,rfl⟩;rw[hz] at hc;have HZ:=Hd hz;have h256:(256:Int)<(n:Int):=by omega
             have n256:256<n:=by omega
             clear hz;go_wp2_with fail;by_cases hz0:z=0
             ·have t1:decide ((0:Int)<(z:Int))=false:=decide_eq_false (by omega);have n1:¬ 0<z:=by omega
              have HQ2:=Hd (Inf.fin_bad3 HR2.out HQ.out HG1.out HG2.out (HZ.out.trans hz0));refine wp_region_still_tail 6 (by kernel_rfl) (by kernel_rfl) ?_;simp only[List.take_succ_cons,List.take_zero,List.drop_succ_cons,List.drop_zero];repeat still_step
              refine wpStill_nil ?_;change wpList _ _ _ _ _ w3.drew;go_wp2_with fail;refine (must_no _ (E 0) _).mono ?_;rintro e _ ⟨rfl,rfl⟩;exact⟨rfl,dpost_error HQ2.out (H_3.out.ext (Below.drew (Ext.refl _))).old⟩
             ·have t1:decide ((0:Int)<(z:Int))=true:=decide_eq_true (by omega);have n1:0<z:=by omega
              have HQ2:=Hd (Inf.fin_ok HR2.out HQ.out HG1.out HG2.out (by rw[HZ.out];exact hz0));refine wp_region_still_tail 6 (by kernel_rfl) (by kernel_rfl) ?_;simp only[List.take_succ_cons,List.take_zero,List.drop_succ_cons,List.drop_zero];repeat still_step
              refine wpStill_nil ?_;change wpList _ _ _ _ _ w3.drew;go_wp2_with fail;refine (must_yes _ _ _).mono ?_;rintro e _ ⟨rfl,rfl⟩;have HF:=Hd (H_3.out.ext (show Ext w3 w3.drew from Below.drew (Ext.refl _)));have HTC:=Hd (HTA2.out.step (IStep.ext (show Ext w3 w3.drew from Below.drew (Ext.refl _))));have HTD:=Hd (HTB.out.step (IStep.ext (show Ext w3 w3.drew from Below.drew (Ext.refl _))));go_wp2_with fail;go_ret2;have e1:(l.take mm).length=mm:=by rw[List.length_take,HN.out];omega
              have e2:(l.drop mm).length=ff:=by rw[List.length_drop,HN.out];omega
              exact dpost_ok HQ2.out HF.out.go (by rw[e1];exact HTC.out) (by rw[e2];exact HTD.out)
            ·have HQ2:=Hd (Inf.fin_bad2 HR2.out HQ.out hg1 hg2);have HG2:=Hd hg2;clear hg1 hg2;refine wp_region_held_drew (S:=fun w'=>True) (by kernel_rfl) trivial (fun hHeld=>?_);clear hHeld;refine anyH_world (fun wz=>Ext wr wz) (show Ext wr wr.drew from Below.drew (Ext.refl wr)) ?_;rintro w1 h;have H_1:=Hd (H_0.out.ext h);clear h H_0;have hHeld:True:=trivial;refine tkH 0 rfl hHeld ?_;(try simp only[Act.put,xz]);refine tkH 1 rfl hHeld ?_;(try simp only[Act.put,xz]);refine tkH 2 rfl hHeld ?_;(try simp only[Act.put,xz]);refine tkH 3 rfl hHeld ?_;(try simp only[Act.put,xz]);refine tkH 5 rfl hHeld ?_;(try simp only[Act.put,xz]);refine tkH 6 rfl hHeld ?_;(try simp only[Act.put,xz]);refine tkH 7 rfl hHeld ?_;(try simp only[Act.put,xz]);refine tkH 8 rfl hHeld ?_;(try simp only[Act.put,xz]);refine rdH 4 rfl fun KK hK=>?_;clear hHeld;go_simp;refine (gtree_yes R B a most mm co _ _ s v v out w0 w _ E HE.out H_1.out.go (H_1.out.take HN.out mm (by omega)) HG1.out).mono ?_;rintro e w2 ⟨T1,rfl,hT1,hX⟩;clear hT1;have H_2:=Hd (H_1.out.ext hX);clear hX H_1;go_simp;refine hK.out _ _ trivial (fun hHeld=>?_);clear hK KK;(try simp only[Act.put,xz]);refine rdH 9 rfl fun KK hK=>?_;clear hHeld;go_simp;refine (gtree_no R B a most ff (co-mm) _ _ s v v out w0 w _ E HE.out H_2.out.go (HT2.out _ H_2.out) (by unfold maxLen;omega) HG2.out).mono ?_;rintro e w9 ⟨rfl,h9⟩;exact⟨rfl,dpost_error HQ2.out h9⟩
           ·have HQ2:=Hd (Inf.fin_bad1 HR2.out HQ.out hg1);have HG1:=Hd hg1;clear hg1;refine wp_region_held_drew (S:=fun w'=>True) (by kernel_rfl) trivial (fun hHeld=>?_);clear hHeld;refine anyH_world (fun wz=>Ext wr wz) (show Ext wr wr.drew from Below.drew (Ext.refl wr)) ?_;rintro w1 h;have H_1:=Hd (H_0.out.ext h);clear h H_0;have hHeld:True:=trivial;refine tkH 0 rfl hHeld ?_;(try simp only[Act.put,xz]);refine tkH 1 rfl hHeld ?_;(try simp only[Act.put,xz]);refine tkH 2 rfl hHeld ?_;(try simp only[Act.put,xz]);refine tkH 3 rfl hHeld ?_;(try simp only[Act.put,xz]);refine tkH 5 rfl hHeld ?_;(try simp only[Act.put,xz]);refine tkH 6 rfl hHeld ?_;(try simp only[Act.put,xz]);refine tkH 7 rfl hHeld ?_;(try simp only[Act.put,xz]);refine tkH 8 rfl hHeld ?_;(try simp only[Act.put,xz]);refine rdH 4 rfl fun KK hK=>?_;clear hHeld;go_simp;refine (gtree_no R B a most mm co _ _ s v v out w0 w _ E HE.out H_1.out.go (H_1.out.take HN.out mm (by omega)) (by unfold maxLen;omega) HG1.out).mono ?_;rintro e w9 ⟨rfl,h9⟩;exact⟨rfl,dpost_error HQ2.out h9⟩
          ·have hlt:n<W:=by omega
           have t1:decide ((n:Int)<(W:Int))=true:=decide_eq_true (by omega);have HNW:Hid (¬ W≤l.length):=Hd (by rw[HN.out];exact hle);clear hle;go_wp2_with fail;clear t1;cases hx:Inf.nxt s.data.toList f 19 a with
           | error c=>
            refine (gnext_no R B T a c most 19 f s v v out w0 w _ E HE.out H_0.out.go (HT5.out.step H_0.out.st) hx).mono ?_;rintro e w9 ⟨rfl,h9⟩;exact⟨rfl,dpost_error (Inf.fin_err HR2.out (Inf.lens_nx HF0.out HRL.out HNW.out hx)) h9⟩
           | ok p=>
            obtain⟨k,a1⟩:=p;have hal:=Inf.nxt_le hx;rw[list_size] at hal;obtain⟨hal1,hal2,hk19⟩:=hal;have HX:=Hd hx;refine (gnext_yes R B T a k a1 most 19 f s v v out w0 w _ E HE.out H_0.out.go (HT5.out.step H_0.out.st) hx).mono ?_;clear hx;rintro e w1 ⟨rfl,hG,hS⟩;have H_1:=Hd (H_0.out.rd hG hS);clear H_0 hG hS;by_cases hk16:k=16
            ·subst hk16;have e0:=(err_cells HE.out H_1.out.old).1;by_cases hn0:n=0
             ·have t2:decide ((0:Int)<(n:Int))=false:=decide_eq_false (by omega);have n2:¬ 0<n:=by omega
              have hl0:l=[]:=List.eq_nil_of_length_eq_zero (by rw[HN.out];exact hn0);have HQ:=Hd (Inf.fin_err HR2.out (Inf.lens_rep HF0.out HRL.out HNW.out HX.out (by rw[hl0];exact Inf.rep_nil)));clear hl0;go_wp2_with fail;refine (must_no _ (E 0) _).mono ?_;rintro e _ ⟨rfl,rfl⟩;exact⟨rfl,dpost_error HQ.out H_1.out.old⟩
             ·have t2:decide ((0:Int)<(n:Int))=true:=decide_eq_true (by omega);have n2:0<n:=by omega
              have HNE:Hid (l≠[]):=Hd (fun e=>by have:=HN.out;rw[e] at this;simp at this;omega);obtain⟨gb,cp,e1,_,_⟩:=ownsRow_some (by have h:=H_1.out.row;rw[HN.out] at h;exact h) n2;injection e1 with e1 _ e2;subst e1 e2;have HC:=Hd (H_1.out.cell HN.out (n-1) (by omega));obtain⟨la,hla⟩:∃la,l.getD (n-1) 0=la:=⟨_,rfl⟩;rw[hla] at HC;have HLA:Hid (l.getD (l.length-1) 0=la):=Hd (by rw[HN.out];exact hla);have hla18:la≤18:=by
               rw[← hla];have:=(fn_le H_1.out.bd (n-1)).2;unfold Inf.fn at this;omega
              clear hla;obtain⟨j,hj⟩:∃j,n-1=j:=⟨_,rfl⟩;rw[hj] at HC;have hjI:(n:Int)-1=(j:Int):=by omega
              have wj:∀z,z=(j:Int)→IntKind.i64.wrap z=z:=by rintro _ rfl;rw[IntKind.wrap_i64];omega
              have hj0:(0:Int)≤(j:Int):=by omega
              have hj1:(j:Int)<(n:Int):=by omega
              have hjn:j<n:=by omega
              have hjt:((j:Nat):Int).toNat=j:=by omega
              go_wp2_with fail;refine (must_yes _ _ _).mono ?_;rintro e _ ⟨rfl,rfl⟩;clear t2 e0 n2 hn0;go_wp2_with fail;cases hg:Inf.get s.data.toList 2 a1 with
              | error c=>
               have HQ:=Hd (Inf.fin_err HR2.out (Inf.lens_rep HF0.out HRL.out HNW.out HX.out (Inf.rep_16e HNE.out hg)));have HG:=Hd hg;clear hg;refine wp_region_held_drew (S:=fun w'=>w'.cell? ⟨gb,j,none⟩=some (.int .i64 (la:Int))) (by kernel_rfl) ((by have hcc:=(H_1.out).cell HN.out j hjn;have hla2:=HLA.out;rw[HN.out,show n-1=j by omega] at hla2;rw[hla2] at hcc;exact hcc)) (fun hHeld=>?_);clear hHeld;refine anyH_world (fun wz=>Ext w1 wz) (show Ext w1 w1.drew from Below.drew (Ext.refl w1)) ?_;rintro w2 h;have H_2:=Hd (H_1.out.ext h);clear h H_1;have hHeld:w2.cell? ⟨gb,j,none⟩=some (.int .i64 (la:Int)):=((by have hcc:=(H_2.out).cell HN.out j hjn;have hla2:=HLA.out;rw[HN.out,show n-1=j by omega] at hla2;rw[hla2] at hcc;exact hcc));refine tkH 0 rfl hHeld ?_;(try simp only[Act.put,xz]);refine tkH 3 rfl hHeld ?_;(try simp only[Act.put,xz]);refine tkH 4 rfl hHeld ?_;(try simp only[Act.put,xz]);refine tkH 5 rfl hHeld ?_;(try simp only[Act.put,xz]);refine tkH 6 rfl hHeld ?_;(try simp only[Act.put,xz]);refine tkH 7 rfl hHeld ?_;(try simp only[Act.put,xz]);refine tkH 8 rfl hHeld ?_;(try simp only[Act.put,xz]);refine rdH 1 rfl fun KK hK=>?_;clear hHeld;go_simp;refine (gget_no R B a1 2 c most s v v out w0 w _ E HE.out H_2.out.go (by omega) HG.out).mono ?_;rintro e w9 ⟨rfl,h9⟩;exact⟨rfl,dpost_error HQ.out h9⟩
              | ok p=>
               obtain⟨x,a2⟩:=p;obtain⟨z1,z2,z3,z4⟩:=Inf.get_ok hg;clear z4;rw[list_size] at z2;have HG:=Hd hg;have HRP:=Hd (Inf.rep_16 HNE.out hg);rw[HLA.out] at HRP;clear hg;obtain⟨t,ht⟩:∃t,3+x=t:=⟨_,rfl⟩;rw[ht] at HRP;have htI:(3:Int)+(x:Int)=(t:Int):=by omega
               have htb:1≤t∧t≤138:=by omega
               have wt:∀z,z=(t:Int)→IntKind.i64.wrap z=z:=by rintro _ rfl;rw[IntKind.wrap_i64];omega
               clear ht z1 z2 z3;refine wp_region_held_drew (S:=fun w'=>w'.cell? ⟨gb,j,none⟩=some (.int .i64 (la:Int))) (by kernel_rfl) ((by have hcc:=(H_1.out).cell HN.out j hjn;have hla2:=HLA.out;rw[HN.out,show n-1=j by omega] at hla2;rw[hla2] at hcc;exact hcc)) (fun hHeld=>?_);clear hHeld;refine anyH_world (fun wz=>Ext w1 wz) (show Ext w1 w1.drew from Below.drew (Ext.refl w1)) ?_;rintro w2 h;have H_2:=Hd (H_1.out.ext h);clear h H_1;have hHeld:w2.cell? ⟨gb,j,none⟩=some (.int .i64 (la:Int)):=((by have hcc:=(H_2.out).cell HN.out j hjn;have hla2:=HLA.out;rw[HN.out,show n-1=j by omega] at hla2;rw[hla2] at hcc;exact hcc));refine tkH 0 rfl hHeld ?_;(try simp only[Act.put,xz]);refine tkH 3 rfl hHeld ?_;(try simp only[Act.put,xz]);refine tkH 4 rfl hHeld ?_;(try simp only[Act.put,xz]);refine tkH 5 rfl hHeld ?_;(try simp only[Act.put,xz]);refine tkH 6 rfl hHeld ?_;(try simp only[Act.put,xz]);refine tkH 7 rfl hHeld ?_;(try simp only[Act.put,xz]);refine tkH 8 rfl hHeld ?_;(try simp only[Act.put,xz]);refine rdH 1 rfl fun KK hK=>?_;clear hHeld;go_simp;refine (gget_yes R B a1 2 x a2 most s v v out w0 w _ E HE.out H_2.out.go (by omega) HG.out).mono ?_;rintro e w3 ⟨rfl,hG,hS⟩;have H_3:=Hd (H_2.out.rd hG hS);clear H_2 hG hS;go_simp;refine hK.out _ _ ((by have hcc:=(H_3.out).cell HN.out j hjn;have hla2:=HLA.out;rw[HN.out,show n-1=j by omega] at hla2;rw[hla2] at hcc;exact hcc)) (fun hHeld=>?_);clear hK KK;try simp only[Act.put,xz]
               refine tkH 2 rfl hHeld ?_;(try simp only[Act.put,xz]);refine tkH 9 rfl hHeld ?_;(try simp only[Act.put,xz]);refine tkH 10 rfl hHeld ?_;(try simp only[Act.put,xz]);refine wpAnyH_done (by kernel_rfl) ?_ _;clear hHeld;clear htI;have e0:=(err_cells HE.out H_3.out.old).1;obtain⟨m,hm⟩:∃m,n+t=m:=⟨_,rfl⟩;have hmI:(n:Int)+(t:Int)=(m:Int):=by omega
               have wmm:∀z,z=(m:Int)→IntKind.i64.wrap z=z:=by rintro _ rfl;rw[IntKind.wrap_i64];omega
               by_cases hov:W<m
               ·have t9:decide ((m:Int)≤(W:Int))=false:=decide_eq_false (by omega);have n9:¬ m≤W:=by omega
                have HQ:=Hd (Inf.fin_err HR2.out (Inf.lens_over HF0.out HRL.out HNW.out HX.out HRP.out (by rw[HN.out];omega)));go_wp2_with fail;refine (must_no _ (E 0) _).mono ?_;rintro e _ ⟨rfl,rfl⟩;exact⟨rfl,dpost_error HQ.out H_3.out.old⟩
               ·have t9:decide ((m:Int)≤(W:Int))=true:=decide_eq_true (by omega);have n9:m≤W:=by omega
                have HQ:=Hd (Inf.lens_go HF0.out HRL.out HNW.out HX.out HRP.out (by rw[HN.out];omega));go_wp2_with fail;refine (must_yes _ _ _).mono ?_;rintro e _ ⟨rfl,rfl⟩;clear t9 e0 hov hmI;skip
                go_wp2_with fail;refine (repi_any w3.heap.size t (la:Int) _ (by simp) (by omega) (by omega)).mono ?_;rintro e w4 ⟨⟨g',c',rfl,hCv,hg1,hg2⟩,hX⟩;have hX2:=Ext.trans ((Ext.refl w3).alloc _) hX;have HCv:=Hd hCv;clear hCv hX hg1 hg2;have H_4:=Hd (H_3.out.ext hX2);clear hX2 H_3;have HO:Hid (w4.ownsRow w5.heap.size 3 1 (.slice (some ⟨gb,0,none⟩) n co) n (intsV n (Inf.fn l))):=Hd (by have h:=H_4.out.row;rw[HN.out] at h;exact h);have hzz:w5.heap.size≤w4.heap.size:=H_4.out.st.keeps.size;go_wp2_with (at_builtin;refine wpList_append_own_at _ rfl _ _ 88 rfl w5.heap.size 3 i0 (.int .i64 0) 1 8 Tryz.underlying88 hi0 hz0 hz1 hz2 rfl (by decide) _ _ _ rfl HO.out ⟨g',0,none⟩ t c' (List.replicate t (.int .i64 (la:Int))) rfl ?c1 ?c2 ?c6 ?c3 ?c4 hzz ?_)
                case c1=>simp
                case c2=>
                 intro j u hj;have hj1:=(List.getElem?_eq_some_iff.1 hj).1;rw[List.length_replicate] at hj1;rw[List.getElem?_replicate,if_pos hj1] at hj;injection hj with hj;subst hj;rw[add_plain];exact (HCv.out j hj1).1
                case c6=>intro u hu;rw[List.eq_of_mem_replicate hu];rfl
                case c3=>unfold maxLen;omega
                case c4=>omega
                intro v' w8 hown hgrow _ _;have HG8:=Hd (H_4.out.grow (t:=t) HN.out hgrow (by rw[hm];exact hown) hla18);clear hown hgrow;go_wp2_with fail;obtain⟨F2,hF2,HR3⟩:=HQ.out;have HR4:=Hd HR3;have hll:(l++List.replicate t la).length=m:=by rw[List.length_append,List.length_replicate,HN.out,hm]
                have HK2:Hid (W-(l++List.replicate t la).length<F2∧W-m=W-(l++List.replicate t la).length∧(l++List.replicate t la).length≤W):=Hd (by rw[hll];have:=HK.out;rw[HN.out] at this;omega);clear hll HR3;go_roundg (W-m)
                case measure=>have:=HK.out;rw[HN.out] at this;omega
                case rel=>exact⟨a2,_,F2,HG8,HR4,HK2⟩
            ·have t2:((k:Int) ==16)=false:=beq_eq_false_iff_ne.2 (by omega);by_cases hk17:k=17
             ·subst hk17;go_wp2_with fail;cases hg:Inf.get s.data.toList 3 a1 with
              | error c=>
               refine (gget_no R B a1 3 c most s v v out w0 w _ E HE.out H_1.out.go (by omega) hg).mono ?_;rintro e w9 ⟨rfl,h9⟩;exact⟨rfl,dpost_error (Inf.fin_err HR2.out (Inf.lens_rep HF0.out HRL.out HNW.out HX.out (Inf.rep_17e hg))) h9⟩
              | ok p=>
               obtain⟨x,a2⟩:=p;obtain⟨z1,z2,z3,z4⟩:=Inf.get_ok hg;clear z4;rw[list_size] at z2;have HRP:=Hd (Inf.rep_17 (l:=l) hg);refine (gget_yes R B a1 3 x a2 most s v v out w0 w _ E HE.out H_1.out.go (by omega) hg).mono ?_;rintro e w2 ⟨rfl,hG,hS⟩;have H_2:=Hd (H_1.out.rd hG hS);clear H_1 hG hS;clear hg;obtain⟨t,ht⟩:∃t,3+x=t:=⟨_,rfl⟩;rw[ht] at HRP;have htI:(3:Int)+(x:Int)=(t:Int):=by omega
               have htb:1≤t∧t≤138:=by omega
               have wt:∀z,z=(t:Int)→IntKind.i64.wrap z=z:=by rintro _ rfl;rw[IntKind.wrap_i64];omega
               clear ht z1 z2 z3;have hw18:(0:Nat)≤18:=by omega
               have e0:=(err_cells HE.out H_2.out.old).1;obtain⟨m,hm⟩:∃m,n+t=m:=⟨_,rfl⟩;have hmI:(n:Int)+(t:Int)=(m:Int):=by omega
               have wmm:∀z,z=(m:Int)→IntKind.i64.wrap z=z:=by rintro _ rfl;rw[IntKind.wrap_i64];omega
               by_cases hov:W<m
               ·have t9:decide ((m:Int)≤(W:Int))=false:=decide_eq_false (by omega);have n9:¬ m≤W:=by omega
                have HQ:=Hd (Inf.fin_err HR2.out (Inf.lens_over HF0.out HRL.out HNW.out HX.out HRP.out (by rw[HN.out];omega)));go_wp2_with fail;refine (must_no _ (E 0) _).mono ?_;rintro e _ ⟨rfl,rfl⟩;exact⟨rfl,dpost_error HQ.out H_2.out.old⟩
               ·have t9:decide ((m:Int)≤(W:Int))=true:=decide_eq_true (by omega);have n9:m≤W:=by omega
                have HQ:=Hd (Inf.lens_go HF0.out HRL.out HNW.out HX.out HRP.out (by rw[HN.out];omega));go_wp2_with fail;refine (must_yes _ _ _).mono ?_;rintro e _ ⟨rfl,rfl⟩;clear t9 e0 hov hmI;skip
                go_wp2_with fail;refine (repi_any w2.heap.size t (0:Int) _ (by simp) (by omega) (by omega)).mono ?_;rintro e w3 ⟨⟨g',c',rfl,hCv,hg1,hg2⟩,hX⟩;have hX2:=Ext.trans ((Ext.refl w2).alloc _) hX;have HCv:=Hd hCv;clear hCv hX hg1 hg2;have H_3:=Hd (H_2.out.ext hX2);clear hX2 H_2;have HO:Hid (w3.ownsRow w5.heap.size 3 1 (.slice xo n co) n (intsV n (Inf.fn l))):=Hd (by have h:=H_3.out.row;rw[HN.out] at h;exact h);have hzz:w5.heap.size≤w3.heap.size:=H_3.out.st.keeps.size;go_wp2_with (at_builtin;refine wpList_append_own_at _ rfl _ _ 88 rfl w5.heap.size 3 i0 (.int .i64 0) 1 8 Tryz.underlying88 hi0 hz0 hz1 hz2 rfl (by decide) _ _ _ rfl HO.out ⟨g',0,none⟩ t c' (List.replicate t (.int .i64 (0:Int))) rfl ?c1 ?c2 ?c6 ?c3 ?c4 hzz ?_)
                case c1=>simp
                case c2=>
                 intro j u hj;have hj1:=(List.getElem?_eq_some_iff.1 hj).1;rw[List.length_replicate] at hj1;rw[List.getElem?_replicate,if_pos hj1] at hj;injection hj with hj;subst hj;rw[add_plain];exact (HCv.out j hj1).1
                case c6=>intro u hu;rw[List.eq_of_mem_replicate hu];rfl
                case c3=>unfold maxLen;omega
                case c4=>omega
                intro v' w8 hown hgrow _ _;have HG8:=Hd (H_3.out.grow (t:=t) HN.out hgrow (by rw[hm];exact hown) hw18);clear hown hgrow;go_wp2_with fail;obtain⟨F2,hF2,HR3⟩:=HQ.out;have HR4:=Hd HR3;have hll:(l++List.replicate t 0).length=m:=by rw[List.length_append,List.length_replicate,HN.out,hm]
                have HK2:Hid (W-(l++List.replicate t 0).length<F2∧W-m=W-(l++List.replicate t 0).length∧(l++List.replicate t 0).length≤W):=Hd (by rw[hll];have:=HK.out;rw[HN.out] at this;omega);clear hll HR3;go_roundg (W-m)
                case measure=>have:=HK.out;rw[HN.out] at this;omega
                case rel=>exact⟨a2,_,F2,HG8,HR4,HK2⟩
             ·have t3:((k:Int) ==17)=false:=beq_eq_false_iff_ne.2 (by omega);by_cases hk18:k=18
              ·subst hk18;go_wp2_with fail;cases hg:Inf.get s.data.toList 7 a1 with
               | error c=>
                refine (gget_no R B a1 7 c most s v v out w0 w _ E HE.out H_1.out.go (by omega) hg).mono ?_;rintro e w9 ⟨rfl,h9⟩;exact⟨rfl,dpost_error (Inf.fin_err HR2.out (Inf.lens_rep HF0.out HRL.out HNW.out HX.out (Inf.rep_18e hg))) h9⟩
               | ok p=>
                obtain⟨x,a2⟩:=p;obtain⟨z1,z2,z3,z4⟩:=Inf.get_ok hg;clear z4;rw[list_size] at z2;have HRP:=Hd (Inf.rep_18 (l:=l) hg);refine (gget_yes R B a1 7 x a2 most s v v out w0 w _ E HE.out H_1.out.go (by omega) hg).mono ?_;rintro e w2 ⟨rfl,hG,hS⟩;have H_2:=Hd (H_1.out.rd hG hS);clear H_1 hG hS;clear hg;obtain⟨t,ht⟩:∃t,11+x=t:=⟨_,rfl⟩;rw[ht] at HRP;have htI:(11:Int)+(x:Int)=(t:Int):=by omega
                have htb:1≤t∧t≤138:=by omega
                have wt:∀z,z=(t:Int)→IntKind.i64.wrap z=z:=by rintro _ rfl;rw[IntKind.wrap_i64];omega
                clear ht z1 z2 z3;have hw18:(0:Nat)≤18:=by omega
                have e0:=(err_cells HE.out H_2.out.old).1;obtain⟨m,hm⟩:∃m,n+t=m:=⟨_,rfl⟩;have hmI:(n:Int)+(t:Int)=(m:Int):=by omega
                have wmm:∀z,z=(m:Int)→IntKind.i64.wrap z=z:=by rintro _ rfl;rw[IntKind.wrap_i64];omega
                by_cases hov:W<m
                ·have t9:decide ((m:Int)≤(W:Int))=false:=decide_eq_false (by omega);have n9:¬ m≤W:=by omega
                 have HQ:=Hd (Inf.fin_err HR2.out (Inf.lens_over HF0.out HRL.out HNW.out HX.out HRP.out (by rw[HN.out];omega)));go_wp2_with fail;refine (must_no _ (E 0) _).mono ?_;rintro e _ ⟨rfl,rfl⟩;exact⟨rfl,dpost_error HQ.out H_2.out.old⟩
                ·have t9:decide ((m:Int)≤(W:Int))=true:=decide_eq_true (by omega);have n9:m≤W:=by omega
                 have HQ:=Hd (Inf.lens_go HF0.out HRL.out HNW.out HX.out HRP.out (by rw[HN.out];omega));go_wp2_with fail;refine (must_yes _ _ _).mono ?_;rintro e _ ⟨rfl,rfl⟩;clear t9 e0 hov hmI;skip
                 go_wp2_with fail;refine (repi_any w2.heap.size t (0:Int) _ (by simp) (by omega) (by omega)).mono ?_;rintro e w3 ⟨⟨g',c',rfl,hCv,hg1,hg2⟩,hX⟩;have hX2:=Ext.trans ((Ext.refl w2).alloc _) hX;have HCv:=Hd hCv;clear hCv hX hg1 hg2;have H_3:=Hd (H_2.out.ext hX2);clear hX2 H_2;have HO:Hid (w3.ownsRow w5.heap.size 3 1 (.slice xo n co) n (intsV n (Inf.fn l))):=Hd (by have h:=H_3.out.row;rw[HN.out] at h;exact h);have hzz:w5.heap.size≤w3.heap.size:=H_3.out.st.keeps.size;go_wp2_with (at_builtin;refine wpList_append_own_at _ rfl _ _ 88 rfl w5.heap.size 3 i0 (.int .i64 0) 1 8 Tryz.underlying88 hi0 hz0 hz1 hz2 rfl (by decide) _ _ _ rfl HO.out ⟨g',0,none⟩ t c' (List.replicate t (.int .i64 (0:Int))) rfl ?c1 ?c2 ?c6 ?c3 ?c4 hzz ?_)
                 case c1=>simp
                 case c2=>
                  intro j u hj;have hj1:=(List.getElem?_eq_some_iff.1 hj).1;rw[List.length_replicate] at hj1;rw[List.getElem?_replicate,if_pos hj1] at hj;injection hj with hj;subst hj;rw[add_plain];exact (HCv.out j hj1).1
                 case c6=>intro u hu;rw[List.eq_of_mem_replicate hu];rfl
                 case c3=>unfold maxLen;omega
                 case c4=>omega
                 intro v' w8 hown hgrow _ _;have HG8:=Hd (H_3.out.grow (t:=t) HN.out hgrow (by rw[hm];exact hown) hw18);clear hown hgrow;go_wp2_with fail;obtain⟨F2,hF2,HR3⟩:=HQ.out;have HR4:=Hd HR3;have hll:(l++List.replicate t 0).length=m:=by rw[List.length_append,List.length_replicate,HN.out,hm]
                 have HK2:Hid (W-(l++List.replicate t 0).length<F2∧W-m=W-(l++List.replicate t 0).length∧(l++List.replicate t 0).length≤W):=Hd (by rw[hll];have:=HK.out;rw[HN.out] at this;omega);clear hll HR3;go_roundg (W-m)
                 case measure=>have:=HK.out;rw[HN.out] at this;omega
                 case rel=>exact⟨a2,_,F2,HG8,HR4,HK2⟩
              ·have t4:((k:Int) ==18)=false:=beq_eq_false_iff_ne.2 (by omega);have HRP:=Hd (Inf.rep_else (L:=s.data.toList) (a:=a1) (l:=l) hk16 hk17 hk18);have hw18:k≤18:=by omega
               skip
               have htb:1≤(1:Nat)∧(1:Nat)≤138:=by omega
               have e0:=(err_cells HE.out H_1.out.old).1;obtain⟨m,hm⟩:∃m,n+1=m:=⟨_,rfl⟩;have hmI:(n:Int)+1=(m:Int):=by omega
               have wmm:∀z,z=(m:Int)→IntKind.i64.wrap z=z:=by rintro _ rfl;rw[IntKind.wrap_i64];omega
               by_cases hov:W<m
               ·have t9:decide ((m:Int)≤(W:Int))=false:=decide_eq_false (by omega);have n9:¬ m≤W:=by omega
                have HQ:=Hd (Inf.fin_err HR2.out (Inf.lens_over HF0.out HRL.out HNW.out HX.out HRP.out (by rw[HN.out];omega)));go_wp2_with fail;refine (must_no _ (E 0) _).mono ?_;rintro e _ ⟨rfl,rfl⟩;exact⟨rfl,dpost_error HQ.out H_1.out.old⟩
               ·have t9:decide ((m:Int)≤(W:Int))=true:=decide_eq_true (by omega);have n9:m≤W:=by omega
                have HQ:=Hd (Inf.lens_go HF0.out HRL.out HNW.out HX.out HRP.out (by rw[HN.out];omega));go_wp2_with fail;refine (must_yes _ _ _).mono ?_;rintro e _ ⟨rfl,rfl⟩;clear t9 e0 hov hmI;skip
                go_wp2_with fail;refine (repi_any w1.heap.size 1 (k:Int) _ (by simp) (by omega) (by omega)).mono ?_;rintro e w2 ⟨⟨g',c',rfl,hCv,hg1,hg2⟩,hX⟩;have hX2:=Ext.trans ((Ext.refl w1).alloc _) hX;have HCv:=Hd hCv;clear hCv hX hg1 hg2;have H_2:=Hd (H_1.out.ext hX2);clear hX2 H_1;have HO:Hid (w2.ownsRow w5.heap.size 3 1 (.slice xo n co) n (intsV n (Inf.fn l))):=Hd (by have h:=H_2.out.row;rw[HN.out] at h;exact h);have hzz:w5.heap.size≤w2.heap.size:=H_2.out.st.keeps.size;go_wp2_with (at_builtin;refine wpList_append_own_at _ rfl _ _ 88 rfl w5.heap.size 3 i0 (.int .i64 0) 1 8 Tryz.underlying88 hi0 hz0 hz1 hz2 rfl (by decide) _ _ _ rfl HO.out ⟨g',0,none⟩ 1 c' (List.replicate 1 (.int .i64 (k:Int))) rfl ?c1 ?c2 ?c6 ?c3 ?c4 hzz ?_)
                case c1=>simp
                case c2=>
                 intro j u hj;have hj1:=(List.getElem?_eq_some_iff.1 hj).1;rw[List.length_replicate] at hj1;rw[List.getElem?_replicate,if_pos hj1] at hj;injection hj with hj;subst hj;rw[add_plain];exact (HCv.out j hj1).1
                case c6=>intro u hu;rw[List.eq_of_mem_replicate hu];rfl
                case c3=>unfold maxLen;omega
                case c4=>omega
                intro v' w8 hown hgrow _ _;have HG8:=Hd (H_2.out.grow (t:=1) HN.out hgrow (by rw[hm];exact hown) hw18);clear hown hgrow;go_wp2_with fail;obtain⟨F2,hF2,HR3⟩:=HQ.out;have HR4:=Hd HR3;have hll:(l++List.replicate 1 k).length=m:=by rw[List.length_append,List.length_replicate,HN.out,hm]
                have HK2:Hid (W-(l++List.replicate 1 k).length<F2∧W-m=W-(l++List.replicate 1 k).length∧(l++List.replicate 1 k).length≤W):=Hd (by rw[hll];have:=HK.out;rw[HN.out] at this;omega);clear hll HR3;go_roundg (W-m)
                case measure=>have:=HK.out;rw[HN.out] at this;omega
                case rel=>exact⟨a1,_,F2,HG8,HR4,HK2⟩
        ·refine (gtree_no R B a most 19 19 _ f s v v out w0 w _ E HE.out H_0.out.go (H_0.out.ints HBD.out) (by decide) hgood).mono ?_;rintro e w9 ⟨rfl,h9⟩;exact⟨rfl,dpost_error (Inf.mid_bad HR.out HRF.out hgood) h9⟩
set_option maxHeartbeats 4000000 in
theorem istored_any (R B a most:Nat) (s:ByteArray) (v:Value) (out:List UInt8) (w0 w:World) (E:Nat→Addr) (hE:Errs w0 E) (hI:ISt w0 w R B s a v out most) (hmost:most≤300000) (_hsz:s.size≤300000) (hout:out.length≤most):
  Calls Tryz.prog 158 #[.pointer (some ⟨R,0,none⟩)] w fun e w'=>IPost w0 w R B s most v E (Inf.stored s.data.toList most a out) e w':=by
 have HE:=Hd hE;have H_0:=Hd (IGo.start hI);have HA:=Hd (ralign_calls B 0 a s w hI.at_.rd hI.le);have hle:=hI.le;obtain⟨a1,ha1⟩:∃x,(a+7)/8*8=x:=⟨_,rfl⟩;obtain⟨r,hr⟩:∃r,Inf.stored s.data.toList most a out=r:=⟨_,rfl⟩;rw[hr];unfold Inf.stored at hr;rw[ha1] at hr HA;have h1:a1≤8*s.size:=by omega
 have h18:a1%8=0:=by omega
 have HR:=Hd hr;have k0:=H_0.out.bk.cell 0;clear hE hI hle ha1 hr;go_enter Tryz.func158,Tryz.ntmps158
 go_wp2_with fail;refine HA.out.mono ?_;rintro e w1 ⟨rfl,hR,hS⟩;have hG:=H_0.out.read hR hS h1;clear hR hS HA k0;have H_1:=Hd hG;clear H_0 hG;go_wp2_with fail;cases hg1:Inf.get s.data.toList 16 a1 with
 | error c=>
  have HR2:Hid (.error c=r):=Hd (by rw[← HR.out,hg1]);refine (gget_no R B a1 16 c most s v v out w0 w _ E HE.out H_1.out (by omega) hg1).mono ?_;rintro e w9 ⟨rfl,h9⟩;exact⟨rfl,ipost_error HR2.out h9⟩
 | ok p=>
  obtain⟨n,a2⟩:=p;have HR1:=HR.out;simp only[hg1] at HR1;have HR2:=Hd HR1;clear HR1 HR;refine (gget_yes R B a1 16 n a2 most s v v out w0 w _ E HE.out H_1.out (by omega) hg1).mono ?_;rintro e w2 ⟨rfl,hG,hS⟩;clear hS;have H_2:=Hd hG;clear H_1 hG;obtain⟨q1,q2,q3,q4⟩:=Inf.get_ok hg1;clear q4;rw[list_size] at q2;clear hg1;go_wp2_with fail;cases hg2:Inf.get s.data.toList 16 a2 with
  | error c=>
   have HR3:Hid (.error c=r):=Hd (by rw[← HR2.out,hg2]);have HG2:=Hd hg2;clear hg2;refine wp_region_held_drew (S:=fun w'=>w'.cell? ⟨1,0,none⟩=some (.iface 275 (.pointer (some (E 0))))) (by kernel_rfl) ((err_cells HE.out H_2.out.old).1) (fun hHeld=>?_);clear hHeld;refine anyH_world (fun wz=>Ext w2 wz) (show Ext w2 w2.drew from Below.drew (Ext.refl w2)) ?_;rintro w3 h;have H_3:=Hd (H_2.out.ext h);clear h H_2;have hHeld:w3.cell? ⟨1,0,none⟩=some (.iface 275 (.pointer (some (E 0)))):=((err_cells HE.out H_3.out.old).1);refine tkH 0 rfl hHeld ?_;(try simp only[Act.put,xz]);refine tkH 1 rfl hHeld ?_;(try simp only[Act.put,xz]);refine tkH 2 rfl hHeld ?_;(try simp only[Act.put,xz]);refine tkH 6 rfl hHeld ?_;(try simp only[Act.put,xz]);refine rdH 3 rfl fun KK hK=>?_;clear hHeld;go_simp;refine (gget_no R B a2 16 c most s v v out w0 w _ E HE.out H_3.out (by omega) HG2.out).mono ?_;rintro e w9 ⟨rfl,h9⟩;exact⟨rfl,ipost_error HR3.out h9⟩
  | ok p=>
   obtain⟨m,a3⟩:=p;obtain⟨p1,p2,p3,p4⟩:=Inf.get_ok hg2;clear p4;rw[list_size] at p2;have HR1:=HR2.out;simp only[hg2] at HR1;have HR3:=Hd HR1;have HG2:=Hd hg2;have HX:=Hd (xor_all n m q3 p3);clear HR1 HR2 hg2;by_cases hx:n+m=65535
   ·have hxx:=HX.out.2 hx;have t1:(bits BinOp.xor IntKind.i64 (n:Int) (m:Int) ==65535)=true:=beq_iff_eq.2 hxx;have HR1:=HR3.out;rw[if_neg (by omega)] at HR1;have HR4:=Hd HR1;clear HR1 HR3 HX hxx;refine wp_region_held_drew (S:=fun w'=>w'.cell? ⟨1,0,none⟩=some (.iface 275 (.pointer (some (E 0))))) (by kernel_rfl) ((err_cells HE.out H_2.out.old).1) (fun hHeld=>?_);clear hHeld;refine anyH_world (fun wz=>Ext w2 wz) (show Ext w2 w2.drew from Below.drew (Ext.refl w2)) ?_;rintro w3 h;have H_3:=Hd (H_2.out.ext h);clear h H_2;have hHeld:w3.cell? ⟨1,0,none⟩=some (.iface 275 (.pointer (some (E 0)))):=((err_cells HE.out H_3.out.old).1);refine tkH 0 rfl hHeld ?_;(try simp only[Act.put,xz]);refine tkH 1 rfl hHeld ?_;(try simp only[Act.put,xz]);refine tkH 2 rfl hHeld ?_;(try simp only[Act.put,xz]);refine tkH 6 rfl hHeld ?_;(try simp only[Act.put,xz]);refine rdH 3 rfl fun KK hK=>?_;clear hHeld;go_simp;refine (gget_yes R B a2 16 m a3 most s v v out w0 w _ E HE.out H_3.out (by omega) HG2.out).mono ?_;rintro e w4 ⟨rfl,hG,hS⟩;have H_4:=Hd hG;clear H_3 hG;clear hS;go_simp;refine hK.out _ _ ((err_cells HE.out H_4.out.old).1) (fun hHeld=>?_);clear hK KK;(try simp only[Act.put,xz]);refine tkH 4 rfl hHeld ?_;(try simp only[Act.put,xz]);refine tkH 5 rfl hHeld ?_;(try simp only[Act.put,xz]);refine rdH 7 rfl fun KK hK=>?_;clear hHeld;go_simp;refine (must_yes _ _ _).mono ?_
    rintro e w9 ⟨rfl,rfl⟩;go_simp;refine hK.out _ _ ((err_cells HE.out H_4.out.old).1) (fun hHeld=>?_);clear hK KK;(try simp only[Act.put,xz]);refine wpAnyH_done (by kernel_rfl) ?_ _;clear hHeld;have c0:=H_4.out.bk.cell 0;have c1:=H_4.out.bk.cell 1;have c2:=H_4.out.bk.cell 2;have ee:=err_cells HE.out H_4.out.old;have e0:=ee.1;have e1:=ee.2;clear ee;go_wp2_with fail;clear c0 c1 c2 e0 e1;have e3:(a3+7)/8*8=a3:=by omega
    by_cases hb:8*s.size<a3+8*n
    ·have HR1:=HR4.out;rw[list_size,if_pos hb] at HR1;have HR5:=Hd HR1;clear HR1 HR4;refine (rbytes_no B 0 a3 n s _ H_4.out.st.at_.rd H_4.out.st.le (by omega) (by omega)).mono ?_;rintro e w7 ⟨rfl,hR,hS⟩;have hG:=H_4.out.read hR hS (by omega);clear hR hS;have H_5:=Hd hG;clear H_4 hG;have c0:=H_5.out.bk.cell 0;have c1:=H_5.out.bk.cell 1;have c2:=H_5.out.bk.cell 2;have ee:=err_cells HE.out H_5.out.old;have e0:=ee.1;have e1:=ee.2;clear ee;go_wp2_with fail;refine (must_no _ (E 0) _).mono ?_;rintro e _ ⟨rfl,rfl⟩;exact⟨rfl,ipost_error HR5.out H_5.out.old⟩
    ·have HR1:=HR4.out;rw[list_size,if_neg hb] at HR1;have HR5:=Hd HR1;clear HR1 HR4;have HB:=Hd (rbytes_yes B 0 a3 n s _ H_4.out.st.at_.rd H_4.out.st.le (by omega));have e4:(a3+7)/8=a3/8:=by omega
     rw[e3,e4] at HB;clear e4;obtain⟨t,ht⟩:∃t,s.extract (a3/8) (a3/8+n)=t:=⟨_,rfl⟩;rw[ht] at HB;have hts:t.size=n:=by rw[← ht,ByteArray.size_extract];omega
     have htl:(s.data.toList.drop (a3/8)).take n=t.data.toList:=by rw[← ht,ex_list,show a3/8+n-a3/8=n by omega]
     have HR1:=HR5.out;rw[htl] at HR1;have HR6:=Hd HR1;clear HR1 HR5 ht htl;refine HB.out.mono ?_;rintro e w7 ⟨rfl,hR,hS⟩;have hG:=H_4.out.read hR hS (by omega);clear hR hS HB;have H_5:=Hd hG;clear H_4 hG;have c0:=H_5.out.bk.cell 0;have c1:=H_5.out.bk.cell 1;have c2:=H_5.out.bk.cell 2;have ee:=err_cells HE.out H_5.out.old;have e0:=ee.1;have e1:=ee.2;clear ee;go_wp2_with fail;refine (must_yes _ _ _).mono ?_;rintro e _ ⟨rfl,rfl⟩;obtain⟨L,hL⟩:∃L,out.length=L:=⟨_,rfl⟩;have HL:=Hd hL;have hro:=H_5.out.row;rw[hL] at hro hout;obtain⟨xo,co,rfl⟩:=lit_row hro;clear hL;go_wp2_with fail;by_cases hm:most<L+n
     ·have t2:decide ((L:Int)+(n:Int)≤(most:Int))=false:=decide_eq_false (by omega);have wl:∀z,z=(L:Int)+(n:Int)→IntKind.i64.wrap z=z:=by rintro _ rfl;rw[IntKind.wrap_i64];omega
      have HR1:=HR6.out;rw[HL.out,if_pos hm] at HR1;have HR7:=Hd HR1;clear HR1 HR6 hro;refine wp_region_still_tail 14 (by kernel_rfl) (by kernel_rfl) ?_;simp only[List.take_succ_cons,List.take_zero,List.drop_succ_cons,List.drop_zero];repeat still_step
      refine wpStill_nil ?_;change wpList _ _ _ _ _ w7.drew;go_wp2_with fail;refine (must_no _ (E 1) _).mono ?_;rintro e _ ⟨rfl,rfl⟩;exact⟨rfl,ipost_error HR7.out (H_5.out.ext (Below.drew (Ext.refl _))).old⟩
     ·have t2:decide ((L:Int)+(n:Int)≤(most:Int))=true:=decide_eq_true (by omega);have wl:∀z,z=(L:Int)+(n:Int)→IntKind.i64.wrap z=z:=by rintro _ rfl;rw[IntKind.wrap_i64];omega
      have HR1:=HR6.out;rw[HL.out,if_neg hm] at HR1;have HR7:=Hd HR1;clear HR1 HR6 hro;refine wp_region_still_tail 14 (by kernel_rfl) (by kernel_rfl) ?_;simp only[List.take_succ_cons,List.take_zero,List.drop_succ_cons,List.drop_zero];repeat still_step
      refine wpStill_nil ?_;change wpList _ _ _ _ _ w7.drew;go_wp2_with fail;refine (must_yes _ _ _).mono ?_;rintro e _ ⟨rfl,rfl⟩;have H_6:=Hd (H_5.out.ext (show Ext w7 w7.drew from Below.drew (Ext.refl _)));clear H_5;clear t2 wl;have hro:=H_6.out.row;rw[HL.out] at hro;have HO:=Hd hro;clear hro;have hz:0≤w7.drew.heap.size:=Nat.zero_le _;obtain⟨i0,hi0,hz0,hz1,hz2⟩:=info_parts u8inf;go_wp2_with (at_builtin;refine wpList_app_string rfl _ _ 62 9 rfl 0 5 i0 Tryz.underlying62 Tryz.underlying9 hi0 hz0 hz1 hz2 _ _ _ rfl HO.out t rfl ?c3 ?c4 hz ?_)
      case c3=>unfold maxLen;omega
      case c4=>omega
      intro v8 w8 hown hgrow hat;obtain⟨x8,c8,rfl⟩:=lit_row hown;have hG8:=H_6.out.st.at_.grow (Ext.refl _) hgrow (t:=t) (by rw[HL.out,hts];exact hown) hat;have b1:=hG8.1.cell 1;have f1:=hG8.1.frozen 1;have HG8:=Hd hG8;clear hown hgrow hat hG8 c0 c1 c2 e0 e1;go_wp2_with fail;go_end0;exact ipost_ok HR7.out (H_6.out.to HG8.out.2.1 HG8.out.2.2 (by omega))
   ·have hxx:¬ _:=fun q=>hx (HX.out.1 q);have t1:(bits BinOp.xor IntKind.i64 (n:Int) (m:Int) ==65535)=false:=beq_eq_false_iff_ne.2 hxx;have HR1:=HR3.out;rw[if_pos hx] at HR1;have HR4:=Hd HR1;clear HR1 HR3 HX hxx;refine wp_region_held_drew (S:=fun w'=>w'.cell? ⟨1,0,none⟩=some (.iface 275 (.pointer (some (E 0))))) (by kernel_rfl) ((err_cells HE.out H_2.out.old).1) (fun hHeld=>?_);clear hHeld;refine anyH_world (fun wz=>Ext w2 wz) (show Ext w2 w2.drew from Below.drew (Ext.refl w2)) ?_;rintro w3 h;have H_3:=Hd (H_2.out.ext h);clear h H_2;have hHeld:w3.cell? ⟨1,0,none⟩=some (.iface 275 (.pointer (some (E 0)))):=((err_cells HE.out H_3.out.old).1);refine tkH 0 rfl hHeld ?_;(try simp only[Act.put,xz]);refine tkH 1 rfl hHeld ?_;(try simp only[Act.put,xz]);refine tkH 2 rfl hHeld ?_;(try simp only[Act.put,xz]);refine tkH 6 rfl hHeld ?_;(try simp only[Act.put,xz]);refine rdH 3 rfl fun KK hK=>?_;clear hHeld;go_simp;refine (gget_yes R B a2 16 m a3 most s v v out w0 w _ E HE.out H_3.out (by omega) HG2.out).mono ?_;rintro e w4 ⟨rfl,hG,hS⟩;have H_4:=Hd hG;clear H_3 hG;clear hS;go_simp;refine hK.out _ _ ((err_cells HE.out H_4.out.old).1) (fun hHeld=>?_);clear hK KK;(try simp only[Act.put,xz]);refine tkH 4 rfl hHeld ?_;(try simp only[Act.put,xz]);refine tkH 5 rfl hHeld ?_;(try simp only[Act.put,xz]);refine rdH 7 rfl fun KK hK=>?_;clear hHeld
    go_simp;refine (must_no _ (E 0) _).mono ?_;rintro e w9 ⟨rfl,rfl⟩;exact⟨rfl,ipost_error HR4.out H_4.out.old⟩
end Go.Proofs.YthlibiocadimhaaGreatDoor
