/-
  PngTwice.
  The tables of package inflate, out of what a row lists.
  An argument that is a row of pixels, opened.
  An argument that is a picture, or a row of pixels, opened.
  The last step of every law's row, once: a call that returns true and turns nothing that was there meets the row's post.
-/
import Derived.Test.YthlibiocadimhaaGreatDoorPngTwiceG1
import Derived.Test.YthlibiocadimhaaGreatDoorPngTwiceG29
import Derived.Test.YthlibiocadimhaaGreatDoorPngTwiceG6
import Derived.Lib.LaidTab
import Derived.LaidHandle
import Derived.LaidSub
import Derived.Stop.LaidTwo
import Derived.Test.YthlibiocadimhaaGreatDoorPngTwiceG2
import Derived.Lib.SmallJoins
import Derived.Test.YthlibiocadimhaaGreatDoorRows
import Derived.ProofKit
import Derived.ShutString
import Derived.Below
import Derived.OpenShut
set_option linter.unusedSimpArgs false
set_option linter.unusedVariables false
set_option maxRecDepth 100000
namespace Go.Proofs.YthlibiocadimhaaGreatDoor
open Go.RowKit
theorem right_of {W H n:Nat} (hW:1≤W∧W≤256) (hH:1≤H∧H≤256) (hn:n=H*W):rightB (W:Int) (H:Int) n=true:=by
 unfold rightB sideB;rw[decide_eq_true (show (1:Int)≤(W:Int)∧(W:Int)≤256 by omega),decide_eq_true (show (1:Int)≤(H:Int)∧(H:Int)≤256 by omega)];rw[hn,Nat.mul_comm];simp
set_option maxHeartbeats 4000000 in
theorem pngTwice_any (W H:Int) (x:Option Addr) (n cap:Nat) (px:Nat→P4) (s:ByteArray) (w:World) (E:Nat→Addr) (hE:Errs w E) (hT:Tabs w) (hx:Pxs w x n px) (h0:x=none→cap=0) (hn:n≤maxLen) (hs:s.size≤maxLen):
  Calls Tryz.prog 3 #[.agg #[.int .i64 W,.int .i64 H,.slice x n cap],.string s] w fun e w'=>e=.returned (.bool true)∧Ext w w':=by
 have HER:=Hd hE;have HTB:=Hd hT;have HX0:=Hd hx;have H0:=Hd h0;have HNM:=Hd hn;unfold maxLen at hn hs;clear hE hT hx h0;go_enter Tryz.func3,Tryz.ntmps3
 go_upto_region 1 with fail;refine wp_world (fun wz=>Ext w wz∧Bk wz w.heap.size #[.int .i64 W,.int .i64 H,.slice x n cap]) ⟨(Ext.refl w).alloc _,Bk.at rfl⟩ ?_;rintro w0 ⟨hX,hP⟩;have X_0:=Hd hX;have HX_0:=Hd (HX0.out.ext hX);have P_0:=Hd hP;clear hX hP;go_wp2_with fail;refine (dot_any w0 E (HER.out.ext X_0.out) (HTB.out.ext X_0.out)).mono ?_;rintro e w1 ⟨rfl,hX⟩;have X_1:=Hd (X_0.out.trans hX);have HX_1:=Hd (HX_0.out.ext hX);have P_1:=Hd (P_0.out.ext hX);clear hX X_0 HX_0 P_0;by_cases hsm:n≤3000
 ·have k0:=P_1.out.cell 0;have k1:=P_1.out.cell 1;have k2:=P_1.out.cell 2;go_wp2_with fail;refine (small_any W H x n cap w1 HNM.out).mono ?_;rintro e w2 ⟨rfl,hX⟩;have X_2:=Hd (X_1.out.trans hX);have HX_2:=Hd (HX_1.out.ext hX);have P_2:=Hd (P_1.out.ext hX);clear hX X_1 HX_1 P_1;clear k0 k1 k2;rw[show decide (n≤3000)=true from decide_eq_true hsm];by_cases hsl:5000<s.size
  ·have t1:decide ((5000:Int)<(s.size:Int))=true:=decide_eq_true (by omega);go_wp2_with fail;go_ret;exact⟨rfl,X_2.out⟩
  ·have t1:decide ((5000:Int)<(s.size:Int))=false:=decide_eq_false (by omega);go_upto_region 4 with fail;clear t1;go_cut [6,7] (fun s6 s7 wx=>Hid (Ext w2 wx)∧((s7=.nilIface∧∃T:ByteArray,s6=.string T∧Hid (T.size≤300000∧∃(a b:Nat) (qx:Nat→P4),W=(a:Int)∧H=(b:Int)∧n=b*a∧Png.picR T=.ok a b qx∧∀i,i<n→qx i=px i))∨s7=.iface 275 (.pointer (some (E 2)))))
   case first=>
    have Y_2:=Hd (Ext.refl w2);have k0:=P_2.out.cell 0;have k1:=P_2.out.cell 1;have k2:=P_2.out.cell 2;go_wp2_with fail;refine (own_any W H x n cap px w2 HX_2.out H0.out (by omega)).mono ?_;rintro e w3 ⟨⟨v,rfl,hown⟩,hX⟩;obtain⟨xo,co,rfl,ho,_⟩:=Pxs.of_own hown HX0.out.ok;have X_3:=Hd (X_2.out.trans hX);have HX_3:=Hd (HX_2.out.ext hX);have P_3:=Hd (P_2.out.ext hX);have Y_3:=Hd (Y_2.out.trans hX);clear hX X_2 HX_2 P_2 Y_2;have HO_3:=Hd (ho);clear k0 k1 k2;clear ho hown;cases hr:rightB W H n
    ·go_wp2_with fail;refine (wr_bad W H xo n co w3 E (HER.out.ext X_3.out) hr).mono ?_;rintro e w4 ⟨rfl,hX⟩;have X_4:=Hd (X_3.out.trans hX);have HX_4:=Hd (HX_3.out.ext hX);have P_4:=Hd (P_3.out.ext hX);have Y_4:=Hd (Y_3.out.trans hX);have HO_4:=Hd (HO_3.out.ext hX);clear hX X_3 HX_3 P_3 Y_3 HO_3;unfold sentV;go_wp2_with fail;go_meet
     exact⟨Y_4,.inr rfl⟩
    ·obtain⟨a,b,rfl,rfl,q1,q2,q3,q4,q5⟩:=rightB_yes hr;have HN5:Hid (n=b*a):=Hd (by rw[Nat.mul_comm];exact q5);clear q1 q2 q3 q4 q5;go_wp2_with fail;refine (wr_good a b xo n co px w3 E (HER.out.ext X_3.out) (HTB.out.ext X_3.out) HO_3.out hr hsm).mono ?_;rintro e w4 ⟨hX,out,z,rfl,h60,hmx,hrz,hzl,hrd,qz,hq,hqx⟩;have H60:=Hd h60;have HMX:=Hd hmx;have HRZ:=Hd hrz;have HZL:=Hd hzl;have HRD:=Hd hrd;have HQ:=Hd hq;have HQX:=Hd hqx;clear h60 hmx hrz hzl hrd hq hqx;obtain⟨T,hT⟩:∃T:ByteArray,(⟨out.toArray⟩:ByteArray)=T:=⟨_,rfl⟩;have HTS:Hid (60<T.size∧T.size≤300000):=Hd (by rw[← hT];show 60<out.toArray.size∧out.toArray.size≤300000;rw[List.size_toArray];exact⟨H60.out,HMX.out⟩);rw[hT] at HQ HRD⊢;clear hT H60 HMX;have X_4:=Hd (X_3.out.trans hX);have HX_4:=Hd (HX_3.out.ext hX);have P_4:=Hd (P_3.out.ext hX);have Y_4:=Hd (Y_3.out.trans hX);have HO_4:=Hd (HO_3.out.ext hX);clear hX X_3 HX_3 P_3 Y_3 HO_3;go_wp2_with fail;go_meet
     exact⟨Y_4,.inl ⟨rfl,T,rfl,Hd ⟨HTS.out.2,a,b,qz,rfl,rfl,HN5.out,HQ.out,HQX.out⟩⟩⟩
   case rest=>
    obtain⟨HY,hor⟩:=hcut;rename World=>w5;have X_3:=Hd (X_2.out.trans HY.out);have HX_3:=Hd (HX_2.out.ext HY.out);have P_3:=Hd (P_2.out.ext HY.out);clear X_2 HX_2 P_2;clear HY;go_upto_region 5 with fail;go_cut [6,33] (fun s6 s33 wx=>wx=w5∧∃(eb:Bool) (T:ByteArray),s33=.bool eb∧(eb=true→s6=.string T)∧Hid (eb=true→(T.size≤300000∧∃(a b:Nat) (qx:Nat→P4),W=(a:Int)∧H=(b:Int)∧n=b*a∧Png.picR T=.ok a b qx∧∀i,i<n→qx i=px i)))
    case first=>
     rcases hor with⟨rfl,T,rfl,HG⟩ | rfl
     ·go_wp2_with fail;go_meet
      exact⟨rfl,true,T,rfl,fun _=>rfl,Hd (fun _=>HG.out)⟩
     ·go_wp2_with fail;go_meet
      exact⟨rfl,false,⟨#[]⟩,rfl,(fun h=>by cases h),Hd (fun h=>by cases h)⟩
    case rest=>
     obtain⟨rfl,eb,T,rfl,h6,HG⟩:=hcut;clear hor;go_upto_if 33 with fail
     go_cut [] (fun wx=>Hid (Ext w wx)∧Hid (Pxs wx x n px))
     case first=>
      rename World=>w5;cases eb
      ·go_wp2_with fail;go_meet
       exact⟨X_3,HX_3⟩
      ·obtain rfl:=h6 rfl;obtain⟨hTs,a,b,qx,rfl,rfl,hnn,hq,hqx⟩:=HG.out rfl;have HTS:=Hd (show 0<1∧T.size≤300000 from⟨by omega,hTs⟩);have HQ:=Hd hq;have HQX:=Hd hqx;have HNN:=Hd hnn;clear hTs hnn hq hqx HG h6;go_wp2_with fail;refine (pread_any T w5 E (HER.out.ext X_3.out) (HTB.out.ext X_3.out) HTS.out.2).mono ?_;rintro e w4 ⟨hX,hre⟩;rw[HQ.out] at hre;obtain⟨y,cy,rfl,hy⟩:=hre;have hy2:=hy.congr (qx:=px) (fun i hi=>(HQX.out i (by rw[HNN.out];exact hi)).symm);have X_4:=Hd (X_3.out.trans hX);have HX_4:=Hd (HX_3.out.ext hX);have P_4:=Hd (P_3.out.ext hX);clear hX X_3 HX_3 P_3;have HY_4:=Hd (hy2);clear hy hy2;have HY2:Hid (Pxs w4 y n px):=Hd (by rw[HNN.out];exact HY_4.out);rw[← HNN.out];clear HY_4;have HY_4:=HY2;clear HY2;go_upto_region 7 with fail;refine wp_world (fun wz=>Ext w4 wz∧Bk wz w4.heap.size #[.int .i64 (a:Int),.int .i64 (b:Int),.slice y n cy]) ⟨(Ext.refl _).alloc _,Bk.at rfl⟩ ?_;rintro w5 ⟨hE,hB⟩;obtain⟨TQ,hTQ⟩:∃q,w4.heap.size=q:=⟨_,rfl⟩;rw[hTQ] at hB⊢;have X_5:=Hd (X_4.out.trans hE);have HX_5:=Hd (HX_4.out.ext hE);have P_5:=Hd (P_4.out.ext hE);have HY_5:=Hd (HY_4.out.ext hE);clear hE hTQ X_4 HX_4 P_4 HY_4;have Q_5:=Hd (hB);clear hB;have k0:=P_5.out.cell 0;have k1:=P_5.out.cell 1;have k2:=P_5.out.cell 2;have k3:=Q_5.out.cell 0;have k4:=Q_5.out.cell 1;have k5:=Q_5.out.cell 2;go_wp2_with fail;refine (same_yes (a:Int) (b:Int) x y n cap cy px w5 HX_5.out HY_5.out (by omega)).mono ?_
       rintro e w6 ⟨rfl,hX⟩;have X_6:=Hd (X_5.out.trans hX);have HX_6:=Hd (HX_5.out.ext hX);have P_6:=Hd (P_5.out.ext hX);have HY_6:=Hd (HY_5.out.ext hX);have Q_6:=Hd (Q_5.out.ext hX);clear hX X_5 HX_5 P_5 HY_5 Q_5;clear k0 k1 k2 k3 k4 k5;go_wp2_with fail;go_meet
       exact⟨X_6,HX_6⟩
     case rest=>
      obtain⟨X_0,HX_0⟩:=hcut;clear h6 HG X_3 HX_3 P_3;rename World=>w6;clear HX_0 HX0 H0;obtain⟨res,hres⟩:∃r,Png.picR s=r:=⟨_,rfl⟩;have HRES:=Hd hres;go_wp2_with fail;refine (pread_any s w6 E (HER.out.ext X_0.out) (HTB.out.ext X_0.out) (by omega)).mono ?_;rintro e w1 ⟨hX,hre⟩;rw[hres] at hre;have X_1:=Hd (X_0.out.trans hX);clear hX X_0;clear hres;cases res with
      | fault c i=>
       obtain⟨F,hc,hi,rfl,hF⟩:=hre;unfold zeroPic;go_wp2_with fail;go_ret;exact⟨rfl,X_1.out.alloc _⟩
      | bad c=>
       obtain⟨hc,rfl⟩:=hre;unfold zeroPic sentV;go_wp2_with fail;go_ret;exact⟨rfl,X_1.out.alloc _⟩
      | ok a b qx=>
       obtain⟨y,cy,rfl,hy⟩:=hre;obtain⟨hW,hH,hok⟩:=Png.pic_right HRES.out;have HY_1:=Hd hy;clear hy;obtain⟨m,hm⟩:∃m,b*a=m:=⟨_,rfl⟩;have HM:=Hd hm;rw[hm] at HY_1⊢;have HRT:=Hd (right_of hW hH hm.symm);have hmb:m≤65536:=by rw[← hm];exact Nat.mul_le_mul hH.2 hW.2
       clear hm hW hH hok;go_upto_region 10 with fail;refine wp_world (fun wz=>Ext w1 wz∧Bk wz w1.heap.size #[.int .i64 (a:Int),.int .i64 (b:Int),.slice y m cy]) ⟨(Ext.refl _).alloc _,Bk.at rfl⟩ ?_;rintro w2 ⟨hE,hB⟩;obtain⟨TQ,hTQ⟩:∃q,w1.heap.size=q:=⟨_,rfl⟩;rw[hTQ] at hB⊢;have X_2:=Hd (X_1.out.trans hE);have HY_2:=Hd (HY_1.out.ext hE);clear hE hTQ X_1 HY_1;have Q_2:=Hd (hB);clear hB;have k0:=Q_2.out.cell 0;have k1:=Q_2.out.cell 1;have k2:=Q_2.out.cell 2;by_cases hm3:m≤3000
       ·go_wp2_with fail;refine (small_any (a:Int) (b:Int) y m cy w2 (by unfold maxLen;omega)).mono ?_;rintro e w3 ⟨rfl,hX⟩;have X_3:=Hd (X_2.out.trans hX);have HY_3:=Hd (HY_2.out.ext hX);have Q_3:=Hd (Q_2.out.ext hX);clear hX X_2 HY_2 Q_2;clear k0 k1 k2;rw[show decide (m≤3000)=true from decide_eq_true hm3];have k0:=Q_3.out.cell 0;have k1:=Q_3.out.cell 1;have k2:=Q_3.out.cell 2;go_wp2_with fail;refine (wr_good a b y m cy qx w3 E (HER.out.ext X_3.out) (HTB.out.ext X_3.out) HY_3.out HRT.out hm3).mono ?_;rintro e w4 ⟨hX,out,z,rfl,h60,hmx,hrz,hzl,hrd,qz,hq,hqx⟩;have H60:=Hd h60;have HMX:=Hd hmx;have HRZ:=Hd hrz;have HZL:=Hd hzl;have HRD:=Hd hrd;have HQ:=Hd hq;have HQX:=Hd hqx;clear h60 hmx hrz hzl hrd hq hqx;obtain⟨T,hT⟩:∃T:ByteArray,(⟨out.toArray⟩:ByteArray)=T:=⟨_,rfl⟩;have HTS:Hid (60<T.size∧T.size≤300000):=Hd (by rw[← hT];show 60<out.toArray.size∧out.toArray.size≤300000;rw[List.size_toArray];exact⟨H60.out,HMX.out⟩);rw[hT] at HQ HRD⊢;clear hT H60 HMX;have X_4:=Hd (X_3.out.trans hX);have HY_4:=Hd (HY_3.out.ext hX);have Q_4:=Hd (Q_3.out.ext hX);clear hX X_3 HY_3 Q_3;clear k0 k1 k2;go_wp2_with fail;refine (pread_any T w4 E (HER.out.ext X_4.out) (HTB.out.ext X_4.out) HTS.out.2).mono ?_;rintro e w5 ⟨hX,hre⟩;rw[HQ.out] at hre;obtain⟨y2,cy2,rfl,hy⟩:=hre;have hy2:=hy.congr (qx:=qx) (fun i hi=>(HQX.out i (by rw[HM.out] at hi;exact hi)).symm);have X_5:=Hd (X_4.out.trans hX);have HY_5:=Hd (HY_4.out.ext hX)
        have Q_5:=Hd (Q_4.out.ext hX);clear hX X_4 HY_4 Q_4;have HY2_5:=Hd (hy2);clear hy hy2;rw[HM.out] at HY2_5⊢;go_upto_region 16 with fail;refine wp_world (fun wz=>Ext w5 wz∧Bk wz w5.heap.size #[.int .i64 (a:Int),.int .i64 (b:Int),.slice y2 m cy2]) ⟨(Ext.refl _).alloc _,Bk.at rfl⟩ ?_;rintro w6 ⟨hE,hB⟩;obtain⟨TR,hTR⟩:∃q,w5.heap.size=q:=⟨_,rfl⟩;rw[hTR] at hB⊢;have X_6:=Hd (X_5.out.trans hE);have HY_6:=Hd (HY_5.out.ext hE);have Q_6:=Hd (Q_5.out.ext hE);have HY2_6:=Hd (HY2_5.out.ext hE);clear hE hTR X_5 HY_5 Q_5 HY2_5;have R_6:=Hd (hB);clear hB;have k0:=Q_6.out.cell 0;have k1:=Q_6.out.cell 1;have k2:=Q_6.out.cell 2;have k3:=R_6.out.cell 0;have k4:=R_6.out.cell 1;have k5:=R_6.out.cell 2;go_wp2_with fail;refine (same_yes (a:Int) (b:Int) y y2 m cy cy2 qx w6 HY_6.out HY2_6.out (by omega)).mono ?_;rintro e w7 ⟨rfl,hX⟩;have X_7:=Hd (X_6.out.trans hX);have HY_7:=Hd (HY_6.out.ext hX);have Q_7:=Hd (Q_6.out.ext hX);have HY2_7:=Hd (HY2_6.out.ext hX);have R_7:=Hd (R_6.out.ext hX);clear hX X_6 HY_6 Q_6 HY2_6 R_6;clear k0 k1 k2 k3 k4 k5;go_wp2_with fail;go_ret;exact⟨rfl,X_7.out⟩
       ·go_wp2_with fail;refine (small_any (a:Int) (b:Int) y m cy w2 (by unfold maxLen;omega)).mono ?_;rintro e w3 ⟨rfl,hX⟩;have X_3:=Hd (X_2.out.trans hX);have HY_3:=Hd (HY_2.out.ext hX);have Q_3:=Hd (Q_2.out.ext hX);clear hX X_2 HY_2 Q_2;clear k0 k1 k2;rw[show decide (m≤3000)=false from decide_eq_false hm3];go_wp2_with fail;go_ret;exact⟨rfl,X_3.out⟩
 ·have k0:=P_1.out.cell 0;have k1:=P_1.out.cell 1;have k2:=P_1.out.cell 2;go_wp2_with fail;refine (small_any W H x n cap w1 HNM.out).mono ?_;rintro e w2 ⟨rfl,hX⟩;have X_2:=Hd (X_1.out.trans hX);have HX_2:=Hd (HX_1.out.ext hX);have P_2:=Hd (P_1.out.ext hX);clear hX X_1 HX_1 P_1;clear k0 k1 k2;rw[show decide (n≤3000)=false from decide_eq_false hsm];go_wp2_with fail;go_ret;exact⟨rfl,X_2.out⟩
end Go.Proofs.YthlibiocadimhaaGreatDoor
namespace Go.Proofs.YthlibiocadimhaaGreatDoor
open Go.RowKit Go.ChangeShapes
def tabD (n:String) (zs:List Nat):List (String × DataW Unit):=[(n,Lib.tabData .i64 (zs.map fun z=>((z:Nat):Int)))]
theorem tab_row {l:List (String × DataW Unit)} {W:World} {n:String} {g m:Nat} {t:TypeId} {zs:List Nat} (h:laidMetH Tryz.prog l W) (hl:l.filter (fun x=>x.1 ==n)=tabD n zs)
    (hm:laidMetH Tryz.prog (tabD n zs) W=laidMet Tryz.prog (tabD n zs) W) (hg: Tryz.prog.globalNamed n=some g) (hty:(Tryz.prog.globals[g]?).map (·.type)=some t) (ht: Tryz.prog.underlying t=some (.array m 3)) (hct: Tryz.prog.cellsOf t=m) (hlen:zs.length=m):
    ∀k,k<m→W.cell? ⟨g,k,none⟩=some (.int .i64 ((zs.getD k 0:Nat):Int)):=by
  have h1:=laidMetH.filter (fun x=>x.1 ==n) h;rw[hl,hm] at h1;have hT:=Lib.tabIs_of_head (rest:=[]) hg hty ht Tryz.underlying3 (by kernel_rfl) hct h1;intro k hk;have:=hT.cell hg k (by simp;omega);rw[this];simp[List.getD,hlen,hk]
theorem tabs_of_laid {l:List (String × DataW Unit)} {W:World} (h:laidMetH Tryz.prog l W)
    (h1 : l.filter (fun x => x.1 == "layercake/inflate.Lens") = tabD "layercake/inflate.Lens" Inf.lensL) (h2 : l.filter (fun x => x.1 == "layercake/inflate.LenBits") = tabD "layercake/inflate.LenBits" Inf.lensB)
    (h3 : l.filter (fun x => x.1 == "layercake/inflate.Dists") = tabD "layercake/inflate.Dists" Inf.distsL) (h4 : l.filter (fun x => x.1 == "layercake/inflate.DistBits") = tabD "layercake/inflate.DistBits" Inf.distsB)
    (h5 : l.filter (fun x => x.1 == "layercake/inflate.Order") = tabD "layercake/inflate.Order" Inf.orderL) : Tabs W :=
  ⟨tab_row h h1 rfl (by kernel_rfl) (by kernel_rfl) Tryz.underlying232 (by kernel_rfl) rfl,tab_row h h2 rfl (by kernel_rfl) (by kernel_rfl) Tryz.underlying232 (by kernel_rfl) rfl,tab_row h h3 rfl (by kernel_rfl) (by kernel_rfl) Tryz.underlying233 (by kernel_rfl) rfl,tab_row h h4 rfl (by kernel_rfl) (by kernel_rfl) Tryz.underlying233 (by kernel_rfl) rfl,tab_row h h5 rfl (by kernel_rfl) (by kernel_rfl) Tryz.underlying192 (by kernel_rfl) rfl⟩
end Go.Proofs.YthlibiocadimhaaGreatDoor
namespace Go.Proofs.YthlibiocadimhaaGreatDoor
open Go.ChangeShapes Go.WideShapes Go.RowKit Go.Deep Go.Joins
theorem pix_field {H:Type} {enc:TypeId × Value→H} {w:World} {base:Nat} {spare:Nat→Bool} {held:Bool} {n:Nat} {v:Value} {y:DataW H × List MemPlace} (h:DataW.trod enc Tryz.prog w base spare held n 5 [v]=some y):∃k:Int,v=.int .u8 k∧Pix.Byte k:=by
  obtain⟨k,e,_,wf⟩:=DataW.trod_int Tryz.underlying5 h;simp only[List.cons.injEq,and_true] at e;exact⟨k,e,bounds_u8 wf⟩
theorem open_pxs {H:Type} {enc:TypeId × Value→H} {w:World} {base:Nat} {spare:Nat→Bool} {held:Bool} {fuel:Nat} {cs:List Value} {x:DataW H × List MemPlace}
    (h:DataW.trod enc Tryz.prog w base spare held fuel 22 cs=some x):∃(a:Option Addr) (n cap:Nat) (px:Nat→P4),cs=[.slice a n cap]∧n≤maxLen∧(a=none→cap=0)∧Pxs w a n px:=by
  rcases open_recs Tryz.underlying22 Tryz.underlying53 (by kernel_rfl) (show Tryz.prog.cellsOf 53 =_ by kernel_rfl) h with rfl | ⟨a,n,cap,rfl,hn,hc,hf⟩
  · exact⟨none,0,0,fun _=>P4.zero,rfl,Nat.zero_le _,fun _=>rfl,fun _=>rfl,fun a h=>by cases h⟩
  · have key:∀i,i<n→∃p:P4,w.cell? (a.add (i*4))=some (.int .u8 p.r)∧w.cell? ⟨(a.add (i*4)).block,(a.add (i*4)).off+1,none⟩=some (.int .u8 p.g)∧w.cell? ⟨(a.add (i*4)).block,(a.add (i*4)).off+2,none⟩=some (.int .u8 p.b)∧w.cell? ⟨(a.add (i*4)).block,(a.add (i*4)).off+3,none⟩=some (.int .u8 p.a)∧p.Ok:=by
      intro i hi;obtain⟨v0,y0,n0,c0,t0⟩:=hf i hi 0 _ rfl;obtain⟨v1,y1,n1,c1,t1⟩:=hf i hi 1 _ rfl;obtain⟨v2,y2,n2,c2,t2⟩:=hf i hi 2 _ rfl;obtain⟨v3,y3,n3,c3,t3⟩:=hf i hi 3 _ rfl;obtain⟨k0,rfl,b0⟩:=pix_field t0;obtain⟨k1,rfl,b1⟩:=pix_field t1;obtain⟨k2,rfl,b2⟩:=pix_field t2;obtain⟨k3,rfl,b3⟩:=pix_field t3;exact⟨⟨k0,k1,k2,k3⟩,c0,cell_add (by decide) c1,cell_add (by decide) c2,cell_add (by decide) c3,⟨b0,b1,b2,b3⟩⟩
    haveI:Inhabited P4:=⟨P4.zero⟩
    obtain⟨px,hpx⟩:=Go.Deep.choose_lt (α:=P4) key;exact⟨some a,n,cap,px,rfl,by omega,(fun h=>by cases h),(fun h=>by cases h),fun a' ha i hi=>by injection ha with ha;subst ha;exact hpx i hi⟩
end Go.Proofs.YthlibiocadimhaaGreatDoor
namespace Go.Proofs.YthlibiocadimhaaGreatDoor
open Go.ChangeShapes Go.WideShapes Go.RowKit Go.Deep Go.Joins
theorem open_pic {H:Type} {enc:TypeId × Value→H} {w:World} {base b0:Nat} {r:Reach} {spare:Nat→Bool} {held:Bool} {v:Value} {d:DataW H} {pl:List MemPlace}
    (hv:Value.okWide Tryz.prog w r b0 24 v) (h:DataW.Trod enc Tryz.prog w base spare held 24 v d pl):
    ∃(W Hh:Int) (a:Option Addr) (n cap:Nat) (px:Nat→P4),v=.agg #[.int .i64 W,.int .i64 Hh,.slice a n cap]∧(-9223372036854775808≤W∧W≤9223372036854775807)∧(-9223372036854775808≤Hh∧Hh≤9223372036854775807)∧n≤maxLen∧(a=none→cap=0)∧Pxs w a n px:=by
  obtain⟨v0,v1,v2,y0,y1,y2,m,rfl,_,_,t0,t1,t2⟩:=open_agg3 Tryz.underlying24 (by kernel_rfl) (show Tryz.prog.cellsOf 24 =3 by kernel_rfl) hv h;obtain⟨W,e0,_,w0⟩:=DataW.trod_int Tryz.underlying3 t0;obtain⟨Hh,e1,_,w1⟩:=DataW.trod_int Tryz.underlying3 t1;obtain⟨a,n,cap,px,e2,hn,hc,hp⟩:=open_pxs t2;simp only[List.cons.injEq,and_true] at e0 e1 e2;subst e0;subst e1;subst e2;exact⟨W,Hh,a,n,cap,px,rfl,bounds_i64 w0,bounds_i64 w1,hn,hc,hp⟩
end Go.Proofs.YthlibiocadimhaaGreatDoor
namespace Go.Proofs.YthlibiocadimhaaGreatDoor
open Go.ChangeShapes Go.WideShapes Go.ChangeAt Go.RowKit
theorem law_readAll {H:Type} {enc:TypeId × Value→H} {P:Program} (hl:laidOutB P=true) {W W':World} (sp:Nat→Bool) (hB:Below W.heap.size W W'):
  ∀(ts:List TypeId) (vs:List Value) (ds:List (DataW H)) (ps:List MemPlace),
   (∀t∈ts,P.readableRec t=true∧t<P.types.size)→(∀p∈ps,p.block<W.heap.size)→(∀p∈ps,sp p.block=true)→
   DataW.TrodAll enc P W 0 (fun _=>true) true ts vs ds ps→DataW.TrodAll enc P W' 0 sp true ts vs ds ps
 | [],[],[],_,_,_,_,h=>h
 | t ::ts,v ::vs,d ::ds,ps,hr,hlt,hsp,h=>by
  obtain⟨p,q,h1,h2,rfl⟩:=h;have ht:=hr t (List.mem_cons_self ..);refine⟨p,q,?_,?_,rfl⟩
  ·exact WideElems.Trod_stays hl ht.1 ht.2 h1 (fun x hx=>hB.same (hlt x (List.mem_append_left _ hx))) (fun x hx=>hsp x (List.mem_append_left _ hx))
  ·exact law_readAll hl sp hB ts vs ds q (fun t' ht'=>hr t' (List.mem_cons_of_mem _ ht')) (fun x hx=>hlt x (List.mem_append_right _ hx)) (fun x hx=>hsp x (List.mem_append_right _ hx)) h2
 | [],[],_ ::_,_,_,_,_,h=>h.elim
 | [],_ ::_,_,_,_,_,_,h=>h.elim
 | _ ::_,[],_,_,_,_,_,h=>h.elim
 | _ ::_,_ ::_,[],_,_,_,_,h=>h.elim
theorem law_post {H:Type} {enc:TypeId × Value→H} {P:Program} (hl:laidOutB P=true) {f:Func} {s:ChangeSpec} {apart fresh handsOn:Bool} {W W':World} {args:Array Value} {ds:List (DataW H)} {before:List MemPlace} {tb:TypeId}
  (hW:DataW.Whole enc P f.params.toList s.vars apart W args.toList ds [] before) (hv:s.vars=[])
  (hfn:s.fn H (ds ++ [])= { results:=[.lit (.bool true)],args:=ds })
  (hread:f.params.toList.all (fun t=>P.readableRec t&&decide (t<P.types.size))=true)
  (hres:f.resultTypes=#[tb]) (hb:P.underlying tb=some .bool) (hB:Below W.heap.size W W'):
  s.post enc P f apart fresh handsOn false W args (.bool true) W':=by
 have hlt:∀p∈before,p.block<W.heap.size:=fun p hp=>hW.lt p hp;have hr:∀t∈f.params.toList,P.readableRec t=true∧t<P.types.size:=by
  intro t ht;have:=List.all_eq_true.1 hread t ht;simpa using this
 have hW0:=hW;obtain⟨p,q,hA,hV,hpq,hfz,hnd⟩:=hW;rw[hv] at hV;have hq:q=[]:=by simpa [DataW.TrodVars] using hV
 subst hq;rw[List.append_nil] at hpq;subst hpq;have hargs:∀sp:Nat→Bool,(∀x∈before,sp x.block=true)→DataW.TrodAll enc P W' 0 sp true f.params.toList args.toList ds before:=
  fun sp hsp=>law_readAll hl sp hB _ _ _ _ hr hlt hsp hA
 have hold:∀x∈before,(fun b=>decide (b<W.heap.size)) x.block=true:=fun x hx=>by simpa using hlt x hx
 have hresults:∀(b:Nat) (sp:Nat→Bool) (hd:Bool),DataW.TrodAll enc P W' b sp hd f.resultTypes.toList ((Value.bool true).resultList f.resultTypes.size) [.lit (.bool true)] []:=by
  intro b sp hd;rw[hres];exact trodAll_mk1 (shut_bool hb true)
 refine⟨ds,[],before,[],before,[],hW0,?_,?_,?_,World.keptBut_mono (fun x hx=>⟨hx,?_⟩) (hB.frame (·∈before)),fun _=>?_⟩
 ·rw[hfn];exact hresults _ _ _
 ·rw[hfn];exact hargs _ hold
 ·rw[hfn,hv];rfl
 ·exact Or.inr (Or.inl hx)
 ·cases ‹false=true›
end Go.Proofs.YthlibiocadimhaaGreatDoor
