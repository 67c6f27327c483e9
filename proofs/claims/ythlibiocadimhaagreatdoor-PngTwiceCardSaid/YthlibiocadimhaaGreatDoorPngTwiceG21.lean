/-
  inflate.Unzip.
  A zipped text is read: plain laws.
  filter.Back.
  Contracts of sum.table, sum.MoreCRC, sum.CRC: what they compute, in any world; new blocks alone are made.
  Chunks' small functions: is a text a kind; four bytes of a number, and back.
  Four bytes of a number, the highest first, and back.
-/
import Derived.Test.YthlibiocadimhaaGreatDoorPngTwiceG1
import Derived.Test.YthlibiocadimhaaGreatDoorPngTwiceG17
import Derived.Test.YthlibiocadimhaaGreatDoorPngTwiceG6
import Derived.Test.YthlibiocadimhaaGreatDoorPngTwiceG20
import Derived.Test.YthlibiocadimhaaGreatDoorPngTwiceG3
import Derived.RegionTactic
import Derived.Test.YthlibiocadimhaaGreatDoorProg
import Derived.Test.YthlibiocadimhaaGreatDoorPngTwiceG2
import Derived.WalkKit
import Derived.WalkSpells
import Derived.Deep.QuietTactic
import Derived.BigQuiet
import Derived.WalkSmall
import Derived.Lib.Hide
set_option linter.unusedSimpArgs false
set_option linter.unusedVariables false
set_option maxRecDepth 100000
namespace Go.Proofs.YthlibiocadimhaaGreatDoor
open Go.RowKit
set_option maxHeartbeats 4000000 in
theorem unzip_any (s:ByteArray) (most:Int) (w:World) (E:Nat→Addr) (hE:Errs w E) (hTb:Tabs w) (hs:s.size≤maxLen):
  Calls Tryz.prog 65 #[.string s,.int .i64 most] w fun e w'=>UzPost w w' E (Inf.unz s most) e:=by
 have HE:=Hd hE;have HTb:=Hd hTb;have HBd:=Hd (fun w=>bound_any s most w hs);have HI:=Hd (fun (t:ByteArray) (ht:t.size≤maxLen) (w:World) (hE:Errs w E) (hT:Tabs w)=>inflate_any t most w E hE hT ht);have HAd:=Hd (fun (t:ByteArray) (w:World) (h:t.size≤maxLen)=>adler_any t w h);unfold maxLen at hs;obtain⟨r,hr⟩:∃r,Inf.unz s most=r:=⟨_,rfl⟩;rw[hr];unfold Inf.unz at hr;have ev:=(err_cells hE (Ext.refl w)).2;have et:=(err_cells hE (Ext.refl w)).1;clear hE hTb;by_cases hb:most<0∨300000<most∨300000<s.size
 ·rw[if_pos hb] at hr;have hd:decide (most<0∨300000<most∨300000<s.size)=true:=decide_eq_true hb;subst hr;go_enter Tryz.func65,Tryz.ntmps65
  go_wp2_with fail;refine (HBd.out _).mono ?_;rintro e _ ⟨rfl,rfl⟩;rw[hd];clear hd hb;go_wp2_with fail;have ev2:w.drew.cell? ⟨2,0,none⟩=some (.iface 275 (.pointer (some (E 1)))):=ev;refine wp_regionQ (by kernel_rfl) (by kernel_rfl) ?_;(iterate 3 (refine wpQ_yes (by kernel_rfl) fun K hK=>?_;go_simp;refine hK _ ?_;clear hK K));refine wpQ_nil ?_;go_wp2_with fail;go_ret2;exact⟨Below.drew (Ext.refl _),rfl⟩
 ·rw[if_neg hb] at hr;have hd:decide (most<0∨300000<most∨300000<s.size)=false:=decide_eq_false hb;have hsz:s.size≤300000:=by omega
  have HR:=Hd hr;go_enter Tryz.func65,Tryz.ntmps65
  go_wp2_with fail;refine (HBd.out _).mono ?_;rintro e _ ⟨rfl,rfl⟩;rw[hd];clear hd hb hr;go_upto_region 3 with fail;go_cut [48] (fun s48 wx=>s48=.bool (decide (¬ Inf.headOk s))∧w.drew=wx)
  case first=>
   by_cases h2:s.size<2
   ·have f0:decide ((s.size:Int)<2)=true:=decide_eq_true (by omega);have HQ:Hid (¬ Inf.headOk s):=Hd (fun h=>by have:=h.1;omega);refine wp_regionQ (by kernel_rfl) (by kernel_rfl) ?_;(iterate 4 (refine wpQ_yes (by kernel_rfl) fun K hK=>?_;go_simp;refine hK _ ?_;clear hK K));(iterate 4 (refine wpQ_no (by kernel_rfl) ?_;(try simp only[Act.put,xz])));(iterate 2 (refine wpQ_yes (by kernel_rfl) fun K hK=>?_;go_simp;refine hK _ ?_;clear hK K));(iterate 4 (refine wpQ_no (by kernel_rfl) ?_;(try simp only[Act.put,xz])));(iterate 2 (refine wpQ_yes (by kernel_rfl) fun K hK=>?_;go_simp;refine hK _ ?_;clear hK K));(iterate 2 (refine wpQ_no (by kernel_rfl) ?_;(try simp only[Act.put,xz])));refine wpQ_no (by kernel_rfl) ?_
    (iterate 7 ((try simp only[Act.put,xz]);refine wpQ_no (by kernel_rfl) ?_));(try simp only[Act.put,xz]);(iterate 2 (refine wpQ_yes (by kernel_rfl) fun K hK=>?_;go_simp;refine hK _ ?_;clear hK K));(iterate 4 (refine wpQ_no (by kernel_rfl) ?_;(try simp only[Act.put,xz])));refine wpQ_yes (by kernel_rfl) fun K hK=>?_;go_simp;refine hK _ ?_;clear hK K;refine wpQ_nil ?_;(try go_wp2_with fail);clear f0;go_meet
    exact⟨by rw[show decide (¬ Inf.headOk s)=true from decide_eq_true HQ.out],rfl⟩
   ·have f0:decide ((s.size:Int)<2)=false:=decide_eq_false (by omega);have h0:0<s.size:=by omega
    have h1:1<s.size:=by omega
    have h0I:(0:Int)<(s.size:Int):=by omega
    have h1I:(1:Int)<(s.size:Int):=by omega
    have HH:Hid (Inf.headOk s↔(s[0].toNat%16=8∧s[0].toNat/16≤7∧(s[0].toNat*256+s[1].toNat)%31=0∧s[1].toNat/32%2=0)):=Hd (head_is s h1);have ha:=s[0].toNat_lt;have hb:=s[1].toNat_lt;obtain⟨K,hK⟩:∃K:Nat,s[0].toNat*256+s[1].toNat=K:=⟨_,rfl⟩;obtain⟨r31,hr31⟩:∃q:Nat,K%31=q:=⟨_,rfl⟩;have mC:(K:Int).tmod 31=(r31:Int):=by rw[Int.tmod_eq_emod_of_nonneg (by omega)];omega
    have wa:∀z,z=(s[0].toNat:Int)→IntKind.i64.wrap z=z:=by rintro _ rfl;rw[IntKind.wrap_i64];omega
    have wb:∀z,z=(s[1].toNat:Int)→IntKind.i64.wrap z=z:=by rintro _ rfl;rw[IntKind.wrap_i64];omega
    have wr:∀z,z=(r31:Int)→IntKind.i64.wrap z=z:=by rintro _ rfl;rw[IntKind.wrap_i64];omega
    rw[hK,hr31] at HH;have gA:=u8_15 s[0].toNat ha;have gD:=u8_32 s[1].toNat hb;have gO:=i64_or8 s[0].toNat s[1].toNat ha hb;rw[hK] at gO;have wK:∀z,z=(K:Int)→IntKind.i64.wrap z=z:=by rintro _ rfl;rw[IntKind.wrap_i64];omega
    have wL:∀z,z=(s[0].toNat:Int)*256→IntKind.i64.wrap z=z:=by rintro _ rfl;rw[IntKind.wrap_i64];omega
    by_cases hA:s[0].toNat%16=8
    ·have fA:(((s[0].toNat%16:Nat):Int) !=8)=false:=by rw[bne_eq_false_iff_eq];omega
     have mA:(s[0].toNat:Int)%16=((s[0].toNat%16:Nat):Int):=by omega
     have fA2:((s[0].toNat:Int)%16 !=8)=false:=by rw[bne_eq_false_iff_eq];omega
     by_cases hB:s[0].toNat/16≤7
     ·have fB:decide ((7:Int)<(s[0].toNat:Int)/16)=false:=decide_eq_false (by omega);by_cases hC:r31=0
      ·have fC:((r31:Int) !=0)=false:=by rw[bne_eq_false_iff_eq];omega
       by_cases hD:s[1].toNat/32%2=0
       ·have fD:(bits BinOp.and IntKind.u8 (s[1].toNat:Int) 32 !=0)=false:=by rw[gD];exact decide_eq_false (by omega)
        have HQ:Hid (Inf.headOk s):=Hd (HH.out.2 ⟨hA,hB,hC,hD⟩);refine wp_regionQ (by kernel_rfl) (by kernel_rfl) ?_;(iterate 17 (refine wpQ_yes (by kernel_rfl) fun K hK=>?_;go_simp;refine hK _ ?_;clear hK K));refine wpQ_yes (by kernel_rfl) fun K hK=>?_
        (iterate 15 (go_simp;refine hK _ ?_;clear hK K;refine wpQ_yes (by kernel_rfl) fun K hK=>?_));go_simp;refine hK _ ?_;clear hK K;refine wpQ_nil ?_;(try go_wp2_with fail);clear fA fB fC fD;go_meet
        exact⟨by rw[show decide (¬ Inf.headOk s)=false from decide_eq_false (fun h=>h HQ.out)],rfl⟩
       ·have fD:(bits BinOp.and IntKind.u8 (s[1].toNat:Int) 32 !=0)=true:=by rw[gD];exact decide_eq_true (by omega)
        have HQ:Hid (¬ Inf.headOk s):=Hd (fun h=>hD (HH.out.1 h).2.2.2);refine wp_regionQ (by kernel_rfl) (by kernel_rfl) ?_;(iterate 17 (refine wpQ_yes (by kernel_rfl) fun K hK=>?_;go_simp;refine hK _ ?_;clear hK K));refine wpQ_yes (by kernel_rfl) fun K hK=>?_
        (iterate 15 (go_simp;refine hK _ ?_;clear hK K;refine wpQ_yes (by kernel_rfl) fun K hK=>?_));go_simp;refine hK _ ?_;clear hK K;refine wpQ_nil ?_;(try go_wp2_with fail);clear fA fB fC fD;go_meet
        exact⟨by rw[show decide (¬ Inf.headOk s)=true from decide_eq_true HQ.out],rfl⟩
      ·have fC:((r31:Int) !=0)=true:=by rw[bne_iff_ne];omega
       have HQ:Hid (¬ Inf.headOk s):=Hd (fun h=>hC (HH.out.1 h).2.2.1);refine wp_regionQ (by kernel_rfl) (by kernel_rfl) ?_;(iterate 17 (refine wpQ_yes (by kernel_rfl) fun K hK=>?_;go_simp;refine hK _ ?_;clear hK K));refine wpQ_yes (by kernel_rfl) fun K hK=>?_
       (iterate 10 (go_simp;refine hK _ ?_;clear hK K;refine wpQ_yes (by kernel_rfl) fun K hK=>?_));go_simp;refine hK _ ?_;clear hK K;(iterate 4 (refine wpQ_no (by kernel_rfl) ?_;(try simp only[Act.put,xz])));refine wpQ_yes (by kernel_rfl) fun K hK=>?_;go_simp;refine hK _ ?_;clear hK K;refine wpQ_nil ?_;(try go_wp2_with fail);clear fA fB fC;go_meet
       exact⟨by rw[show decide (¬ Inf.headOk s)=true from decide_eq_true HQ.out],rfl⟩
     ·have fB:decide ((7:Int)<(s[0].toNat:Int)/16)=true:=decide_eq_true (by omega);have HQ:Hid (¬ Inf.headOk s):=Hd (fun h=>hB (HH.out.1 h).2.1);refine wp_regionQ (by kernel_rfl) (by kernel_rfl) ?_;(iterate 16 (refine wpQ_yes (by kernel_rfl) fun K hK=>?_;go_simp;refine hK _ ?_;clear hK K));refine wpQ_no (by kernel_rfl) ?_
      (iterate 9 ((try simp only[Act.put,xz]);refine wpQ_no (by kernel_rfl) ?_));(try simp only[Act.put,xz]);(iterate 2 (refine wpQ_yes (by kernel_rfl) fun K hK=>?_;go_simp;refine hK _ ?_;clear hK K));(iterate 4 (refine wpQ_no (by kernel_rfl) ?_;(try simp only[Act.put,xz])));refine wpQ_yes (by kernel_rfl) fun K hK=>?_;go_simp;refine hK _ ?_;clear hK K;refine wpQ_nil ?_;(try go_wp2_with fail);clear fA fB;go_meet
      exact⟨by rw[show decide (¬ Inf.headOk s)=true from decide_eq_true HQ.out],rfl⟩
    ·have fA:(((s[0].toNat%16:Nat):Int) !=8)=true:=by rw[bne_iff_ne];omega
     have mA:(s[0].toNat:Int)%16=((s[0].toNat%16:Nat):Int):=by omega
     have fA2:((s[0].toNat:Int)%16 !=8)=true:=by rw[bne_iff_ne];omega
     have HQ:Hid (¬ Inf.headOk s):=Hd (fun h=>hA (HH.out.1 h).1);refine wp_regionQ (by kernel_rfl) (by kernel_rfl) ?_;(iterate 10 (refine wpQ_yes (by kernel_rfl) fun K hK=>?_;go_simp;refine hK _ ?_;clear hK K));(iterate 4 (refine wpQ_no (by kernel_rfl) ?_;(try simp only[Act.put,xz])));(iterate 2 (refine wpQ_yes (by kernel_rfl) fun K hK=>?_;go_simp;refine hK _ ?_;clear hK K));(iterate 2 (refine wpQ_no (by kernel_rfl) ?_;(try simp only[Act.put,xz])));refine wpQ_no (by kernel_rfl) ?_;try simp only[Act.put,xz]
     (iterate 7 (refine wpQ_no (by kernel_rfl) ?_;(try simp only[Act.put,xz])));(iterate 2 (refine wpQ_yes (by kernel_rfl) fun K hK=>?_;go_simp;refine hK _ ?_;clear hK K));(iterate 4 (refine wpQ_no (by kernel_rfl) ?_;(try simp only[Act.put,xz])));refine wpQ_yes (by kernel_rfl) fun K hK=>?_;go_simp;refine hK _ ?_;clear hK K;refine wpQ_nil ?_;(try go_wp2_with fail);clear fA;go_meet
     exact⟨by rw[show decide (¬ Inf.headOk s)=true from decide_eq_true HQ.out],rfl⟩
  case rest=>
   obtain⟨rfl,rfl⟩:=hcut;by_cases hh:Inf.headOk s
   ·have HQ:=Hd hh;rw[decide_eq_false (fun h=>h hh)];have h2:=hh.1;clear hh;go_wp2_with fail;have hr:=HR.out;rw[if_neg (fun h=>h HQ.out)] at hr;have HR2:=Hd hr;clear hr HR;obtain⟨S,hS⟩:∃S,s.extract 2 s.size=S:=⟨_,rfl⟩;have hSs:S.size=s.size-2:=by rw[← hS];simp
    have h2n:2≤s.size:=by omega
    have h2I:(2:Int)≤(s.size:Int):=by omega
    go_wp2_with fail;rw[hS];refine (HI.out S (by rw[hSs];unfold maxLen;omega) _ (HE.out.ext (Below.drew (Ext.refl _))) (HTb.out.ext (Below.drew (Ext.refl _)))).mono ?_;rintro e w2 ⟨h2x,he⟩;have X2:Hid (Ext w w2):=Hd (Ext.trans (Below.drew (Ext.refl _)) h2x);clear h2x et ev;rw[hS] at HR2;cases hi:Inf.infl S most with
    | error c=>
     rw[hi] at he HR2;simp only at he HR2;subst he;unfold sentV;go_wp2_with fail;go_ret2;rw[← HR2.out];exact⟨X2.out,rfl⟩
    | ok q=>
     obtain⟨out,used,bl⟩:=q;have hbd:=Inf.infl_most hi;have hus:used≤s.size-2:=by rw[← hSs];exact hbd.2.1
     have hob:out.length≤300000:=by have:=Inf.infl_bd hi;omega
     rw[hi] at he HR2;simp only at he HR2;obtain⟨T,hT⟩:∃T,tb out=T:=⟨_,rfl⟩;have hTs:T.size=out.length:=by rw[← hT,tb_size]
     have hTl:T.data.toList=out:=by rw[← hT];simp[tb]
     rw[hT] at he;subst he;have HT:=Hd hT;obtain⟨A,hA0⟩:∃A,2+used=A:=⟨_,rfl⟩;have hAI:(2:Int)+(used:Int)=(A:Int):=by omega
     have wA:∀z,z=(A:Int)→IntKind.i64.wrap z=z:=by rintro _ rfl;rw[IntKind.wrap_i64];omega
     have hAs:A≤s.size:=by omega
     have hAsI:(A:Int)≤(s.size:Int):=by omega
     have hA0n:(0:Int)≤(A:Int):=by omega
     have hAt:((A:Nat):Int).toNat=A:=by omega
     rw[hA0] at HR2;obtain⟨R,hR⟩:∃R,s.extract A s.size=R:=⟨_,rfl⟩;have hRs:R.size=s.size-A:=by rw[← hR];simp
     have hRl:R.data.toList=s.data.toList.drop A:=by rw[← hR,ex_list,List.take_of_length_le (by rw[List.length_drop,bytes_len];omega)]
     have HRl:=Hd hRl;have HTl:=Hd hTl;clear hi hbd hT hTl hRl hS h2;by_cases h4:R.size=4
     ·have t4:((R.size:Int) !=4)=false:=by rw[bne_eq_false_iff_eq];omega
      have hr:=HR2.out;rw[if_neg (by omega)] at hr;have HR3:=Hd hr;clear hr HR2 hRs;go_wp2_with fail;clear t4 hAI wA hR hAsI hA0n hAt;go_loopw [10,69] (fun x c wr=>∃k:Nat,k≤4∧c=.int .i64 k∧x=.int .u32 ((valN (R.data.toList.take k):Nat):Int)∧Hid (Ext w2 wr)) (fun _ c _=>4-(intOf c).toNat)
      case atStart=>exact⟨0,by omega,rfl,by rw[List.take_zero];rfl,Hd (Ext.refl _)⟩
      case round=>
       obtain⟨k,hk,rfl,rfl,HW⟩:=hrel;have X3:=Hd (X2.out.trans HW.out);by_cases hlt:k<4
       ·have t0:decide ((k:Int)<4)=true:=decide_eq_true (by omega);have hks:k<R.size:=by omega
        have hk0:(0:Int)≤(k:Int):=by omega
        have hksI:(k:Int)<(R.size:Int):=by omega
        have hv:valN (R.data.toList.take (k+1))=vstep (valN (R.data.toList.take k)) R[k]:=valN_succ (by rw[bytes_len];exact hks);obtain⟨x,hx⟩:∃x,valN (R.data.toList.take k)=x:=⟨_,rfl⟩;have hxl:=valN_lt (R.data.toList.take k);rw[hx] at hv hxl⊢;have ho:=or_low8 x R[k];have wk:∀z,z=(k:Int)+1→IntKind.i64.wrap z=z:=by rintro _ rfl;rw[IntKind.wrap_i64];omega
        go_wp2_with fail;go_roundw
        case rel=>exact⟨k+1,by omega,by go_num,by rw[hv],HW⟩
        case measure=>simp[intOf];omega
       ·obtain rfl:k=4:=by omega
        have e1:R.data.toList.take 4=R.data.toList:=List.take_of_length_le (by rw[bytes_len];omega);rw[e1,HRl.out];have hr:=HR3.out;obtain⟨v,hv⟩:∃v,valN (s.data.toList.drop A)=v:=⟨_,rfl⟩;rw[hv] at hr⊢;have hTm:T.size≤maxLen:=by unfold maxLen;omega
        go_wp2_with fail;refine (HAd.out T _ hTm).mono ?_;rintro e w3 ⟨rfl,h3⟩;subst h3;rw[HTl.out];obtain⟨y,hy⟩:∃y,Adl.adler out=y:=⟨_,rfl⟩;rw[hy] at hr⊢;by_cases hvy:v=y
        ·have t5:((v:Int) !=(y:Int))=false:=by rw[bne_eq_false_iff_eq];omega
         rw[if_neg (fun h=>h hvy)] at hr;subst hr;go_wp2_with fail;go_ret2;exact⟨X3.out,by show _=Ending.returned (.tuple #[.string (tb out),.nilIface]);rw[HT.out];rfl⟩
        ·have t5:((v:Int) !=(y:Int))=true:=by rw[bne_iff_ne];omega
         rw[if_pos hvy] at hr;subst hr;go_wp2_with fail;have es:wr.drew.cell? ⟨3,0,none⟩=some (.iface 275 (.pointer (some (E 3)))):=ext_cell X3.out (HE.out.var 3 (by decide));refine wp_regionQ (by kernel_rfl) (by kernel_rfl) ?_;(iterate 3 (refine wpQ_yes (by kernel_rfl) fun K hK=>?_;go_simp;refine hK _ ?_;clear hK K));refine wpQ_nil ?_;go_wp2_with fail;go_ret2;exact⟨Below.drew X3.out,rfl⟩
     ·have t4:((R.size:Int) !=4)=true:=by rw[bne_iff_ne];omega
      have hr:=HR2.out;rw[if_pos (by omega)] at hr;subst hr;clear hRs;go_wp2_with fail;have et2:w2.drew.cell? ⟨1,0,none⟩=some (.iface 275 (.pointer (some (E 0)))):=(err_cells HE.out X2.out).1;refine wp_regionQ (by kernel_rfl) (by kernel_rfl) ?_;(iterate 3 (refine wpQ_yes (by kernel_rfl) fun K hK=>?_;go_simp;refine hK _ ?_;clear hK K));refine wpQ_nil ?_;go_wp2_with fail;go_ret2;exact⟨Below.drew X2.out,rfl⟩
   ·have HQ:=Hd hh;rw[decide_eq_true hh];clear hh;go_wp2_with fail;have hr:=HR.out;rw[if_pos HQ.out] at hr;subst hr;have et2:w.drew.drew.cell? ⟨1,0,none⟩=some (.iface 275 (.pointer (some (E 0)))):=et;refine wp_regionQ (by kernel_rfl) (by kernel_rfl) ?_;(iterate 3 (refine wpQ_yes (by kernel_rfl) fun K hK=>?_;go_simp;refine hK _ ?_;clear hK K));refine wpQ_nil ?_;go_wp2_with fail;go_ret2;exact⟨Below.drew (Below.drew (Ext.refl _)),rfl⟩
theorem ba_tail (l:List UInt8):(⟨(120 ::156 ::l).toArray⟩:ByteArray).extract 2 (⟨(120 ::156 ::l).toArray⟩:ByteArray).size=⟨l.toArray⟩:=by
  apply bts_ext;rw[ByteArray.data_extract,Array.toList_extract];show ((120 ::156 ::l).take (l.length+1+1)).drop 2=l;rw[List.take_of_length_le (by simp)];rfl
theorem zipL_length (l t:List UInt8):(zipL l t).length=l.length+6:=by unfold zipL big4;simp
theorem unz_zip {l t:List UInt8} (h:Reads l t) (hl:l.length+6≤300000) {most:Nat} (hm:t.length≤most) (hmm:most≤300000):Inf.unz (⟨(zipL l t).toArray⟩:ByteArray) (most:Int)=.ok t:=by
  have hsz:(⟨(zipL l t).toArray⟩:ByteArray).size=l.length+6:=zipL_length l t;obtain⟨bl,hi⟩:=h.infl (big4 (Adl.adler t)) (by show l.length+4≤300000;omega) hm hmm;have hex:(⟨(zipL l t).toArray⟩:ByteArray).extract 2 (⟨(zipL l t).toArray⟩:ByteArray).size=⟨(l++big4 (Adl.adler t)).toArray⟩:=ba_tail _;have hh:Inf.headOk (⟨(zipL l t).toArray⟩:ByteArray):=by
    refine⟨by rw[hsz];omega,?_⟩;show (120:Nat)%16=8∧120/16≤7∧(120*256+156)%31=0∧156/32%2=0;decide
  have hdrop:(⟨(zipL l t).toArray⟩:ByteArray).data.toList.drop (2+l.length)=big4 (Adl.adler t):=by
    show (120 ::156 ::(l++big4 (Adl.adler t))).drop (2+l.length)=_;rw[show 2+l.length=l.length+1+1 by omega,List.drop_succ_cons,List.drop_succ_cons,List.drop_left]
  unfold Inf.unz;rw[if_neg (by rw[hsz];omega),if_neg (fun q=>q hh),hex,hi];simp only[];rw[if_neg (by rw[hsz];omega),hdrop,valN_big4 _ (adl_lt t),if_neg (fun q=>q rfl)]
def BackPost (w w':World) (E:Nat→Addr) (t:ByteArray) (wide step m:Nat) (e:Ending):Prop:=
 Ext w w'∧(((∀j,j<m→kdT t wide j≤4)∧e=.returned (.tuple #[.string (unS t wide step m),.nilIface]))∨(∃i F:Nat,i<m∧(∀j,j<i→kdT t wide j≤4)∧4<kdT t wide i∧(i:Int)≤9223372036854775807∧e=.returned (.tuple #[.string ⟨#[]⟩,.iface 107 (.pointer (some ⟨F,0,none⟩))])∧w'.heap[F]? =some (.cells #[.int .i64 (i:Int),sentV (E 0)] 109 (0,0))))
theorem back_bad {w wz:World} {E:Nat→Addr} {t:ByteArray} {wide step m i:Nat} (hX:Ext w wz) (hi:i<m) (ha:∀j,j<i→kdT t wide j≤4) (hk:4<kdT t wide i) (hb:(i:Int)≤9223372036854775807):
  BackPost w (wz.drew.alloc (.cells #[.int .i64 (i:Int),.iface 275 (.pointer (some (E 0)))] 109)) E t wide step m (.returned (.tuple #[.string ⟨#[]⟩,.iface 107 (.pointer (some ⟨wz.heap.size,0,none⟩))])):=
 ⟨(show Ext w wz.drew from Below.drew hX).alloc _,.inr ⟨i,wz.heap.size,hi,ha,hk,hb,rfl,heap_alloc_new wz.drew _⟩⟩
theorem kd_row {t:ByteArray} {wide i:Nat} (M M2:Nat) (hM:i*(wide+1)=M) (h:0<(t.extract M M2).size):(t.extract M M2)[0].toNat=kdT t wide i:=by
 unfold kdT;rw[row_at _ 0 h,hM];congr 1
 have hs:M<t.size:=by
  rw[ByteArray.size_extract] at h;omega
 have e:(t.extract M M2).data.toList=(t.data.toList.drop M).take (M2-M):=by
  rw[ByteArray.data_extract,Array.toList_extract,List.extract_eq_take_drop]
 rw[e];have hl:M<t.data.toList.length:=by rw[Array.length_toList];exact hs
 have h2:0<M2-M:=by rw[ByteArray.size_extract] at h;omega
 simp only[List.getD];rw[List.getElem?_take_of_lt h2,List.getElem?_drop,Nat.add_zero]
theorem rest_row {t:ByteArray} {wide i:Nat} (M M2:Nat) (hM:i*(wide+1)=M) (hM2:(i+1)*(wide+1)=M2) (hle:M2≤t.size):(t.extract M M2).extract 1 (t.extract M M2).size=restT t wide i:=by
 unfold restT;rw[ByteArray.size_extract,ByteArray.extract_extract,hM,hM2,Nat.min_eq_left hle];have:M≤M2:=by rw[← hM,← hM2];exact Nat.mul_le_mul_right _ (by omega)
 congr 1
 omega
set_option maxHeartbeats 2000000 in
theorem back_any (t:ByteArray) (wide step m:Nat) (w:World) (E:Nat→Addr) (hE:Errs w E) (hn:t.size=m*(wide+1)) (hw:1≤wide∧wide≤300000) (hst:1≤step∧step≤8) (hs:t.size≤300000):
  Calls Tryz.prog 66 #[.string t,.int .i64 (wide:Int),.int .i64 (step:Int)] w fun e w'=>BackPost w w' E t wide step m e:=by
 have HE:=Hd hE;have HN:=Hd hn;have hwh:=Hd (fun w=>whole_ok t (wide+1) wide 1 step w rfl hw (by omega) hst hs (by rw[hn];exact Nat.mul_mod_left _ _));obtain⟨h1,h2⟩:=hw;have HST:=Hd hst;obtain⟨h3,h4⟩:=hst;obtain⟨P,hP⟩:∃P,wide+1=P:=⟨_,rfl⟩;have hPI:(wide:Int)+1=(P:Int):=by omega
 have HPP:=Hd hP;clear hE hn;go_enter Tryz.func66,Tryz.ntmps66
 go_wp2_with fail;refine (hwh.out _).mono ?_;rintro e w1 ⟨rfl,rfl⟩;go_wp2_with fail;go_loopw [9,10,11] (fun u v c wr=>∃i:Nat,i≤m∧c=.int .i64 i∧u=.string (unS t wide step i)∧v=.string (unA t wide step i)∧Hid (∀j,j<i→kdT t wide j≤4)∧Hid (Ext w wr)) (fun _ _ c _=>m-(intOf c).toNat)
 case atStart=>exact⟨0,by omega,rfl,rfl,rfl,Hd (fun j hj=>by omega),Hd (Ext.refl _)⟩
 case round=>
  obtain⟨i,hi,rfl,rfl,rfl,HA,HX⟩:=hrel;have hn:=HN.out;have hus:=unS_size (step:=step) HN.out i hi;obtain⟨M,hM⟩:∃M,i*(wide+1)=M:=⟨_,rfl⟩;have hMP:i*P=M:=by rw[← hP];exact hM
  have hMI:(i:Int)*(P:Int)=(M:Int):=by rw[← hMP];simp
  have him:i≤300000:=by
   have q1:m≤m*(wide+1):=Nat.le_mul_of_pos_right _ (by omega);omega
  obtain⟨O,hO⟩:∃O,unS t wide step i=O:=⟨_,rfl⟩;have HO:=Hd hO;rw[hO] at hus⊢;have hOs:O.size≤300000:=by
   rw[hus];have q1:i*wide≤i*(wide+1):=Nat.mul_le_mul_left _ (by omega);have q2:i*(wide+1)≤m*(wide+1):=Nat.mul_le_mul_right _ hi;omega
  by_cases hlt:i<m
  ·obtain⟨M2,hM2⟩:∃M2,(i+1)*(wide+1)=M2:=⟨_,rfl⟩;have hM2l:M2≤t.size:=by rw[← hM2,hn];exact Nat.mul_le_mul_right _ hlt
   have hMM:M+P=M2:=by rw[← hM,← hM2,Nat.succ_mul,hP]
   have hM2I:((i:Int)+1)*(P:Int)=(M2:Int):=by rw[← hMM,Int.add_mul,hMI];omega
   have hML:M<t.size:=by omega
   obtain⟨Rw,hRw⟩:∃Rw,t.extract M M2=Rw:=⟨_,rfl⟩;have hRs:Rw.size=P:=by rw[← hRw,ByteArray.size_extract];omega
   have hR0:0<Rw.size:=by omega
   have hk0:Rw[0].toNat=kdT t wide i:=by subst hRw;exact kd_row M M2 hM hR0
   obtain⟨Q,hQ⟩:∃Q,Rw.extract 1 Rw.size=Q:=⟨_,rfl⟩;have hQr:Q=restT t wide i:=by rw[← hQ,← hRw];exact rest_row M M2 hM hM2 hM2l
   have hQs:Q.size=wide:=by rw[hQr];exact restT_size HN.out hlt
   have HQR:=Hd hQr;have hok:=unA_ok (step:=step) HN.out hlt;rw[← hQr] at hok;obtain⟨A,hA⟩:∃A,unA t wide step i=A:=⟨_,rfl⟩;rw[hA] at hok⊢;have HAA:=Hd hA;obtain⟨k,hk⟩:∃k,Rw[0].toNat=k:=⟨_,rfl⟩;have hk256:k<256:=by rw[← hk];exact UInt8.toNat_lt _
   have HK:Hid (kdT t wide i=k):=Hd (by rw[← hk0,hk]);have hkI:((Rw[0].toNat:Nat):Int)=(k:Int):=by rw[hk]
   have hwk:IntKind.i64.wrap (k:Int)=(k:Int):=by unfold IntKind.wrap;simp[IntKind.bits,IntKind.signed];omega
   have hPR:P=Rw.size:=hRs.symm;have hPR1:(1:Int)≤(Rw.size:Int):=by omega
   have HOK:=Hd hok;have HH1:=Hd hRs;clear hRs hPR hok hQr hA hk0 hM hM2 hMP hn hus hO;by_cases hk4:k≤4
   ·have HU:Hid (∀w5,Errs w5 E→Calls Tryz.prog 97 #[.int .i64 (k:Int),.string Q,.string A,.int .i64 (step:Int)] w5 fun e w'=>e=.returned (.tuple #[.string (undoS (k:Int) Q A step),.nilIface])∧Ext w5 w'):=Hd (fun w5 h5=>bigUndo_calls (k:Int) Q A step w5 (by omega) (by omega) (by omega) ⟨by omega,by omega,by omega,by omega⟩ HOK.out _ _ (h5.var 1 (by decide)) (h5.var 2 (by decide)));have HUA:Hid (unA t wide step (i+1)=undoS (k:Int) Q A step):=Hd (by show undoS _ _ _ _=_;rw[HK.out,HQR.out,HAA.out]);have HUS:Hid (unS t wide step (i+1)=O++undoS (k:Int) Q A step):=Hd (by show unS _ _ _ _++unA t wide step (i+1)=_;rw[HO.out,HUA.out]);have hus:(undoS (k:Int) Q A step).size=wide:=by rw[undoS_size];exact hQs
    obtain⟨V,hV⟩:∃V,undoS (k:Int) Q A step=V:=⟨_,rfl⟩;rw[hV] at HU HUA HUS hus;have HAN:Hid (∀j,j<i+1→kdT t wide j≤4):=Hd (fun j hj=>by
     rcases Nat.lt_succ_iff_lt_or_eq.1 hj with q | rfl
     ·exact HA.out j q
     ·rw[HK.out];exact hk4)
    clear hV hk;go_wp2_with fail;have HXD:Hid (Ext w wr.drew):=Hd (Below.drew HX.out);refine wp_region_held_drew (S:=fun w'=>True) (by kernel_rfl) trivial (fun hHeld=>?_);clear hHeld;have hHeld:True:=trivial;refine tkH 0 rfl hHeld ?_;(try simp only[Act.put,xz]);refine tkH 1 rfl hHeld ?_;(try simp only[Act.put,xz]);refine tkH 2 rfl hHeld ?_;(try simp only[Act.put,xz]);refine tkH 3 rfl hHeld ?_;(try simp only[Act.put,xz]);refine tkH 4 rfl hHeld ?_;(try simp only[Act.put,xz]);refine tkH 5 rfl hHeld ?_;(try simp only[Act.put,xz]);refine tkH 6 rfl hHeld ?_;(try simp only[Act.put,xz]);refine rdH 7 rfl fun KK hK=>?_;clear hHeld;go_simp;with_reducible refine (HU.out _ (HE.out.ext HXD.out)).mono ?_
    rintro e w3 ⟨rfl,h⟩;have HX2:=Hd (HXD.out.trans h);clear h;go_simp;refine hK.out _ _ trivial (fun hHeld=>?_);clear hK KK;(try simp only[Act.put,xz]);refine tkH 8 rfl hHeld ?_;(try simp only[Act.put,xz]);refine tkH 9 rfl hHeld ?_;(try simp only[Act.put,xz]);refine tkH 10 rfl hHeld ?_;(try simp only[Act.put,xz]);refine tkH 11 rfl hHeld ?_;(try simp only[Act.put,xz]);refine tkH 12 rfl hHeld ?_;(try simp only[Act.put,xz]);refine wpAnyH_done (by kernel_rfl) ?_ _;clear hHeld;go_wp2_with fail;go_roundw
    case rel=>exact⟨i+1,by omega,by go_num,by rw[HUS.out],by rw[HUA.out],HAN,HX2⟩
    case measure=>simp[intOf];omega
   ·have HU:Hid (∀w5,Errs w5 E→Calls Tryz.prog 97 #[.int .i64 (k:Int),.string Q,.string A,.int .i64 (step:Int)] w5 fun e w'=>(∃j,e=.returned (.tuple #[.string ⟨#[]⟩,.iface 275 (.pointer (some (E j)))]))∧Ext w5 w'):=Hd (fun w5 h5=>(badUndo_calls (k:Int) Q A step w5 (by omega) (by omega) (by omega) (by omega) (fun h=>by have:=h.1.2.1;omega) (E 1) (E 2) (by have:=h5.var 1 (by decide);simpa only[gk,sentV] using this) (by have:=h5.var 2 (by decide);simpa only[gk,sentV] using this)).mono (fun e w' ⟨F,q,he,hw⟩=>⟨by rcases q with⟨rfl,_⟩ | ⟨rfl,_⟩;exact⟨1,he⟩;exact⟨2,he⟩,hw▸Ext.refl _⟩));clear hk;go_wp2_with fail;have HXD:Hid (Ext w wr.drew):=Hd (Below.drew HX.out);refine wp_region_held_drew (S:=fun w'=>True) (by kernel_rfl) trivial (fun hHeld=>?_);clear hHeld;have hHeld:True:=trivial;refine tkH 0 rfl hHeld ?_;(try simp only[Act.put,xz]);refine tkH 1 rfl hHeld ?_;(try simp only[Act.put,xz]);refine tkH 2 rfl hHeld ?_;(try simp only[Act.put,xz]);refine tkH 3 rfl hHeld ?_;(try simp only[Act.put,xz]);refine tkH 4 rfl hHeld ?_;(try simp only[Act.put,xz]);refine tkH 5 rfl hHeld ?_;(try simp only[Act.put,xz]);refine tkH 6 rfl hHeld ?_;(try simp only[Act.put,xz]);refine rdH 7 rfl fun KK hK=>?_;clear hHeld;go_simp;with_reducible refine (HU.out _ (HE.out.ext HXD.out)).mono ?_
    rintro e w3 ⟨⟨j,rfl⟩,h⟩;have HX2:=Hd (HXD.out.trans h);clear h;go_simp;refine hK.out _ _ trivial (fun hHeld=>?_);clear hK KK;(try simp only[Act.put,xz]);refine tkH 8 rfl hHeld ?_;(try simp only[Act.put,xz]);refine tkH 9 rfl hHeld ?_;(try simp only[Act.put,xz]);refine tkH 10 rfl hHeld ?_;(try simp only[Act.put,xz]);refine tkH 11 rfl hHeld ?_;(try simp only[Act.put,xz]);refine tkH 12 rfl hHeld ?_;(try simp only[Act.put,xz]);refine wpAnyH_done (by kernel_rfl) ?_ _;clear hHeld;have hv:=(HE.out.ext HX2.out).var 0 (by decide);simp only[gk,sentV] at hv;go_wp2_with fail;go_region;all_goals
     (try go_wp2_with fail);go_ret2;exact back_bad HX2.out hlt HA.out (by rw[HK.out];omega) (by omega)
  ·obtain rfl:i=m:=by omega
   have hML:¬ M<t.size:=by omega
   go_wp2_with fail;go_ret2;exact⟨HX.out,.inl ⟨HA.out,by rw[HO.out];rfl⟩⟩
theorem tabZero (w:World):(zeroValue 242).run Tryz.prog w=.ok (.agg (Array.replicate 256 (.int .u32 0))) w:=by kernel_rfl
@[irreducible] def tabArr (k:Nat):Array Value:=(List.map (fun i:Nat=>Value.int .u32 ((if i<k then Crc.Tn 8 i else 0:Nat):Int)) (List.range 256)).toArray
theorem tabArr_zero:Array.replicate 256 (Value.int .u32 0)=tabArr 0:=by
 unfold tabArr;apply Array.ext
 ·simp
 ·intro i h1 h2;simp
theorem tabArr_get (k i:Nat) (h:i<256):(tabArr k)[i]? =some (.int .u32 ((if i<k then Crc.Tn 8 i else 0:Nat):Int)):=by
 unfold tabArr;simp[h]
theorem tabArr_size (k:Nat):(tabArr k).size=256:=by unfold tabArr;simp
theorem tabArr_set (k:Nat) (_h:k<256):(tabArr k).setIfInBounds k (.int .u32 (Crc.Tn 8 k:Nat))=tabArr (k+1):=by
 apply Array.ext
 ·simp[tabArr_size]
 ·intro i h1 h2;have h3:i<256:=by simpa [tabArr_size] using h2
  have e2:=tabArr_get (k+1) i h3;have e1:=tabArr_get k i h3;rw[Array.getElem?_eq_getElem h2] at e2;rw[Array.getElem?_eq_getElem (by rw[tabArr_size];exact h3)] at e1;rw[Option.some_inj] at e1 e2;rw[Array.getElem_setIfInBounds (by rw[tabArr_size];exact h3),e2,e1];by_cases hik:k=i
  ·subst hik;simp
  ·rw[if_neg hik];congr 3;have:(i<k+1)=(i<k):=by apply propext;omega
   rw[this]
  
/-- the walk's own spelling of one step -/
theorem step_spell (x:Nat) (hx:x<4294967296):
  bits BinOp.xor IntKind.u32 ((x:Int)/2) (bits BinOp.and IntKind.u32 3988292384 (-bits BinOp.and IntKind.u32 (x:Int) 1%4294967296))=((Crc.T x:Nat):Int):=by
 have e1:bits BinOp.and IntKind.u32 (x:Int) 1=((x%2:Nat):Int):=by
  have:=u32_and_nat x 1 hx (by decide);rw[nat_mask1] at this;exact this
 rw[e1];rcases Nat.mod_two_eq_zero_or_one x with h | h
 ·rw[h];have e2:bits BinOp.and IntKind.u32 3988292384 (-((0:Nat):Int)%4294967296)=((0:Nat):Int):=by
   have:=u32_and_nat 3988292384 0 (by decide) (by decide);simpa using this
  rw[e2];have:=u32_xor_nat (x/2) 0 (by omega) (by decide);rw[show ((x:Int)/2)=((x/2:Nat):Int) by omega,this];unfold Crc.T;rw[h];simp
 ·rw[h];have e2:bits BinOp.and IntKind.u32 3988292384 (-((1:Nat):Int)%4294967296)=((3988292384:Nat):Int):=by
   have:=u32_and_nat 3988292384 4294967295 (by decide) (by decide);rw[show (-((1:Nat):Int)%4294967296)=((4294967295:Nat):Int) by decide];exact this.trans (by decide)
  rw[e2];have:=u32_xor_nat (x/2) 3988292384 (by omega) (by decide);rw[show ((x:Int)/2)=((x/2:Nat):Int) by omega,this];unfold Crc.T;rw[h];simp
theorem val_u32 {a b:Int} (h:a=b):Value.int IntKind.u32 a=Value.int IntKind.u32 b:=by rw[h]
set_option maxRecDepth 10000 in
theorem table_any (w:World):Calls Tryz.prog 132 #[] w fun e w'=>e=.returned (.pointer (some ⟨w.heap.size,0,none⟩))∧w'=w.alloc (.cells (tabArr 256) 242):=by
 go_enter Tryz.func132,Tryz.ntmps132
 have hz:=tabZero;go_wp2
 rw[tabArr_zero];clear hz;go_loopw [2,3,4,9] (fun _ _ i _ wr=>∃k:Nat,k≤256∧i=.int .i64 k∧wr=w.alloc (.cells (tabArr k) 242)) (fun _ _ i _ _=>256-(intOf i).toNat)
 case atStart=>exact⟨0,by omega,rfl,rfl⟩
 case round=>
  obtain⟨k,hk,rfl,rfl⟩:=hrel;by_cases hlt:k<256
  ·go_wp2
   go_loop [3,9] (fun c j=>∃m:Nat,m≤8∧j=.int .i64 m∧c=.int .u32 ((Crc.Tn m k:Nat):Int)) (fun _ j=>8-(intOf j).toNat)
   case atStart=>exact⟨0,by omega,rfl,rfl⟩
   case round=>
    obtain⟨m,hm,rfl,rfl⟩:=hrel;have hT:Crc.Tn m k<4294967296:=Crc.Tn_lt (by omega);by_cases hm8:m<8
    ·go_wp2
     go_round
     case rel=>exact⟨m+1,by omega,by go_num,by rw[Crc.Tn_succ];exact val_u32 (step_spell _ hT)⟩
     case measure=>simp[intOf];omega
    ·obtain rfl:m=8:=by omega
     have hg:=tabArr_get k k hlt;go_wp2
     go_roundw
     case rel=>exact⟨k+1,by omega,by go_num,by rw[tabArr_set k hlt]⟩
     case measure=>simp[intOf];omega
  ·obtain rfl:k=256:=by omega
   go_wp2
   go_ret;exact⟨rfl,rfl⟩

theorem run_snoc (c:Nat) (s:ByteArray) (k:Nat) (h:k<s.size):Crc.run c (s.data.toList.take (k+1))=Crc.byte (Crc.run c (s.data.toList.take k)) s[k].toNat:=by
 rw[take_snoc s k h];simp[Crc.run,List.foldl_append]
theorem idx_spell (x b:Nat) (hb:b<256):bits BinOp.xor IntKind.u8 ((x:Int)%256) (b:Int)=((x%256 ^^^ b:Nat):Int):=by
 rw[show ((x:Int)%256)=((x%256:Nat):Int) by omega];exact u8_xor_nat _ _ (by omega) hb
theorem res_spell (x b n:Nat) (hx:x<4294967296) (hb:b<256) (hn:x%256 ^^^ b=n):bits BinOp.xor IntKind.u32 ((Crc.Tn 8 n:Nat):Int) ((x:Int)/256)=((Crc.byte x b:Nat):Int):=by
 have h256:n<2^8:=by rw[← hn];exact Nat.xor_lt_two_pow (by omega) (by omega)
 rw[show ((x:Int)/256)=((x/256:Nat):Int) by omega,u32_xor_nat _ _ (Crc.Tn_lt (by omega)) (by omega),Crc.byte_tab x b hb,hn]
theorem flip_spell (c:Nat) (hc:c<4294967296):bits BinOp.xor IntKind.u32 IntKind.u32.max (c:Int)=((Crc.flip c:Nat):Int):=by
 rw[show (IntKind.u32.max:Int)=((4294967295:Nat):Int) by decide,u32_xor_nat _ _ (by decide) hc];unfold Crc.flip;rw[Nat.xor_comm]
set_option maxRecDepth 10000 in
theorem moreCRC_any (c:Nat) (s:ByteArray) (w:World) (hc:c<4294967296) (hs:s.size≤maxLen):
  Calls Tryz.prog 92 #[.int .u32 (c:Int),.string s] w fun e w'=>e=.returned (.int .u32 ((Crc.more c s.data.toList:Nat):Int))∧Ext w w':=by
 unfold maxLen at hs;have hflip:=flip_spell c hc;go_enter Tryz.func92,Tryz.ntmps92
 go_wp2_with (go_at_call 132;refine (table_any _).mono ?_;rintro e w' ⟨rfl,rfl⟩);clear hflip;have hlt0:Crc.flip c<4294967296:=Crc.flip_lt hc;go_loopw [0,6,12] (fun v _ i wr=>∃k n:Nat,k≤s.size∧i=.int .i64 k∧v=.int .u32 ((Crc.run (Crc.flip c) (s.data.toList.take k):Nat):Int)∧wr=(w.alloc (.cells (tabArr 256) 242)).drewN n) (fun _ _ i _=>s.size-(intOf i).toNat)
 case atStart=>exact⟨0,0,by omega,rfl,rfl,rfl⟩
 case round=>
  obtain⟨k,n,hk,rfl,rfl,rfl⟩:=hrel;have hx:Crc.run (Crc.flip c) (s.data.toList.take k)<4294967296:=Crc.run_lt hlt0 _;by_cases hlt:k<s.size
  ·have HS:=Hd (run_snoc (Crc.flip c) s k hlt);obtain⟨x,hxe⟩:∃x,x=Crc.run (Crc.flip c) (s.data.toList.take k):=⟨_,rfl⟩;rw[← hxe] at hx HS;rw[← hxe];have HX:=Hd hxe;clear hxe;have hb:s[k].toNat<256:=s[k].toNat_lt;have h256:x%256 ^^^ s[k].toNat<2^8:=Nat.xor_lt_two_pow (by omega) (by omega);obtain⟨j,hj⟩:∃j,x%256 ^^^ s[k].toNat=j:=⟨_,rfl⟩;have e1:=idx_spell x s[k].toNat hb;have e2:=res_spell x s[k].toNat j hx hb hj;rw[hj] at e1 h256;have h257:(j:Int)<256:=by omega
   have e3:=tabArr_get 256 j (by omega);rw[if_pos (by omega)] at e3;clear hj h256;go_wp2
   go_quiet (fail)
   go_wp2
   go_roundw
   case rel=>exact⟨k+1,_,by omega,by go_num,by rw[HS.out],rfl⟩
   case measure=>simp[intOf];omega
  ·obtain rfl:k=s.size:=by omega
   have ht:List.take s.size s.data.toList=s.data.toList:=List.take_of_length_le (by simp);rw[ht] at hx⊢;clear ht;have e1:=flip_spell _ hx;go_wp2
   go_ret;exact⟨rfl,((Ext.refl w).alloc _).drewN _⟩
theorem crc_any (s:ByteArray) (w:World) (hs:s.size≤maxLen):
  Calls Tryz.prog 59 #[.string s] w fun e w'=>e=.returned (.int .u32 ((Crc.crc s.data.toList:Nat):Int))∧Ext w w':=by
 go_enter Tryz.func59,Tryz.ntmps59
 go_wp2_with (go_at_call 92;refine (moreCRC_any 0 _ _ (by omega) hs).mono ?_;rintro e w' ⟨rfl,h⟩);go_ret;exact⟨rfl,h⟩
def letterB (b:UInt8):Bool:=decide (97≤(b ||| 32).toNat)&&decide ((b ||| 32).toNat≤122)
def kindB (l:List UInt8):Bool:=decide (l.length=4)&&l.all letterB
theorem all_take {l:List UInt8} {p:UInt8→Bool} {k:Nat} (h:(l.take k).all p=false):l.all p=false:=by
 rw[← List.take_append_drop k l,List.all_append,h];rfl
theorem all_take_succ {l:List UInt8} {p:UInt8→Bool} {k:Nat} (hk:k<l.length):(l.take (k+1)).all p=((l.take k).all p&&p l[k]):=by
 rw[List.take_add_one,List.getElem?_eq_getElem hk,List.all_append];simp
theorem or32_fin:∀n:Fin 256,bits BinOp.or IntKind.u8 (n.val:Int) 32=((n.val ||| 32:Nat):Int):=by decide +kernel
theorem or32 (b:UInt8):bits BinOp.or IntKind.u8 (b.toNat:Int) 32=((b ||| 32).toNat:Int):=by
 have h:=or32_fin ⟨b.toNat,b.toNat_lt⟩;rw[UInt8.toNat_or];exact h
theorem isKind_any (s:ByteArray) (w:World) (hs:s.size≤maxLen):
  Calls Tryz.prog 57 #[.string s] w fun e w'=>e=.returned (.bool (kindB s.data.toList))∧w=w':=by
 unfold maxLen at hs;by_cases h4:s.size=4
 ·have t4:((s.size:Int) ==4)=true:=beq_iff_eq.2 (by omega);go_enter Tryz.func57,Tryz.ntmps57
  go_wp2_with fail;go_loop [3,4] (fun o c=>∃k:Nat,k≤s.size∧c=.int .i64 k∧o=.bool ((s.data.toList.take k).all letterB)) (fun _ c=>s.size-(intOf c).toNat)
  case atStart=>exact⟨0,by omega,rfl,by rw[List.take_zero];rfl⟩
  case round=>
   obtain⟨k,hk,rfl,rfl⟩:=hrel;obtain⟨o,ho⟩:∃o,(s.data.toList.take k).all letterB=o:=⟨_,rfl⟩;rw[ho];by_cases hlt:k<s.size
   ·have t0:decide ((k:Int)<(s.size:Int))=true:=decide_eq_true (by omega);cases o with
    | true=>
     have hb:(s.data.toList.take (k+1)).all letterB=letterB s[k]:=by
      rw[all_take_succ (by rw[bytes_len];exact hlt),ho];rfl
     have e1:=or32 s[k];obtain⟨b,hbb⟩:∃b,s[k]=b:=⟨_,rfl⟩;rw[hbb] at hb e1;obtain⟨m,hm⟩:∃m,(b ||| 32).toNat=m:=⟨_,rfl⟩;have hlet:letterB b=(decide (97≤m)&&decide (m≤122)):=by unfold letterB;rw[hm]
     rw[hm] at e1;have e2:bits BinOp.or IntKind.u8 (s[k].toNat:Int) 32=(m:Int):=by rw[hbb];exact e1
     by_cases q1:97≤m
     ·have t1:decide ((97:Int)≤(m:Int))=true:=decide_eq_true (by omega);go_wp2_with fail;go_round
      case rel=>exact⟨k+1,by omega,by go_num,by rw[hb,hlet,decide_eq_true q1,Bool.true_and];exact congrArg Value.bool (by rw[Bool.eq_iff_iff,decide_eq_true_iff,decide_eq_true_iff];omega)⟩
      case measure=>simp[intOf];omega
     ·have t1:decide ((97:Int)≤(m:Int))=false:=decide_eq_false (by omega);go_wp2_with fail;go_round
      case rel=>exact⟨k+1,by omega,by go_num,by rw[hb,hlet,decide_eq_false q1];rfl⟩
      case measure=>simp[intOf];omega
    | false=>
     go_wp2_with fail;go_ret;exact⟨ret_bool (by unfold kindB;rw[all_take ho,Bool.and_false]),rfl⟩
   ·obtain rfl:k=s.size:=by omega
    have t0:decide ((s.size:Int)<(s.size:Int))=false:=decide_eq_false (by omega);rw[List.take_of_length_le (by rw[bytes_len];omega)] at ho;go_wp2_with fail;go_ret;exact⟨ret_bool (by unfold kindB;rw[ho,bytes_len,decide_eq_true h4,Bool.true_and]),rfl⟩
 ·have t4:((s.size:Int) ==4)=false:=beq_eq_false_iff_ne.2 (by omega);go_enter Tryz.func57,Tryz.ntmps57
  go_wp2_with fail;go_loop [3,4] (fun o c=>c=.int .i64 0∧o=.bool false) (fun _ c=>0)
  case atStart=>exact⟨rfl,rfl⟩
  case round=>
   obtain⟨rfl,rfl⟩:=hrel;by_cases hlt:0<s.size
   ·have t0:decide ((0:Int)<(s.size:Int))=true:=decide_eq_true (by omega);go_wp2_with fail;go_ret;exact⟨ret_bool (by unfold kindB;rw[bytes_len,decide_eq_false h4];rfl),rfl⟩
   ·have t0:decide ((0:Int)<(s.size:Int))=false:=decide_eq_false (by omega);go_wp2_with fail;go_ret;exact⟨ret_bool (by unfold kindB;rw[bytes_len,decide_eq_false h4];rfl),rfl⟩
theorem number_any (n:Nat) (hn:n<4294967296) (w:World):Calls Tryz.prog 52 #[.int .u32 (n:Int)] w fun e w'=>e=.returned (.string ⟨(big4 n).toArray⟩)∧Ext w w':=by
  obtain⟨wa,hwa⟩:∃wa,wa=w.alloc (.cells #[.int .u8 ((n:Int)/16777216),.int .u8 ((n:Int)/65536%256),.int .u8 ((n:Int)/256%256),.int .u8 ((n:Int)%256)] 5):=⟨_,rfl⟩;have hcr:(convert 62 9 (.slice (some ⟨w.heap.size,0,none⟩) 4 4)).run Tryz.prog wa=.ok (.string ⟨(big4 n).toArray⟩) wa:=by
    refine run_convert_bytes_back (P:=Tryz.prog) wa 62 9 5 ⟨w.heap.size,0,none⟩ 4 (big4 n) Tryz.underlying62 Tryz.underlying5 Tryz.underlying9 (fun j hj=>?_);have hj4:j<4:=hj;rw[add_plain,hwa];match j,hj4 with
    | 0,_=>simp[big4];omega
    | 1,_=>simp[big4]
    | 2,_=>simp[big4]
    | 3,_=>simp[big4]
  rw[hwa] at hcr;clear hwa wa;go_enter Tryz.func52,Tryz.ntmps52
  go_wp2_with fail;go_ret;exact⟨rfl,(Ext.refl _).alloc _⟩
theorem value_any (s:ByteArray) (w:World) (hs:s.size≤maxLen):Calls Tryz.prog 62 #[.string s] w fun e w'=>e=.returned (.int .u32 ((valN s.data.toList:Nat):Int))∧w=w':=by
  unfold maxLen at hs;go_enter Tryz.func62,Tryz.ntmps62
  go_wp2_with fail;go_loop [2,6] (fun x c=>∃k:Nat,k≤s.size∧c=.int .i64 k∧x=.int .u32 ((valN (s.data.toList.take k):Nat):Int)) (fun _ c=>s.size-(intOf c).toNat)
  case atStart=>exact⟨0,by omega,rfl,by rw[List.take_zero];rfl⟩
  case round=>
    obtain⟨k,hk,rfl,rfl⟩:=hrel;by_cases hlt:k<s.size
    · have t0:decide ((k:Int)<(s.size:Int))=true:=decide_eq_true (by omega);have hv:valN (s.data.toList.take (k+1))=vstep (valN (s.data.toList.take k)) s[k]:=valN_succ (by rw[bytes_len];exact hlt);obtain⟨x,hx⟩:∃x,valN (s.data.toList.take k)=x:=⟨_,rfl⟩;have hxl:=valN_lt (s.data.toList.take k);rw[hx] at hv hxl⊢;have ho:=or_low8 x s[k];go_wp2_with fail;go_round
      case rel=>exact⟨k+1,by omega,by go_num,by rw[hv]⟩
      case measure=>simp[intOf];omega
    · obtain rfl:k=s.size:=by omega
      have t0:decide ((s.size:Int)<(s.size:Int))=false:=decide_eq_false (by omega);have e1:s.data.toList.take s.size=s.data.toList:=List.take_of_length_le (by rw[bytes_len];omega);rw[e1];go_wp2_with fail;go_ret;exact⟨rfl,rfl⟩
def sigB:List UInt8:=[137,80,78,71,13,10,26,10]
end Go.Proofs.YthlibiocadimhaaGreatDoor
