/-
  deflate.stored, deflate.Stored.
  Plain law of the Adler sum. No program in sight.
  (For a seat without CRC.) Contracts of sum.MoreAdler, sum.Adler: what they compute; the world is as it was.
  Four bytes of a number; the document's BigOf.
  deflate.Deflate, deflate.Zip.
  The document's bits of a text, and the number of bits.
  The document's reader of packed texts: its memory; ok, fail, align, get.
  A zipped text: its head, its sum.
-/
import Derived.Test.YthlibiocadimhaaGreatDoorPngTwiceG1
import Derived.Test.YthlibiocadimhaaGreatDoorPngTwiceG16
import Derived.Test.YthlibiocadimhaaGreatDoorPngTwiceG5
import Derived.Test.YthlibiocadimhaaGreatDoorPngTwiceG6
import Derived.Deep.LoopGhost
import Derived.Deep.DeepCutAuto
import Derived.Deep.CutBlock
import Derived.Test.YthlibiocadimhaaGreatDoorPngTwiceG2
import Derived.Test.YthlibiocadimhaaGreatDoorPngTwiceG12
import Derived.Test.YthlibiocadimhaaGreatDoorPngTwiceG13
import Derived.Test.YthlibiocadimhaaGreatDoorPngTwiceG14
import Derived.Test.YthlibiocadimhaaGreatDoorPngTwiceG3
set_option linter.unusedSimpArgs false
set_option linter.unusedVariables false
set_option maxRecDepth 100000
namespace Go.Proofs.YthlibiocadimhaaGreatDoor
open Go.RowKit
theorem xor16 (n:Nat) (h:n<65536):bits BinOp.xor IntKind.u32 (n:Int) 65535=((65535-n:Nat):Int):=by
 rw[show (65535:Int)=((65535:Nat):Int) from rfl,u32_xor_nat n 65535 (by omega) (by decide),xor_ones n h]
theorem num_blk (done p:List UInt8) (last:Nat) (hl:last<2) (hp:p.length≤65535):Crc.num done+last*2^(8*done.length)+p.length*2^(8*(done.length+1))+(65535-p.length)*2^(8*(done.length+1)+16)+Crc.num p*2^(8*(done.length+1)+16+16)=Crc.num (done++Sto.blk last p):=by
 rw[numcat];have hM:Crc.num (Sto.blk last p)=last+256*(p.length%256+256*(p.length/256+256*((255-p.length%256)+256*((255-p.length/256)+256*Crc.num p)))):=by
  unfold Sto.blk;simp only[List.cons_append,List.nil_append,Crc.num];rw[Sto.ofNat_toNat _ (by omega),Sto.ofNat_toNat _ (by omega),Sto.ofNat_toNat _ (by omega),Sto.ofNat_toNat _ (by omega),Sto.ofNat_toNat _ (by omega)]
 rw[hM];obtain⟨X,hX⟩:∃X,2^(8*done.length)=X:=⟨_,rfl⟩;have e1:2^(8*(done.length+1))=X*256:=by rw[← hX,Nat.mul_add,Nat.pow_add]
 have e2:2^(8*(done.length+1)+16)=X*16777216:=by rw[Nat.pow_add,e1,Nat.mul_assoc]
 have e3:2^(8*(done.length+1)+16+16)=X*1099511627776:=by rw[Nat.pow_add,e2,Nat.mul_assoc]
 rw[hX,e1,e2,e3];obtain⟨n,hn⟩:∃n,p.length=n:=⟨_,rfl⟩;rw[hn] at hp⊢;generalize Crc.num p=z;generalize Crc.num done=q;have e4:last+256*(n%256+256*(n/256+256*((255-n%256)+256*((255-n/256)+256*z))))=last+n*256+(65535-n)*16777216+z*1099511627776:=by omega
 rw[e4];simp only[Nat.add_mul,Nat.mul_comm X,Nat.mul_assoc,Nat.add_assoc]
structure StoGo (w0 wr:World) (B:Nat) (v:Value) (done:List UInt8):Prop where
 at_:WAt wr B 0 v (Crc.num done) (8*done.length)
 ext:Ext w0 wr
 nb:w0.heap.size≤B
 nv:∀k,v.ownBlock=some k→w0.heap.size≤k
theorem StoGo.step {w0 wr w':World} {B:Nat} {v v':Value} (he:Ext w0 wr) (hb:w0.heap.size≤B) (hv:∀k,v.ownBlock=some k→w0.heap.size≤k) (hs:WStep wr w' B 0 v v'):Ext w0 w'∧∀k,v'.ownBlock=some k→w0.heap.size≤k:=by
 refine⟨Below.trans he (hs.keeps.below he.size (fun k hk q=>?_)),fun k q=>?_⟩
 ·rcases q with q | q
  ·omega
  ·have:=hv k q;omega
 ·rcases hs.new k q with r | r
  ·exact hv k r
  ·have:=he.size;omega
set_option maxHeartbeats 4000000 in
theorem stored_calls (t:ByteArray) (w:World) (ht:t.size≤300000):
  Calls Tryz.prog 87 #[.string t] w fun e w'=>e=.returned (.string (tb (Sto.all (t.size+1) t.data.toList)))∧Ext w w':=by
 obtain⟨A,hA⟩:∃A,Sto.all (t.size+1) t.data.toList=A:=⟨_,rfl⟩;rw[hA];have hAl:A.length≤300100:=by rw[← hA];have:=Sto.all_length (t.size+1) t.data.toList;rw[list_size] at this;omega
 have HA:=Hd hA;clear hA;go_enter Tryz.func87,Tryz.ntmps87
 go_upto_block 0 with fail;obtain⟨B,hB⟩:∃B,w.heap.size=B:=⟨_,rfl⟩;refine wp_world (fun wz=>Hid (StoGo w wz B (.slice none 0 0) [])) (Hd ⟨⟨?_,?_,?_,?_,⟨[],rfl,rfl,World.ownsRow_nil _ _ _ _⟩,(by intro e;cases e),by simp[Crc.num]⟩,(Ext.refl w).alloc _,by omega,fun k q=>by cases q⟩) ?_
 ·subst hB;exact World.cell?_alloc_at _ _ _ _ rfl
 ·subst hB;exact World.cell?_alloc_at _ _ _ _ rfl
 ·subst hB;exact World.frozen?_alloc_at _ _ _ _ rfl
 ·subst hB;exact World.frozen?_alloc_at _ _ _ _ rfl
 rw[hB];have HBB:=Hd hB;clear hB;rintro w1 HS;go_wp2_with fail;go_loopw [0] (fun y wr=>∃(R:ByteArray) (done:List UInt8) (k:Nat) (v:Value),y=.string R∧R.size≤t.size∧Hid (done++Sto.all k R.data.toList=A)∧Hid (R.size<k)∧Hid (StoGo w wr B v done)) (fun y _=>match y with | .string R=>R.size | _=>0)
 case atStart=>exact⟨t,[],t.size+1,_,rfl,Nat.le_refl _,Hd (by rw[List.nil_append];exact HA.out),Hd (Nat.lt_succ_self _),HS⟩
 case round=>
  clear HS HA;obtain⟨R,done,k,v,rfl,hRt,HD,HK,HS⟩:=hrel;obtain⟨d,hd⟩:∃d,done.length=d:=⟨_,rfl⟩;have hdb:d≤300100:=by have:=congrArg List.length HD.out;rw[List.length_append] at this;omega
  have HDl:=Hd hd;have HAt:=Hd HS.out.at_;rw[hd] at HAt;have HE:=Hd HS.out.ext;have HNB:=Hd HS.out.nb;have HNV:=Hd HS.out.nv;obtain⟨V,hV⟩:∃V,Crc.num done=V:=⟨_,rfl⟩;rw[hV] at HAt;have HV:=Hd hV;obtain⟨k,rfl⟩:∃j,k=j+1:=⟨k-1,by have:=HK.out;omega⟩;clear HS hd hV;by_cases h6:R.size≤65535
  ·obtain⟨n,hn⟩:∃n,R.size=n:=⟨_,rfl⟩;have HNn:=Hd hn;have t1:((n:Int) ==(R.size:Int))=true:=beq_iff_eq.2 (by omega);have HDA:Hid (done++Sto.blk 1 R.data.toList=A):=Hd (by rw[← HD.out,Sto.all_last (by rw[list_size];exact h6)]);have hnR:n≤R.size:=by omega
   have hnRI:(n:Int)≤(R.size:Int):=by omega
   have hn0:(0:Int)≤(n:Int):=by omega
   have hnt:((n:Nat):Int).toNat=n:=by omega
   have hmn:(if (R.size:Int)<65535 then (R.size:Int) else 65535)=(n:Int):=by split <;> omega
   have hn6:n<65536:=by omega
   have wn:∀z,z=(n:Int)→IntKind.u32.wrap z=z:=by rintro _ rfl;unfold IntKind.wrap;simp[IntKind.bits,IntKind.signed];omega
   have hkm:(n:Int)%4294967296=(n:Int):=by omega
   have hxo:=xor16 n hn6;obtain⟨y,hy⟩:∃y,65535-n=y:=⟨_,rfl⟩;rw[hy] at hxo;have HY:=Hd hy;have hy6:y<65536:=by omega
   clear hy;(try clear hn);go_wp2_with fail;refine (put_in B 0 (8*d) V 1 3 _ _ HAt.out (by decide) (by decide) (by omega)).mono ?_;rintro e w2 ⟨rfl,v2,h2,s2⟩;have HAt2:=Hd h2;obtain⟨q1,q2⟩:=StoGo.step HE.out HNB.out HNV.out s2;have HE2:=Hd q1;have HNV2:=Hd q2;clear h2 s2 q1 q2 HAt HE HNV;go_wp2_with fail;refine (align_calls B 0 _ _ _ _ HAt2.out (by omega)).mono ?_;rintro e w3 ⟨rfl,h3,s3⟩;rw[show (8*d+3+7)/8*8=8*(d+1) by omega] at h3;have HAt3:=Hd h3;obtain⟨q1,q2⟩:=StoGo.step HE2.out HNB.out HNV2.out s3;have HE3:=Hd q1;have HNV3:=Hd q2;clear h3 s3 q1 q2 HAt2 HE2 HNV2;go_wp2_with fail;refine (put_in B 0 _ _ n 16 _ _ HAt3.out (by decide) (by omega) (by omega)).mono ?_;rintro e w4 ⟨rfl,v4,h4,s4⟩;have HAt4:=Hd h4;obtain⟨q1,q2⟩:=StoGo.step HE3.out HNB.out HNV3.out s4;have HE4:=Hd q1;have HNV4:=Hd q2;clear h4 s4 q1 q2 HAt3 HE3 HNV3;go_wp2_with fail;refine (put_in B 0 _ _ y 16 _ _ HAt4.out (by decide) (by omega) (by omega)).mono ?_;rintro e w5 ⟨rfl,v5,h5,s5⟩;have HAt5:=Hd h5;obtain⟨q1,q2⟩:=StoGo.step HE4.out HNB.out HNV4.out s5;have HE5:=Hd q1;have HNV5:=Hd q2;clear h5 s5 q1 q2 HAt4 HE4 HNV4 wn hkm hxo;obtain⟨P,hP⟩:∃P,R.extract 0 n=P:=⟨_,rfl⟩;have hPs:P.size=n:=by rw[← hP];simp;omega
   have hPl:P.data.toList=R.data.toList.take n:=by rw[← hP,ex_list];simp
   have HPl:=Hd hPl;have HPs:=Hd hPs;have hb5:8*(d+1)+16+16+8*P.size<1099511627776:=by omega
   clear hPl hPs;go_wp2_with fail;(try rw[hP]);refine (bytes_calls B 0 _ _ _ P _ HAt5.out (by omega) hb5).mono ?_;rintro e w6 ⟨rfl,v6,h6x,s6⟩;clear hP;have HF:Hid (StoGo w w6 B v6 (done++Sto.blk 1 P.data.toList)):=Hd (by
    obtain⟨q1,q2⟩:=StoGo.step HE5.out HNB.out HNV5.out s6;refine⟨?_,q1,HNB.out,q2⟩;have hpl:P.data.toList.length=n:=by rw[list_size];exact HPs.out
    have e1:=num_blk done P.data.toList 1 (by decide) (by omega);rw[HDl.out,HV.out,hpl,HY.out] at e1;rw[← e1,List.length_append,HDl.out,Sto.blk_length,hpl,show 8*(d+(5+n))=8*(d+1)+16+16+8*n by omega];rw[HPs.out] at h6x;exact h6x)
   clear h6x s6 HAt5 HE5 HNV5;have HPR:Hid (P.data.toList=R.data.toList):=Hd (by rw[HPl.out,List.take_of_length_le (by rw[list_size,HNn.out];exact Nat.le_refl _)]);have hE:R.extract n R.size=⟨#[]⟩:=by rw[HNn.out];apply bts_ext;rw[ex_list];simp
   go_wp2_with fail;refine (text_calls B 0 _ _ _ _ HF.out.at_).mono ?_;rintro e w7 ⟨⟨l,hl,hV,rfl⟩,h7⟩;subst h7;have hlA:l=A:=by
    have e1:l=done++Sto.blk 1 P.data.toList:=Crc.num_inj _ _ (by rw[hl];omega) hV;rw[e1,HPR.out,HDA.out]
   subst hlA;go_wp2_with fail;go_ret;refine⟨?_,HF.out.ext⟩;rw[tb_eq];rfl
  ·have t1:((65535:Int) ==(R.size:Int))=false:=beq_eq_false_iff_ne.2 (by omega);obtain⟨n,hn⟩:∃n,n=65535:=⟨_,rfl⟩;have HN:=Hd hn;have hnI:(65535:Int)=(n:Int):=by omega
   rw[hnI] at t1;have HDA:Hid (done++(Sto.blk 0 (R.data.toList.take n)++Sto.all k (R.data.toList.drop n))=A):=Hd (by rw[← HD.out,Sto.all_more (by rw[list_size];exact h6),hn]);clear hnI;have hnR:n≤R.size:=by omega
   have hnRI:(n:Int)≤(R.size:Int):=by omega
   have hn0:(0:Int)≤(n:Int):=by omega
   have hnt:((n:Nat):Int).toNat=n:=by omega
   have hmn:(if (R.size:Int)<65535 then (R.size:Int) else 65535)=(n:Int):=by split <;> omega
   have hn6:n<65536:=by omega
   have wn:∀z,z=(n:Int)→IntKind.u32.wrap z=z:=by rintro _ rfl;unfold IntKind.wrap;simp[IntKind.bits,IntKind.signed];omega
   have hkm:(n:Int)%4294967296=(n:Int):=by omega
   have hxo:=xor16 n hn6;obtain⟨y,hy⟩:∃y,65535-n=y:=⟨_,rfl⟩;rw[hy] at hxo;have HY:=Hd hy;have hy6:y<65536:=by omega
   clear hy;(try clear hn);go_wp2_with fail;refine (put_in B 0 (8*d) V 0 3 _ _ HAt.out (by decide) (by decide) (by omega)).mono ?_;rintro e w2 ⟨rfl,v2,h2,s2⟩;have HAt2:=Hd h2;obtain⟨q1,q2⟩:=StoGo.step HE.out HNB.out HNV.out s2;have HE2:=Hd q1;have HNV2:=Hd q2;clear h2 s2 q1 q2 HAt HE HNV;go_wp2_with fail;refine (align_calls B 0 _ _ _ _ HAt2.out (by omega)).mono ?_;rintro e w3 ⟨rfl,h3,s3⟩;rw[show (8*d+3+7)/8*8=8*(d+1) by omega] at h3;have HAt3:=Hd h3;obtain⟨q1,q2⟩:=StoGo.step HE2.out HNB.out HNV2.out s3;have HE3:=Hd q1;have HNV3:=Hd q2;clear h3 s3 q1 q2 HAt2 HE2 HNV2;go_wp2_with fail;refine (put_in B 0 _ _ n 16 _ _ HAt3.out (by decide) (by omega) (by omega)).mono ?_;rintro e w4 ⟨rfl,v4,h4,s4⟩;have HAt4:=Hd h4;obtain⟨q1,q2⟩:=StoGo.step HE3.out HNB.out HNV3.out s4;have HE4:=Hd q1;have HNV4:=Hd q2;clear h4 s4 q1 q2 HAt3 HE3 HNV3;go_wp2_with fail;refine (put_in B 0 _ _ y 16 _ _ HAt4.out (by decide) (by omega) (by omega)).mono ?_;rintro e w5 ⟨rfl,v5,h5,s5⟩;have HAt5:=Hd h5;obtain⟨q1,q2⟩:=StoGo.step HE4.out HNB.out HNV4.out s5;have HE5:=Hd q1;have HNV5:=Hd q2;clear h5 s5 q1 q2 HAt4 HE4 HNV4 wn hkm hxo;obtain⟨P,hP⟩:∃P,R.extract 0 n=P:=⟨_,rfl⟩;have hPs:P.size=n:=by rw[← hP];simp;omega
   have hPl:P.data.toList=R.data.toList.take n:=by rw[← hP,ex_list];simp
   have HPl:=Hd hPl;have HPs:=Hd hPs;have hb5:8*(d+1)+16+16+8*P.size<1099511627776:=by omega
   clear hPl hPs;go_wp2_with fail;(try rw[hP]);refine (bytes_calls B 0 _ _ _ P _ HAt5.out (by omega) hb5).mono ?_;rintro e w6 ⟨rfl,v6,h6x,s6⟩;clear hP;have HF:Hid (StoGo w w6 B v6 (done++Sto.blk 0 P.data.toList)):=Hd (by
    obtain⟨q1,q2⟩:=StoGo.step HE5.out HNB.out HNV5.out s6;refine⟨?_,q1,HNB.out,q2⟩;have hpl:P.data.toList.length=n:=by rw[list_size];exact HPs.out
    have e1:=num_blk done P.data.toList 0 (by decide) (by omega);rw[HDl.out,HV.out,hpl,HY.out] at e1;rw[← e1,List.length_append,HDl.out,Sto.blk_length,hpl,show 8*(d+(5+n))=8*(d+1)+16+16+8*n by omega];rw[HPs.out] at h6x;exact h6x)
   clear h6x s6 HAt5 HE5 HNV5;obtain⟨S,hS⟩:∃S,R.extract n R.size=S:=⟨_,rfl⟩;have hSs:S.size=R.size-n:=by rw[← hS];simp
   have hSl:S.data.toList=R.data.toList.drop n:=by rw[← hS,ex_list,List.take_of_length_le (by rw[List.length_drop,list_size];omega)]
   have hne:S.toList.isEmpty=false:=emp_no S (by omega);have HSl:=Hd hSl;have HSs:=Hd hSs;clear hSl hSs;go_wp2_with fail;go_roundw
   case rel=>exact⟨S,done++Sto.blk 0 P.data.toList,k,_,rfl,by have:=HSs.out;omega,Hd (by rw[List.append_assoc,HPl.out,HSl.out];exact HDA.out),Hd (by have:=HSs.out;have:=HK.out;have:=HN.out;omega),HF⟩
   case measure=>show S.size<R.size;have:=HSs.out;have:=HN.out;omega
end Go.Proofs.YthlibiocadimhaaGreatDoor
namespace Adl
def step (p:Nat × Nat) (b:Nat):Nat × Nat:=((p.1+b)%65521,(p.2+(p.1+b)%65521)%65521)
def run (p:Nat × Nat) (l:List UInt8):Nat × Nat:=l.foldl (fun p b=>step p b.toNat) p
def tell (p:Nat × Nat):Nat:=p.2*65536+p.1
def start (a:Nat):Nat × Nat:=(a%65536%65521,a/65536%65521)
def more (a:Nat) (l:List UInt8):Nat:=tell (run (start a) l)
def adler (l:List UInt8):Nat:=more 1 l
def Ok (p:Nat × Nat):Prop:=p.1<65521∧p.2<65521
theorem start_ok (a:Nat):Ok (start a):=⟨Nat.mod_lt _ (by decide),Nat.mod_lt _ (by decide)⟩
theorem step_ok (p:Nat × Nat) (b:Nat):Ok (step p b):=⟨Nat.mod_lt _ (by decide),Nat.mod_lt _ (by decide)⟩
theorem run_ok {p:Nat × Nat} (h:Ok p) (l:List UInt8):Ok (run p l):=by
  induction l generalizing p with
  | nil=>exact h
  | cons b l ih=>exact ih (step_ok p b.toNat)
theorem tell_lt {p:Nat × Nat} (h:Ok p):tell p<4294967296:=by obtain⟨h1,h2⟩:=h;unfold tell;omega
theorem more_lt (a:Nat) (l:List UInt8):more a l<4294967296:=tell_lt (run_ok (start_ok a) l)
end Adl
namespace Go.Proofs.YthlibiocadimhaaGreatDoor
open Go.RowKit
theorem take_snoc (s:ByteArray) (k:Nat) (h:k<s.size):s.data.toList.take (k+1)=s.data.toList.take k ++ [s[k]]:=by
 rw[List.take_succ_eq_append_getElem (by simpa using h)];rfl
theorem adl_snoc (p:Nat × Nat) (s:ByteArray) (k:Nat) (h:k<s.size):Adl.run p (s.data.toList.take (k+1))=Adl.step (Adl.run p (s.data.toList.take k)) s[k].toNat:=by
 rw[take_snoc s k h];simp[Adl.run,List.foldl_append]
theorem or_tell (x y:Nat) (hx:x<65521) (hy:y<65521):bits BinOp.or IntKind.u32 ((y:Int)*65536) (x:Int)=((Adl.tell (x,y):Nat):Int):=by
 rw[show ((y:Int)*65536)=((y*65536:Nat):Int) by omega,u32_or_nat _ _ (by omega) (by omega)];rw[nat_join 16 (y*65536) x (by omega) (by omega)];rfl
theorem moreAdler_any (a:Nat) (s:ByteArray) (w:World) (ha:a<4294967296) (hs:s.size≤maxLen):
  Calls Tryz.prog 90 #[.int .u32 (a:Int),.string s] w fun e w'=>e=.returned (.int .u32 ((Adl.more a s.data.toList:Nat):Int))∧w=w':=by
 unfold maxLen at hs;have ea:bits BinOp.and IntKind.u32 (a:Int) 65535=((a%65536:Nat):Int):=by
  have:=u32_and_nat a 65535 ha (by decide);rw[nat_mask16] at this;exact this
 go_enter Tryz.func90,Tryz.ntmps90
 go_wp2
 clear ea;go_loop [5,6,7,16] (fun u v _ i=>∃k x y:Nat,k≤s.size∧x<65521∧y<65521∧Hid (Adl.run (Adl.start a) (s.data.toList.take k)=(x,y))∧i=.int .i64 k∧u=.int .u32 x∧v=.int .u32 y) (fun _ _ _ i=>s.size-(intOf i).toNat)
 case atStart=>exact⟨0,a%65536%65521,a/65536%65521,by omega,by omega,by omega,rfl,rfl,by go_num,by go_num⟩
 case round=>
  obtain⟨k,x,y,hk,hx,hy,HR,rfl,rfl,rfl⟩:=hrel;by_cases hlt:k<s.size
  ·have HS:Hid (Adl.run (Adl.start a) (s.data.toList.take (k+1))=((x+s[k].toNat)%65521,(y+(x+s[k].toNat)%65521)%65521)):=by
    have:=adl_snoc (Adl.start a) s k hlt;rw[HR.out] at this;exact this
   have hb:s[k].toNat<256:=s[k].toNat_lt;go_wp2
   go_round
   case rel=>exact⟨k+1,_,_,by omega,Nat.mod_lt _ (by decide),Nat.mod_lt _ (by decide),HS,by go_num,by go_num,by go_num⟩
   case measure=>simp[intOf];omega
  ·obtain rfl:k=s.size:=by omega
   have eo:=or_tell x y hx hy;have HF:Hid (Adl.more a s.data.toList=Adl.tell (x,y)):=by
    have:=HR.out;rw[List.take_of_length_le (by simp)] at this;unfold Adl.more;rw[this];rfl
   go_wp2
   go_ret;exact⟨by rw[HF.out];rfl,rfl⟩
theorem adler_any (s:ByteArray) (w:World) (hs:s.size≤maxLen):
  Calls Tryz.prog 55 #[.string s] w fun e w'=>e=.returned (.int .u32 ((Adl.adler s.data.toList:Nat):Int))∧w=w':=by
 go_enter Tryz.func55,Tryz.ntmps55
 go_wp2_with (go_at_call 90;refine (moreAdler_any 1 _ _ (by omega) hs).mono ?_;rintro e w' ⟨rfl,rfl⟩);go_ret;exact⟨rfl,rfl⟩
theorem bytes_len (s:ByteArray):s.data.toList.length=s.size:=rfl
def vstep (x:Nat) (b:UInt8):Nat:=x%16777216*256+b.toNat
def valN (l:List UInt8):Nat:=l.foldl vstep 0
theorem vstep_lt (x:Nat) (b:UInt8):vstep x b<4294967296:=by unfold vstep;have:=b.toNat_lt;omega
theorem valN_succ {l:List UInt8} {k:Nat} (hk:k<l.length):valN (l.take (k+1))=vstep (valN (l.take k)) l[k]:=by
  unfold valN;rw[List.take_add_one,List.getElem?_eq_getElem hk,List.foldl_append];rfl
theorem valN_lt (l:List UInt8):valN l<4294967296:=by
  rcases List.eq_nil_or_concat l with rfl | ⟨q,b,rfl⟩
  · decide
  · unfold valN;rw[List.concat_eq_append,List.foldl_append];exact vstep_lt _ _
theorem valN_four (a b c d:UInt8):valN [a,b,c,d]=16777216*a.toNat+65536*b.toNat+256*c.toNat+d.toNat:=by
  have:=a.toNat_lt;have:=b.toNat_lt;have:=c.toNat_lt;simp only[valN,List.foldl_cons,List.foldl_nil,vstep];omega
def big4 (n:Nat):List UInt8:=[UInt8.ofNat (n/16777216),UInt8.ofNat (n/65536),UInt8.ofNat (n/256),UInt8.ofNat n]
theorem valN_big4 (n:Nat) (h:n<4294967296):valN (big4 n)=n:=by
  unfold big4;rw[valN_four];simp only[UInt8.toNat_ofNat'];omega
theorem big4_valN (a b c d:UInt8):big4 (valN [a,b,c,d])=[a,b,c,d]:=by
  have:=a.toNat_lt;have:=b.toNat_lt;have:=c.toNat_lt;have:=d.toNat_lt;rw[valN_four];have e:∀(x:Nat) (y:UInt8),x%256=y.toNat→UInt8.ofNat x=y:=fun x y h=>by
    apply UInt8.toNat_inj.1;rw[UInt8.toNat_ofNat'];exact h
  unfold big4;rw[e _ a (by omega),e _ b (by omega),e _ c (by omega),e _ d (by omega)]
theorem or_low8 (x:Nat) (y:UInt8):bits BinOp.or IntKind.u32 ((x:Int)*256%4294967296) ((y.toNat:Int)%4294967296)=((vstep x y:Nat):Int):=by
  have hy:=y.toNat_lt;rw[show (y.toNat:Int)%4294967296=(y.toNat:Int) by omega,show ((x:Int)*256%4294967296)=((x%16777216*256:Nat):Int) by omega,u32_or_nat _ _ (by omega) (by omega),nat_join 8 (x%16777216*256) y.toNat (by omega) (by omega)];rfl
theorem list_sz (s:ByteArray):s.data.toList.length=s.size:=rfl
/-- tokens of a text, as they come from match.Tokens -/
theorem toks_own {w:World} {b:Nat} {v:Value} {s:ByteArray} {W T:Nat} {l:List Tk} (h:w.ownsRow b 165 3 v l.length (tkV l.length (tkl l))) (hT:TL s W T s.size l):∃x c,v=.slice x l.length c∧Toks w x l.length (tkl l):=
 Toks.of_own h (fun i hi=>hT.ok _ (by unfold tkl;rw[List.getD,List.getElem?_eq_getElem hi];exact List.getElem_mem hi))
theorem tkl_map (l:List Tk):(List.range l.length).map (tkl l)=l:=by
 apply List.ext_getElem
 ·simp
 ·intro i h1 h2;simp[tkl,List.getD,List.getElem?_eq_getElem h2]
theorem tl_exp {s:ByteArray} {W T:Nat} {l:List Tk} (hT:TL s W T s.size l):expL (tkl l) l.length=.ok s.data.toList:=by
 have:=hT.means;rw[pre_all] at this;exact this
theorem tl_means {s:ByteArray} {W T:Nat} {l:List Tk} (hT:TL s W T s.size l):Dfl.Means [] l s.data.toList:=by
 have:=Dfl.means_exp l.length _ (tl_exp hT);rw[tkl_map] at this;exact this
/-- the shortest of three ways -/
def DfaP (s:ByteArray) (e:Ending):Prop:=∃l:List UInt8,e=.returned (.tuple #[.string ⟨l.toArray⟩,.nilIface])∧Reads l s.data.toList∧l.length≤(Sto.all (s.size+1) s.data.toList).length
set_option maxHeartbeats 4000000 in
theorem deflate_any (s:ByteArray) (w:World) (hTb:Tabs w) (EB ES:Value) (hB:w.cell? ⟨2,0,none⟩=some EB) (hS:w.cell? ⟨0,0,none⟩=some ES) (hs:s.size≤300000):
  Calls Tryz.prog 54 #[.string s] w fun e w'=>DfaP s e∧Ext w w':=by
 have HTb:=Hd hTb;have HB:=Hd hB;have HS:=Hd hS;have hK:=fun w=>tokens_good s 32768 w hs (by decide) (by decide);simp only[show ((32768:Nat):Int)=32768 from rfl] at hK;have HK:=Hd hK;obtain⟨L,hL⟩:∃L,Sto.all (s.size+1) s.data.toList=L:=⟨_,rfl⟩;have hSt:=fun w=>stored_calls s w hs;rw[hL,tb_eq] at hSt;have HSt:=Hd hSt;have H0:Hid (Reads L s.data.toList∧L.length≤L.length):=Hd ⟨by rw[← hL];exact reads_stored s.data.toList,Nat.le_refl _⟩;have HL:=Hd hL;have t0:decide ((300000:Int)<(s.size:Int))=false:=decide_eq_false (by omega);have n0:¬ 300000<s.size:=by omega
 clear hTb hB hS hK hSt hL;go_enter Tryz.func54,Tryz.ntmps54
 go_wp2_with fail;refine (HK.out _).mono ?_;rintro e w1 ⟨ts,v,rfl,hown,hTL,hX⟩;obtain⟨x,c,rfl,hT⟩:=toks_own hown hTL;have HT:=Hd hT;have HTL:=Hd hTL;have X1:=Hd hX;have hfew:=hTL.few;obtain⟨n,hn⟩:∃n,ts.length=n:=⟨_,rfl⟩;rw[hn] at HT hfew;rw[hn];have HN:=Hd hn;have HOK:=Hd (show ∀i,i<n→(tkl ts i).l=0∨(3≤(tkl ts i).l∧(tkl ts i).l≤258∧1≤(tkl ts i).d∧(tkl ts i).d≤32768) from by
  have:=exp_ok (tl_exp hTL);rw[hn] at this;exact this)
 clear hown hTL hT hX hn;go_wp2_with fail;refine (HSt.out _).mono ?_;rintro e w2 ⟨rfl,hX⟩;have X2:=Hd (X1.out.trans hX);have HT2:=Hd (HT.out.ext hX);clear hX X1 HT;go_upto_block 0 with fail;refine wp_world (fun wz=>Ext w2 wz∧Bk wz w2.heap.size #[.func (.func 88) #[] #[],.func (.func 89) #[] #[]]) ⟨(Ext.refl _).alloc _,Bk.at rfl⟩ ?_;rintro w3 ⟨hX,hK⟩;obtain⟨FB,hFB⟩:∃q,w2.heap.size=q:=⟨_,rfl⟩;rw[hFB] at hK;rw[hFB];have X3:=Hd (X2.out.trans hX);have HT3:=Hd (HT2.out.ext hX);have HF3:=Hd hK;clear hX hK hFB X2 HT2;go_wp2_with fail;go_loopw [6,23] (fun s6 c wr=>∃(i:Nat) (l:List UInt8),c=.int .i64 (i:Int)∧i≤2∧s6=.string ⟨l.toArray⟩∧Hid (Reads l s.data.toList∧l.length≤L.length)∧Hid (Ext w3 wr)) (fun _ c _=>2-(intOf c).toNat)
 case atStart=>exact⟨0,L,rfl,by omega,rfl,H0,Hd (Ext.refl _)⟩
 case round=>
  clear H0;obtain⟨i,l,rfl,hi,rfl,HR,HW⟩:=hrel;have hF:=HF3.out.ext HW.out;have f0:=hF.cell 0;have f1:=hF.cell 1;simp only[xg,xh] at f0 f1;clear hF;match i,hi with
  | 0,_=>
   have t1:decide ((0:Int)<2)=true:=by decide
   go_wp2_with fail;refine (dfixed_any x n c (tkl ts) wr (HT3.out.ext HW.out) (HTb.out.ext (X3.out.trans HW.out)) EB ES (((X3.out.trans HW.out).cell (World.block_lt_of_cell? w _ HB.out)).trans HB.out) (((X3.out.trans HW.out).cell (World.block_lt_of_cell? w _ HS.out)).trans HS.out) (by omega) HOK.out).mono ?_;rintro e w4 ⟨⟨l2,h1,h2,rfl⟩,hX⟩;have hR2:Reads l2 s.data.toList:=reads_fixed (tl_means HTL.out) (ts:=ts) (by rw[← HN.out,tkl_map] at h1;exact h1) (by rw[← HN.out,tkl_map] at h2;exact h2);have HR2:=Hd hR2;have HX4:=Hd (HW.out.trans hX);clear h1 h2 hX hR2;by_cases hlt:l2.length<l.length
   ·have t2:decide ((l2.length:Int)<(l.length:Int))=true:=decide_eq_true (by omega);go_wp2_with fail;go_roundw
    case rel=>exact⟨1,l2,rfl,by omega,rfl,Hd ⟨HR2.out,by have:=HR.out.2;omega⟩,HX4⟩
    case measure=>simp[intOf]
   ·have t2:decide ((l2.length:Int)<(l.length:Int))=false:=decide_eq_false (by omega);go_wp2_with fail;go_roundw
    case rel=>exact⟨1,l,rfl,by omega,rfl,HR,HX4⟩
    case measure=>simp[intOf]
  | 1,_=>
   have t1:decide ((1:Int)<2)=true:=by decide
   go_wp2_with fail;refine (dynamic_any x n c (tkl ts) wr (HT3.out.ext HW.out) (HTb.out.ext (X3.out.trans HW.out)) EB ES (((X3.out.trans HW.out).cell (World.block_lt_of_cell? w _ HB.out)).trans HB.out) (((X3.out.trans HW.out).cell (World.block_lt_of_cell? w _ HS.out)).trans HS.out) (by omega) HOK.out).mono ?_;rintro e w4 ⟨⟨many,far,few,rs,l2,h0,h1,h2,rfl⟩,hX⟩;have hR2:Reads l2 s.data.toList:=by
    rw[← HN.out,tkl_map] at h0 h1 h2;exact reads_dyn (tl_means HTL.out) h0 h1 h2
   have HR2:=Hd hR2;have HX4:=Hd (HW.out.trans hX);clear h0 h1 h2 hX hR2;by_cases hlt:l2.length<l.length
   ·have t2:decide ((l2.length:Int)<(l.length:Int))=true:=decide_eq_true (by omega);go_wp2_with fail;go_roundw
    case rel=>exact⟨2,l2,rfl,by omega,rfl,Hd ⟨HR2.out,by have:=HR.out.2;omega⟩,HX4⟩
    case measure=>simp[intOf]
   ·have t2:decide ((l2.length:Int)<(l.length:Int))=false:=decide_eq_false (by omega);go_wp2_with fail;go_roundw
    case rel=>exact⟨2,l,rfl,by omega,rfl,HR,HX4⟩
    case measure=>simp[intOf]
  | 2,_=>
   have t1:decide ((2:Int)<2)=false:=by decide
   go_wp2_with fail;go_ret2;exact⟨⟨l,rfl,HR.out.1,by rw[HL.out];exact HR.out.2⟩,X3.out.trans HW.out⟩
/-- head, text, sum -/
def zipL (l t:List UInt8):List UInt8:=[120,156]++(l++big4 (Adl.adler t))
def ZipP (s:ByteArray) (e:Ending):Prop:=∃l:List UInt8,e=.returned (.tuple #[.string ⟨(zipL l s.data.toList).toArray⟩,.nilIface])∧Reads l s.data.toList∧l.length≤(Sto.all (s.size+1) s.data.toList).length
theorem adl_lt (l:List UInt8):Adl.adler l<4294967296:=Adl.more_lt 1 l
theorem ba_app (a b:List UInt8):(⟨a.toArray⟩:ByteArray)++⟨b.toArray⟩=⟨(a++b).toArray⟩:=by
 apply bts_ext;rw[ByteArray.data_append];simp
set_option maxHeartbeats 4000000 in
theorem zip_any (s:ByteArray) (w:World) (hTb:Tabs w) (EB ES:Value) (hB:w.cell? ⟨2,0,none⟩=some EB) (hS:w.cell? ⟨0,0,none⟩=some ES) (hs:s.size≤300000):
  Calls Tryz.prog 24 #[.string s] w fun e w'=>ZipP s e∧Ext w w':=by
 have HD:=Hd (deflate_any s w hTb EB ES hB hS hs);have HA:=Hd (fun w=>adler_any s w (by unfold maxLen;omega));clear hTb hB hS;go_enter Tryz.func24,Tryz.ntmps24
 go_wp2_with fail;refine HD.out.mono ?_;rintro e w1 ⟨⟨l,rfl,hR,hl⟩,hX⟩;have HR:=Hd (And.intro hR hl);have X1:=Hd hX;have hll:l.length≤400000:=by
  have:=Sto.all_length (s.size+1) s.data.toList;rw[list_sz] at this;omega
 clear hR hl hX;go_wp2_with fail;refine (HA.out _).mono ?_;rintro e w2 ⟨rfl,rfl⟩;obtain⟨n,hn⟩:∃n,Adl.adler s.data.toList=n:=⟨_,rfl⟩;rw[hn];have HN:=Hd hn;clear hn;have hn4:n<4294967296:=by rw[← HN.out];exact adl_lt _
 obtain⟨wa,hwa⟩:∃wa,wa=w1.alloc (.cells #[.int .u8 ((n:Int)/16777216),.int .u8 ((n:Int)/65536%256),.int .u8 ((n:Int)/256%256),.int .u8 ((n:Int)%256)] 5):=⟨_,rfl⟩;have hcr:(convert 62 9 (.slice (some ⟨w1.heap.size,0,none⟩) 4 4)).run Tryz.prog wa=.ok (.string ⟨(big4 n).toArray⟩) wa:=by
  refine run_convert_bytes_back (P:=Tryz.prog) wa 62 9 5 ⟨w1.heap.size,0,none⟩ 4 (big4 n) Tryz.underlying62 Tryz.underlying5 Tryz.underlying9 (fun j hj=>?_);have hj4:j<4:=hj;rw[add_plain,hwa];match j,hj4 with
  | 0,_=>simp[big4];omega
  | 1,_=>simp[big4]
  | 2,_=>simp[big4]
  | 3,_=>simp[big4]
 rw[hwa] at hcr;clear hwa wa;have hb4:(big4 n).length=4:=rfl;have hcat:¬ 9223372036854775807<2+l.length+(big4 n).length:=by omega
 have hcat1:¬ 9223372036854775807<2+l.length:=by omega
 clear hb4;go_wp2_with fail;go_ret2;refine⟨⟨l,?_,HR.out.1,HR.out.2⟩,X1.out.alloc _⟩;rw[show (⟨#[120,156]⟩:ByteArray)=⟨([120,156]:List UInt8).toArray⟩ from rfl,ba_app,ba_app];unfold zipL;rw[HN.out,List.append_assoc];rfl
set_option maxRecDepth 100000
/-- a reader's cells: its bits, its place, its error's number; the others by a function -/
def qc (T:ByteArray) (a e:Nat) (x:Nat→Value):Array Value:=#[.string T,.int .i64 (a:Int),x 2,x 3,.int .i64 (e:Int),x 5,x 6,x 7,x 8,x 9,x 10,x 11]
theorem Bk.put1 {w:World} {Q a e:Nat} {T:ByteArray} {x:Nat→Value} (h:Bk w Q (qc T a e x)) (a':Nat):Bk (w.setCell ⟨Q,1,none⟩ (.int .i64 (a':Int))) Q (qc T a' e x):=by
  have:=h.set_ 1 (.int .i64 (a':Int));simpa [qc] using this
theorem u8_15 (x:Nat) (hx:x<256):bits BinOp.and IntKind.u8 (x:Int) 15=((x%16:Nat):Int):=by
  rw[show (15:Int)=((15:Nat):Int) from rfl,u8_and_nat x 15 hx (by decide),nat_mask4]
theorem u8_32 (x:Nat) (hx:x<256):(bits BinOp.and IntKind.u8 (x:Int) 32 !=0)=decide (x/32%2≠0):=by
  rw[show (32:Int)=((32:Nat):Int) from rfl,u8_and_nat x 32 hx (by decide)];have:∀x,x<256→((((x &&& 32:Nat):Int) !=0)=decide (x/32%2≠0)):=by decide +kernel
  exact this x hx
theorem i64_or8 (x y:Nat) (hx:x<256) (hy:y<256):bits BinOp.or IntKind.i64 ((x:Int)*256) (y:Int)=((x*256+y:Nat):Int):=by
  rw[show ((x:Int)*256)=((x*256:Nat):Int) by omega,← nat_join 8 (x*256) y (by omega) (by omega)];show IntKind.i64.wrap ((BitVec.ofInt 64 ((x*256:Nat):Int) ||| BitVec.ofInt 64 (y:Int)).toNat:Int)=_;have hx2:x*256 ||| y<2^16:=Nat.or_lt_two_pow (by omega) (by omega)
  rw[BitVec.ofInt_natCast,BitVec.ofInt_natCast,BitVec.toNat_or,BitVec.toNat_ofNat,BitVec.toNat_ofNat,Nat.mod_eq_of_lt (by omega),Nat.mod_eq_of_lt (by omega),IntKind.wrap_i64];omega
namespace Inf
/-- the head of a zipped text -/
def headOk (s:ByteArray):Prop:=2≤s.size∧(s.data.toList.getD 0 0).toNat%16=8∧(s.data.toList.getD 0 0).toNat/16≤7∧((s.data.toList.getD 0 0).toNat*256+(s.data.toList.getD 1 0).toNat)%31=0∧(s.data.toList.getD 1 0).toNat/32%2=0
instance (s:ByteArray):Decidable (headOk s):=by unfold headOk;infer_instance
noncomputable def unz (s:ByteArray) (most:Int):Except Nat (List UInt8):=
  if most<0∨300000<most∨300000<s.size then .error 1 else
  if ¬ headOk s then .error 0 else
  match infl (s.extract 2 s.size) most with
  | .error c=>.error c
  | .ok (out,used,_)=>if s.size≠2+used+4 then .error 0 else if valN (s.data.toList.drop (2+used))≠Adl.adler out then .error 3 else .ok out
end Inf
theorem head_is (s:ByteArray) (h1:1<s.size):Inf.headOk s↔(s[0].toNat%16=8∧s[0].toNat/16≤7∧(s[0].toNat*256+s[1].toNat)%31=0∧s[1].toNat/32%2=0):=by
  have e0:s.data.toList.getD 0 0=s[0]:=by rw[List.getD,List.getElem?_eq_getElem (by rw[bytes_len];omega)];rfl
  have e1:s.data.toList.getD 1 0=s[1]:=by rw[List.getD,List.getElem?_eq_getElem (by rw[bytes_len];omega)];rfl
  unfold Inf.headOk;rw[e0,e1];exact⟨fun h=>h.2,fun h=>⟨h1,h⟩⟩
def UzPost (w w':World) (E:Nat→Addr) (r:Except Nat (List UInt8)) (e:Ending):Prop:=
  Ext w w'∧match r with
  | .ok out=>e=.returned (.tuple #[.string (tb out),.nilIface])
  | .error c=>e=.returned (.tuple #[.string ⟨#[]⟩,sentV (E c)])
end Go.Proofs.YthlibiocadimhaaGreatDoor
